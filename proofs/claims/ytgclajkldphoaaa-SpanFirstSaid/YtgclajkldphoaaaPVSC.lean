/- Part of the proof: conditions and contracts of functions of this program. No condition of its own. -/
import Derived.Test.YtgclajkldphoaaaPEnv
import Derived.Test.YtgclajkldphoaaaMc
set_option linter.unusedVariables false
set_option linter.unusedSimpArgs false
set_option linter.unusedSectionVars false
namespace Go.Proofs.Ytgclajkldphoaaa
open Go Go.Eng Go.Proofs Go.RowKit
open Go.Value (int slice agg bool string tuple func)
open Go.IntKind (u8 u64 i64)
set_option maxRecDepth 100000
noncomputable def Zha:Env:={ EB with
 loops:=(λi=>bif Nat.beq i 26 then⟨[(133,.int .i64)],[],[],false⟩ else bif Nat.beq i 38 then⟨[(31,.slice),(179,.int .i64)],[],[(198,2)],false⟩ else⟨[],[],[],false⟩)
 joins:=(λi=>bif Nat.beq i 14 then some [(95,.bool)]else bif Nat.beq i 16 then some [(106,.bool)]else bif Nat.beq i 28 then some [(144,.bool)]else bif Nat.beq i 44 then some [(6,.bool)]else bif Nat.beq i 46 then some [(6,.bool)]else none)
 dr:=(λi=>bif Nat.beq i 6 then[⟨0,[7],[],none,[],[]⟩,⟨1,[],[],none,[0],[]⟩,⟨2,[8],[],none,[],[]⟩,⟨3,[],[],none,[0,1,2],[1]⟩,⟨4,[49],[49],none,[0,1,2,3],[3]⟩,⟨5,[49],[49],none,[0,1,2,3,4],[4]⟩,⟨6,[10],[10],none,[],[]⟩,⟨7,[10],[10],none,[0,1,2,3,4,5,6],[]⟩]else bif Nat.beq i 11 then[⟨0,[],[],none,[],[]⟩,⟨1,[],[],some 81,[0],[]⟩,⟨2,[],[],none,[],[]⟩,⟨3,[8],[],none,[],[]⟩,⟨4,[],[],none,[0,1,3],[1]⟩,⟨5,[],[],none,[0,1,2,3,4],[4]⟩]else bif Nat.beq i 18 then[⟨0,[7],[],none,[],[]⟩,⟨1,[],[],none,[0],[]⟩,⟨2,[8],[],none,[],[]⟩,⟨3,[],[],none,[0,1,2],[1]⟩,⟨4,[111],[111],none,[0,1,2,3],[3]⟩,⟨5,[111],[111],none,[0,1,2,3,4],[4]⟩,⟨6,[18],[18],none,[],[]⟩,⟨7,[18],[18],none,[0,1,2,3,4,5,6],[]⟩]else bif Nat.beq i 30 then[⟨0,[8],[],none,[],[]⟩,⟨1,[],[],none,[],[]⟩,⟨2,[],[],none,[],[]⟩,⟨3,[],[],none,[1,2],[]⟩,⟨4,[],[],none,[0,1,2,3],[]⟩,⟨5,[],[],none,[0,1,2,3,4],[]⟩,⟨6,[],[],none,[0,1,2,3,4,5],[]⟩,⟨7,[],[],none,[0,1,2,3,4,5],[]⟩,⟨8,[],[],none,[0,1,2,3,4,5,6],[]⟩,⟨9,[],[],none,[0,1,2,3,4,5,6,7,8],[]⟩]else bif Nat.beq i 34 then[⟨0,[7],[],none,[],[]⟩,⟨1,[],[],none,[0],[]⟩,⟨2,[],[],none,[],[]⟩,⟨3,[],[],none,[],[]⟩,⟨4,[],[],none,[2,3],[]⟩,⟨5,[],[],none,[0,1,2,3,4],[1]⟩,⟨6,[],[],none,[0,1,2,3,4,5],[]⟩,⟨7,[],[],none,[0,1,2,3,4,5,6],[]⟩,⟨8,[],[],none,[0,1,2,3,4,5,6],[]⟩,⟨9,[],[],none,[0,1,2,3,4,5,6,7],[]⟩,⟨10,[],[],none,[0,1,2,3,4,5,6,7,8,9],[]⟩]else bif Nat.beq i 35 then[⟨0,[8],[],none,[],[]⟩,⟨1,[],[],none,[0],[]⟩,⟨2,[],[],none,[],[]⟩,⟨3,[],[],none,[],[]⟩,⟨4,[],[],none,[2,3],[]⟩,⟨5,[],[],none,[0,1,2,3,4],[1]⟩,⟨6,[],[],none,[0,1,2,3,4,5],[]⟩,⟨7,[],[],none,[0,1,2,3,4,5,6],[]⟩,⟨8,[],[],none,[0,1,2,3,4,5,6],[]⟩,⟨9,[],[],none,[0,1,2,3,4,5,6,7],[]⟩,⟨10,[],[],none,[0,1,2,3,4,5,6,7,8,9],[]⟩]else bif Nat.beq i 40 then[⟨0,[33],[],none,[],[]⟩,⟨1,[],[],none,[],[]⟩,⟨2,[],[],none,[0,1],[]⟩]else[])
 tokOf:=(λi=>bif Nat.beq i 81 then 81 else bif Nat.beq i 89 then 81 else bif Nat.beq i 198 then 198 else 0)
 last:=(λi=>bif Nat.beq i 11 then true else false)
 lastK:=(λi=>bif Nat.beq i 11 then 2 else 1)
 tokC:=(λi=>bif Nat.beq i 76 then some (81,2)else bif Nat.beq i 176 then some (198,2)else none)
 gb:=true
 tails:=true
 cuts:=λi=>bif Nat.beq i 14 then some ⟨[(17,.slice)],[],[(81,2)],false⟩ else bif Nat.beq i 16 then some ⟨[(17,.slice)],[],[],false⟩ else bif Nat.beq i 18 then some ⟨[],[],[],false⟩ else bif Nat.beq i 42 then some ⟨[],[33],[],false⟩ else none }
abbrev ZaI:Int->Int->Int->Int->Int->Int->Int->Option Addr->Nat->Nat->Int->Int->Int->Int->Int->Int->Int->Option Addr->Nat->Nat->List Value:=λ(n ac ad ae af ag ah:Int) (a:
 Option Addr) (ai c:Nat) (aj ak al am an ao ap:Int) (da:Option Addr) (aq ar:Nat)=>[int u8 n,int u64 ac,int u64 ad,int u64 ae,int u64 af,int i64 ag,int i64 ah,slice a ai c,int u8 aj,int u64 ak,int u64
 al,int u64 am,int u64 an,int i64 ao,int i64 ap,slice da aq ar]
abbrev ZbT:Int->Int->Int->Int->Int->Int->Int->Option Addr->Nat->Nat->Int->Int->Int->Int->Int->Int->Int->Option Addr->Nat->Nat->Nat->Option Box:=λ(n ac ad ae af ag ah:Int) (a
 : Option Addr) (ai c:Nat) (aj ak al am an ao ap:Int) (da:Option Addr) (aq ar b:Nat)=>some (Box.mk b (ZaI n ac ad ae af ag ah a ai c aj ak al am an ao ap da aq ar) 29 16 true true)
abbrev ZaB:Int->Int->Int->Int->Int->Int->Int->Option Addr->Nat->Nat->Nat->Option Box:=λ(n ac ad ae af ag ah:Int)(a:Option Addr)(ai c b:Nat)=>some (Box.mk b [int u8 n,int u64
 ac,int u64 ad,int u64 ae,int u64 af,int i64 ag,int i64 ah,slice a ai c] 29 8 false true)
abbrev Zae:Int->Int->Int->Int->Int->Int->Int->Option Addr->Nat->Nat->Int->Int->Int->Int->Int->Int->Int->Option Addr->Nat->Nat->Nat->Nat->Int->Int->Int->Int->Int->Int->Int->
 Option Addr->Nat->Nat->Int->Int->Int->Int->Int->Int->Int->Option Addr->Nat->Nat->Nat->Int->Int->Int->Int->Int->Int->Int->Option Addr->Nat->Nat->Nat->List (Option Box):=λ(n ac ad ae af ag ah
 : Int) (a:Option Addr) (ai c:Nat) (aj ak al am an ao ap:Int) (da:Option Addr) (aq ar b bo:Nat) (aw ax ay az a0 a1 a2:Int) (er:Option Addr) (a3 a4:Nat) (a5 a6 a7 a8 a9 ba bb:Int) (au:Option Addr) (bc
 bd av:Nat) (bf bg bh bi bj bk bl:Int) (es:Option Addr) (bm bn bq:Nat)=>[ZbT aw ax ay az a0 a1 a2 er a3 a4 a5 a6 a7 a8 a9 ba bb au bc bd av,ZbT aw ax ay az a0 a1 a2 er a3 a4 a5 a6
 a7 a8 a9 ba bb au bc bd av,ZaB bf bg bh bi bj bk bl es bm bn bq,ZaB bf bg bh bi bj bk bl es bm bn bq,ZaB aj ak al am an ao ap da aq ar bo,ZaB n ac ad ae af
 ag ah a ai c b]
abbrev ZcH:Int->Int->Int->Int->Int->Int->Int->Option Addr->Nat->Nat->Int->Int->Int->Int->Int->Int->Int->Option Addr->Nat->Nat->Nat->Nat->List (Option Box):=λ(n ac ad ae af ag
 ah:Int) (a:Option Addr) (ai c:Nat) (aj ak al am an ao ap:Int) (da:Option Addr) (aq ar b bo:Nat)=>[ZaB aj ak al am an ao ap da aq ar bo,ZaB n ac ad ae af ag ah a ai c b]
abbrev ZdR:Int->Int->Int->Int->Int->Int->Int->Option Addr->Nat->Nat->Int->Int->Int->Int->Int->Int->Int->Option Addr->Nat->Nat->Nat->Nat->Int->Int->Int->Int->Int->Int->Int->
 Option Addr->Nat->Nat->Int->Int->Int->Int->Int->Int->Int->Option Addr->Nat->Nat->Nat->Int->Int->Int->Int->Int->Int->Int->Option Addr->Nat->Nat->Nat->Nat->List (Option Box):=λ(n ac ad ae af
 ag ah:Int) (a:Option Addr) (ai c:Nat) (aj ak al am an ao ap:Int) (da:Option Addr) (aq ar b bo:Nat) (aw ax ay az a0 a1 a2:Int) (er:Option Addr) (a3 a4:Nat) (a5 a6 a7 a8 a9 ba bb:Int) (au:Option
 Addr) (bc bd av:Nat) (bf bg bh bi bj bk bl:Int) (es:Option Addr) (bm bn bq bu:Nat)=>[some (Box.mk bu [] 56 2 false true),ZbT aw ax ay az a0 a1 a2 er a3 a4 a5 a6 a7 a8 a9 ba bb au bc bd av,
 ZbT aw ax ay az a0 a1 a2 er a3 a4 a5 a6 a7 a8 a9 ba bb au bc bd av,ZaB bf bg bh bi bj bk bl es bm bn bq,ZaB bf bg bh bi bj bk bl es bm bn bq,ZaB aj ak al am
 an ao ap da aq ar bo,ZaB n ac ad ae af ag ah a ai c b]
def ZdS(p0a:Option Addr)(p0n p0c:Nat)(p1a:Option Addr)(p1n p1c:Nat)(p2a:Option Addr)(p2n p2c:Nat)(m:Mem)(R:RT):Prop:=
 ∃(R_1:RT),True/\CX Try.prog 8 (Array.mk []) m [] R_1/\Zar Shape.bool R_1/\∀(b:Bool)(m':Mem),Mem.le m m'->R_1 (bool b) m' []->br (!b) (∃(m'':Mem),Mem.le m m''/\Mem.le m'' m'/\R (bool false) m'' [])
 (∃(R_2:RT),True/\CX Try.prog 9 (Array.mk [slice p0a p0n p0c]) m' [] R_2/\Zar (shT) R_2/\∀(n ac ad ae af ag ah:Int)(a:Option Addr)(ai c:Nat)(et:Mem),Mem.le m' et->R_2 (agg (Array.mk [int u8 n,int
 u64 ac,int u64 ad,int u64 ae,int u64 af,int i64 ag,int i64 ah,slice a ai c])) et []->∃(R_3:RT),True/\CX Try.prog 9 (Array.mk [slice p1a p1n p1c]) et [] R_3/\Zar (shT) R_3/\∀(aj ak al am an ao ap:Int)
 (au:Option Addr) (aq ar:Nat) (m':Mem),Mem.le et m'->R_3 (agg (Array.mk [int u8 aj,int u64 ak,int u64 al,int u64 am,int u64 an,int i64 ao,int i64 ap,slice au aq ar])) m' []->∀(b bo:Nat),(((0:Int) <=
 if(14:Int) < (↑p2n:Int)then(14:Int)else(↑p2n:Int))/\(if(14:Int) < (↑p2n:Int)then(14:Int)else(↑p2n:Int))<=(↑p2c:Int))/\∃(J:JT),(∃(f:Fx),∃(R_4:RT),R_4=f 1 [agg (Array.mk [int
 u8 n,int u64 ac,int u64 ad,int u64 ae,int u64 af,int i64 ag,int i64 ah,slice a ai c])] m'/\CX Try.prog 18 (Array.mk [agg (Array.mk [int u8 n,int u64 ac,int u64 ad,int u64 ae,int u64 af,int i64 ag,int i64
 ah,slice a ai c])]) m' [] R_4/\Zar (shT) R_4/\∀(aw ax ay az a0 a1 a2:Int)(bv:Option Addr)(a3 a4:Nat)(cl:Mem),Mem.le m' cl->R_4 (agg (Array.mk [int u8 aw,int u64 ax,int u64 ay,int u64 az,int u64 a0,
 int i64 a1,int i64 a2,slice bv a3 a4])) cl []->∃(R_5:RT),R_5=f 3 [agg (Array.mk [int u8 aj,int u64 ak,int u64 al,int u64 am,int u64 an,int i64 ao,int i64 ap,slice au aq ar])] cl/\CX Try.prog 18
 (Array.mk [agg (Array.mk [int u8 aj,int u64 ak,int u64 al,int u64 am,int u64 an,int i64 ao,int i64 ap,slice au aq ar])]) cl [] R_5/\Zar (shT) R_5/\∀(a5 a6 a7 a8 a9 ba bb:Int)(bw:Option Addr) (bc bd:
 Nat) (ce:Mem),Mem.le cl ce->R_5 (agg (Array.mk [int u8 a5,int u64 a6,int u64 a7,int u64 a8,int u64 a9,int i64 ba,int i64 bb,slice bw bc bd])) ce []->∀(av:Nat),Mem.free ce av->∃(R_6:RT),R_6=f 5
 [slice (some (Addr.mk av 0 none)) 2 2] (Mem.add ce av (ZaI aw ax ay az a0 a1 a2 bv a3 a4 a5 a6 a7 a8 a9 ba bb bw bc bd))/\CX Try.prog 32 (Array.mk [slice (some (Addr.mk av 0 none)) 2 2]) (Mem.add ce av
 (ZaI aw ax ay az a0 a1 a2 bv a3 a4 a5 a6 a7 a8 a9 ba bb bw bc bd)) [] R_6/\Zar (shT) R_6/\∀(bf bg bh bi bj bk bl:Int)(ca:Option Addr)(bm bn:Nat)(dd:Mem),Mem.le (Mem.add ce av
 (ZaI aw ax ay az a0 a1 a2 bv a3 a4 a5 a6 a7 a8 a9 ba bb bw bc bd)) dd->R_6 (agg (Array.mk [int u8 bf,int u64 bg,int u64 bh,int u64 bi,int u64 bj,int i64 bk,int i64 bl,slice ca bm bn])) dd []->∀
 (bq:Nat) (M:Mem),Mem.le m' M->Mem.le cl M->Mem.le ce M->Mem.le (Mem.add ce av (ZaI aw ax ay az a0 a1 a2 bv a3 a4 a5 a6 a7 a8 a9 ba bb bw bc bd)) M->Mem.le dd M->∃(R_7:RT),True/\CX Try.prog
 19 (Array.mk [agg (Array.mk [bool false,bool false,int u8 bf,int u64 bg,int u64 bh,int u64 bi,int u64 bj,int i64 bk,int i64 bl,slice ca bm bn])]) M [] R_7/\Zar (Shape.int i64) R_7/\∀(d8:Int)(m':Mem),
 Mem.le M m'->R_7 (int i64 d8) m' []->br (d8 == (0:Int)) (∃(R_8:RT),True/\CX Try.prog 15 (Array.mk [agg (Array.mk [int u8 bf,int u64 bg,int u64 bh,int u64 bi,int u64 bj,int i64 bk,int i64 bl,slice ca bm
 bn]),slice (ZaC p2a 0 p2c 1) (Int.toNat (if(14:Int) < (↑p2n:Int)then(14:Int)else(↑p2n:Int)) - 0) (p2c - 0)]) m' [] R_8/\Zar (Shape.tup [Shape.slice,Shape.int i64]) R_8/\∀(ev:Option Addr) (de dr:
 Nat) (df:Int) (cv:Mem),Mem.le m' cv->R_8 (tuple (Array.mk [slice ev de dr,int i64 df])) cv []->∃(R_9:RT),True/\CX Try.prog 18 (Array.mk [agg (Array.mk [int u8 n,int u64 ac,int u64 ad,int u64 ae,int u64
 af,int i64 ag,int i64 ah,slice a ai c])]) cv [] R_9/\Zar (shT) R_9/\∀(ds d9 db ea eb dt du:Int)(e1:Option Addr)(dv eu:Nat)(m':Mem),Mem.le cv m'->R_9 (agg (Array.mk [int u8 ds,int u64 d9,int u64 db,
 int u64 ea,int u64 eb,int i64 dt,int i64 du,slice e1 dv eu])) m' []->∃(R_10:RT),True/\CX Try.prog 15 (Array.mk [agg (Array.mk [int u8 ds,int u64 d9,int u64 db,int u64 ea,int u64 eb,int i64 dt,int i64 du,
 slice e1 dv eu]),slice (ZaC p2a 0 p2c 1) (Int.toNat (if(14:Int) < (↑p2n:Int)then(14:Int)else(↑p2n:Int)) - 0) (p2c - 0)]) m' [] R_10/\Zar (Shape.tup [Shape.slice,Shape.int i64]) R_10/\∀(ew:Option
 Addr) (dg dh:Nat) (cm:Int) (ci:Mem),Mem.le m' ci->R_10 (tuple (Array.mk [slice ew dg dh,int i64 cm])) ci []->∃(R_11:RT),True/\CX Try.prog 18 (Array.mk [agg (Array.mk [int u8 aj,int u64 ak,int u64 al,
 int u64 am,int u64 an,int i64 ao,int i64 ap,slice au aq ar])]) ci [] R_11/\Zar (shT) R_11/\∀(dw dx dy ec ed dz d0:Int)(e2:Option Addr)(d1 ee:Nat)(m':Mem),Mem.le ci m'->R_11 (agg (Array.mk [int u8
 dw,int u64 dx,int u64 dy,int u64 ec,int u64 ed,int i64 dz,int i64 d0,slice e2 d1 ee])) m' []->∃(R_12:RT),True/\CX Try.prog 15 (Array.mk [agg (Array.mk [int u8 dw,int u64 dx,int u64 dy,int u64 ec,int u64
 ed,int i64 dz,int i64 d0,slice e2 d1 ee]),slice (ZaC p2a 0 p2c 1) (Int.toNat (if(14:Int) < (↑p2n:Int)then(14:Int)else(↑p2n:Int)) - 0) (p2c - 0)]) m' [] R_12/\Zar (Shape.tup [Shape.slice,Shape.int
 i64]) R_12/\∀(ex:Option Addr)(cc ef:Nat)(cq:Int)(ct:Mem),Mem.le m' ct->R_12 (tuple (Array.mk [slice ex cc ef,int i64 cq])) ct []->∃(f:Fx),∃(R_13:RT),R_13=f 1 [slice ew dg dh] ct/\CXT Try.prog
 33 (Array.mk [slice ew dg dh]) ct 2 R_13/\Zar Shape.slice R_13/\∀(cw:Option Addr)(cb cp:Nat)(m':Mem),Mem.le ct m'->R_13 (slice cw cb cp) m' []->∃(R_14:RT),R_14=f 4 [agg (Array.mk [int u8 aj,int u64
 ak,int u64 al,int u64 am,int u64 an,int i64 ao,int i64 ap,slice au aq ar])] m'/\CX Try.prog 18 (Array.mk [agg (Array.mk [int u8 aj,int u64 ak,int u64 al,int u64 am,int u64 an,int i64 ao,int i64 ap,slice au
 aq ar])]) m' [] R_14/\Zar (shT) R_14/\∀(di dj dk d2 dl cj cx:Int)(ey:Option Addr)(bz dm:Nat)(cu:Mem),Mem.le m' cu->R_14 (agg (Array.mk [int u8 di,int u64 dj,int u64 dk,int u64 d2,int u64 dl,int i64
 cj,int i64 cx,slice ey bz dm])) cu []->∃(R_15:RT),R_15=f 5 [agg (Array.mk [int u8 di,int u64 dj,int u64 dk,int u64 d2,int u64 dl,int i64 cj,int i64 cx,slice ey bz dm])] cu/\CX Try.prog 30 (Array.mk [agg
 (Array.mk [int u8 di,int u64 dj,int u64 dk,int u64 d2,int u64 dl,int i64 cj,int i64 cx,slice ey bz dm])]) cu [] R_15/\Zar Shape.slice R_15/\∀(e3:Option Addr)(cn dn:Nat)(cf:Mem),Mem.le cu cf->R_15
 (slice e3 cn dn) cf []->∀(M:Mem),Mem.le ct M->Mem.le m' M->Mem.le cu M->Mem.le cf M->br (Nat.beq cn 0) (chk (Nat.ble cb cp) (∃(cy:JT),br (cm == (141:Int)) (∃(R:RT),True/\CX Try.prog 18 (Array.mk [agg
 (Array.mk [int u8 n,int u64 ac,int u64 ad,int u64 ae,int u64 af,int i64 ag,int i64 ah,slice a ai c])]) M [] R/\Zar (shT) R/\∀(ck ab cr eg eh ei ej:Int)(ek:Option Addr)(el bs:Nat)(m':Mem),Mem.le M
 m'->R (agg (Array.mk [int u8 ck,int u64 ab,int u64 cr,int u64 eg,int u64 eh,int i64 ei,int i64 ej,slice ek el bs])) m' []->∃(R:RT),True/\CX Try.prog 30 (Array.mk [agg (Array.mk [int u8 ck,int u64 ab,int
 u64 cr,int u64 eg,int u64 eh,int i64 ei,int i64 ej,slice ek el bs])]) m' [] R/\Zar Shape.slice R/\∀(be:Option Addr)(bx aa:Nat)(bt:Mem),Mem.le m' bt->R (slice be bx aa) bt []->br (Nat.beq cc 0) (chk
 (Nat.ble bx aa) (ZaA (Zae n ac ad ae af ag ah a ai c aj ak al am an ao ap au aq ar b bo aw ax ay az a0 a1 a2 bv a3 a4 a5 a6 a7 a8 a9 ba bb bw bc bd av bf bg bh bi bj bk bl ca bm bn bq)/\([none,none]
 : List (Option Tok))=[none,none]/\cy [slice be bx aa] [] [slice cw cb cp] bt)) (((∃(a:Option Addr),∃(n:Nat),∃(c:Nat),∃(k:Nat),Tok.mk (slice cw cb cp) 2=Tok.mk (slice a n c) 2/\k<=n/\slice be bx
 aa=slice (ZaC a k c 2) (n - k) (c - k))\/slice be bx aa=slice none 0 0\/aa < bx+cc)/\∃(xs:List Value),∃(ys:List Value),List.length xs=bx*2/\List.length ys=cc*2/\rowRd bt be xs/\rowRd bt ex
 ys/\(∀(u:Value),u∈ys->Value.oneCell' u=true)/\(bx+cc)*16<=140737488355328/\bx+cc<=9223372036854775807/\∀(a':Option Addr)(c':Nat)(m':Mem),Mem.le bt m'->rowRd m' a' (List.append xs ys)->
 ZaA (Zae n ac ad ae af ag ah a ai c aj ak al am an ao ap au aq ar b bo aw ax ay az a0 a1 a2 bv a3 a4 a5 a6 a7 a8 a9 ba bb bw bc bd av bf bg bh bi bj bk bl ca bm bn bq)/\([none,none]:List (Option
 Tok))=[none,none]/\cy [slice a' (bx+cc) c'] [] [slice a' (bx+cc) c'] m')) (ZaA (Zae n ac ad ae af ag ah a ai c aj ak al am an ao ap au aq ar b bo aw ax ay az a0 a1 a2 bv a3 a4 a5 a6 a7 a8 a9 ba
 bb bw bc bd av bf bg bh bi bj bk bl ca bm bn bq)/\([none,none]:List (Option Tok))=[none,none]/\cy [slice cw cb cp] [] [slice cw cb cp] M)/\∀(ek:Option Addr)(ck bs:Nat)(bp:Option Addr)(ab aa:Nat) (m'
 : Mem),Mem.le M m'->cy [slice ek ck bs] [] [slice bp ab aa] m'->∃(dp:JT),(∃(bu:Bool),br (cm == (141:Int)) (ZaA (Zae n ac ad ae af ag ah a ai c aj ak al am an ao ap au aq ar b bo aw ax ay
 az a0 a1 a2 bv a3 a4 a5 a6 a7 a8 a9 ba bb bw bc bd av bf bg bh bi bj bk bl ca bm bn bq)/\[some (Tok.mk (slice bp ab aa) 2),some (Tok.mk (slice bp ab aa) 2),some (Tok.mk (slice bp ab aa) 2)]=[some (Tok.mk (slice bp
 ab aa) 2),some (Tok.mk (slice bp ab aa) 2),some (Tok.mk (slice bp ab aa) 2)]/\[bool (cq == (141:Int))]=[bool bu]) (ZaA (Zae n ac ad ae af ag ah a ai c aj ak al am an ao ap au aq ar b bo aw ax ay
 az a0 a1 a2 bv a3 a4 a5 a6 a7 a8 a9 ba bb bw bc bd av bf bg bh bi bj bk bl ca bm bn bq)/\[some (Tok.mk (slice bp ab aa) 2),some (Tok.mk (slice bp ab aa) 2),some (Tok.mk (slice bp ab aa) 2)]=[some (Tok.mk (slice bp
 ab aa) 2),some (Tok.mk (slice bp ab aa) 2),some (Tok.mk (slice bp ab aa) 2)]/\[bool false]=[bool bu])/\br bu (ZaA (Zae n ac ad ae af ag ah a ai c aj ak al am an ao ap au aq ar b bo aw ax ay az a0
 a1 a2 bv a3 a4 a5 a6 a7 a8 a9 ba bb bw bc bd av bf bg bh bi bj bk bl ca bm bn bq)/\[some (Tok.mk (slice bp ab aa) 2),some (Tok.mk (slice bp ab aa) 2),some (Tok.mk (slice bp ab aa) 2)]=[some (Tok.mk (slice bp ab aa)
 2),some (Tok.mk (slice bp ab aa) 2),some (Tok.mk (slice bp ab aa) 2)]/\dp [slice none 0 0] [] [] m') (ZaA (Zae n ac ad ae af ag ah a ai c aj ak al am an ao ap au aq ar b bo aw ax ay az a0 a1 a2 bv
 a3 a4 a5 a6 a7 a8 a9 ba bb bw bc bd av bf bg bh bi bj bk bl ca bm bn bq)/\[some (Tok.mk (slice bp ab aa) 2),some (Tok.mk (slice bp ab aa) 2),some (Tok.mk (slice bp ab aa) 2)]=[some (Tok.mk (slice bp ab aa) 2),some
 (Tok.mk (slice bp ab aa) 2),some (Tok.mk (slice bp ab aa) 2)]/\dp [slice ek ck bs] [] [] m'))/\∀(d3:Option Addr)(cr em:Nat)(bt:Mem),Mem.le m' bt->dp [slice d3 cr em] [] [] bt->∃(bu:Bool),br (!df == if
 cq < cm then cq else cm) (ZaA (Zae n ac ad ae af ag ah a ai c aj ak al am an ao ap au aq ar b bo aw ax ay az a0 a1 a2 bv a3 a4 a5 a6 a7 a8 a9 ba bb bw bc bd av bf bg bh bi bj bk bl ca bm bn bq)/\[some
 (Tok.mk (slice bp ab aa) 2),some (Tok.mk (slice bp ab aa) 2),some (Tok.mk (slice bp ab aa) 2)]=[some (Tok.mk (slice bp ab aa) 2),some (Tok.mk (slice bp ab aa) 2),some (Tok.mk (slice bp ab aa) 2)]/\[bool true] =
 [bool bu]) (∃(R:RT),True/\CX Try.prog 22 (Array.mk [slice ev de dr,slice d3 cr em]) bt [] R/\Zar Shape.bool R/\∀(cz:Bool)(m':Mem),Mem.le bt m'->R (bool cz) m' []->ZaA (Zae n ac ad ae
 af ag ah a ai c aj ak al am an ao ap au aq ar b bo aw ax ay az a0 a1 a2 bv a3 a4 a5 a6 a7 a8 a9 ba bb bw bc bd av bf bg bh bi bj bk bl ca bm bn bq)/\[some (Tok.mk (slice bp ab aa) 2),some (Tok.mk (slice bp ab aa) 2),
 some (Tok.mk (slice bp ab aa) 2)]=[some (Tok.mk (slice bp ab aa) 2),some (Tok.mk (slice bp ab aa) 2),some (Tok.mk (slice bp ab aa) 2)]/\[bool !cz]=[bool bu])/\br bu (∃(m'':Mem),Mem.le m m''/\Mem.le m'' bt/\
 R (bool false) m'' []) (ZaA (ZcH n ac ad ae af ag ah a ai c aj ak al am an ao ap au aq ar b bo)/\J [] [] [] bt))) (((∃(a:Option Addr),∃(n:Nat),∃(c:Nat),∃(k:Nat),Tok.mk (slice cw cb cp)
 2=Tok.mk (slice a n c) 2/\k<=n/\slice cw cb cp=slice (ZaC a k c 2) (n - k) (c - k))\/slice cw cb cp=slice none 0 0\/cp < cb+cn)/\∃(xs:List Value),∃(ys:List Value),List.length xs=cb*2/\
 List.length ys=cn*2/\rowRd M cw xs/\rowRd M e3 ys/\(∀(u:Value),u∈ys->Value.oneCell' u=true)/\(cb+cn)*16<=140737488355328/\cb+cn<=9223372036854775807/\∀(a':Option Addr)(c':Nat) (m':
 Mem),Mem.le M m'->rowRd m' a' (List.append xs ys)->∃(cy:JT),br (cm == (141:Int)) (∃(R:RT),True/\CX Try.prog 18 (Array.mk [agg (Array.mk [int u8 n,int u64 ac,int u64 ad,int u64 ae,int u64 af,int i64
 ag,int i64 ah,slice a ai c])]) m' [] R/\Zar (shT) R/\∀(ck ab cr eg eh ei ej:Int)(en:Option Addr)(el bs:Nat)(bt:Mem),Mem.le m' bt->R (agg (Array.mk [int u8 ck,int u64 ab,int u64 cr,int u64 eg,int
 u64 eh,int i64 ei,int i64 ej,slice en el bs])) bt []->∃(R:RT),True/\CX Try.prog 30 (Array.mk [agg (Array.mk [int u8 ck,int u64 ab,int u64 cr,int u64 eg,int u64 eh,int i64 ei,int i64 ej,slice en el bs])])
 bt [] R/\Zar Shape.slice R/\∀(eo:Option Addr)(bx aa:Nat)(m':Mem),Mem.le bt m'->R (slice eo bx aa) m' []->br (Nat.beq cc 0) (chk (Nat.ble bx aa) (ZaA (Zae n ac ad ae af ag ah a ai c aj ak
 al am an ao ap au aq ar b bo aw ax ay az a0 a1 a2 bv a3 a4 a5 a6 a7 a8 a9 ba bb bw bc bd av bf bg bh bi bj bk bl ca bm bn bq)/\([none,none]:List (Option Tok))=[none,none]/\cy [slice eo bx aa] [] [slice a' (cb +
 cn) c'] m')) (((∃(a:Option Addr),∃(n:Nat),∃(c:Nat),∃(k:Nat),Tok.mk (slice a' (cb+cn) c') 2=Tok.mk (slice a n c) 2/\k<=n/\slice eo bx aa=slice (ZaC a k c 2) (n - k) (c - k))\/slice eo bx aa =
 slice none 0 0\/aa < bx+cc)/\∃(xs:List Value),∃(ys:List Value),List.length xs=bx*2/\List.length ys=cc*2/\rowRd m' eo xs/\rowRd m' ex ys/\(∀(u:Value),u∈ys->Value.oneCell' u=true)/\(bx +
 cc)*16<=140737488355328/\bx+cc<=9223372036854775807/\∀(a':Option Addr)(c':Nat)(d4:Mem),Mem.le m' d4->rowRd d4 a' (List.append xs ys)->ZaA (Zae n ac ad ae af ag ah a ai c aj ak al am
 an ao ap au aq ar b bo aw ax ay az a0 a1 a2 bv a3 a4 a5 a6 a7 a8 a9 ba bb bw bc bd av bf bg bh bi bj bk bl ca bm bn bq)/\([none,none]:List (Option Tok))=[none,none]/\cy [slice a' (bx+cc) c'] [] [slice a' (bx +
 cc) c'] d4)) (ZaA (Zae n ac ad ae af ag ah a ai c aj ak al am an ao ap au aq ar b bo aw ax ay az a0 a1 a2 bv a3 a4 a5 a6 a7 a8 a9 ba bb bw bc bd av bf bg bh bi bj bk bl ca bm bn bq)/\([none,none]:
 List (Option Tok))=[none,none]/\cy [slice a' (cb+cn) c'] [] [slice a' (cb+cn) c'] m')/\∀(en:Option Addr)(ck bs:Nat)(be:Option Addr)(ab aa:Nat)(bt:Mem),Mem.le m' bt->cy [slice en ck bs] []
 [slice be ab aa] bt->∃(dp:JT),(∃(bu:Bool),br (cm == (141:Int)) (ZaA (Zae n ac ad ae af ag ah a ai c aj ak al am an ao ap au aq ar b bo aw ax ay az a0 a1 a2 bv a3 a4 a5 a6 a7 a8 a9 ba bb bw
 bc bd av bf bg bh bi bj bk bl ca bm bn bq)/\[some (Tok.mk (slice be ab aa) 2),some (Tok.mk (slice be ab aa) 2),some (Tok.mk (slice be ab aa) 2)]=[some (Tok.mk (slice be ab aa) 2),some (Tok.mk (slice be ab aa) 2),
 some (Tok.mk (slice be ab aa) 2)]/\[bool (cq == (141:Int))]=[bool bu]) (ZaA (Zae n ac ad ae af ag ah a ai c aj ak al am an ao ap au aq ar b bo aw ax ay az a0 a1 a2 bv a3 a4 a5 a6 a7 a8 a9 ba bb bw
 bc bd av bf bg bh bi bj bk bl ca bm bn bq)/\[some (Tok.mk (slice be ab aa) 2),some (Tok.mk (slice be ab aa) 2),some (Tok.mk (slice be ab aa) 2)]=[some (Tok.mk (slice be ab aa) 2),some (Tok.mk (slice be ab aa) 2),
 some (Tok.mk (slice be ab aa) 2)]/\[bool false]=[bool bu])/\br bu (ZaA (Zae n ac ad ae af ag ah a ai c aj ak al am an ao ap au aq ar b bo aw ax ay az a0 a1 a2 bv a3 a4 a5 a6 a7 a8 a9 ba bb bw bc bd
 av bf bg bh bi bj bk bl ca bm bn bq)/\[some (Tok.mk (slice be ab aa) 2),some (Tok.mk (slice be ab aa) 2),some (Tok.mk (slice be ab aa) 2)]=[some (Tok.mk (slice be ab aa) 2),some (Tok.mk (slice be ab aa) 2),some
 (Tok.mk (slice be ab aa) 2)]/\dp [slice none 0 0] [] [] bt) (ZaA (Zae n ac ad ae af ag ah a ai c aj ak al am an ao ap au aq ar b bo aw ax ay az a0 a1 a2 bv a3 a4 a5 a6 a7 a8 a9 ba bb bw bc bd av bf bg
 bh bi bj bk bl ca bm bn bq)/\[some (Tok.mk (slice be ab aa) 2),some (Tok.mk (slice be ab aa) 2),some (Tok.mk (slice be ab aa) 2)]=[some (Tok.mk (slice be ab aa) 2),some (Tok.mk (slice be ab aa) 2),some (Tok.mk
 (slice be ab aa) 2)]/\dp [slice en ck bs] [] [] bt))/\∀(e4:Option Addr)(cr em:Nat)(m':Mem),Mem.le bt m'->dp [slice e4 cr em] [] [] m'->∃(bu:Bool),br (!df == if cq < cm then cq else cm) (ZaA
 (Zae n ac ad ae af ag ah a ai c aj ak al am an ao ap au aq ar b bo aw ax ay az a0 a1 a2 bv a3 a4 a5 a6 a7 a8 a9 ba bb bw bc bd av bf bg bh bi bj bk bl ca bm bn bq)/\[some (Tok.mk (slice be ab aa) 2),
 some (Tok.mk (slice be ab aa) 2),some (Tok.mk (slice be ab aa) 2)]=[some (Tok.mk (slice be ab aa) 2),some (Tok.mk (slice be ab aa) 2),some (Tok.mk (slice be ab aa) 2)]/\[bool true]=[bool bu]) (∃(R:RT),True/\
 CX Try.prog 22 (Array.mk [slice ev de dr,slice e4 cr em]) m' [] R/\Zar Shape.bool R/\∀(cz:Bool)(d4:Mem),Mem.le m' d4->R (bool cz) d4 []->ZaA (Zae n ac ad ae af ag ah a ai c aj ak al am an
 ao ap au aq ar b bo aw ax ay az a0 a1 a2 bv a3 a4 a5 a6 a7 a8 a9 ba bb bw bc bd av bf bg bh bi bj bk bl ca bm bn bq)/\[some (Tok.mk (slice be ab aa) 2),some (Tok.mk (slice be ab aa) 2),some (Tok.mk (slice be ab aa)
 2)]=[some (Tok.mk (slice be ab aa) 2),some (Tok.mk (slice be ab aa) 2),some (Tok.mk (slice be ab aa) 2)]/\[bool !cz]=[bool bu])/\br bu (∃(m'':Mem),Mem.le m m''/\Mem.le m'' m'/\R (bool false) m'' [])
 (ZaA (ZcH n ac ad ae af ag ah a ai c aj ak al am an ao ap au aq ar b bo)/\J [] [] [] m'))) (ZaA (ZcH n ac ad ae af ag ah a ai c aj ak al am an ao ap au aq ar b bo)/\J [] [] [] m'))
 /\ ∀(cl:Mem),Mem.le m' cl->J [] [] [] cl->∃(f:Fx),∃(R_4:RT),R_4=f 1 [agg (Array.mk [int u8 n,int u64 ac,int u64 ad,int u64 ae,int u64 af,int i64 ag,int i64 ah,slice a ai c])] cl/\CX Try.prog 18
 (Array.mk [agg (Array.mk [int u8 n,int u64 ac,int u64 ad,int u64 ae,int u64 af,int i64 ag,int i64 ah,slice a ai c])]) cl [] R_4/\Zar (shT) R_4/\∀(aw ax ay az a0 a1 a2:Int)(cg:Option Addr)(a3 a4:Nat)
 (m':Mem),Mem.le cl m'->R_4 (agg (Array.mk [int u8 aw,int u64 ax,int u64 ay,int u64 az,int u64 a0,int i64 a1,int i64 a2,slice cg a3 a4])) m' []->∃(R_5:RT),R_5=f 3 [agg (Array.mk [int u8 aj,int u64 ak,
 int u64 al,int u64 am,int u64 an,int i64 ao,int i64 ap,slice au aq ar])] m'/\CX Try.prog 18 (Array.mk [agg (Array.mk [int u8 aj,int u64 ak,int u64 al,int u64 am,int u64 an,int i64 ao,int i64 ap,slice au aq
 ar])]) m' [] R_5/\Zar (shT) R_5/\∀(a5 a6 a7 a8 a9 ba bb:Int)(ch:Option Addr)(bc bd:Nat)(ce:Mem),Mem.le m' ce->R_5 (agg (Array.mk [int u8 a5,int u64 a6,int u64 a7,int u64 a8,int u64 a9,int i64 ba,
 int i64 bb,slice ch bc bd])) ce []->∀(av:Nat),Mem.free ce av->∃(R_6:RT),R_6=f 5 [slice (some (Addr.mk av 0 none)) 2 2] (Mem.add ce av (ZaI aw ax ay az a0 a1 a2 cg a3 a4 a5 a6 a7 a8 a9 ba bb
 ch bc bd))/\CX Try.prog 34 (Array.mk [slice (some (Addr.mk av 0 none)) 2 2]) (Mem.add ce av (ZaI aw ax ay az a0 a1 a2 cg a3 a4 a5 a6 a7 a8 a9 ba bb ch bc bd)) [] R_6/\Zar (shT) R_6/\∀(bf bg bh bi bj
 bk bl:Int) (co:Option Addr) (bm bn:Nat) (dd:Mem),Mem.le (Mem.add ce av (ZaI aw ax ay az a0 a1 a2 cg a3 a4 a5 a6 a7 a8 a9 ba bb ch bc bd)) dd->R_6 (agg (Array.mk [int u8 bf,int u64 bg,int u64
 bh,int u64 bi,int u64 bj,int i64 bk,int i64 bl,slice co bm bn])) dd []->∀(bq:Nat)(M:Mem),Mem.le cl M->Mem.le m' M->Mem.le ce M->Mem.le (Mem.add ce av (ZaI aw ax ay az a0 a1 a2 cg a3 a4 a5
 a6 a7 a8 a9 ba bb ch bc bd)) M->Mem.le dd M->∃(R_7:RT),True/\CX Try.prog 19 (Array.mk [agg (Array.mk [bool false,bool false,int u8 bf,int u64 bg,int u64 bh,int u64 bi,int u64 bj,int i64 bk,int i64 bl,
 slice co bm bn])]) M [] R_7/\Zar (Shape.int i64) R_7/\∀(d8:Int)(m':Mem),Mem.le M m'->R_7 (int i64 d8) m' []->br (!d8 == (0:Int)) (∃(m'':Mem),Mem.le m m''/\Mem.le m'' m'/\R (bool true) m'' []) (∃(R_8
 : RT),True/\CX Try.prog 15 (Array.mk [agg (Array.mk [int u8 bf,int u64 bg,int u64 bh,int u64 bi,int u64 bj,int i64 bk,int i64 bl,slice co bm bn]),slice (ZaC p2a 0 p2c 1) (Int.toNat (if(14:Int) < (↑p2n:
 Int)then(14:Int)else(↑p2n:Int)) - 0) (p2c - 0)]) m' [] R_8/\Zar (Shape.tup [Shape.slice,Shape.int i64]) R_8/\∀(e5:Option Addr)(de dr:Nat)(df:Int)(cv:Mem),Mem.le m' cv->R_8 (tuple (Array.mk
 [slice e5 de dr,int i64 df])) cv []->∃(R_9:RT),True/\CX Try.prog 14 (Array.mk [agg (Array.mk [int u8 n,int u64 ac,int u64 ad,int u64 ae,int u64 af,int i64 ag,int i64 ah,slice a ai c]),slice (ZaC p2a 0
 p2c 1) (Int.toNat (if(14:Int) < (↑p2n:Int)then(14:Int)else(↑p2n:Int)) - 0) (p2c - 0),int i64 0]) cv [] R_9/\Zar (Shape.tup [Shape.slice,Shape.int i64]) R_9/\∀(e6:Option Addr)(ds eu:Nat) (d9:
 Int) (m':Mem),Mem.le cv m'->R_9 (tuple (Array.mk [slice e6 ds eu,int i64 d9])) m' []->br (!d9 == (0:Int)) (∃(m'':Mem),Mem.le m m''/\Mem.le m'' m'/\R (bool false) m'' []) (∃(I:IT),(∃(n:Nat),I [int
 i64 0] [] [] m' n)/\∀(db:Int)(ci:Mem)(ea:Nat),Mem.le m' ci->I [int i64 db] [] [] ci ea->br (decide (db < (↑ds:Int))) (∃(bu:Nat),∃(o:Nat),e6=some (Addr.mk bu o none)/\Zaj db ds/\∃(v:
 Value),ci bu (o+Int.toNat db*1)=some v/\∃(cz:Bool),chk (ZaX i64 v&&decide (i64=i64)) (br (decide (RowKit.intOf v < (0:Int))) (ZaA (Zae n ac ad ae af ag ah a ai c aj ak al am an ao
 ap au aq ar b bo aw ax ay az a0 a1 a2 cg a3 a4 a5 a6 a7 a8 a9 ba bb ch bc bd av bf bg bh bi bj bk bl co bm bn bq)/\[bool true]=[bool cz]) (chk (ZaX i64 v&&decide (i64=i64)) (ZaA (Zae n ac ad
 ae af ag ah a ai c aj ak al am an ao ap au aq ar b bo aw ax ay az a0 a1 a2 cg a3 a4 a5 a6 a7 a8 a9 ba bb ch bc bd av bf bg bh bi bj bk bl co bm bn bq)/\[bool (decide (RowKit.intOf v > (↑(Int.toNat (if(14:Int) <
 (↑p2n:Int)then(14:Int)else(↑p2n:Int)) - 0):Int)))]=[bool cz])))/\br cz (∃(m'':Mem),Mem.le m m''/\Mem.le m'' ci/\R (bool false) m'' []) (∃(f:Fx),chk (Zbi v) (((0:Int)<=RowKit.intOf v/\
 RowKit.intOf v<=(↑(Int.toNat (if(14:Int) < (↑p2n:Int)then(14:Int)else(↑p2n:Int)) - 0):Int))/\∃(R_10:RT),R_10=f 4 [agg (Array.mk [int u8 aj,int u64 ak,int u64 al,int u64 am,int u64 an,int i64
 ao,int i64 ap,slice au aq ar]),slice (ZaC (ZaC p2a 0 p2c 1) (Int.toNat (RowKit.intOf v)) (p2c - 0) 1) (Int.toNat (if(14:Int) < (↑p2n:Int)then(14:Int)else(↑p2n:Int)) - 0 - Int.toNat (RowKit.intOf
 v)) (p2c - 0 - Int.toNat (RowKit.intOf v))] ci/\CX Try.prog 29 (Array.mk [agg (Array.mk [int u8 aj,int u64 ak,int u64 al,int u64 am,int u64 an,int i64 ao,int i64 ap,slice au aq ar]),slice (ZaC (ZaC p2a 0
 p2c 1) (Int.toNat (RowKit.intOf v)) (p2c - 0) 1) (Int.toNat (if(14:Int) < (↑p2n:Int)then(14:Int)else(↑p2n:Int)) - 0 - Int.toNat (RowKit.intOf v)) (p2c - 0 - Int.toNat (RowKit.intOf v))]) ci [] R_10/\Zar
 (Shape.tup [Shape.bool,Shape.int i64]) R_10/\∀(e7:Bool)(eb:Int)(m':Mem),Mem.le ci m'->R_10 (tuple (Array.mk [bool e7,int i64 eb])) m' []->∀(M:Mem),Mem.le ci M->Mem.le m' M->br (!eb == (0:Int)) (∃
 (m'':Mem),Mem.le m m''/\Mem.le m'' M/\R (bool false) m'' []) (br (!e7) (ZaA (Zae n ac ad ae af ag ah a ai c aj ak al am an ao ap au aq ar b bo aw ax ay az a0 a1 a2 cg a3 a4 a5 a6 a7 a8 a9 ba bb ch
 bc bd av bf bg bh bi bj bk bl co bm bn bq)/\∃(n':Nat),n' < ea/\I [int i64 (IntKind.wrap i64 (db+(1:Int)))] [] [] M n') (∃(f:Fx),∃(R_11:RT),R_11=f 1 [agg (Array.mk [int u8 n,int u64 ac,int u64 ad,
 int u64 ae,int u64 af,int i64 ag,int i64 ah,slice a ai c])] M/\CX Try.prog 18 (Array.mk [agg (Array.mk [int u8 n,int u64 ac,int u64 ad,int u64 ae,int u64 af,int i64 ag,int i64 ah,slice a ai c])]) M [] R_11/\
 Zar (shT) R_11/\∀(dt du dv dg cm dw dx:Int)(ez:Option Addr)(dy dh:Nat)(m':Mem),Mem.le M m'->R_11 (agg (Array.mk [int u8 dt,int u64 du,int u64 dv,int u64 dg,int u64 cm,int i64 dw,int i64 dx,slice
 ez dy dh])) m' []->chk (Zbi v) (((0:Int)<=RowKit.intOf v/\RowKit.intOf v<=(↑(p2c - 0):Int))/\∃(R_12:RT),R_12=f 5 [agg (Array.mk [int u8 dt,int u64 du,int u64 dv,int u64 dg,int u64 cm,int i64 dw,
 int i64 dx,slice ez dy dh]),slice (ZaC (ZaC p2a 0 p2c 1) 0 (p2c - 0) 1) (Int.toNat (RowKit.intOf v) - 0) (p2c - 0 - 0)] m'/\CX Try.prog 15 (Array.mk [agg (Array.mk [int u8 dt,int u64 du,int u64 dv,int u64
 dg,int u64 cm,int i64 dw,int i64 dx,slice ez dy dh]),slice (ZaC (ZaC p2a 0 p2c 1) 0 (p2c - 0) 1) (Int.toNat (RowKit.intOf v) - 0) (p2c - 0 - 0)]) m' [] R_12/\Zar (Shape.tup [Shape.slice,Shape.int i64])
 R_12/\∀(e8:Option Addr)(ec ee:Nat)(ed:Int)(ct:Mem),Mem.le m' ct->R_12 (tuple (Array.mk [slice e8 ec ee,int i64 ed])) ct []->∀(dq:Mem),Mem.le M dq->Mem.le m' dq->Mem.le ct dq->∃(f:Fx),∃(R_13
 : RT),R_13=f 1 [agg (Array.mk [int u8 aj,int u64 ak,int u64 al,int u64 am,int u64 an,int i64 ao,int i64 ap,slice au aq ar])] dq/\CX Try.prog 18 (Array.mk [agg (Array.mk [int u8 aj,int u64 ak,int u64 al,int
 u64 am,int u64 an,int i64 ao,int i64 ap,slice au aq ar])]) dq [] R_13/\Zar (shT) R_13/\∀(dz d0 d1 cc cq cb di:Int)(e0:Option Addr)(dj ef:Nat)(m':Mem),Mem.le dq m'->R_13 (agg (Array.mk [int u8 dz,
 int u64 d0,int u64 d1,int u64 cc,int u64 cq,int i64 cb,int i64 di,slice e0 dj ef])) m' []->chk (Zbi v) (((0:Int)<=RowKit.intOf v/\RowKit.intOf v<=(↑(Int.toNat (if(14:Int) < (↑p2n:Int)then(14:
 Int)else(↑p2n:Int)) - 0):Int))/\∃(R_14:RT),R_14=f 5 [agg (Array.mk [int u8 dz,int u64 d0,int u64 d1,int u64 cc,int u64 cq,int i64 cb,int i64 di,slice e0 dj ef]),slice (ZaC (ZaC p2a 0 p2c 1)
 (Int.toNat (RowKit.intOf v)) (p2c - 0) 1) (Int.toNat (if(14:Int) < (↑p2n:Int)then(14:Int)else(↑p2n:Int)) - 0 - Int.toNat (RowKit.intOf v)) (p2c - 0 - Int.toNat (RowKit.intOf v))] m'/\CX Try.prog 15
 (Array.mk [agg (Array.mk [int u8 dz,int u64 d0,int u64 d1,int u64 cc,int u64 cq,int i64 cb,int i64 di,slice e0 dj ef]),slice (ZaC (ZaC p2a 0 p2c 1) (Int.toNat (RowKit.intOf v)) (p2c - 0) 1) (Int.toNat (if
 (14:Int) < (↑p2n:Int)then(14:Int)else(↑p2n:Int)) - 0 - Int.toNat (RowKit.intOf v)) (p2c - 0 - Int.toNat (RowKit.intOf v))]) m' [] R_14/\Zar (Shape.tup [Shape.slice,Shape.int i64]) R_14/\∀(e9:Option
 Addr) (dk cp:Nat) (d2:Int) (cu:Mem),Mem.le m' cu->R_14 (tuple (Array.mk [slice e9 dk cp,int i64 d2])) cu []->∀(M:Mem),Mem.le dq M->Mem.le m' M->Mem.le cu M->∃(R_15:RT),CXT Try.prog 33 (Array.mk
 [slice e8 ec ee]) M 2 R_15/\Zar Shape.slice R_15/\∀(d3:Option Addr)(dl dm:Nat)(m':Mem),Mem.le M m'->R_15 (slice d3 dl dm) m' []->∃(I:IT),(∃(n:Nat),I [slice d3 dl dm,int i64 0] [] [slice d3 dl dm]
 m' n)/\∀(ep:Option Addr)(cj dn:Nat)(cx:Int)(cd:Option Addr)(bz bs:Nat)(cf:Mem)(cn:Nat),Mem.le m' cf->I [slice ep cj dn,int i64 cx] [] [slice cd bz bs] cf cn->br (decide (cx < (↑dk:Int))) (∃
 (d5:Nat),∃(o:Nat),e9=some (Addr.mk d5 o none)/\Zaj cx dk/\∃(d6:Value),∃(d7:Value),Mem.reads cf d5 (o+Int.toNat cx*2) [d6,d7]/\∀(eq:Nat),chk (Value.oneCell' d6&&(Value.oneCell' d7 &&
 true)) (∃(J:JT),(∃(f:Fx),∃(R:RT),R=f 1 [] cf/\CX Try.prog 21 (Array.mk []) cf [] R/\Zar (Shape.agg [Shape.int i64,Shape.int i64]) R/\∀(ck ab:Int)(m':Mem),Mem.le cf m'->R (agg (Array.mk [int
 i64 ck,int i64 ab])) m' []->∃(dc:Bool),EqIs Try.prog 56 (agg (Array.mk [d6,d7])) (agg (Array.mk [int i64 ck,int i64 ab])) dc/\∀(M:Mem),Mem.le cf M->Mem.le m' M->br (!dc) (chk (ZaX i64 d6&&ZaX i64 v)
 (chk (ZaX i64 d7&&ZaX i64 v) (ZaA (ZdR n ac ad ae af ag ah a ai c aj ak al am an ao ap au aq ar b bo aw ax ay az a0 a1 a2 cg a3 a4 a5 a6 a7 a8 a9 ba bb ch bc bd av bf bg bh bi bj bk bl co bm bn
 bq eq)/\[some (Tok.mk (slice cd bz bs) 2),some (Tok.mk (slice cd bz bs) 2)]=[some (Tok.mk (slice cd bz bs) 2),some (Tok.mk (slice cd bz bs) 2)]/\J [] [[int i64 (IntKind.wrap i64 (RowKit.intOf d6+RowKit.intOf
 v)),int i64 (IntKind.wrap i64 (RowKit.intOf d7+RowKit.intOf v))]] [] M))) (ZaA (ZdR n ac ad ae af ag ah a ai c aj ak al am an ao ap au aq ar b bo aw ax ay az a0 a1 a2 cg a3 a4 a5 a6 a7 a8 a9 ba bb
 ch bc bd av bf bg bh bi bj bk bl co bm bn bq eq)/\[some (Tok.mk (slice cd bz bs) 2),some (Tok.mk (slice cd bz bs) 2)]=[some (Tok.mk (slice cd bz bs) 2),some (Tok.mk (slice cd bz bs) 2)]/\J [] [[d6,d7]] [] M))/\∀
 (cs:List Value) (m':Mem),Mem.le cf m'->J [] [cs] [] m'->chk (Nat.beq (List.length cs) 2&&true) (∀(dc:Nat),Mem.free m' dc->((∃(a:Option Addr),∃(n:Nat),∃(c:Nat),∃(k:Nat),Tok.mk (slice cd bz
 bs) 2=Tok.mk (slice a n c) 2/\k<=n/\slice ep cj dn=slice (ZaC a k c 2) (n - k) (c - k))\/slice ep cj dn=slice none 0 0\/dn < cj+1)/\∃(xs:List Value),∃(ys:List Value),List.length xs=cj*2/\
 List.length ys=1*2/\rowRd (Mem.add m' dc (List.append cs [])) ep xs/\rowRd (Mem.add m' dc (List.append cs [])) (some (Addr.mk dc 0 none)) ys/\(∀(u:Value),u∈ys->Value.oneCell' u=true)/\(cj+1)*16 <=
 140737488355328/\cj+1<=9223372036854775807/\∀(a':Option Addr)(c':Nat)(bt:Mem),Mem.le (Mem.add m' dc (List.append cs [])) bt->rowRd bt a' (List.append xs ys)->ZaA (Zae n ac ad ae af ag
 ah a ai c aj ak al am an ao ap au aq ar b bo aw ax ay az a0 a1 a2 cg a3 a4 a5 a6 a7 a8 a9 ba bb ch bc bd av bf bg bh bi bj bk bl co bm bn bq)/\([none]:List (Option Tok))=[none]/\∃(n':Nat),n' < cn/\I [slice a'
 (cj+1) c',int i64 (IntKind.wrap i64 (cx+(1:Int)))] [] [slice a' (cj+1) c'] bt n'))) (∃(d5:Bool),br (IntKind.wrap i64 (IntKind.wrap i64 (df+ed)+d2) == (0:Int)) (∃(R:RT),True/\CX Try.prog 22
 (Array.mk [slice e5 de dr,slice ep cj dn]) cf [] R/\Zar Shape.bool R/\∀(eq:Bool)(m':Mem),Mem.le cf m'->R (bool eq) m' []->ZaA (Zae n ac ad ae af ag ah a ai c aj ak al am an ao ap au aq ar
 b bo aw ax ay az a0 a1 a2 cg a3 a4 a5 a6 a7 a8 a9 ba bb ch bc bd av bf bg bh bi bj bk bl co bm bn bq)/\[some (Tok.mk (slice cd bz bs) 2),some (Tok.mk (slice cd bz bs) 2)]=[some (Tok.mk (slice cd bz bs) 2),some
 (Tok.mk (slice cd bz bs) 2)]/\[bool eq]=[bool d5]) (ZaA (Zae n ac ad ae af ag ah a ai c aj ak al am an ao ap au aq ar b bo aw ax ay az a0 a1 a2 cg a3 a4 a5 a6 a7 a8 a9 ba bb ch bc bd av bf bg bh bi
 bj bk bl co bm bn bq)/\[some (Tok.mk (slice cd bz bs) 2),some (Tok.mk (slice cd bz bs) 2)]=[some (Tok.mk (slice cd bz bs) 2),some (Tok.mk (slice cd bz bs) 2)]/\[bool false]=[bool d5])/\∃(m'':Mem),Mem.le m
 m''/\Mem.le m'' cf/\R (bool d5) m'' [])))))))) (∃(bu:Bool),br (df == (141:Int)) (ZaA (Zae n ac ad ae af ag ah a ai c aj ak al am an ao ap au aq ar b bo aw ax ay az a0 a1 a2 cg a3 a4 a5 a6 a7 a8
 a9 ba bb ch bc bd av bf bg bh bi bj bk bl co bm bn bq)/\[bool ((↑de:Int) == (0:Int))]=[bool bu]) (ZaA (Zae n ac ad ae af ag ah a ai c aj ak al am an ao ap au aq ar b bo aw ax ay az a0 a1 a2 cg
 a3 a4 a5 a6 a7 a8 a9 ba bb ch bc bd av bf bg bh bi bj bk bl co bm bn bq)/\[bool false]=[bool bu])/\∃(m'':Mem),Mem.le m m''/\Mem.le m'' ci/\R (bool bu) m'' []))))
theorem Zgo(p0a:Option Addr)(p0n p0c:Nat)(p1a:Option Addr)(p1n p1c:Nat)(p2a:Option Addr)(p2n p2c:Nat)(m:Mem)(R:RT)(h:ZdS p0a p0n p0c p1a p1n p1c p2a p2n p2c m R):CX Try.prog 7 #[.slice p0a p0n p0c,.slice p1a p1n p1c,.slice p2a p2n p2c] m [] R:=
 Zah (E:=Zha) Zay mix Try.func7 [.v (.slice p0a p0n p0c),.v (.slice p1a p1n p1c),.v (.slice p2a p2n p2c)] [] (by kernel_rfl) (Eq.mp (by kernel_rfl) h)
noncomputable def Zfi:Env:={ EB with
 loops:=(λi=>bif Nat.beq i 7 then⟨[(46,.int .i64)],[14,100000],[(59,1),(900,2)],false⟩ else⟨[],[],[],false⟩)
 dr:=(λi=>bif Nat.beq i 1 then[⟨0,[3],[],none,[],[]⟩,⟨1,[],[],none,[],[]⟩,⟨2,[],[],none,[1],[]⟩,⟨3,[],[],none,[1,2],[]⟩,⟨4,[100000],[],none,[1,2,3],[]⟩,⟨5,[],[],none,[0,1,2,3,4],[]⟩,⟨6,[14],[14],none,[0,1,2,3,4,5],[]⟩,⟨7,[14],[],none,[0,1,2,3,4,5,6],[]⟩]else bif Nat.beq i 5 then[⟨0,[],[],none,[],[]⟩,⟨1,[],[],none,[],[]⟩,⟨2,[],[],none,[1],[]⟩,⟨3,[],[],none,[1,2],[]⟩,⟨4,[100000],[],none,[1,2,3],[]⟩,⟨5,[],[],none,[],[]⟩,⟨6,[39],[39],none,[5],[5]⟩,⟨7,[39],[],some 900,[1,2,3,4,5,6],[6]⟩,⟨8,[],[],none,[0,1,2,3,4,5,6,7],[]⟩,⟨9,[],[],none,[0,1,2,3,4,5,6,7,8],[]⟩,⟨10,[100000],[100000],none,[0,1,2,3,4,5,6,7,8,9],[]⟩]else[])
 tokOf:=(λi=>bif Nat.beq i 40 then 900 else bif Nat.beq i 59 then 59 else 0)
 borrow:=(λi=>bif Nat.beq i 57 then[100000]else[])
 hint:=(λi=>bif Nat.beq i 11 then some 100000 else bif Nat.beq i 17 then some 100000 else bif Nat.beq i 21 then some 100000 else bif Nat.beq i 28 then some 100000 else bif Nat.beq i 36 then some 100000 else bif Nat.beq i 42 then some 100000 else none)
 frzNew:=[3]
 last:=(λi=>bif Nat.beq i 9 then true else false)
 mix:=(λi=>bif Nat.beq i 9 then some ([0,1,2,3,4,5,6],[7,8,9,10,11,12])else none)
 frz:=[14]
 thaw:=true
 kF:=true
 cuts:=λi=>bif Nat.beq i 6 then some ⟨[],[14,100000],[(900,2)],false⟩ else none
 lentC:=(λi=>bif Nat.beq i 57 then some [(900,2)]else none) }
def ZcV(aU aO aP aQ aR aS aT:Int)(aM:Option Addr)(aL aN:Nat)(f0 f3:Value)(f1:Int)(fb:Nat)(t0a:Option Addr)(t0n t0c:Nat)(m:Mem)(Y:Nat->Prop)(R:RTY):Prop:=
 ∀(b:Nat)(m':Mem),Mem.le m m'->Mem.reads m' b 0 [int u8 aU,int u64 aO,int u64 aP,int u64 aQ,int u64 aR,int i64 aS,int i64 aT,slice aM aL aN]->Mem.free m b->(∀(b' o:Nat) (u:
 Value),m' b' o=some u->m b' o=some u\/b'=b)->Mem.k m b=none->fb=fb/\∀(ae:Nat),fb=fb/\fb=fb/\1+1<=1+1+1+1/\∃(J:JT),br (aU == (6:Int)) (fb=fb/\∃(f:Fx),fb=fb/\∃(R:
 RT),R=f 5 [] m'/\CX Try.prog 21 (Array.mk []) m' [] R/\Zar (Shape.agg [Shape.int i64,Shape.int i64]) R/\∀(n ad:Int)(aa:Mem),Mem.le m' aa->R (agg (Array.mk [int i64 n,int i64 ad])) aa []->∀(af:Nat),
 Mem.free aa af->(Tok.mk (slice t0a t0n t0c) 2=Tok.mk (slice t0a t0n t0c) 2\/slice t0a t0n t0c=slice none 0 0\/t0c < t0n+1)/\∃(xs:List Value),∃(ys:List Value),List.length xs=t0n*2/\List.length ys =
 1*2/\rowRd (Mem.add aa af [int i64 n,int i64 ad]) t0a xs/\rowRd (Mem.add aa af [int i64 n,int i64 ad]) (some (Addr.mk af 0 none)) ys/\(∀(u:Value),u∈ys->Value.oneCell' u=true)/\(t0n+1)*16 <=
 140737488355328/\t0n+1<=9223372036854775807/\∀(a':Option Addr)(c':Nat)(al:Mem),Mem.le (Mem.add aa af [int i64 n,int i64 ad]) al->rowRd al a' (List.append xs ys)->TokFact (Mem.add aa af [int i64 n,int
 i64 ad]) t0a a' (t0n+1) c'->fb=fb/\2+1<=1+1+1+1/\∀(M:Mem),Mem.le m' M->Mem.le aa M->Mem.le (Mem.add aa af [int i64 n,int i64 ad]) M->Mem.le al M->[some (Box.mk ae [] 130 11 false true),some
 (Box.mk b [int u8 aU,int u64 aO,int u64 aP,int u64 aQ,int u64 aR,int i64 aS,int i64 aT,slice aM aL aN] 29 8 true true),some (Box.mk fb [] 92 4 false true)]=[some (Box.mk ae [] 130 11
 false true),some (Box.mk b [int u8 aU,int u64 aO,int u64 aP,int u64 aQ,int u64 aR,int i64 aS,int i64 aT,slice aM aL aN] 29 8 true true),some (Box.mk fb [] 92 4 false true)]/\([none]:
 List (Option Tok))=[none]/\J [] [[int u8 aU,int u64 aO,int u64 aP,int u64 aQ,int u64 aR,int i64 aS,int i64 aT,slice aM aL aN,int i64 f1,int i64 (↑t0n:Int),slice none 0 0],[f0,int
 i64 (IntKind.wrap i64 (f1+(1:Int))),slice a' (t0n+1) c',f3]] [slice a' (t0n+1) c'] M) ([some (Box.mk ae [] 130 11 false true),some (Box.mk b [int u8 aU,int u64 aO,int u64 aP,int u64 aQ,int u64
 aR,int i64 aS,int i64 aT,slice aM aL aN] 29 8 true true),some (Box.mk fb [] 92 4 false true)]=[some (Box.mk ae [] 130 11 false true),some (Box.mk b [int u8 aU,int u64 aO,int u64 aP,int u64
 aQ,int u64 aR,int i64 aS,int i64 aT,slice aM aL aN] 29 8 true true),some (Box.mk fb [] 92 4 false true)]/\([none]:List (Option Tok))=[none]/\J [] [[int u8 aU,int u64 aO,int u64 aP,
 int u64 aQ,int u64 aR,int i64 aS,int i64 aT,slice aM aL aN,int i64 f1,int i64 0,slice none 0 0],[f0,int i64 (IntKind.wrap i64 (f1+(1:Int))),slice t0a t0n t0c,f3]] [slice t0a t0n t0c] m')
 /\ ∀(cs aw:List Value)(a:Option Addr)(n c:Nat)(m':Mem),True->J [] [cs,aw] [slice a n c] m'->∃(I:IT),(∃(ad:Nat),I [int i64 0] [cs,aw] [slice none 0 0,slice a n c] m' ad)/\∀(n:Int) (cs am:
 List Value) (a:Option Addr) (ad c:Nat) (ah:Option Addr) (ai aj:Nat) (m':Mem) (ax:Nat),True->I [int i64 n] [cs,am] [slice a ad c,slice ah ai aj] m' ax->br (decide (n < (↑aL:Int))) (∃(af:Nat),∃
 (o:Nat),aM=some (Addr.mk af o none)/\Zaj n aL/\∃(v:Value),∃(an:Value),∃(ao:Value),∃(ap:Value),∃(aq:Value),∃(ar:Value),∃(au:Value),∃(av:Value),Mem.reads m' af (o +
 Int.toNat n*8) [v,an,ao,ap,aq,ar,au,av]/\∀(a1:Nat),chk (Value.oneCell' v&&(Value.oneCell' an&&(Value.oneCell' ao&&(Value.oneCell' ap&&(Value.oneCell' aq&&(Value.oneCell' ar&&(Value.oneCell' au
 && (Value.oneCell' av&&true)))))))) (Eng.Zub cs 10 λ(ac:Value)=>∃(ak:Nat->Prop),∃(R:Value->Mem->List (List Value)->List Value->Prop),CXY Try.prog 69 (Array.mk [Value.pointer (some (Addr.mk fb 0
 none)),agg (Array.mk [v,an,ao,ap,aq,ar,au,av])]) m' ak [Box.mk fb am 92 4 false true] [Tok.mk (slice ah ai aj) 2] R/\(∀(t:Tok),t∈[Tok.mk (slice ah ai aj) 2]->∀(b:Nat),Tok.blk t=some b->ak b)/\(∀
 (ab:Nat),ak ab->(∃(t:Tok),t∈[Tok.mk (slice ah ai aj) 2]/\Tok.blk t=some ab)\/(Mem.free (Mem.off m Y) ab/\Mem.k (Mem.off m Y) ab=none)/\((∃(o:Nat),∃(v:Value),m' ab o=some v)\/∃(e:List
 (Value×Value)),Mem.k m' ab=some e)/\b≠ab/\Tok.blk (Tok.mk (slice a ad c) 1)≠some ab/\True)/\(∀(v:Value)(m':Mem) (css:List (List Value)) (tvs:List Value),R v m' css tvs->Shape.fits Shape.ptr v =
 true)/\∀(ab o:Nat)(aa:Mem),Mem.le (Mem.off m' ak) aa->(NewM m' aa λ(b:Nat)=>ak b\/Mem.free m' b)->∀(ay:List Value)(az:Option Addr)(a0 d:Nat),R (Value.pointer (some (Addr.mk ab o none))) aa
 [ay] [slice az a0 d]->∀(ag:Nat),Mem.free aa ag->chk (ZeR ac&&true) ((Tok.mk (slice a ad c) 1=Tok.mk ac 1\/ac=slice none 0 0\/slC ac < slN ac+1)/\∃(xs:List Value),∃(ys:List Value),List.length xs
 = slN ac*1/\List.length ys=1*1/\rowRd (Mem.add aa ag [Value.pointer (some (Addr.mk ab o none))]) (slA ac) xs/\rowRd (Mem.add aa ag [Value.pointer (some (Addr.mk ab o none))]) (some (Addr.mk ag 0 none)) ys/\(∀
 (u:Value),u∈ys->Value.oneCell' u=true)/\(slN ac+1)*8<=140737488355328/\slN ac+1<=9223372036854775807/\∀(a':Option Addr)(c':Nat)(m':Mem),Mem.le (Mem.add aa ag [Value.pointer (some (Addr.mk ab
 o none))]) m'->rowRd m' a' (List.append xs ys)->TokFact (Mem.add aa ag [Value.pointer (some (Addr.mk ab o none))]) (slA ac) a' (slN ac+1) c'->chk (Nat.ble 11 (List.length cs)) ([some (Box.mk ae [] 130 11 false
 true),some (Box.mk b [int u8 aU,int u64 aO,int u64 aP,int u64 aQ,int u64 aR,int i64 aS,int i64 aT,slice aM aL aN] 29 8 true true),some (Box.mk fb [] 92 4 false true)]=[some (Box.mk ae
 [] 130 11 false true),some (Box.mk b [int u8 aU,int u64 aO,int u64 aP,int u64 aQ,int u64 aR,int i64 aS,int i64 aT,slice aM aL aN] 29 8 true true),some (Box.mk fb [] 92 4 false true)]/\
 ([none,none]:List (Option Tok))=[none,none]/\∃(n':Nat),n' < ax/\I [int i64 (IntKind.wrap i64 (n+(1:Int)))] [ZaG cs 10 [slice a' (slN ac+1) c'],ay] [slice a' (slN ac+1) c',slice az a0 d] m'
 n')))) (Box.mk fb [f0,int i64 f1,slice t0a t0n t0c,f3] 92 4 false true=Box.mk fb [f0,int i64 f1,slice t0a t0n t0c,f3] 92 4 false true/\(Mem.free m' ae->Mem.k m' ae=none->R (Value.pointer (some (Addr.mk ae 0
 none))) (Mem.add m' ae cs) [am] [slice ah ai aj]))
theorem Zd4(aU aO aP aQ aR aS aT:Int)(aM:Option Addr)(aL aN:Nat)(f0 f3:Value)(f1:Int)(fb:Nat)(t0a:Option Addr)(t0n t0c:Nat)(m:Mem)(Y:Nat->Prop)(R:RTY)(h:ZcV aU aO aP aQ aR aS aT aM aL aN f0 f3 f1 fb t0a t0n t0c m Y R):CXY Try.prog 69 #[.pointer (some ⟨fb,0,none⟩),.agg #[.int .u8 aU,.int .u64 aO,.int .u64 aP,.int .u64 aQ,.int .u64 aR,.int .i64 aS,.int .i64 aT,.slice aM aL aN]] m Y [⟨fb,[f0,.int .i64 f1,.slice t0a t0n t0c,f3],92,4,false,true⟩] [⟨.slice t0a t0n t0c,2⟩] R:=
 Zcr (E:=Zfi) Zay mix Try.func69 [.v (.pointer (some ⟨fb,0,none⟩)),.v (.agg #[.int .u8 aU,.int .u64 aO,.int .u64 aP,.int .u64 aQ,.int .u64 aR,.int .i64 aS,.int .i64 aT,.slice aM aL aN])] [⟨fb,[f0,.int .i64 f1,.slice t0a t0n t0c,f3],92,4,false,true⟩] [900] [⟨.slice t0a t0n t0c,2⟩] (by decide) (by kernel_rfl) (Eq.mp (by kernel_rfl) h)
noncomputable def ZpH:Env:={ EB with
 frzNew:=[2]
 frz:=[20]
 thaw:=true
 kF:=true
 lentC:=(λi=>bif Nat.beq i 24 then some [(900,2)]else none) }
def ZiM(aG aD aI aJ aK aE aH:Int)(aB:Option Addr)(aA aC:Nat)(p1a:Option Addr)(p1n p1c:Nat)(m:Mem)(R:RT):Prop:=
 ∀(b:Nat)(m':Mem),Mem.le m m'->Mem.reads m' b 0 [int u8 aG,int u64 aD,int u64 aI,int u64 aJ,int u64 aK,int i64 aE,int i64 aH,slice aB aA aC]->Mem.free m b->(∀(b' o:Nat) (u:
 Value),m' b' o=some u->m b' o=some u\/b'=b)->Mem.k m b=none->∃(R_1:RT),True/\CX Try.prog 19 (Array.mk [agg (Array.mk [bool false,bool false,int u8 aG,int u64 aD,int u64 aI,int u64 aJ,int
 u64 aK,int i64 aE,int i64 aH,slice aB aA aC])]) m' [] R_1/\Zar (Shape.int i64) R_1/\∀(n:Int)(m'_1:Mem),Mem.le m' m'_1->R_1 (int i64 n) m'_1 []->br (!n == (0:Int)) (∃(m'':Mem),Mem.le m
 m''/\Mem.le m'' m'_1/\R (tuple (Array.mk [Value.pointer none,Value.pointer none,int i64 140])) m'' []) (br (decide ((↑p1n:Int) > (512:Int))) (∃(m'':Mem),Mem.le m m''/\Mem.le m'' m'_1/\R (tuple (Array.mk
 [Value.pointer none,Value.pointer none,int i64 3])) m'' []) (∀(b_1:Nat),Mem.free m'_1 b_1->Mem.k m'_1 b_1=none->∀(b_2:Nat),∃(Y:Nat->Prop),∃(R_2:Value->Mem->List (List Value)->List Value->Prop),
 CXY Try.prog 69 (Array.mk [Value.pointer (some (Addr.mk b_2 0 none)),agg (Array.mk [int u8 aG,int u64 aD,int u64 aI,int u64 aJ,int u64 aK,int i64 aE,int i64 aH,slice aB aA aC])]) (Mem.updK
 m'_1 b_1 []) Y [Box.mk b_2 [slice p1a p1n p1c,int i64 0,slice none 0 0,Value.map (some b_1)] 92 4 false true] [Tok.mk (slice none 0 0) 2] R_2/\(∀(t:Tok),t∈[Tok.mk (slice none 0 0) 2]->∀(b:Nat),Tok.blk t =
 some b->Y b)/\(∀(b_3:Nat),Y b_3->(∃(t:Tok),t∈[Tok.mk (slice none 0 0) 2]/\Tok.blk t=some b_3)\/(Mem.free m b_3/\Mem.k m b_3=none)/\((∃(o:Nat),∃(v:Value),(Mem.updK m'_1 b_1 []) b_3 o=some
 v)\/∃(e:List (Value×Value)),Mem.k (Mem.updK m'_1 b_1 []) b_3=some e)/\b≠b_3/\True)/\(∀(v:Value)(m':Mem) (css:List (List Value)) (tvs:List Value),R_2 v m' css tvs->Shape.fits Shape.ptr v=true)
 /\ ∀(b o:Nat)(m':Mem),Mem.le (Mem.off (Mem.updK m'_1 b_1 []) Y) m'->(NewM (Mem.updK m'_1 b_1 []) m' λ(b:Nat)=>Y b\/Mem.free (Mem.updK m'_1 b_1 []) b)->∀(cs:List Value)(a:Option Addr)(c d:Nat),
 R_2 (Value.pointer (some (Addr.mk b o none))) m' [cs] [slice a c d]->Mem.free m' b_2->Mem.k m' b_2=none->∃(m'':Mem),Mem.le m m''/\Mem.le m'' (Mem.add m' b_2 cs)/\R (tuple (Array.mk [Value.pointer (some
 (Addr.mk b_2 0 none)),Value.pointer (some (Addr.mk b o none)),int i64 0])) m'' []))
theorem Znv(aG aD aI aJ aK aE aH:Int)(aB:Option Addr)(aA aC:Nat)(p1a:Option Addr)(p1n p1c:Nat)(m:Mem)(R:RT)(h:ZiM aG aD aI aJ aK aE aH aB aA aC p1a p1n p1c m R):CX Try.prog 42 #[.agg #[.int .u8 aG,.int .u64 aD,.int .u64 aI,.int .u64 aJ,.int .u64 aK,.int .i64 aE,.int .i64 aH,.slice aB aA aC],.slice p1a p1n p1c] m [] R:=
 Zah (E:=ZpH) Zay mix Try.func42 [.v (.agg #[.int .u8 aG,.int .u64 aD,.int .u64 aI,.int .u64 aJ,.int .u64 aK,.int .i64 aE,.int .i64 aH,.slice aB aA aC]),.v (.slice p1a p1n p1c)] [] (by kernel_rfl) (Eq.mp (by kernel_rfl) h)
noncomputable def Znw:Env:={ EB with
 joins:=(λi=>bif Nat.beq i 4 then some [(22,.bool)]else none)
 frzNew:=[3]
 thaw:=true
 lentC:=(λi=>bif Nat.beq i 34 then some []else none) }
def ZhP(aG aD aI aJ aK aE aH:Int)(aB:Option Addr)(aA aC:Nat)(p1a:Option Addr)(p1n p1c:Nat)(p2:Int)(m:Mem)(R:RT):Prop:=
 ∀(b:Nat)(m':Mem),Mem.le m m'->Mem.reads m' b 0 [int u8 aG,int u64 aD,int u64 aI,int u64 aJ,int u64 aK,int i64 aE,int i64 aH,slice aB aA aC]->Mem.free m b->(∀(b' o:Nat) (u:
 Value),m' b' o=some u->m b' o=some u\/b'=b)->∃(R_1:RT),True/\CX Try.prog 42 (Array.mk [agg (Array.mk [int u8 aG,int u64 aD,int u64 aI,int u64 aJ,int u64 aK,int i64 aE,int i64 aH,slice
 aB aA aC]),slice p1a p1n p1c]) m' [] R_1/\Zar (Shape.tup [Shape.any,Shape.any,Shape.int i64]) R_1/\∀(v v_1:Value)(n:Int)(m'_1:Mem),Mem.le m' m'_1->R_1 (tuple (Array.mk [v,v_1,int i64 n]))
 m'_1 []->br (!n == (0:Int)) (∃(m'':Mem),Mem.le m m''/\Mem.le m'' m'_1/\R (tuple (Array.mk [slice none 0 0,int i64 n])) m'' []) (∃(b_1:Bool),br (decide (p2 < (0:Int))) ([some (Box.mk b [int u8 aG,int
 u64 aD,int u64 aI,int u64 aJ,int u64 aK,int i64 aE,int i64 aH,slice aB aA aC] 29 8 true true)]=[some (Box.mk b [int u8 aG,int u64 aD,int u64 aI,int u64 aJ,int u64 aK,int i64
 aE,int i64 aH,slice aB aA aC] 29 8 true true)]/\[bool true]=[bool b_1]) ([some (Box.mk b [int u8 aG,int u64 aD,int u64 aI,int u64 aJ,int u64 aK,int i64 aE,int i64 aH,slice aB
 aA aC] 29 8 true true)]=[some (Box.mk b [int u8 aG,int u64 aD,int u64 aI,int u64 aJ,int u64 aK,int i64 aE,int i64 aH,slice aB aA aC] 29 8 true true)]/\[bool (decide (p2 > (↑p1n:
 Int)))]=[bool b_1])/\br b_1 (∃(m'':Mem),Mem.le m m''/\Mem.le m'' m'_1/\R (tuple (Array.mk [slice none 0 0,int i64 2])) m'' []) (∃(Y:Nat->Prop),∃(R_2:Value->Mem->List (List Value)->List Value->
 Prop),CXY Try.prog 44 (Array.mk [v,v_1,int i64 0,int i64 p2]) m'_1 Y [] [] R_2/\(∀(t:Tok),t∈[]->∀(b:Nat),Tok.blk t=some b->Y b)/\(∀(b_2:Nat),Y b_2->(∃(t:Tok),t∈[]/\Tok.blk t=some b_2)\/
 (Mem.free m b_2/\Mem.k m b_2=none)/\((∃(o:Nat),∃(v:Value),m'_1 b_2 o=some v)\/∃(e:List (Value×Value)),Mem.k m'_1 b_2=some e)/\b≠b_2/\True)/\(∀(v:Value)(m':Mem) (css:List (List Value))
 (tvs:List Value),R_2 v m' css tvs->Shape.fits Shape.slice v=true)/\∀(a:Option Addr)(n c:Nat)(m':Mem),Mem.le (Mem.off m'_1 Y) m'->(NewM m'_1 m' λ(b:Nat)=>Y b\/Mem.free m'_1 b)->R_2 (slice a n
 c) m' [] []->∃(R_3:RT),True/\CX Try.prog 43 (Array.mk [slice a n c]) m' [] R_3/\Zar Shape.slice R_3/\∀(a:Option Addr)(n c:Nat)(m'_2:Mem),Mem.le m' m'_2->R_3 (slice a n c) m'_2 []->∃(m'':Mem),
 Mem.le m m''/\Mem.le m'' m'_2/\R (tuple (Array.mk [slice a n c,int i64 0])) m'' []))
theorem ZlD(aG aD aI aJ aK aE aH:Int)(aB:Option Addr)(aA aC:Nat)(p1a:Option Addr)(p1n p1c:Nat)(p2:Int)(m:Mem)(R:RT)(h:ZhP aG aD aI aJ aK aE aH aB aA aC p1a p1n p1c p2 m R):CX Try.prog 14 #[.agg #[.int .u8 aG,.int .u64 aD,.int .u64 aI,.int .u64 aJ,.int .u64 aK,.int .i64 aE,.int .i64 aH,.slice aB aA aC],.slice p1a p1n p1c,.int .i64 p2] m [] R:=
 Zah (E:=Znw) Zay mix Try.func14 [.v (.agg #[.int .u8 aG,.int .u64 aD,.int .u64 aI,.int .u64 aJ,.int .u64 aK,.int .i64 aE,.int .i64 aH,.slice aB aA aC]),.v (.slice p1a p1n p1c),.v (.int .i64 p2)] [] (by kernel_rfl) (Eq.mp (by kernel_rfl) h)
noncomputable def Znx:Env:={ EB with
 frzNew:=[2]
 thaw:=true
 lentC:=(λi=>bif Nat.beq i 21 then some []else bif Nat.beq i 30 then some []else none) }
def ZhQ(aG aD aI aJ aK aE aH:Int)(aB:Option Addr)(aA aC:Nat)(p1a:Option Addr)(p1n p1c:Nat)(m:Mem)(R:RT):Prop:=
 ∀(b:Nat)(m':Mem),Mem.le m m'->Mem.reads m' b 0 [int u8 aG,int u64 aD,int u64 aI,int u64 aJ,int u64 aK,int i64 aE,int i64 aH,slice aB aA aC]->Mem.free m b->(∀(b' o:Nat) (u:
 Value),m' b' o=some u->m b' o=some u\/b'=b)->∃(R_1:RT),True/\CX Try.prog 42 (Array.mk [agg (Array.mk [int u8 aG,int u64 aD,int u64 aI,int u64 aJ,int u64 aK,int i64 aE,int i64 aH,slice
 aB aA aC]),slice p1a p1n p1c]) m' [] R_1/\Zar (Shape.tup [Shape.any,Shape.any,Shape.int i64]) R_1/\∀(v v_1:Value)(n:Int)(m'_1:Mem),Mem.le m' m'_1->R_1 (tuple (Array.mk [v,v_1,int i64 n]))
 m'_1 []->br (!n == (0:Int)) (∃(m'':Mem),Mem.le m m''/\Mem.le m'' m'_1/\R (tuple (Array.mk [slice none 0 0,int i64 n])) m'' []) (∃(Y:Nat->Prop),∃(R_2:Value->Mem->List (List Value)->List Value->
 Prop),CXY Try.prog 44 (Array.mk [v,v_1,int i64 0,int i64 0]) m'_1 Y [] [] R_2/\(∀(t:Tok),t∈[]->∀(b:Nat),Tok.blk t=some b->Y b)/\(∀(b_1:Nat),Y b_1->(∃(t:Tok),t∈[]/\Tok.blk t=some b_1)\/
 (Mem.free m b_1/\Mem.k m b_1=none)/\((∃(o:Nat),∃(v:Value),m'_1 b_1 o=some v)\/∃(e:List (Value×Value)),Mem.k m'_1 b_1=some e)/\b≠b_1/\True)/\(∀(v:Value)(m':Mem) (css:List (List Value))
 (tvs:List Value),R_2 v m' css tvs->Shape.fits Shape.slice v=true)/\∀(a:Option Addr)(n c:Nat)(m':Mem),Mem.le (Mem.off m'_1 Y) m'->(NewM m'_1 m' λ(b:Nat)=>Y b\/Mem.free m'_1 b)->R_2 (slice a n
 c) m' [] []->∃(R_3:RT),True/\CX Try.prog 45 (Array.mk [slice a n c,int i64 (↑p1n:Int)]) m' [] R_3/\Zar Shape.bool R_3/\∀(b_1:Bool)(m'_2:Mem),Mem.le m' m'_2->R_3 (bool b_1) m'_2 []->br (!b_1) (∃(m''
 : Mem),Mem.le m m''/\Mem.le m'' m'_2/\R (tuple (Array.mk [slice none 0 0,int i64 141])) m'' []) (∃(Y:Nat->Prop),∃(R_4:Value->Mem->List (List Value)->List Value->Prop),CXY Try.prog 46 (Array.mk [v,v_1,
 int i64 0,int i64 (↑p1n:Int)]) m'_2 Y [] [] R_4/\(∀(t:Tok),t∈[]->∀(b:Nat),Tok.blk t=some b->Y b)/\(∀(b_2:Nat),Y b_2->(∃(t:Tok),t∈[]/\Tok.blk t=some b_2)\/(Mem.free m b_2/\Mem.k m b_2 =
 none)/\((∃(o:Nat),∃(v:Value),m'_2 b_2 o=some v)\/∃(e:List (Value×Value)),Mem.k m'_2 b_2=some e)/\b≠b_2/\True)/\(∀(v:Value)(m':Mem) (css:List (List Value)) (tvs:List Value),R_4 v m'
 css tvs->Shape.fits (Shape.int i64) v=true)/\∀(n:Int)(m':Mem),Mem.le (Mem.off m'_2 Y) m'->(NewM m'_2 m' λ(b:Nat)=>Y b\/Mem.free m'_2 b)->R_4 (int i64 n) m' [] []->chk (ZcM v) (chk (ZcM v) (∃
 (v_2:Value),m' (ZkF v) (ZkG v+2)=some v_2/\∃(m'':Mem),Mem.le m m''/\Mem.le m'' m'/\R (tuple (Array.mk [v_2,int i64 0])) m'' []))))
theorem ZlE(aG aD aI aJ aK aE aH:Int)(aB:Option Addr)(aA aC:Nat)(p1a:Option Addr)(p1n p1c:Nat)(m:Mem)(R:RT)(h:ZhQ aG aD aI aJ aK aE aH aB aA aC p1a p1n p1c m R):CX Try.prog 15 #[.agg #[.int .u8 aG,.int .u64 aD,.int .u64 aI,.int .u64 aJ,.int .u64 aK,.int .i64 aE,.int .i64 aH,.slice aB aA aC],.slice p1a p1n p1c] m [] R:=
 Zah (E:=Znx) Zay mix Try.func15 [.v (.agg #[.int .u8 aG,.int .u64 aD,.int .u64 aI,.int .u64 aJ,.int .u64 aK,.int .i64 aE,.int .i64 aH,.slice aB aA aC]),.v (.slice p1a p1n p1c)] [] (by kernel_rfl) (Eq.mp (by kernel_rfl) h)
noncomputable def ZlF:Env:={ EB with
 frzNew:=[2]
 thaw:=true
 lentC:=(λi=>bif Nat.beq i 27 then some []else bif Nat.beq i 36 then some []else none) }
def ZgK(aG aD aI aJ aK aE aH:Int)(aB:Option Addr)(aA aC:Nat)(p1a:Option Addr)(p1n p1c:Nat)(m:Mem)(R:RT):Prop:=
 ∀(b:Nat)(m':Mem),Mem.le m m'->Mem.reads m' b 0 [int u8 aG,int u64 aD,int u64 aI,int u64 aJ,int u64 aK,int i64 aE,int i64 aH,slice aB aA aC]->Mem.free m b->(∀(b' o:Nat) (u:
 Value),m' b' o=some u->m b' o=some u\/b'=b)->∃(R_1:RT),True/\CX Try.prog 42 (Array.mk [agg (Array.mk [int u8 aG,int u64 aD,int u64 aI,int u64 aJ,int u64 aK,int i64 aE,int i64 aH,slice
 aB aA aC]),slice p1a p1n p1c]) m' [] R_1/\Zar (Shape.tup [Shape.any,Shape.any,Shape.int i64]) R_1/\∀(v v_1:Value)(n:Int)(m'_1:Mem),Mem.le m' m'_1->R_1 (tuple (Array.mk [v,v_1,int i64 n]))
 m'_1 []->br (!n == (0:Int)) (∃(m'':Mem),Mem.le m m''/\Mem.le m'' m'_1/\R (tuple (Array.mk [int i64 0,int i64 n])) m'' []) (br (!aG == (5:Int)) (∃(m'':Mem),Mem.le m m''/\Mem.le m'' m'_1/\R (tuple
 (Array.mk [int i64 0,int i64 2])) m'' []) (∃(Y:Nat->Prop),∃(R_2:Value->Mem->List (List Value)->List Value->Prop),CXY Try.prog 44 (Array.mk [v,v_1,int i64 0,int i64 0]) m'_1 Y [] [] R_2/\(∀(t:Tok),t
 ∈ []->∀(b:Nat),Tok.blk t=some b->Y b)/\(∀(b_1:Nat),Y b_1->(∃(t:Tok),t∈[]/\Tok.blk t=some b_1)\/(Mem.free m b_1/\Mem.k m b_1=none)/\((∃(o:Nat),∃(v:Value),m'_1 b_1 o=some v)\/∃(e:
 List (Value×Value)),Mem.k m'_1 b_1=some e)/\b≠b_1/\True)/\(∀(v:Value)(m':Mem) (css:List (List Value)) (tvs:List Value),R_2 v m' css tvs->Shape.fits Shape.slice v=true)/\∀(a:Option Addr) (n c
 : Nat) (m':Mem),Mem.le (Mem.off m'_1 Y) m'->(NewM m'_1 m' λ(b:Nat)=>Y b\/Mem.free m'_1 b)->R_2 (slice a n c) m' [] []->∃(R_3:RT),True/\CX Try.prog 45 (Array.mk [slice a n c,int i64 (↑p1n:Int)]) m'
 [] R_3/\Zar Shape.bool R_3/\∀(b_1:Bool)(m'_2:Mem),Mem.le m' m'_2->R_3 (bool b_1) m'_2 []->br (!b_1) (∃(m'':Mem),Mem.le m m''/\Mem.le m'' m'_2/\R (tuple (Array.mk [int i64 0,int i64 141])) m'' []) (∃
 (Y:Nat->Prop),∃(R_4:Value->Mem->List (List Value)->List Value->Prop),CXY Try.prog 46 (Array.mk [v,v_1,int i64 0,int i64 (↑p1n:Int)]) m'_2 Y [] [] R_4/\(∀(t:Tok),t∈[]->∀(b:Nat),Tok.blk t =
 some b->Y b)/\(∀(b_2:Nat),Y b_2->(∃(t:Tok),t∈[]/\Tok.blk t=some b_2)\/(Mem.free m b_2/\Mem.k m b_2=none)/\((∃(o:Nat),∃(v:Value),m'_2 b_2 o=some v)\/∃(e:List (Value×Value)),Mem.k
 m'_2 b_2=some e)/\b≠b_2/\True)/\(∀(v:Value)(m':Mem) (css:List (List Value)) (tvs:List Value),R_4 v m' css tvs->Shape.fits (Shape.int i64) v=true)/\∀(n:Int)(m':Mem),Mem.le (Mem.off m'_2 Y) m'
 -> (NewM m'_2 m' λ(b:Nat)=>Y b\/Mem.free m'_2 b)->R_4 (int i64 n) m' [] []->∃(m'':Mem),Mem.le m m''/\Mem.le m'' m'/\R (tuple (Array.mk [int i64 n,int i64 0])) m'' [])))
theorem ZjQ(aG aD aI aJ aK aE aH:Int)(aB:Option Addr)(aA aC:Nat)(p1a:Option Addr)(p1n p1c:Nat)(m:Mem)(R:RT)(h:ZgK aG aD aI aJ aK aE aH aB aA aC p1a p1n p1c m R):CX Try.prog 17 #[.agg #[.int .u8 aG,.int .u64 aD,.int .u64 aI,.int .u64 aJ,.int .u64 aK,.int .i64 aE,.int .i64 aH,.slice aB aA aC],.slice p1a p1n p1c] m [] R:=
 Zah (E:=ZlF) Zay mix Try.func17 [.v (.agg #[.int .u8 aG,.int .u64 aD,.int .u64 aI,.int .u64 aJ,.int .u64 aK,.int .i64 aE,.int .i64 aH,.slice aB aA aC]),.v (.slice p1a p1n p1c)] [] (by kernel_rfl) (Eq.mp (by kernel_rfl) h)
noncomputable def ZiN:Env:={ EB with
 loops:=(λi=>bif Nat.beq i 6 then⟨[(8,.slice),(25,.int .i64)],[],[(40,1)],false⟩ else⟨[],[],[],false⟩)
 tokOf:=(λi=>bif Nat.beq i 40 then 40 else 0)
 frzNew:=[2] }
def Ze1(aG aD aI aJ aK aE aH:Int)(aB:Option Addr)(aA aC:Nat)(p1a:Option Addr)(p1n p1c:Nat)(m:Mem)(R:RT):Prop:=
 ∀(b:Nat)(m':Mem),Mem.le m m'->Mem.reads m' b 0 [int u8 aG,int u64 aD,int u64 aI,int u64 aJ,int u64 aK,int i64 aE,int i64 aH,slice aB aA aC]->∃(R_1:RT),True/\CX Try.prog 15
 (Array.mk [agg (Array.mk [int u8 aG,int u64 aD,int u64 aI,int u64 aJ,int u64 aK,int i64 aE,int i64 aH,slice aB aA aC]),slice p1a p1n p1c]) m' [] R_1/\Zar (Shape.tup [Shape.slice,
 Shape.int i64]) R_1/\∀(a:Option Addr)(n c:Nat)(ai:Int)(ac:Mem),Mem.le m' ac->R_1 (tuple (Array.mk [slice a n c,int i64 ai])) ac []->br (!ai == (0:Int)) (∃(m'':Mem),Mem.le m m''/\Mem.le m'' ac/\R
 (tuple (Array.mk [slice none 0 0,int i64 ai])) m'' []) (∃(bs:ByteArray),ByteArray.size bs=p1n/\rowRd ac p1a (ZaM bs)/\∀(ad:Nat),Mem.free ac ad->∃(I:IT),(∃(n:Nat),I [slice (some (Addr.mk ad 0
 none)) 1 1,int i64 0] [] [slice none 0 0] (Mem.add ac ad [string bs]) n)/\∀(ae:Option Addr)(ab c:Nat)(af:Int)(ak:Option Addr)(al am:Nat)(m':Mem)(an:Nat),Mem.le (Mem.add ac ad [string bs]) m'->I
 [slice ae ab c,int i64 af] [] [slice ak al am] m' an->br (decide (af < (↑n:Int))) (∃(ao:Nat),∃(o:Nat),a=some (Addr.mk ao o none)/\Zaj af n/\∃(v:Value),∃(aa:Value),Mem.reads m' ao (o +
 Int.toNat af*2) [v,aa]/\∀(ap:Nat),chk (Value.oneCell' v&&(Value.oneCell' aa&&true)) (chk (ZaX i64 v&&decide (i64=i64)) (chk (ZaX i64 aa&&decide (i64=i64)) ((((0:Int)<=if(0:Int) >
 RowKit.intOf aa then(0:Int)else RowKit.intOf aa)/\(if(0:Int) > RowKit.intOf aa then(0:Int)else RowKit.intOf aa)<=(↑p1c:Int))/\(((0:Int)<=if(0:Int) > RowKit.intOf v then(0:Int)else RowKit.intOf
 v)/\(if(0:Int) > RowKit.intOf v then(0:Int)else RowKit.intOf v)<=(↑(Int.toNat (if(0:Int) > RowKit.intOf aa then(0:Int)else RowKit.intOf aa)):Int))/\∃(ag:ByteArray),ByteArray.size ag=Int.toNat
 (if(0:Int) > RowKit.intOf aa then(0:Int)else RowKit.intOf aa) - Int.toNat (if(0:Int) > RowKit.intOf v then(0:Int)else RowKit.intOf v)/\rowRd m' (ZaC p1a (Int.toNat (if(0:Int) > RowKit.intOf v then
 (0:Int)else RowKit.intOf v)) p1c 1) (ZaM ag)/\∀(ah:Nat),Mem.free m' ah->(Tok.mk (slice ak al am) 1=Tok.mk (slice ae ab c) 1\/slice ae ab c=slice none 0 0\/c < ab+1)/\∃(xs:List Value),∃(ys:
 List Value),List.length xs=ab*1/\List.length ys=1*1/\rowRd (Mem.add m' ah [string ag]) ae xs/\rowRd (Mem.add m' ah [string ag]) (some (Addr.mk ah 0 none)) ys/\(∀(u:Value),u∈ys->Value.oneCell' u =
 true)/\(ab+1)*16<=140737488355328/\ab+1<=9223372036854775807/\∀(a':Option Addr)(c':Nat)(aj:Mem),Mem.le (Mem.add m' ah [string ag]) aj->rowRd aj a' (List.append xs ys)->[some (Box.mk ad [string bs]
 9 1 true true),some (Box.mk b [int u8 aG,int u64 aD,int u64 aI,int u64 aJ,int u64 aK,int i64 aE,int i64 aH,slice aB aA aC] 29 8 true true)]=[some (Box.mk ad [string bs] 9 1 true true),
 some (Box.mk b [int u8 aG,int u64 aD,int u64 aI,int u64 aJ,int u64 aK,int i64 aE,int i64 aH,slice aB aA aC] 29 8 true true)]/\∃(n':Nat),n' < an/\I [slice a' (ab+1) c',int i64
 (IntKind.wrap i64 (af+(1:Int)))] [] [slice a' (ab+1) c'] aj n')))) (∃(m'':Mem),Mem.le m m''/\Mem.le m'' m'/\R (tuple (Array.mk [slice ae ab c,int i64 0])) m'' []))
theorem Zh3(aG aD aI aJ aK aE aH:Int)(aB:Option Addr)(aA aC:Nat)(p1a:Option Addr)(p1n p1c:Nat)(m:Mem)(R:RT)(h:Ze1 aG aD aI aJ aK aE aH aB aA aC p1a p1n p1c m R):CX Try.prog 16 #[.agg #[.int .u8 aG,.int .u64 aD,.int .u64 aI,.int .u64 aJ,.int .u64 aK,.int .i64 aE,.int .i64 aH,.slice aB aA aC],.slice p1a p1n p1c] m [] R:=
 Zah (E:=ZiN) Zay mix Try.func16 [.v (.agg #[.int .u8 aG,.int .u64 aD,.int .u64 aI,.int .u64 aJ,.int .u64 aK,.int .i64 aE,.int .i64 aH,.slice aB aA aC]),.v (.slice p1a p1n p1c)] [] (by kernel_rfl) (Eq.mp (by kernel_rfl) h)
end Go.Proofs.Ytgclajkldphoaaa