/- Part of the proof: conditions and contracts of functions of this program. No condition of its own. -/
import Derived.Test.YthiefodednaikaaPEnv
set_option linter.unusedVariables false
set_option linter.unusedSimpArgs false
set_option linter.unusedSectionVars false
namespace Go.Proofs.Ythiefodednaikaa
open Go Go.Eng Go.Proofs Go.RowKit
open Go.Value (int slice agg bool string tuple func)
open Go.IntKind (u8 u64 i64)
set_option maxRecDepth 100000
noncomputable def Zlz:Env:={ EB with
 loops:=(λi=>bif Nat.beq i 11 then⟨[(130,.int .i64)],[],[],false⟩ else bif Nat.beq i 19 then⟨[(169,.int .i64)],[],[],false⟩ else⟨[],[],[],false⟩)
 joins:=(λi=>bif Nat.beq i 14 then some [(155,.bool)]else bif Nat.beq i 22 then some [(185,.bool)]else none)
 dr:=(λi=>bif Nat.beq i 10 then[⟨0,[],[],none,[],[]⟩,⟨1,[],[],none,[0],[]⟩,⟨2,[],[],none,[0],[0]⟩,⟨3,[],[],none,[0,2],[]⟩,⟨4,[108],[108],none,[0,1,2,3],[2]⟩,⟨5,[],[],none,[],[]⟩,⟨6,[108],[],none,[0,1,2,3,4,5],[]⟩,⟨7,[],[],none,[0,2],[2]⟩,⟨8,[],[],none,[0,2,7],[]⟩,⟨9,[6],[],none,[],[]⟩,⟨10,[114],[114],none,[0,2,7,8,9],[7]⟩,⟨11,[],[],none,[],[]⟩,⟨12,[114],[],none,[0,2,7,8,9,10,11],[]⟩,⟨13,[],[],none,[0,2,7],[7]⟩,⟨14,[],[],none,[0,2,7,13],[]⟩,⟨15,[6],[],none,[],[]⟩,⟨16,[120],[120],none,[0,2,7,13,14,15],[13]⟩,⟨17,[],[],none,[],[]⟩,⟨18,[120],[],none,[0,2,7,13,14,15,16,17],[]⟩,⟨19,[1],[],none,[],[]⟩,⟨20,[],[],none,[19],[]⟩,⟨21,[125],[125],none,[19,20],[]⟩,⟨22,[],[],none,[],[]⟩,⟨23,[125],[],none,[19,20,21,22],[]⟩,⟨24,[128],[128],none,rg 0 24,[4,10,16,21]⟩,⟨25,[128],[],none,rg 0 25,[]⟩,⟨26,[],[],none,[],[]⟩]else[]) }
abbrev ZdT:Int->Int->Int->Int->Int->Int->Int->Option Addr->Nat->Nat->Int->Int->Int->Int->Int->Int->Int->Option Addr->Nat->Nat->List Value:=λ(n ah ai aj ak al am:Int) (a:Option
 Addr) (an c:Nat) (aa ab ac ad ae af ag:Int) (au:Option Addr) (ao ap:Nat)=>[bool false,bool false,int u8 n,int u64 ah,int u64 ai,int u64 aj,int u64 ak,int i64 al,int i64 am,slice a an c,bool false,
 bool false,int u8 aa,int u64 ab,int u64 ac,int u64 ad,int u64 ae,int i64 af,int i64 ag,slice au ao ap]
abbrev Zce:Int->Int->Int->Int->Int->Int->Int->Option Addr->Nat->Nat->Int->Int->Int->Int->Int->Int->Int->Option Addr->Nat->Nat->List Value:=λ(n ah ai aj ak al am:Int) (a:Option
 Addr) (an c:Nat) (aa ab ac ad ae af ag:Int) (au:Option Addr) (ao ap:Nat)=>[bool false,bool true,int u8 aa,int u64 ab,int u64 ac,int u64 ad,int u64 ae,int i64 af,int i64 ag,slice au ao ap,bool false,
 bool false,int u8 n,int u64 ah,int u64 ai,int u64 aj,int u64 ak,int i64 al,int i64 am,slice a an c]
abbrev Za5:Nat->Nat->Nat->Nat->List Value:=λ(b aq ar a9:Nat)=>[slice (some (Addr.mk b 0 none)) 2 2,string (ByteArray.mk (Array.mk [(97:UInt8),(98:UInt8),(99:UInt8)])),int i64 1,int
 i64 1,int i64 2,slice (some (Addr.mk aq 0 none)) 2 2,string (ByteArray.mk (Array.mk [(97:UInt8),(98:UInt8)])),int i64 0,int i64 1,int i64 2,slice (some (Addr.mk ar 0 none)) 2 2,string (ByteArray.mk
 (Array.mk [(97:UInt8),(98:UInt8),(99:UInt8)])),int i64 1,int i64 0,int i64 2,slice (some (Addr.mk a9 0 none)) 1 1,string (ByteArray.mk (Array.mk [(98:UInt8),(97:UInt8)])),int i64 0,int i64 0,int i64
 0]
abbrev ZjI:Nat->Nat->Nat->Nat->Int->Nat->Option Box:=λ(b aq ar a9:Nat)(n:Int)(a4:Nat)=>some (Box.mk a4 (List.take 5 (List.drop (Int.toNat n*5) (Za5 b aq ar a9))) 79 5 false
 true)
abbrev ZdU:Int->Int->Int->Int->Int->Int->Int->Option Addr->Nat->Nat->Int->Int->Int->Int->Int->Int->Int->Option Addr->Nat->Nat->Nat->Option Box:=λ(n ah ai aj ak al am:Int) (a:
 Option Addr) (an c:Nat) (aa ab ac ad ae af ag:Int) (au:Option Addr) (ao ap b:Nat)=>some (Box.mk b (ZdT n ah ai aj ak al am a an c aa ab ac ad ae af ag au ao ap) 37 20 true true)
abbrev ZbP:Int->Int->Int->Int->Int->Int->Int->Option Addr->Nat->Nat->Int->Int->Int->Int->Int->Int->Int->Option Addr->Nat->Nat->Nat->Option Box:=λ(n ah ai aj ak al am:Int) (a:
 Option Addr) (an c:Nat) (aa ab ac ad ae af ag:Int) (au:Option Addr) (ao ap b:Nat)=>some (Box.mk b (Zce n ah ai aj ak al am a an c aa ab ac ad ae af ag au ao ap) 37 20 true true)
abbrev ZdV:Int->Int->Int->Int->Int->Int->Int->Option Addr->Nat->Nat->Nat->Option Box:=λ(n ah ai aj ak al am:Int)(a:Option Addr)(an c b:Nat)=>some (Box.mk b [bool false,bool false,
 int u8 n,int u64 ah,int u64 ai,int u64 aj,int u64 ak,int i64 al,int i64 am,slice a an c] 37 10 true true)
abbrev ZdW:Nat->Nat->Nat->Nat->Nat->Option Box:=λ(b aq ar a9 a4:Nat)=>some (Box.mk a4 (Za5 b aq ar a9) 79 20 true true)
abbrev ZdX:Nat->Option Box:=λ(b:Nat)=>some (Box.mk b [int u8 120,int u8 97,int u8 98,int u8 99] 5 4 true true)
abbrev ZdY:Int->Int->Int->Int->Int->Int->Int->Option Addr->Nat->Nat->Nat->Option Box:=λ(n ah ai aj ak al am:Int)(a:Option Addr)(an c b:Nat)=>some (Box.mk b [bool false,bool false,
 int u8 n,int u64 ah,int u64 ai,int u64 aj,int u64 ak,int i64 al,int i64 am,slice a an c] 37 10 false true)
abbrev Zbt:Nat->Option Box:=λ(b:Nat)=>some (Box.mk b [int u8 98,int u8 97,int u8 97,int u8 98] 5 4 true true)
abbrev Zcu:Int->Int->Int->Int->Int->Int->Int->Option Addr->Nat->Nat->Nat->Option Box:=λ(n ah ai aj ak al am:Int)(a:Option Addr)(an c b:Nat)=>some (Box.mk b [int u8 n,int u64 ah,
 int u64 ai,int u64 aj,int u64 ak,int i64 al,int i64 am,slice a an c] 29 8 false true)
abbrev Zdk(n ah ai aj ak al am:Int)(a:Option Addr)(an c b aq ar:Nat)(aa ab ac ad ae af ag:Int)(au:Option Addr)(ao ap a9 a4 ds bc du bd:Nat)(dm dn dq av aw ax ay:Int)(f1:Option Addr)
 (az dp:Nat) (a0 a1 a2 dr dt dv dw:Int) (f2:Option Addr) (be a3 cj:Nat) (bf bg bh bi bj bk bl:Int) (f3:Option Addr) (bn bm a5:Nat) (bo bp bq bs bt bu bv:Int) (f4:Option Addr) (bx bw ck a6 dx:Nat) (cc
 : Int) (a7:Nat) (cd ce cf:Int) (a8:Nat):List (Option Box):=[some (Box.mk a8 [int i64 cd,int i64 ce,int i64 cf] 46 3 false true),ZjI cj a5 ck a6 cc a7,ZdU dm dn dq av aw ax ay f1 az dp
 a0 a1 a2 dr dt dv dw f2 be a3 cj,ZbP aa ab ac ad ae af ag au ao ap bf bg bh bi bj bk bl f3 bn bm a5,ZbP aa ab ac ad ae af ag au ao ap bo bp bq bs bt bu bv f4 bx bw ck,ZdV n ah ai aj
 ak al am a an c a6,ZdW cj a5 ck a6 dx,some (Box.mk bd [int i64 1,int i64 2,int i64 3] 3 3 true true),some (Box.mk du [int i64 1,int i64 2,int i64 3] 3 3 true true),ZdX bc,some (Box.mk ds
 [int u8 120,int u8 97,int u8 98] 5 3 true true),some (Box.mk a4 [int u8 120,int u8 97,int u8 98] 5 3 true true),ZdY aa ab ac ad ae af ag au ao ap a9,Zbt ar,Zbt aq,
 Zcu n ah ai aj ak al am a an c b]
abbrev ZiB(n ah ai aj ak al am:Int)(a:Option Addr)(an c b aq ar:Nat)(aa ab ac ad ae af ag:Int)(au:Option Addr)(ao ap a9 a4 ds bc du bd:Nat)(dm dn dq av aw ax ay:Int)(f1:Option Addr)
 (az dp:Nat) (a0 a1 a2 dr dt dv dw:Int) (f2:Option Addr) (be a3 cj:Nat) (bf bg bh bi bj bk bl:Int) (f3:Option Addr) (bn bm a5:Nat) (bo bp bq bs bt bu bv:Int) (f4:Option Addr) (bx bw ck a6 dx:Nat):
 List (Option Box):=[ZdU dm dn dq av aw ax ay f1 az dp a0 a1 a2 dr dt dv dw f2 be a3 cj,ZbP aa ab ac ad ae af ag au ao ap bf bg bh bi bj bk bl f3 bn bm a5,ZbP aa ab ac ad ae af ag au
 ao ap bo bp bq bs bt bu bv f4 bx bw ck,ZdV n ah ai aj ak al am a an c a6,ZdW cj a5 ck a6 dx,some (Box.mk bd [int i64 1,int i64 2,int i64 3] 3 3 true true),some (Box.mk du [int i64 1,int i64
 2,int i64 3] 3 3 true true),ZdX bc,some (Box.mk ds [int u8 120,int u8 97,int u8 98] 5 3 true true),some (Box.mk a4 [int u8 120,int u8 97,int u8 98] 5 3 true true),ZdY aa ab ac ad ae af ag
 au ao ap a9,Zbt ar,Zbt aq,Zcu n ah ai aj ak al am a an c b]
abbrev Zbe:Int->Int->Int->Int->Int->Int->Int->Option Addr->Nat->Nat->Int->Int->Int->Int->Int->Int->Int->Option Addr->Nat->Nat->List Value:=λ(n ah ai aj ak al am:Int) (a:Option
 Addr) (an c:Nat) (aa ab ac ad ae af ag:Int) (au:Option Addr) (ao ap:Nat)=>[int u8 n,int u64 ah,int u64 ai,int u64 aj,int u64 ak,int i64 al,int i64 am,slice a an c,int u8 aa,int u64 ab,int u64 ac,int
 u64 ad,int u64 ae,int i64 af,int i64 ag,slice au ao ap]
abbrev Zdl:Int->Int->Int->Int->Int->Int->Int->Option Addr->Nat->Nat->Int->Int->Int->Int->Int->Int->Int->Option Addr->Nat->Nat->Nat->Option Box:=λ(n ah ai aj ak al am:Int) (a:
 Option Addr) (an c:Nat) (aa ab ac ad ae af ag:Int) (au:Option Addr) (ao ap b:Nat)=>some (Box.mk b (Zbe n ah ai aj ak al am a an c aa ab ac ad ae af ag au ao ap) 29 16 true true)
abbrev Zdm(n ah ai aj ak al am:Int)(a:Option Addr)(an c b aq ar:Nat)(aa ab ac ad ae af ag:Int)(au:Option Addr)(ao ap a9 a4 ds bc du bd:Nat)(dm dn dq av aw ax ay:Int)(f1:Option Addr)
 (az dp:Nat) (a0 a1 a2 dr dt dv dw:Int) (f2:Option Addr) (be a3 cj:Nat) (bf bg bh bi bj bk bl:Int) (f3:Option Addr) (bn bm a5:Nat) (bo bp bq bs bt bu bv:Int) (f4:Option Addr) (bx bw ck a6 dx:Nat) (cc
 cd ce cf cl cm cn:Int) (f5:Option Addr) (cp co:Nat) (cq cr cs ct cu cv cw:Int) (gg:Option Addr) (bz cx a7:Nat) (f8 cg ch ci dc dy dz:Int) (gh:Option Addr) (d0 db:Nat) (d1 d2 d3 d4 d5 d6 d7:Int) (gi:
 Option Addr) (d8 ea:Nat) (d9 eb ec ed ee ef eg:Int) (f6:Option Addr) (eh ej a8:Nat) (ei ek el em en eo ep:Int) (gj:Option Addr) (eq es ba:Nat) (er et eu ev ew ex ey:Int) (gk:Option Addr) (ez e0 bb cz:
 Nat):List (Option Box):=[some (Box.mk cz [string (ByteArray.mk (Array.mk [(97:UInt8),(98:UInt8),(99:UInt8)])),string (ByteArray.mk (Array.mk [(97:UInt8),(99:UInt8)])),string (ByteArray.mk (Array.mk
 [(97:UInt8),(98:UInt8),(98:UInt8),(99:UInt8)]))] 9 3 true true),Zcu er et eu ev ew ex ey gk ez e0 bb,Zdl f8 cg ch ci dc dy dz gh d0 db ei ek el em en eo ep gj eq es ba,
 Zdl d1 d2 d3 d4 d5 d6 d7 gi d8 ea d9 eb ec ed ee ef eg f6 eh ej a8,Zdl cc cd ce cf cl cm cn f5 cp co cq cr cs ct cu cv cw gg bz cx a7,ZdU dm dn dq av aw ax ay f1 az dp a0 a1 a2 dr dt
 dv dw f2 be a3 cj,ZbP aa ab ac ad ae af ag au ao ap bf bg bh bi bj bk bl f3 bn bm a5,ZbP aa ab ac ad ae af ag au ao ap bo bp bq bs bt bu bv f4 bx bw ck,ZdV n ah ai aj ak al am a an c
 a6,ZdW cj a5 ck a6 dx,some (Box.mk bd [int i64 1,int i64 2,int i64 3] 3 3 true true),some (Box.mk du [int i64 1,int i64 2,int i64 3] 3 3 true true),ZdX bc,some (Box.mk ds [int u8 120,int
 u8 97,int u8 98] 5 3 true true),some (Box.mk a4 [int u8 120,int u8 97,int u8 98] 5 3 true true),ZdY aa ab ac ad ae af ag au ao ap a9,Zbt ar,Zbt aq,Zcu n ah ai aj ak
 al am a an c b]
def Zgi  (m:Mem)(R:RT):Prop:=
 ∃(R_1:RT),True/\CX Try.prog 35 (Array.mk [int u8 97]) m [] R_1/\Zaq (shT) R_1/\∀(n ah ai aj ak al am:Int)(a:Option Addr)(an c:Nat)(m':Mem),Mem.le m m'->R_1 (agg (Array.mk [int u8 n,int u64 ah,int
 u64 ai,int u64 aj,int u64 ak,int i64 al,int i64 am,slice a an c])) m' []->∃(R_2:RT),True/\CX Try.prog 38 (Array.mk [agg (Array.mk [int u8 n,int u64 ah,int u64 ai,int u64 aj,int u64 ak,int i64 al,int i64
 am,slice a an c])]) m' [] R_2/\Zaq (shT) R_2/\∀(n aa ab ac ad ae af:Int)(a:Option Addr)(ag c:Nat)(fl:Mem),Mem.le m' fl->R_2 (agg (Array.mk [int u8 n,int u64 aa,int u64 ab,int u64 ac,int u64 ad,int
 i64 ae,int i64 af,slice a ag c])) fl []->∀(b aq:Nat),Mem.free fl aq->∃(R_3:RT),True/\CX Try.prog 14 (Array.mk [agg (Array.mk [int u8 n,int u64 aa,int u64 ab,int u64 ac,int u64 ad,int i64 ae,int i64
 af,slice a ag c]),slice (some (Addr.mk aq 0 none)) 4 4,int i64 1]) (Mem.add fl aq [int u8 98,int u8 97,int u8 97,int u8 98]) [] R_3/\Zaq (Shape.tup [Shape.slice,Shape.int i64]) R_3/\∀(f5:Option Addr) (ao ap
 : Nat) (dm:Int) (m':Mem),Mem.le (Mem.add fl aq [int u8 98,int u8 97,int u8 97,int u8 98]) m'->R_3 (tuple (Array.mk [slice f5 ao ap,int i64 dm])) m' []->∀(ar:Nat),Mem.free m' ar->∃(R_4:RT),True/\CX
 Try.prog 15 (Array.mk [agg (Array.mk [int u8 n,int u64 aa,int u64 ab,int u64 ac,int u64 ad,int i64 ae,int i64 af,slice a ag c]),slice (some (Addr.mk ar 0 none)) 4 4,int i64 3]) (Mem.add m' ar [int u8 98,int u8
 97,int u8 97,int u8 98]) [] R_4/\Zaq (Shape.tup [Shape.slice,Shape.int i64]) R_4/\∀(f6:Option Addr)(dn dp:Nat)(dq:Int)(f7:Mem),Mem.le (Mem.add m' ar [int u8 98,int u8 97,int u8 97,int u8 98]) f7->
 R_4 (tuple (Array.mk [slice f6 dn dp,int i64 dq])) f7 []->∃(R_5:RT),True/\CX Try.prog 37 (Array.mk [string (ByteArray.mk (Array.mk [(97:UInt8),(98:UInt8)]))]) f7 [] R_5/\Zaq (shT) R_5/\∀(av aw ax ay az
 a0 a1:Int) (ca:Option Addr) (a2 a3:Nat) (m':Mem),Mem.le f7 m'->R_5 (agg (Array.mk [int u8 av,int u64 aw,int u64 ax,int u64 ay,int u64 az,int i64 a0,int i64 a1,slice ca a2 a3])) m' []->∀(a9 a4:Nat),
 Mem.free m' a4->∃(R_6:RT),True/\CX Try.prog 17 (Array.mk [agg (Array.mk [bool false,bool false,int u8 av,int u64 aw,int u64 ax,int u64 ay,int u64 az,int i64 a0,int i64 a1,slice ca a2 a3]),slice (some
 (Addr.mk a4 0 none)) 3 3,int i64 3]) (Mem.add m' a4 [int u8 120,int u8 97,int u8 98]) [] R_6/\Zaq (Shape.tup [Shape.int i64,Shape.bool,Shape.int i64]) R_6/\∀(dr:Int)(ds:Bool)(dt:Int)(fm:Mem),Mem.le
 (Mem.add m' a4 [int u8 120,int u8 97,int u8 98]) fm->R_6 (tuple (Array.mk [int i64 dr,bool ds,int i64 dt])) fm []->∀(bc:Nat),Mem.free fm bc->∃(R_7:RT),True/\CX Try.prog 16 (Array.mk [agg (Array.mk [bool
 true,bool false,int u8 av,int u64 aw,int u64 ax,int u64 ay,int u64 az,int i64 a0,int i64 a1,slice ca a2 a3]),slice (some (Addr.mk bc 0 none)) 3 3,int i64 3]) (Mem.add fm bc [int u8 120,int u8 97,int u8 98])
 [] R_7/\Zaq (Shape.tup [Shape.bool,Shape.int i64]) R_7/\∀(du:Bool)(dv:Int)(m':Mem),Mem.le (Mem.add fm bc [int u8 120,int u8 97,int u8 98]) m'->R_7 (tuple (Array.mk [bool du,int i64 dv])) m' []->∀(bd
 : Nat),Mem.free m' bd->∃(R_8:RT),True/\CX Try.prog 16 (Array.mk [agg (Array.mk [bool false,bool true,int u8 av,int u64 aw,int u64 ax,int u64 ay,int u64 az,int i64 a0,int i64 a1,slice ca a2 a3]),slice
 (some (Addr.mk bd 0 none)) 4 4,int i64 3]) (Mem.add m' bd [int u8 120,int u8 97,int u8 98,int u8 99]) [] R_8/\Zaq (Shape.tup [Shape.bool,Shape.int i64]) R_8/\∀(cj:Bool)(dw:Int)(e3:Mem),Mem.le (Mem.add
 m' bd [int u8 120,int u8 97,int u8 98,int u8 99]) e3->R_8 (tuple (Array.mk [bool cj,int i64 dw])) e3 []->br (!IntKind.wrap i64 (IntKind.wrap i64 (IntKind.wrap i64 (IntKind.wrap i64 (dm+dq)+dt)+dv)+dw) ==
 (0:Int)) (∃(m'':Mem),Mem.le m m''/\Mem.le m'' e3/\R (bool false) m'' []) (∀(a5:Nat),Mem.free e3 a5->∃(R_9:RT),True/\CX Try.prog 28 (Array.mk [slice f5 ao ap,slice (some (Addr.mk a5 0 none)) 3 3])
 (Mem.add e3 a5 [int i64 1,int i64 2,int i64 3]) [] R_9/\Zaq Shape.bool R_9/\∀(ck:Bool)(m':Mem),Mem.le (Mem.add e3 a5 [int i64 1,int i64 2,int i64 3]) m'->R_9 (bool ck) m' []->br (!ck) (∃(m'':Mem),
 Mem.le m m''/\Mem.le m'' m'/\R (bool false) m'' []) (∀(a6:Nat),Mem.free m' a6->∃(R_10:RT),True/\CX Try.prog 28 (Array.mk [slice f6 dn dp,slice (some (Addr.mk a6 0 none)) 3 3]) (Mem.add m' a6 [int i64 1,int
 i64 2,int i64 3]) [] R_10/\Zaq Shape.bool R_10/\∀(dx:Bool)(cb:Mem),Mem.le (Mem.add m' a6 [int i64 1,int i64 2,int i64 3]) cb->R_10 (bool dx) cb []->br (!dx) (∃(m'':Mem),Mem.le m m''/\Mem.le m'' cb/\
 R (bool false) m'' []) (br (!dr == (1:Int)) (∃(m'':Mem),Mem.le m m''/\Mem.le m'' cb/\R (bool false) m'' []) (br (!ds) (∃(m'':Mem),Mem.le m m''/\Mem.le m'' cb/\R (bool false) m'' []) (br du (∃(m'':Mem),
 Mem.le m m''/\Mem.le m'' cb/\R (bool false) m'' []) (br cj (∃(m'':Mem),Mem.le m m''/\Mem.le m'' cb/\R (bool false) m'' []) (∃(f:Fx),∃(R_11:RT),R_11=f 0 [string (ByteArray.mk (Array.mk [(98:UInt8),
 (99:UInt8)]))] cb/\CX Try.prog 37 (Array.mk [string (ByteArray.mk (Array.mk [(98:UInt8),(99:UInt8)]))]) cb [] R_11/\Zaq (shT) R_11/\∀(be bf bg bh bi bj bk:Int)(de:Option Addr)(bl bm:Nat)(m':Mem),
 Mem.le cb m'->R_11 (agg (Array.mk [int u8 be,int u64 bf,int u64 bg,int u64 bh,int u64 bi,int i64 bj,int i64 bk,slice de bl bm])) m' []->∃(R_12:RT),R_12=f 2 [int u8 98] m'/\CX Try.prog 35 (Array.mk [int
 u8 98]) m' [] R_12/\Zaq (shT) R_12/\∀(bn bo bp bq bs bt bu:Int)(df:Option Addr)(bv bw:Nat)(dj:Mem),Mem.le m' dj->R_12 (agg (Array.mk [int u8 bn,int u64 bo,int u64 bp,int u64 bq,int u64 bs,int i64
 bt,int i64 bu,slice df bv bw])) dj []->∀(a7:Nat),Mem.free dj a7->∃(R_13:RT),R_13=f 7 [int u8 98] dj/\CX Try.prog 35 (Array.mk [int u8 98]) dj [] R_13/\Zaq (shT) R_13/\∀(bx cc cd ce cf cl cm:Int) (dg
 : Option Addr) (cn co:Nat) (dk:Mem),Mem.le dj dk->R_13 (agg (Array.mk [int u8 bx,int u64 cc,int u64 cd,int u64 ce,int u64 cf,int i64 cl,int i64 cm,slice dg cn co])) dk []->∀(a8:Nat),Mem.free dk a8->∃
 (R_14:RT),R_14=f 13 [int u8 98] dk/\CX Try.prog 35 (Array.mk [int u8 98]) dk [] R_14/\Zaq (shT) R_14/\∀(cp cq cr cs ct cu cv:Int)(dh:Option Addr)(cw cx:Nat)(e4:Mem),Mem.le dk e4->R_14 (agg
 (Array.mk [int u8 cp,int u64 cq,int u64 cr,int u64 cs,int u64 ct,int i64 cu,int i64 cv,slice dh cw cx])) e4 []->∀(ba:Nat),Mem.free e4 ba->∀(bb:Nat),Mem.free cb bb->∀(V:Mem),Mem.le cb V->Mem.le
 (Mem.add dj a7 (ZdT be bf bg bh bi bj bk de bl bm bn bo bp bq bs bt bu df bv bw)) V->Mem.le (Mem.add dk a8 (Zce av aw ax ay az a0 a1 ca a2 a3 bx cc cd ce cf cl cm dg cn co)) V->Mem.le (Mem.add e4
 ba (Zce av aw ax ay az a0 a1 ca a2 a3 cp cq cr cs ct cu cv dh cw cx)) V->Mem.le (Mem.add cb bb [bool false,bool false,int u8 n,int u64 aa,int u64 ab,int u64 ac,int u64 ad,int i64 ae,int i64 af,slice
 a ag c]) V->∀(cz:Nat),Mem.free V cz->∀(M:Mem),Mem.le cb M->Mem.le m' M->Mem.le dj M->Mem.le (Mem.add dj a7 (ZdT be bf bg bh bi bj bk de bl bm bn bo bp bq bs bt bu df bv bw)) M->Mem.le dk M->
 Mem.le (Mem.add dk a8 (Zce av aw ax ay az a0 a1 ca a2 a3 bx cc cd ce cf cl cm dg cn co)) M->Mem.le e4 M->Mem.le (Mem.add e4 ba (Zce av aw ax ay az a0 a1 ca a2 a3 cp cq cr cs ct cu cv dh cw cx)) M
 -> Mem.le (Mem.add cb bb [bool false,bool false,int u8 n,int u64 aa,int u64 ab,int u64 ac,int u64 ad,int i64 ae,int i64 af,slice a ag c]) M->Mem.le (Mem.add V cz (Za5 a7 a8 ba bb)) M->∃(I:IT),(∃
 (n:Nat),I [int i64 0] [] [] M n)/\∀(bz:Int)(m':Mem)(f8:Nat),Mem.le M m'->I [int i64 bz] [] [] m' f8->br (decide (bz < (↑(4:Nat):Int))) (Zaf bz 4/\chk (Nat.ble (Int.toNat bz*5) (5+1+1+1 +
 1+1+1+1+1+1+1)) (∀(da:Nat),chk (Nat.beq (List.length (List.take 5 (List.drop (Int.toNat bz*5) (Za5 a7 a8 ba bb)))) 5&&Zcp (List.take 5 (List.drop (Int.toNat bz*5) (Za5 a7 a8
 ba bb)))) (Eng.Zty (List.take 5 (List.drop (Int.toNat bz*5) (Za5 a7 a8 ba bb))) 0 λ(v:Value)=>Eng.Zty (List.take 5 (List.drop (Int.toNat bz*5) (Za5 a7 a8 ba bb))) 1 λ(fn:Value)=>
 chk (ZnQ fn) (∀(cy db:Nat),Mem.free m' cy->ByteArray.size (Zco fn)<=db->∃(R_15:RT),True/\CX Try.prog 20 (Array.mk [v,slice (some (Addr.mk cy 0 none)) (ByteArray.size (Zco fn)) db]) (Mem.add m' cy
 (ZaP (Zco fn))) [] R_15/\Zaq (Shape.tup [Shape.agg [Shape.int i64,Shape.int i64,Shape.int i64],Shape.bool,Shape.int i64]) R_15/\∀(cg ch ci:Int)(di:Bool)(dc:Int)(dl:Mem),Mem.le (Mem.add m' cy
 (ZaP (Zco fn))) dl->R_15 (tuple (Array.mk [agg (Array.mk [int i64 cg,int i64 ch,int i64 ci]),bool di,int i64 dc])) dl []->∀(e1:Nat),∃(dd:Bool),chk (Nat.ble 5 (List.length (List.take 5 (List.drop
 (Int.toNat bz*5) (Za5 a7 a8 ba bb))))) (∃(e2:Bool),EqIs Try.prog 46 (agg (Array.mk [int i64 cg,int i64 ch,int i64 ci])) (agg (Array.mk (List.take 3 (List.drop 2 (List.take 5 (List.drop (Int.toNat bz *
 5) (Za5 a7 a8 ba bb))))))) e2/\br (!e2) (ZaM (Zdk n aa ab ac ad ae af a ag c b aq ar av aw ax ay az a0 a1 ca a2 a3 a9 a4 bc bd a5 a6 be bf bg bh bi bj bk de bl bm bn bo bp bq bs bt bu df bv bw
 a7 bx cc cd ce cf cl cm dg cn co a8 cp cq cr cs ct cu cv dh cw cx ba bb cz bz da cg ch ci e1)/\[bool true]=[bool dd]) (br (!di) (ZaM (Zdk n aa ab ac ad ae af a ag c b aq ar av aw ax ay az a0 a1 ca a2
 a3 a9 a4 bc bd a5 a6 be bf bg bh bi bj bk de bl bm bn bo bp bq bs bt bu df bv bw a7 bx cc cd ce cf cl cm dg cn co a8 cp cq cr cs ct cu cv dh cw cx ba bb cz bz da cg ch ci e1)/\[bool true]=[bool dd]) (ZaM
 (Zdk n aa ab ac ad ae af a ag c b aq ar av aw ax ay az a0 a1 ca a2 a3 a9 a4 bc bd a5 a6 be bf bg bh bi bj bk de bl bm bn bo bp bq bs bt bu df bv bw a7 bx cc cd ce cf cl cm dg cn co a8 cp cq cr cs ct cu cv dh
 cw cx ba bb cz bz da cg ch ci e1)/\[bool !dc == (0:Int)]=[bool dd])))/\br dd (∃(m'':Mem),Mem.le m m''/\Mem.le m'' dl/\R (bool false) m'' []) (ZaM (ZiB n aa ab ac ad ae af a ag c b aq ar av aw
 ax ay az a0 a1 ca a2 a3 a9 a4 bc bd a5 a6 be bf bg bh bi bj bk de bl bm bn bo bp bq bs bt bu df bv bw a7 bx cc cd ce cf cl cm dg cn co a8 cp cq cr cs ct cu cv dh cw cx ba bb cz)/\∃(n':Nat),n' < f8/\I [int i64
 (IntKind.wrap i64 (bz+(1:Int)))] [] [] dl n'))))) (∃(R_15:RT),True/\CX Try.prog 37 (Array.mk [string (ByteArray.mk (Array.mk [(97:UInt8),(98:UInt8)]))]) m' [] R_15/\Zaq (shT) R_15/\∀(cg ch ci dc dy dz
 d0:Int) (e5:Option Addr) (d1 db:Nat) (dl:Mem),Mem.le m' dl->R_15 (agg (Array.mk [int u8 cg,int u64 ch,int u64 ci,int u64 dc,int u64 dy,int i64 dz,int i64 d0,slice e5 d1 db])) dl []->∃(R_16:RT),True
 /\ CX Try.prog 35 (Array.mk [int u8 97]) dl [] R_16/\Zaq (shT) R_16/\∀(d2 d3 d4 d5 d6 d7 d8:Int)(e6:Option Addr)(d9 ea:Nat)(m':Mem),Mem.le dl m'->R_16 (agg (Array.mk [int u8 d2,int u64 d3,int u64 d4,
 int u64 d5,int u64 d6,int i64 d7,int i64 d8,slice e6 d9 ea])) m' []->∀(da:Nat),Mem.free m' da->∃(R_17:RT),True/\CX Try.prog 36 (Array.mk [slice (some (Addr.mk da 0 none)) 2 2]) (Mem.add m' da
 (Zbe cg ch ci dc dy dz d0 e5 d1 db d2 d3 d4 d5 d6 d7 d8 e6 d9 ea)) [] R_17/\Zaq (shT) R_17/\∀(eb ec ed ee ef eg eh:Int)(e7:Option Addr)(ei ej:Nat)(f9:Mem),Mem.le (Mem.add m' da
 (Zbe cg ch ci dc dy dz d0 e5 d1 db d2 d3 d4 d5 d6 d7 d8 e6 d9 ea)) f9->R_17 (agg (Array.mk [int u8 eb,int u64 ec,int u64 ed,int u64 ee,int u64 ef,int i64 eg,int i64 eh,slice e7 ei ej])) f9 []->∃
 (R_18:RT),True/\CX Try.prog 35 (Array.mk [int u8 99]) f9 [] R_18/\Zaq (shT) R_18/\∀(ek el em en eo ep eq:Int)(e8:Option Addr)(er es:Nat)(m':Mem),Mem.le f9 m'->R_18 (agg (Array.mk [int u8 ek,int u64
 el,int u64 em,int u64 en,int u64 eo,int i64 ep,int i64 eq,slice e8 er es])) m' []->∃(R_19:RT),True/\CX Try.prog 37 (Array.mk [string (ByteArray.mk (Array.mk [(98:UInt8),(99:UInt8)]))]) m' [] R_19/\Zaq
 (shT) R_19/\∀(et eu ev ew ex ey ez:Int)(e9:Option Addr)(fa e0:Nat)(fo:Mem),Mem.le m' fo->R_19 (agg (Array.mk [int u8 et,int u64 eu,int u64 ev,int u64 ew,int u64 ex,int i64 ey,int i64 ez,slice e9 fa
 e0])) fo []->∀(cy:Nat),Mem.free fo cy->∃(R_20:RT),True/\CX Try.prog 36 (Array.mk [slice (some (Addr.mk cy 0 none)) 2 2]) (Mem.add fo cy (Zbe ek el em en eo ep eq e8 er es et eu ev ew ex ey ez e9
 fa e0)) [] R_20/\Zaq (shT) R_20/\∀(fb fc fd fe ff fg fh:Int)(fi:Option Addr)(fj fk:Nat)(m':Mem),Mem.le (Mem.add fo cy (Zbe ek el em en eo ep eq e8 er es et eu ev ew ex ey ez e9 fa e0)) m'->
 R_20 (agg (Array.mk [int u8 fb,int u64 fc,int u64 fd,int u64 fe,int u64 ff,int i64 fg,int i64 fh,slice fi fj fk])) m' []->∀(di:Nat),Mem.free m' di->∃(R_21:RT),True/\CX Try.prog 13 (Array.mk [slice
 (some (Addr.mk di 0 none)) 2 2]) (Mem.add m' di (Zbe eb ec ed ee ef eg eh e7 ei ej fb fc fd fe ff fg fh fi fj fk)) [] R_21/\Zaq (shT) R_21/\∀(fp fq fr fs ft fu fv:Int)(fw:Option Addr)(fx fy:Nat)
 (fz:Mem),Mem.le (Mem.add m' di (Zbe eb ec ed ee ef eg eh e7 ei ej fb fc fd fe ff fg fh fi fj fk)) fz->R_21 (agg (Array.mk [int u8 fp,int u64 fq,int u64 fr,int u64 fs,int u64 ft,int i64 fu,int i64
 fv,slice fw fx fy])) fz []->∀(e1 dd:Nat),Mem.free fz dd->∃(I:IT),(∃(n:Nat),I [int i64 0] [] [] (Mem.add fz dd [string (ByteArray.mk (Array.mk [(97:UInt8),(98:UInt8),(99:UInt8)])),string
 (ByteArray.mk (Array.mk [(97:UInt8),(99:UInt8)])),string (ByteArray.mk (Array.mk [(97:UInt8),(98:UInt8),(98:UInt8),(99:UInt8)]))]) n)/\∀(f0:Int)(m':Mem)(gc:Nat),Mem.le (Mem.add fz dd [string
 (ByteArray.mk (Array.mk [(97:UInt8),(98:UInt8),(99:UInt8)])),string (ByteArray.mk (Array.mk [(97:UInt8),(99:UInt8)])),string (ByteArray.mk (Array.mk [(97:UInt8),(98:UInt8),(98:UInt8),(99:
 UInt8)]))]) m'->I [int i64 f0] [] [] m' gc->br (decide (f0 < (↑(3:Nat):Int))) (Zaf f0 3/\Eng.Zty [string (ByteArray.mk (Array.mk [(97:UInt8),(98:UInt8),(99:UInt8)])),string (ByteArray.mk (Array.mk
 [(97:UInt8),(99:UInt8)])),string (ByteArray.mk (Array.mk [(97:UInt8),(98:UInt8),(98:UInt8),(99:UInt8)]))] (Int.toNat f0*1) λ(v:Value)=>chk (ZnQ v) (∀(e2 gd:Nat),Mem.free m' e2->
 ByteArray.size (Zco v)<=gd->∃(R_22:RT),True/\CX Try.prog 19 (Array.mk [agg (Array.mk [int u8 fp,int u64 fq,int u64 fr,int u64 fs,int u64 ft,int i64 fu,int i64 fv,slice fw fx fy]),slice (some (Addr.mk e2
 0 none)) (ByteArray.size (Zco v)) gd]) (Mem.add m' e2 (ZaP (Zco v))) [] R_22/\Zaq (Shape.tup [Shape.bool,Shape.int i64]) R_22/\∀(ge:Bool)(gf:Int)(ga:Mem),Mem.le (Mem.add m' e2 (ZaP (Zco
 v))) ga->R_22 (tuple (Array.mk [bool ge,int i64 gf])) ga []->∃(gb:Bool),br (!ge) (ZaM (Zdm n aa ab ac ad ae af a ag c b aq ar av aw ax ay az a0 a1 ca a2 a3 a9 a4 bc bd a5 a6 be bf bg bh bi bj bk de
 bl bm bn bo bp bq bs bt bu df bv bw a7 bx cc cd ce cf cl cm dg cn co a8 cp cq cr cs ct cu cv dh cw cx ba bb cz cg ch ci dc dy dz d0 e5 d1 db d2 d3 d4 d5 d6 d7 d8 e6 d9 ea da eb ec ed ee ef eg eh e7 ei ej ek el em en eo
 ep eq e8 er es et eu ev ew ex ey ez e9 fa e0 cy fb fc fd fe ff fg fh fi fj fk di fp fq fr fs ft fu fv fw fx fy e1 dd)/\[bool true]=[bool gb]) (ZaM (Zdm n aa ab ac ad ae af a ag c b aq ar av aw ax ay az
 a0 a1 ca a2 a3 a9 a4 bc bd a5 a6 be bf bg bh bi bj bk de bl bm bn bo bp bq bs bt bu df bv bw a7 bx cc cd ce cf cl cm dg cn co a8 cp cq cr cs ct cu cv dh cw cx ba bb cz cg ch ci dc dy dz d0 e5 d1 db d2 d3 d4 d5 d6 d7 d8
 e6 d9 ea da eb ec ed ee ef eg eh e7 ei ej ek el em en eo ep eq e8 er es et eu ev ew ex ey ez e9 fa e0 cy fb fc fd fe ff fg fh fi fj fk di fp fq fr fs ft fu fv fw fx fy e1 dd)/\[bool !gf == (0:Int)]=[bool gb])/\br
 gb (∃(m'':Mem),Mem.le m m''/\Mem.le m'' ga/\R (bool false) m'' []) (ZaM (Zdm n aa ab ac ad ae af a ag c b aq ar av aw ax ay az a0 a1 ca a2 a3 a9 a4 bc bd a5 a6 be bf bg bh bi bj bk de bl bm bn bo bp
 bq bs bt bu df bv bw a7 bx cc cd ce cf cl cm dg cn co a8 cp cq cr cs ct cu cv dh cw cx ba bb cz cg ch ci dc dy dz d0 e5 d1 db d2 d3 d4 d5 d6 d7 d8 e6 d9 ea da eb ec ed ee ef eg eh e7 ei ej ek el em en eo ep eq e8 er es
 et eu ev ew ex ey ez e9 fa e0 cy fb fc fd fe ff fg fh fi fj fk di fp fq fr fs ft fu fv fw fx fy e1 dd)/\∃(n':Nat),n' < gc/\I [int i64 (IntKind.wrap i64 (f0+(1:Int)))] [] [] ga n'))) (∃(m'':Mem),Mem.le m
 m''/\Mem.le m'' m'/\R (bool true) m'' [])))))))))
theorem ZjJ  (m:Mem)(R:RT)(h:Zgi  m R):CX Try.prog 11 #[] m [] R:=
 Zae (E:=Zlz) Zax mix Try.func11 [] [] (by kernel_rfl) (Eq.mp (by kernel_rfl) h)
noncomputable def ZjK:Env:=EB
def Zfk(p0:Int)(m:Mem)(R:RT):Prop:=
 ∀(b b:Nat),(64:Int)≠(0:Int)/\(64:Int)≠(0:Int)/\(0:Int)<=Int.tmod p0 (64:Int)/\Zaf (IntKind.wrap u8 (Int.tdiv p0 (64:Int))) 4/\chk (Nat.ble (0+Int.toNat (IntKind.wrap u8 (Int.tdiv p0 (64
 : Int)))*1) (nat_lit 3)) (chk (Nat.beq (List.length (Zam [int u64 0,int u64 0,int u64 0,int u64 0] (0+Int.toNat (IntKind.wrap u8 (Int.tdiv p0 (64:Int)))*1) [int u64 (IntKind.wrap u64 ((1:Int)*(2:Int)
 ^ min (Int.toNat (Int.tmod p0 (64:Int))) 64))])) 4&&true) (chk (Nat.beq (List.length (List.append (Zam [int u64 0,int u64 0,int u64 0,int u64 0] (0+Int.toNat (IntKind.wrap u8 (Int.tdiv p0 (64:Int)))*1)
 [int u64 (IntKind.wrap u64 ((1:Int)*(2:Int) ^ min (Int.toNat (Int.tmod p0 (64:Int))) 64))]) (List.drop (1+List.length (Zam [int u64 0,int u64 0,int u64 0,int u64 0] (0+Int.toNat (IntKind.wrap u8
 (Int.tdiv p0 (64:Int)))*1) [int u64 (IntKind.wrap u64 ((1:Int)*(2:Int) ^ min (Int.toNat (Int.tmod p0 (64:Int))) 64))])) [int u8 2,int u64 0,int u64 0,int u64 0,int u64 0,int i64 0,int i64 0,slice none
 0 0]))) (nat_lit 7)&&Zcp (List.append (Zam [int u64 0,int u64 0,int u64 0,int u64 0] (0+Int.toNat (IntKind.wrap u8 (Int.tdiv p0 (64:Int)))*1) [int u64 (IntKind.wrap u64 ((1:Int)*(2:Int) ^ min
 (Int.toNat (Int.tmod p0 (64:Int))) 64))]) (List.drop (1+List.length (Zam [int u64 0,int u64 0,int u64 0,int u64 0] (0+Int.toNat (IntKind.wrap u8 (Int.tdiv p0 (64:Int)))*1) [int u64 (IntKind.wrap u64 ((1
 : Int)*(2:Int) ^ min (Int.toNat (Int.tmod p0 (64:Int))) 64))])) [int u8 2,int u64 0,int u64 0,int u64 0,int u64 0,int i64 0,int i64 0,slice none 0 0]))) (∃(m'':Mem),Mem.le m m''/\Mem.le m'' m/\R (agg
 (Array.mk (Zam [int u8 2,int u64 0,int u64 0,int u64 0,int u64 0,int i64 0,int i64 0,slice none 0 0] 1 (Zam [int u64 0,int u64 0,int u64 0,int u64 0] (0+Int.toNat (IntKind.wrap u8 (Int.tdiv p0 (64:
 Int)))*1) [int u64 (IntKind.wrap u64 ((1:Int)*(2:Int) ^ min (Int.toNat (Int.tmod p0 (64:Int))) 64))])))) m'' [])))
theorem ZiC(p0:Int)(m:Mem)(R:RT)(h:Zfk p0 m R):CX Try.prog 35 #[.int .u8 p0] m [] R:=
 Zae (E:=ZjK) Zax mix Try.func35 [.v (.int .u8 p0)] [] (by kernel_rfl) (Eq.mp (by kernel_rfl) h)
noncomputable def Zpu:Env:=EB
def ZiD(p0a:Option Addr)(p0n p0c:Nat)(m:Mem)(R:RT):Prop:=
 ∀(b:Nat),∃(m'':Mem),Mem.le m m''/\Mem.le m'' m/\R (agg (Array.mk [int u8 3,int u64 0,int u64 0,int u64 0,int u64 0,int i64 0,int i64 0,slice p0a p0n p0c])) m'' []
theorem Znx(p0a:Option Addr)(p0n p0c:Nat)(m:Mem)(R:RT)(h:ZiD p0a p0n p0c m R):CX Try.prog 13 #[.slice p0a p0n p0c] m [] R:=
 Zae (E:=Zpu) Zax mix Try.func13 [.v (.slice p0a p0n p0c)] [] (by kernel_rfl) (Eq.mp (by kernel_rfl) h)
noncomputable def Zpv:Env:=EB
def ZiE(p0a:Option Addr)(p0n p0c:Nat)(m:Mem)(R:RT):Prop:=
 ∀(b:Nat),∃(m'':Mem),Mem.le m m''/\Mem.le m'' m/\R (agg (Array.mk [int u8 4,int u64 0,int u64 0,int u64 0,int u64 0,int i64 0,int i64 0,slice p0a p0n p0c])) m'' []
theorem Zny(p0a:Option Addr)(p0n p0c:Nat)(m:Mem)(R:RT)(h:ZiE p0a p0n p0c m R):CX Try.prog 36 #[.slice p0a p0n p0c] m [] R:=
 Zae (E:=Zpv) Zax mix Try.func36 [.v (.slice p0a p0n p0c)] [] (by kernel_rfl) (Eq.mp (by kernel_rfl) h)
noncomputable def Znz:Env:={ EB with
 frzNew:=[1] }
def Zhw(aF aC aH aI aJ aE aG:Int)(aB:Option Addr)(aA aD:Nat)(m:Mem)(R:RT):Prop:=
 ∀(b:Nat)(m':Mem),Mem.le m m'->Mem.reads m' b 0 [int u8 aF,int u64 aC,int u64 aH,int u64 aI,int u64 aJ,int i64 aE,int i64 aG,slice aB aA aD]->∀(b b:Nat),Mem.free m' b->∃(m'':
 Mem),Mem.le m m''/\Mem.le m'' (Mem.add m' b [int u8 aF,int u64 aC,int u64 aH,int u64 aI,int u64 aJ,int i64 aE,int i64 aG,slice aB aA aD])/\R (agg (Array.mk [int u8 5,int u64 0,int u64
 0,int u64 0,int u64 0,int i64 0,int i64 (-1:Int),slice (some (Addr.mk b 0 none)) 1 1])) m'' []
theorem ZlA(aF aC aH aI aJ aE aG:Int)(aB:Option Addr)(aA aD:Nat)(m:Mem)(R:RT)(h:Zhw aF aC aH aI aJ aE aG aB aA aD m R):CX Try.prog 38 #[.agg #[.int .u8 aF,.int .u64 aC,.int .u64 aH,.int .u64 aI,.int .u64 aJ,.int .i64 aE,.int .i64 aG,.slice aB aA aD]] m [] R:=
 Zae (E:=Znz) Zax mix Try.func38 [.v (.agg #[.int .u8 aF,.int .u64 aC,.int .u64 aH,.int .u64 aI,.int .u64 aJ,.int .i64 aE,.int .i64 aG,.slice aB aA aD])] [] (by kernel_rfl) (Eq.mp (by kernel_rfl) h)
noncomputable def ZnA:Env:={ EB with
 loops:=(λi=>bif Nat.beq i 3 then⟨[(10,.int .i64)],[3],[(19,8)],false⟩ else⟨[],[],[],false⟩)
 dr:=(λi=>bif Nat.beq i 5 then[⟨0,[3],[],none,[],[]⟩,⟨1,[3],[],none,[0],[]⟩,⟨2,[],[],none,[],[]⟩,⟨3,[],[],none,[2],[]⟩,⟨4,[18],[18],none,[2,3],[3]⟩,⟨5,[18],[],some 19,[0,1,2,3,4],[4]⟩,⟨6,[3],[],none,[0,1,2,3,4,5],[]⟩,⟨7,[3],[3],none,[0,1,2,3,4,5,6],[]⟩]else[])
 tokOf:=(λi=>bif Nat.beq i 19 then 19 else 0) }
def Zhx(p0:ByteArray)(m:Mem)(R:RT):Prop:=
 ∀(b ap an c:Nat),Mem.free m an->ByteArray.size p0<=c->∃(I:IT),(∃(n:Nat),I [int i64 0] [[int u8 3,int u64 0,int u64 0,int u64 0,int u64 0,int i64 0,int i64 0,slice none 0 0]] [slice none 0 0]
 (Mem.add m an (ZaP p0)) n)/\∀(n:Int)(cs:List Value)(a:Option Addr)(aq c:Nat)(m':Mem)(ar:Nat),Mem.le (Mem.add m an (ZaP p0)) m'->I [int i64 n] [cs] [slice a aq c] m' ar->br (decide (n <
 (↑(ByteArray.size p0):Int))) (∃(au:Nat),∃(o:Nat),some (Addr.mk an 0 none)=some (Addr.mk au o none)/\Zaf n (ByteArray.size p0)/\∃(v:Value),m' au (o+Int.toNat n*1)=some v/\∃(f:Fx),Eng.Zty
 cs 7 λ(aa:Value)=>∃(R:RT),R=f 3 [v] m'/\CX Try.prog 35 (Array.mk [v]) m' [] R/\Zaq (shT) R/\∀(ad ae af ag ah ai aj:Int)(ak:Option Addr)(al am:Nat)(ab:Mem),Mem.le m' ab->R (agg (Array.mk
 [int u8 ad,int u64 ae,int u64 af,int u64 ag,int u64 ah,int i64 ai,int i64 aj,slice ak al am])) ab []->∀(ac:Nat),Mem.free ab ac->chk (Zcf aa&&true) ((Tok.mk (slice a aq c) 8=Tok.mk aa 8\/aa=slice
 none 0 0\/slC aa < slN aa+1)/\∃(xs:List Value),∃(ys:List Value),List.length xs=slN aa*8/\List.length ys=1*8/\rowRd (Mem.add ab ac [int u8 ad,int u64 ae,int u64 af,int u64 ag,int u64 ah,int i64
 ai,int i64 aj,slice ak al am]) (slA aa) xs/\rowRd (Mem.add ab ac [int u8 ad,int u64 ae,int u64 af,int u64 ag,int u64 ah,int i64 ai,int i64 aj,slice ak al am]) (some (Addr.mk ac 0 none)) ys/\(∀(u:Value),u
 ∈ ys->Value.oneCell' u=true)/\(slN aa+1)*80<=140737488355328/\slN aa+1<=9223372036854775807/\∀(a':Option Addr)(c':Nat)(ao:Mem),Mem.le (Mem.add ab ac [int u8 ad,int u64 ae,int u64 af,int u64
 ag,int u64 ah,int i64 ai,int i64 aj,slice ak al am]) ao->rowRd ao a' (List.append xs ys)->chk (Nat.ble 8 (List.length cs)) (∀(M:Mem),Mem.le m' M->Mem.le ab M->Mem.le (Mem.add ab ac [int u8 ad,int u64 ae,
 int u64 af,int u64 ag,int u64 ah,int i64 ai,int i64 aj,slice ak al am]) M->Mem.le ao M->[some (Box.mk ap [] 29 8 false true),some (Box.mk b [int u8 0,int u64 0,int u64 0,int u64 0,int u64 0,int i64 0,int
 i64 0,slice none 0 0] 29 8 false true)]=[some (Box.mk ap [] 29 8 false true),some (Box.mk b [int u8 0,int u64 0,int u64 0,int u64 0,int u64 0,int i64 0,int i64 0,slice none 0 0] 29 8 false true)]/\∃(n':
 Nat),n' < ar/\I [int i64 (IntKind.wrap i64 (n+(1:Int)))] [Zam cs 7 [slice a' (slN aa+1) c']] [slice a' (slN aa+1) c'] M n'))) (chk (Nat.beq (List.length cs) 8&&Zcp cs) (∃(m'':Mem),Mem.le m m''/\
 Mem.le m'' m'/\R (agg (Array.mk cs)) m'' []))
theorem ZlB(p0:ByteArray)(m:Mem)(R:RT)(h:Zhx p0 m R):CX Try.prog 37 #[.string p0] m [] R:=
 Zae (E:=ZnA) Zax mix Try.func37 [.v (.string p0)] [] (by kernel_rfl) (Eq.mp (by kernel_rfl) h)
end Go.Proofs.Ythiefodednaikaa