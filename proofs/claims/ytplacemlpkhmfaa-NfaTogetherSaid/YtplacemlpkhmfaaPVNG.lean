/- Part of the proof: conditions and contracts of functions of this program. No condition of its own. -/
import Derived.Test.YtplacemlpkhmfaaPEnv
set_option linter.unusedVariables false
namespace Go.Proofs.Ytplacemlpkhmfaa
open Go Go.Eng Go.Proofs Go.RowKit
open Go.Value (int slice agg)
open Go.IntKind (u8 u64 i64)
set_option maxRecDepth 100000
noncomputable def Zef:Env:={ EB with
 joins:=(fun i=>bif Nat.beq i 2 then some [(7,.bool)]else none)
 dr:=(fun i=>bif Nat.beq i 1 then[⟨0,[4],[],none,[],[]⟩,⟨1,[],[],none,[],[]⟩,⟨2,[],[],none,[],[]⟩,⟨3,[],[],none,[],[]⟩,⟨4,[],[],none,[1,2,3],[]⟩,⟨5,[],[],none,[0,1,2,3,4],[]⟩,⟨6,[],[],none,[0,1,2,3,4,5],[]⟩,⟨7,[],[],none,[0,1,2,3,4,5,6],[]⟩,⟨8,[],[],none,[0,1,2,3,4,5,6],[]⟩,⟨9,[],[],none,[0,1,2,3,4,5,6,7],[]⟩,⟨10,[],[],none,[0,1,2,3,4,5,6,7,8,9],[]⟩]else[])
 frzNew:=[4] }
def Zcl(aN:Option Addr)(aM aV:Nat)(aP:Option Addr)(aL aW:Nat)(aQ:Option Addr)(aO aU:Nat)(aR:Option Addr)(aS aT:Nat)(aC:Bool)(p1 p2:Int)(c0b c0o:Nat)(m:Mem)(R:RT):Prop:=
 ∀(b:Nat)(m':Mem),Mem.le m m'→Mem.reads m' b 0 [slice aN aM aV,slice aP aL aW,slice aQ aO aU,slice aR aS aT,Value.bool aC]→∃(f:Fx),∃(v:Value),m' c0b c0o=some
 v∧chk (Ze3 v) (((0:Int)≤p2∧p2≤(↑(slC v):Int))∧((0:Int)≤p1∧p1≤(↑(Int.toNat p2):Int))∧∃(R_1:RT),R_1=f 5 [agg (Array.mk [slice aN aM aV,slice aP aL aW,slice aQ aO
 aU,slice aR aS aT,Value.bool aC]),slice (Za3 (slA v) (Int.toNat p1) (slC v) 1) (Int.toNat p2 - Int.toNat p1) (slC v - Int.toNat p1)] m'∧CX Try.prog 18 (Array.mk [agg (Array.mk [slice aN aM
 aV,slice aP aL aW,slice aQ aO aU,slice aR aS aT,Value.bool aC]),slice (Za3 (slA v) (Int.toNat p1) (slC v) 1) (Int.toNat p2 - Int.toNat p1) (slC v - Int.toNat p1)]) m' [] R_1∧
 ZaH (Shape.tup [Shape.bool,Shape.int i64]) R_1∧∀(b_1:Bool)(n:Int)(m'_1:Mem),Mem.le m' m'_1→R_1 (Value.tuple (Array.mk [Value.bool b_1,int i64 n])) m'_1 []→∀(M:Mem),Mem.le m' M→Mem.le m'_1 M→∃
 (b_2:Bool),br b_1 ([some (Box.mk b [slice aN aM aV,slice aP aL aW,slice aQ aO aU,slice aR aS aT,Value.bool aC] 26 5 true true)]=[some (Box.mk b [slice aN aM aV,
 slice aP aL aW,slice aQ aO aU,slice aR aS aT,Value.bool aC] 26 5 true true)]∧[Value.bool (n == (0:Int))]=[Value.bool b_2]) ([some (Box.mk b [slice aN aM aV,slice aP
 aL aW,slice aQ aO aU,slice aR aS aT,Value.bool aC] 26 5 true true)]=[some (Box.mk b [slice aN aM aV,slice aP aL aW,slice aQ aO aU,slice aR aS aT,
 Value.bool aC] 26 5 true true)]∧[Value.bool false]=[Value.bool b_2])∧∃(m'':Mem),Mem.le m m''∧Mem.le m'' M∧R (Value.bool b_2) m'' [])
theorem ZdH(aN:Option Addr)(aM aV:Nat)(aP:Option Addr)(aL aW:Nat)(aQ:Option Addr)(aO aU:Nat)(aR:Option Addr)(aS aT:Nat)(aC:Bool)(p1 p2:Int)(c0b c0o:Nat)(m:Mem)(R:RT)(h:Zcl aN aM aV aP aL aW aQ aO aU aR aS aT aC p1 p2 c0b c0o m R):CX Try.prog 31 #[.agg #[.slice aN aM aV,.slice aP aL aW,.slice aQ aO aU,.slice aR aS aT,.bool aC],.int .i64 p1,.int .i64 p2,.pointer (some ⟨c0b,c0o,none⟩)] m [] R:=
 Zaj (E:=Zef) ZaE mix Try.func31 [.v (.agg #[.slice aN aM aV,.slice aP aL aW,.slice aQ aO aU,.slice aR aS aT,.bool aC]),.v (.int .i64 p1),.v (.int .i64 p2),.v (.pointer (some ⟨c0b,c0o,none⟩))] [] (by kernel_rfl) (Eq.mp (by kernel_rfl) h)
noncomputable def Zfr:Env:={ EB with
 loops:=(fun i=>bif Nat.beq i 12 then⟨[(14,.bool),(53,.int .i64)],[],[],false⟩ else bif Nat.beq i 19 then⟨[(80,.int .i64)],[75],[],false⟩ else bif Nat.beq i 22 then⟨[(18,.int .i64)],[75],[],false⟩ else bif Nat.beq i 28 then⟨[(121,.int .i64)],[],[],false⟩ else⟨[],[],[],false⟩)
 joins:=(fun i=>bif Nat.beq i 14 then some [(14,.bool)]else bif Nat.beq i 22 then some [(95,.bool)]else bif Nat.beq i 33 then some [(173,.bool)]else none)
 dr:=(fun i=>bif Nat.beq i 27 then[⟨0,[7],[],none,[],[]⟩,⟨1,[8],[],none,[],[]⟩,⟨2,[109],[109],none,[0,1],[]⟩,⟨3,[109],[109],none,[0,1,2],[2]⟩,⟨4,[7],[],none,[],[]⟩,⟨5,[8],[],none,[],[]⟩,⟨6,[113],[113],none,[4,5],[]⟩,⟨7,[113],[113],none,[0,1,2,3,4,5,6],[3,6]⟩,⟨8,[7],[],none,[],[]⟩,⟨9,[],[],none,[0,1,2,3,4,5,6,7,8],[7]⟩,⟨10,[7],[],none,[],[]⟩,⟨11,[],[],none,[0,1,2,3,4,5,6,7,8,9,10],[9]⟩,⟨12,[119],[119],none,[0,1,2,3,4,5,6,7,8,9,10,11],[11]⟩,⟨13,[119],[],none,[0,1,2,3,4,5,6,7,8,9,10,11,12],[]⟩,⟨14,[],[],none,[],[]⟩]else bif Nat.beq i 32 then[⟨0,[],[],none,[],[]⟩,⟨1,[9],[],none,[],[]⟩,⟨2,[5],[],none,[],[]⟩,⟨3,[],[],none,[2],[]⟩,⟨4,[],[],none,[0,1,2,3],[]⟩,⟨5,[],[],none,[0,1,2,3,4],[]⟩,⟨6,[],[],none,[0,1,2,3,4,5],[]⟩,⟨7,[11],[],none,[0,1,2,3,4,5],[4]⟩,⟨8,[5],[],none,[0,1,2,3,4,5],[4]⟩,⟨9,[],[],none,[0,1,2,3,4,5,8],[]⟩,⟨10,[],[],none,[0,1,2,3,4,5,6,7,8,9],[4]⟩,⟨11,[],[],none,[0,1,2,3,4,5,6,7,8,9,10],[]⟩,⟨12,[],[],none,[],[]⟩,⟨13,[75],[],none,[],[]⟩,⟨14,[5],[],none,[],[]⟩,⟨15,[],[],none,[14],[]⟩,⟨16,[75],[],none,[13,14,15],[]⟩,⟨17,[75],[],none,[13,14,15,16],[]⟩,⟨18,[],[],none,[13,14,15,16,17],[]⟩,⟨19,[],[],none,[],[]⟩,⟨20,[9],[],none,[],[]⟩,⟨21,[5],[],none,[],[]⟩,⟨22,[],[],none,[21],[]⟩,⟨23,[],[],none,[0,1,2,3,4,5,6,7,8,9,10,19,20,21,22],[10]⟩,⟨24,[159],[159],none,[0,1,2,3,4,5,6,7,8,9,10,11,12,13,14,15,16,17,18,19,20,21,22,23],[23]⟩,⟨25,[],[],none,[],[]⟩,⟨26,[159],[],none,[0,1,2,3,4,5,6,7,8,9,10,11,12,13,14,15,16,17,18,19,20,21,22,23,24,25],[]⟩,⟨27,[159],[],none,[0,1,2,3,4,5,6,7,8,9,10,11,12,13,14,15,16,17,18,19,20,21,22,23,24,25,26],[24]⟩,⟨28,[],[],none,[0,1,2,3,4,5,6,7,8,9,10,11,12,13,14,15,16,17,18,19,20,21,22,23,24,25,26,27],[]⟩]else[])
 frzAt:=(fun i=>bif Nat.beq i 42 then[5]else[])
 gb:=true
 cuts:=(fun i=>bif Nat.beq i 18 then some ⟨[],[75],[],false⟩ else none) }
abbrev Zap:Option Addr→Nat→Nat→Option Addr→Nat→Nat→Option Addr→Nat→Nat→Option Addr→Nat→Nat→Bool→Nat→Option Box:=fun(a:Option Addr)(n c:Nat)(bh:Option Addr) (aa
 ah:Nat) (dd:Option Addr) (ab aq:Nat) (au:Option Addr) (ac ar:Nat) (b:Bool) (cz:Nat)=>some (Box.mk cz [slice a n c,slice bh aa ah,slice dd ab aq,slice au ac ar,Value.bool b] 26 5 false true)
abbrev Zar:Int→Int→Int→Int→Int→Int→Int→Option Addr→Nat→Nat→Nat→Option Box:=fun(n aa ab ac ad ae af:Int)(a:Option Addr)(ag c b:Nat)=>some (Box.mk b [int u8 n,int u64
 aa,int u64 ab,int u64 ac,int u64 ad,int i64 ae,int i64 af,slice a ag c] 41 8 false true)
abbrev Zbn:Option Addr→Nat→Nat→Nat→Int→Int→Int→Int→Int→Int→Int→Option Addr→Nat→Nat→Int→Int→Int→Int→Int→Int→Int→Option Addr→Nat→Nat→Nat→Nat→Option
 Addr→Nat→Nat→Option Addr→Nat→Nat→Option Addr→Nat→Nat→Option Addr→Nat→Nat→Bool→Nat→Option Addr→Nat→Nat→Option Addr→Nat→Nat→Option Addr→Nat→Nat→Option Addr→Nat→Nat→Bool
 → Nat→List (Option Box):=fun(p2a:Option Addr)(p2n p2c b:Nat)(n aa ab ac ad ae af:Int)(a:Option Addr)(ag c:Nat)(ai aj ak al am an ao:Int)(bh:Option Addr)(ap ah cz bb:Nat)(dd:Option Addr)
 (av aq:Nat) (au:Option Addr) (aw ar:Nat) (d2:Option Addr) (ax a5:Nat) (d3:Option Addr) (ay a7:Nat) (bi:Bool) (a8:Nat) (a2:Option Addr) (da bc:Nat) (a3:Option Addr) (az bd:Nat) (a4:Option
 Addr) (a0 be:Nat) (a6:Option Addr) (a1 bf:Nat) (bk:Bool) (bg:Nat)=>[Zap a2 da bc a3 az bd a4 a0 be a6 a1 bf bk bg,Zap dd av aq au aw ar d2 ax a5 d3 ay a7 bi a8,
 Zar ai aj ak al am an ao bh ap ah bb,Zar n aa ab ac ad ae af a ag c cz,some (Box.mk b [slice (Za3 p2a 0 p2c 1) (Int.toNat (if(12:Int) < (↑p2n:Int)then(12:Int)else(↑p2n:
 Int)) - 0) (p2c - 0)] 30 1 true true)]
abbrev ZaX:Option Addr→Nat→Nat→Nat→Int→Int→Int→Int→Int→Int→Int→Option Addr→Nat→Nat→Int→Int→Int→Int→Int→Int→Int→Option Addr→Nat→Nat→Nat→Nat→Option
 Addr→Nat→Nat→Option Addr→Nat→Nat→Option Addr→Nat→Nat→Option Addr→Nat→Nat→Bool→Nat→Option Addr→Nat→Nat→Option Addr→Nat→Nat→Option Addr→Nat→Nat→Option Addr→Nat→Nat→Bool
 → Nat→Nat→List (Option Box):=fun(p2a:Option Addr)(p2n p2c b:Nat)(n aa ab ac ad ae af:Int)(a:Option Addr)(ag c:Nat)(ai aj ak al am an ao:Int)(bh:Option Addr)(ap ah cz bb:Nat) (dd:Option
 Addr) (av aq:Nat) (au:Option Addr) (aw ar:Nat) (d2:Option Addr) (ax a5:Nat) (d3:Option Addr) (ay a7:Nat) (bi:Bool) (a8:Nat) (a2:Option Addr) (da bc:Nat) (a3:Option Addr) (az bd:Nat) (a4:
 Option Addr) (a0 be:Nat) (a6:Option Addr) (a1 bf:Nat) (bk:Bool) (bg bl:Nat)=>[some (Box.mk bl [] 3 (Int.toNat (IntKind.wrap i64 ((↑(Int.toNat (if(12:Int) < (↑p2n:Int)then(12:Int)else(↑p2n:Int))
 - 0):Int)+(1:Int)))*1) false true),Zap a2 da bc a3 az bd a4 a0 be a6 a1 bf bk bg,Zap dd av aq au aw ar d2 ax a5 d3 ay a7 bi a8,Zar ai aj ak al am an ao bh ap
 ah bb,Zar n aa ab ac ad ae af a ag c cz,some (Box.mk b [slice (Za3 p2a 0 p2c 1) (Int.toNat (if(12:Int) < (↑p2n:Int)then(12:Int)else(↑p2n:Int)) - 0) (p2c - 0)] 30 1 true true)]
abbrev Zbo:Nat→Nat→List Value→Option Box:=fun(p2n b:Nat)(cs:List Value)=>some (Box.mk b cs 3 (Int.toNat (IntKind.wrap i64 ((↑(Int.toNat (if(12:Int) < (↑p2n:Int)then(12:Int)
 else(↑p2n:Int)) - 0):Int)+(1:Int)))*1) false true)
abbrev ZcK:Option Addr→Nat→Nat→Nat→Int→Int→Int→Int→Int→Int→Int→Option Addr→Nat→Nat→Int→Int→Int→Int→Int→Int→Int→Option Addr→Nat→Nat→Nat→Nat→Option
 Addr→Nat→Nat→Option Addr→Nat→Nat→Option Addr→Nat→Nat→Option Addr→Nat→Nat→Bool→Nat→Option Addr→Nat→Nat→Option Addr→Nat→Nat→Option Addr→Nat→Nat→Option Addr→Nat→Nat→Bool
 → Nat→Nat→List Value→List (Option Box):=fun(p2a:Option Addr)(p2n p2c b:Nat)(n aa ab ac ad ae af:Int)(a:Option Addr)(ag c:Nat)(ai aj ak al am an ao:Int)(bh:Option Addr)(ap ah cz bb:Nat)
 (dd:Option Addr) (av aq:Nat) (au:Option Addr) (aw ar:Nat) (d2:Option Addr) (ax a5:Nat) (d3:Option Addr) (ay a7:Nat) (bi:Bool) (a8:Nat) (a2:Option Addr) (da bc:Nat) (a3:Option Addr) (az bd:
 Nat) (a4:Option Addr) (a0 be:Nat) (a6:Option Addr) (a1 bf:Nat) (bk:Bool) (bg bl:Nat) (cs:List Value)=>[Zbo p2n bl cs,Zap a2 da bc a3 az bd a4 a0 be a6 a1 bf bk bg,
 Zap dd av aq au aw ar d2 ax a5 d3 ay a7 bi a8,Zar ai aj ak al am an ao bh ap ah bb,Zar n aa ab ac ad ae af a ag c cz,some (Box.mk b [slice (Za3 p2a 0 p2c 1)
 (Int.toNat (if(12:Int) < (↑p2n:Int)then(12:Int)else(↑p2n:Int)) - 0) (p2c - 0)] 30 1 true true)]
abbrev ZaP:Int→Int→Int→Int→Int→Int→Int→Option Addr→Nat→Nat→Int→Int→Int→Int→Int→Int→Int→Option Addr→Nat→Nat→List Value:=fun(n aa ab ac ad ae af:Int) (a:
 Option Addr) (ag c:Nat) (ai aj ak al am an ao:Int) (bh:Option Addr) (ap ah:Nat)=>[int u8 n,int u64 aa,int u64 ab,int u64 ac,int u64 ad,int i64 ae,int i64 af,slice a ag c,int u8 ai,int u64 aj,int u64
 ak,int u64 al,int u64 am,int i64 an,int i64 ao,slice bh ap ah]
abbrev ZaD:Int→Int→Int→Int→Int→Int→Int→Option Addr→Nat→Nat→Int→Int→Int→Int→Int→Int→Int→Option Addr→Nat→Nat→Int→Int→Int→Int→Int→Int→Int→Option Addr
 → Nat→Nat→Int→Int→Int→Int→Int→Int→Int→Option Addr→Nat→Nat→List Value:=fun(n aa ab ac ad ae af:Int)(a:Option Addr)(ag c:Nat)(ai aj ak al am an ao:Int)(bh:Option Addr) (ap ah:
 Nat) (av aw ax ay da az a0:Int) (dd:Option Addr) (a1 aq:Nat) (ba dk dc dl cy dm a9:Int) (au:Option Addr) (bj ar:Nat)=>[int u8 n,int u64 aa,int u64 ab,int u64 ac,int u64 ad,int i64 ae,int i64 af,
 slice a ag c,int u8 ai,int u64 aj,int u64 ak,int u64 al,int u64 am,int i64 an,int i64 ao,slice bh ap ah,int u8 av,int u64 aw,int u64 ax,int u64 ay,int u64 da,int i64 az,int i64 a0,slice dd a1 aq,int u8
 ba,int u64 dk,int u64 dc,int u64 dl,int u64 cy,int i64 dm,int i64 a9,slice au bj ar]
abbrev Zas:Int→Int→Int→Int→Int→Int→Int→Option Addr→Nat→Nat→Int→Int→Int→Int→Int→Int→Int→Option Addr→Nat→Nat→Nat→Option Box:=fun(n aa ab ac ad ae af:Int)
 (a:Option Addr) (ag c:Nat) (ai aj ak al am an ao:Int) (bh:Option Addr) (ap ah b:Nat)=>some (Box.mk b (ZaP n aa ab ac ad ae af a ag c ai aj ak al am an ao bh ap ah) 41 16 true true)
abbrev Zb1:Int→Int→Int→Int→Int→Int→Int→Option Addr→Nat→Nat→Int→Int→Int→Int→Int→Int→Int→Option Addr→Nat→Nat→Int→Int→Int→Int→Int→Int→Int→Option Addr
 → Nat→Nat→Int→Int→Int→Int→Int→Int→Int→Option Addr→Nat→Nat→Nat→Option Box:=fun(n aa ab ac ad ae af:Int)(a:Option Addr)(ag c:Nat)(ai aj ak al am an ao:Int)(bh:Option Addr) (ap ah
 : Nat) (av aw ax ay da az a0:Int) (dd:Option Addr) (a1 aq:Nat) (ba dk dc dl cy dm a9:Int) (au:Option Addr) (bj ar b:Nat)=>some (Box.mk b (ZaD n aa ab ac ad ae af a ag c ai aj ak al am an
 ao bh ap ah av aw ax ay da az a0 dd a1 aq ba dk dc dl cy dm a9 au bj ar) 41 32 true true)
abbrev ZbP(p2a:Option Addr)(p2n p2c b:Nat)(n aa ab ac ad ae af:Int)(a:Option Addr)(ag c:Nat)(ai aj ak al am an ao:Int)(bh:Option Addr)(ap ah cz bb:Nat)(dd:Option Addr)(av aq
 : Nat) (au:Option Addr) (aw ar:Nat) (d2:Option Addr) (ax a5:Nat) (d3:Option Addr) (ay a7:Nat) (bi:Bool) (a8:Nat) (a2:Option Addr) (da bc:Nat) (a3:Option Addr) (az bd:Nat) (a4:Option Addr) (a0
 be:Nat) (a6:Option Addr) (a1 bf:Nat) (bk:Bool) (bg bl:Nat) (cs:List Value) (dj:Nat) (ba dk dc dl cy dm a9:Int) (ei:Option Addr) (bj cb bm:Nat) (bt bv bw bx bz ca cc:Int) (ej:Option Addr) (cd ck:
 Nat) (ce cf cg ch ci cj cl:Int) (ek:Option Addr) (cm cu:Nat) (cn co cp cq cr ct cv:Int) (el:Option Addr) (cw cx bn:Nat):List (Option Box):=[Zas n aa ab ac ad ae af a ag c ai aj ak al am
 an ao bh ap ah dj,Zas n aa ab ac ad ae af a ag c ai aj ak al am an ao bh ap ah dj,Zas n aa ab ac ad ae af a ag c ai aj ak al am an ao bh ap ah bm,Zas n aa ab ac ad
 ae af a ag c ai aj ak al am an ao bh ap ah bm,Zb1 ba dk dc dl cy dm a9 ei bj cb bt bv bw bx bz ca cc ej cd ck ce cf cg ch ci cj cl ek cm cu cn co cp cq cr ct cv el cw cx bn,Zbo p2n bl
 cs,Zap a2 da bc a3 az bd a4 a0 be a6 a1 bf bk bg,Zap dd av aq au aw ar d2 ax a5 d3 ay a7 bi a8,Zar ai aj ak al am an ao bh ap ah bb,Zar n aa ab ac
 ad ae af a ag c cz,some (Box.mk b [slice (Za3 p2a 0 p2c 1) (Int.toNat (if(12:Int) < (↑p2n:Int)then(12:Int)else(↑p2n:Int)) - 0) (p2c - 0)] 30 1 true true)]
abbrev Zeg:Bool→Value→Bool→Nat→Option Box:=fun(b:Bool)(v:Value)(cz:Bool)(bb:Nat)=>some (Box.mk bb [Value.bool true,Value.bool b,Value.bool (RowKit.intOf v == (1:Int)),
 Value.bool cz] 4 4 true true)
abbrev Zct:Int→Int→Int→Int→Int→Int→Int→Option Addr→Nat→Nat→Int→Int→Int→Int→Int→Int→Int→Option Addr→Nat→Nat→Int→Int→Int→Int→Int→Int→Int→Option
 Addr→Nat→Nat→Int→Int→Int→Int→Int→Int→Int→Option Addr→Nat→Nat→Int→Nat→Option Box:=fun(n aa ab ac ad ae af:Int)(a:Option Addr)(ag c:Nat)(ai aj ak al am an ao:Int) (bh:Option
 Addr) (ap ah:Nat) (av aw ax ay da az a0:Int) (dd:Option Addr) (a1 aq:Nat) (ba dk dc dl cy dm a9:Int) (au:Option Addr) (bj ar:Nat) (bt:Int) (b:Nat)=>some (Box.mk b (List.take 8 (List.drop (Int.toNat
 bt*8) (ZaD n aa ab ac ad ae af a ag c ai aj ak al am an ao bh ap ah av aw ax ay da az a0 dd a1 aq ba dk dc dl cy dm a9 au bj ar))) 41 8 false true)
abbrev Zcu(p2a:Option Addr)(p2n p2c b:Nat)(n aa ab ac ad ae af:Int)(a:Option Addr)(ag c:Nat)(ai aj ak al am an ao:Int)(bh:Option Addr)(ap ah cz bb:Nat)(dd:Option Addr)(av aq
 : Nat) (au:Option Addr) (aw ar:Nat) (d2:Option Addr) (ax a5:Nat) (d3:Option Addr) (ay a7:Nat) (bi:Bool) (a8:Nat) (a2:Option Addr) (da bc:Nat) (a3:Option Addr) (az bd:Nat) (a4:Option Addr) (a0
 be:Nat) (a6:Option Addr) (a1 bf:Nat) (bk:Bool) (bg:Nat) (bl:Bool) (dj:Nat) (cs:List Value) (bm:Nat) (ba dk dc dl cy dm a9:Int) (ei:Option Addr) (bj cb bn:Nat) (bt bv bw bx bz ca cc:Int) (ej:
 Option Addr) (cd ck:Nat) (ce cf cg ch ci cj cl:Int) (ek:Option Addr) (cm cu:Nat) (cn co cp cq cr ct cv:Int) (el:Option Addr) (cw cx bu:Nat) (de:Int) (dt:Nat) (bo:Option Addr) (df dw:Nat) (bp:
 Option Addr) (dg dx:Nat) (bq:Option Addr) (dh dy:Nat) (bs:Option Addr) (di dz:Nat) (d7:Bool) (d0:Nat) (v:Value) (d8:Bool) (eo:Nat):List (Option Box):=[Zeg bl v d8 eo,
 Zap bo df dw bp dg dx bq dh dy bs di dz d7 d0,Zct ba dk dc dl cy dm a9 ei bj cb bt bv bw bx bz ca cc ej cd ck ce cf cg ch ci cj cl ek cm cu cn co cp cq cr ct cv el cw cx de dt,
 Zas n aa ab ac ad ae af a ag c ai aj ak al am an ao bh ap ah bm,Zas n aa ab ac ad ae af a ag c ai aj ak al am an ao bh ap ah bm,Zas n aa ab ac ad ae af a ag c ai aj
 ak al am an ao bh ap ah bn,Zas n aa ab ac ad ae af a ag c ai aj ak al am an ao bh ap ah bn,Zb1 ba dk dc dl cy dm a9 ei bj cb bt bv bw bx bz ca cc ej cd ck ce cf cg ch ci cj cl ek cm
 cu cn co cp cq cr ct cv el cw cx bu,Zbo p2n dj cs,Zap a2 da bc a3 az bd a4 a0 be a6 a1 bf bk bg,Zap dd av aq au aw ar d2 ax a5 d3 ay a7 bi a8,Zar
 ai aj ak al am an ao bh ap ah bb,Zar n aa ab ac ad ae af a ag c cz,some (Box.mk b [slice (Za3 p2a 0 p2c 1) (Int.toNat (if(12:Int) < (↑p2n:Int)then(12:Int)else(↑p2n:Int)) - 0) (p2c -
 0)] 30 1 true true)]
abbrev Zeh:Bool→Bool→Value→Bool→Nat→Option Box:=fun(b cz:Bool)(v:Value)(bb:Bool)(bi:Nat)=>some (Box.mk bi [Value.bool cz,Value.bool b,Value.bool (RowKit.intOf v == (1:
 Int)),Value.bool bb] 4 4 true true)
abbrev Zcv(p2a:Option Addr)(p2n p2c b:Nat)(n aa ab ac ad ae af:Int)(a:Option Addr)(ag c:Nat)(ai aj ak al am an ao:Int)(bh:Option Addr)(ap ah cz bb:Nat)(dd:Option Addr)(av aq
 : Nat) (au:Option Addr) (aw ar:Nat) (d2:Option Addr) (ax a5:Nat) (d3:Option Addr) (ay a7:Nat) (bi:Bool) (a8:Nat) (a2:Option Addr) (da bc:Nat) (a3:Option Addr) (az bd:Nat) (a4:Option Addr) (a0
 be:Nat) (a6:Option Addr) (a1 bf:Nat) (bk:Bool) (bg:Nat) (bl:Bool) (dj:Nat) (cs:List Value) (bm:Nat) (ba dk dc dl cy dm a9:Int) (ei:Option Addr) (bj cb bn:Nat) (bt bv bw bx bz ca cc:Int) (ej:
 Option Addr) (cd ck:Nat) (ce cf cg ch ci cj cl:Int) (ek:Option Addr) (cm cu:Nat) (cn co cp cq cr ct cv:Int) (el:Option Addr) (cw cx bu:Nat) (de:Int) (dt:Nat) (bo:Option Addr) (df dw:Nat) (bp:
 Option Addr) (dg dx:Nat) (bq:Option Addr) (dh dy:Nat) (bs:Option Addr) (di dz:Nat) (d7:Bool) (d0:Nat) (d8:Bool) (v:Value) (eo:Bool) (du:Nat):List (Option Box):=[Zeh bl d8 v eo
 du,Zap bo df dw bp dg dx bq dh dy bs di dz d7 d0,Zct ba dk dc dl cy dm a9 ei bj cb bt bv bw bx bz ca cc ej cd ck ce cf cg ch ci cj cl ek cm cu cn co cp cq cr ct cv el cw cx de dt,
 Zas n aa ab ac ad ae af a ag c ai aj ak al am an ao bh ap ah bm,Zas n aa ab ac ad ae af a ag c ai aj ak al am an ao bh ap ah bm,Zas n aa ab ac ad ae af a ag c ai aj
 ak al am an ao bh ap ah bn,Zas n aa ab ac ad ae af a ag c ai aj ak al am an ao bh ap ah bn,Zb1 ba dk dc dl cy dm a9 ei bj cb bt bv bw bx bz ca cc ej cd ck ce cf cg ch ci cj cl ek cm
 cu cn co cp cq cr ct cv el cw cx bu,Zbo p2n dj cs,Zap a2 da bc a3 az bd a4 a0 be a6 a1 bf bk bg,Zap dd av aq au aw ar d2 ax a5 d3 ay a7 bi a8,Zar
 ai aj ak al am an ao bh ap ah bb,Zar n aa ab ac ad ae af a ag c cz,some (Box.mk b [slice (Za3 p2a 0 p2c 1) (Int.toNat (if(12:Int) < (↑p2n:Int)then(12:Int)else(↑p2n:Int)) - 0) (p2c -
 0)] 30 1 true true)]
def ZcL(p0a:Option Addr)(p0n p0c:Nat)(p1a:Option Addr)(p1n p1c:Nat)(p2a:Option Addr)(p2n p2c:Nat)(m:Mem)(R:RT):Prop:=
 ∀(b:Nat),∃(R_1:RT),True∧CX Try.prog 12 (Array.mk []) m [] R_1∧ZaH Shape.bool R_1∧∀(cz:Bool)(m':Mem),Mem.le m m'→R_1 (Value.bool cz) m' []→br (!cz) (∃(m'':Mem),Mem.le m m''∧Mem.le m'' m'∧
 R (Value.bool false) m'' []) (∃(R_2:RT),True∧CX Try.prog 15 (Array.mk [slice p0a p0n p0c]) m' [] R_2∧ZaH (shT) R_2∧∀(n aa ab ac ad ae af:Int)(a:Option Addr)(ag c:Nat)(ev:Mem),Mem.le m' ev→R_2
 (agg (Array.mk [int u8 n,int u64 aa,int u64 ab,int u64 ac,int u64 ad,int i64 ae,int i64 af,slice a ag c])) ev []→∃(R_3:RT),True∧CX Try.prog 15 (Array.mk [slice p1a p1n p1c]) ev [] R_3∧ZaH (shT) R_3∧∀
 (ai aj ak al am an ao:Int) (au:Option Addr) (ap ah:Nat) (m':Mem),Mem.le ev m'→R_3 (agg (Array.mk [int u8 ai,int u64 aj,int u64 ak,int u64 al,int u64 am,int i64 an,int i64 ao,slice au ap ah])) m' []→∀
 (bb bi:Nat),(((0:Int)≤if(12:Int) < (↑p2n:Int)then(12:Int)else(↑p2n:Int))∧(if(12:Int) < (↑p2n:Int)then(12:Int)else(↑p2n:Int))≤(↑p2c:Int))∧∃(R_4:RT),True∧CX Try.prog 14
 (Array.mk [agg (Array.mk [int u8 n,int u64 aa,int u64 ab,int u64 ac,int u64 ad,int i64 ae,int i64 af,slice a ag c])]) m' [] R_4∧ZaH (Shape.tup [Shape.agg [Shape.slice,Shape.slice,Shape.slice,Shape.slice,
 Shape.bool],Shape.int i64]) R_4∧∀(a2:Option Addr)(av aq:Nat)(a3:Option Addr)(aw ar:Nat)(a4:Option Addr)(ax a5:Nat)(a6:Option Addr)(ay a7:Nat)(a8:Bool)(da:Int)(ey:Mem),Mem.le m' ey→
 R_4 (Value.tuple (Array.mk [agg (Array.mk [slice a2 av aq,slice a3 aw ar,slice a4 ax a5,slice a6 ay a7,Value.bool a8]),int i64 da])) ey []→∀(bk:Nat)(m':Mem),Mem.le ey m'→Mem.reads m' b 0 [slice (Za3
 p2a 0 p2c 1) (Int.toNat (if(12:Int) < (↑p2n:Int)then(12:Int)else(↑p2n:Int)) - 0) (p2c - 0)]→∃(R_5:RT),True∧CX Try.prog 14 (Array.mk [agg (Array.mk [int u8 ai,int u64 aj,int u64 ak,int u64 al,int
 u64 am,int i64 an,int i64 ao,slice au ap ah])]) m' [] R_5∧ZaH (Shape.tup [Shape.agg [Shape.slice,Shape.slice,Shape.slice,Shape.slice,Shape.bool],Shape.int i64]) R_5∧∀(bo:Option Addr)(az bc:Nat) (bp:
 Option Addr) (a0 bd:Nat) (bq:Option Addr) (a1 be:Nat) (bs:Option Addr) (ba bf:Nat) (bg:Bool) (dk:Int) (eq:Mem),Mem.le m' eq→R_5 (Value.tuple (Array.mk [agg (Array.mk [slice bo az bc,slice bp a0 bd,
 slice bq a1 be,slice bs ba bf,Value.bool bg]),int i64 dk])) eq []→∀(bl:Nat),br (!IntKind.wrap i64 (da+dk) == (0:Int)) (∃(m'':Mem),Mem.le m m''∧Mem.le m'' eq∧R (Value.bool false) m'' []) (∃(I:IT),
 (∃(n:Nat),I [Value.bool false,int i64 0] [] [] eq n)∧∀(dj:Bool)(dc:Int)(m':Mem)(dl:Nat),Mem.le eq m'→I [Value.bool dj,int i64 dc] [] [] m' dl→br (decide (dc < IntKind.wrap i64 ((↑(Int.toNat (if
 (12:Int) < (↑p2n:Int)then(12:Int)else(↑p2n:Int)) - 0):Int)+(1:Int)))) (∃(bm:Bool),br dj (Zav (Zbn p2a p2n p2c b n aa ab ac ad ae af a ag c ai aj ak al am an ao au ap ah bb bi a2
 av aq a3 aw ar a4 ax a5 a6 ay a7 a8 bk bo az bc bp a0 bd bq a1 be bs ba bf bg bl)∧[Value.bool true]=[Value.bool bm]) (∃(R:RT),True∧CX Try.prog 31 (Array.mk [agg (Array.mk [slice a2 av aq,slice a3 aw ar,slice
 a4 ax a5,slice a6 ay a7,Value.bool a8]),int i64 0,int i64 dc,Value.pointer (some (Addr.mk b 0 none))]) m' [] R∧ZaH Shape.bool R∧∀(bn:Bool)(d6:Mem),Mem.le m' d6→R (Value.bool bn) d6 []→br bn (∃(R:
 RT),True∧CX Try.prog 31 (Array.mk [agg (Array.mk [slice bo az bc,slice bp a0 bd,slice bq a1 be,slice bs ba bf,Value.bool bg]),int i64 dc,int i64 (↑(Int.toNat (if(12:Int) < (↑p2n:Int)then(12:Int)else
 (↑p2n:Int)) - 0):Int),Value.pointer (some (Addr.mk b 0 none))]) d6 [] R∧ZaH Shape.bool R∧∀(bu:Bool)(m':Mem),Mem.le d6 m'→R (Value.bool bu) m' []→Zav (Zbn p2a p2n p2c b n aa ab ac
 ad ae af a ag c ai aj ak al am an ao au ap ah bb bi a2 av aq a3 aw ar a4 ax a5 a6 ay a7 a8 bk bo az bc bp a0 bd bq a1 be bs ba bf bg bl)∧[Value.bool bu]=[Value.bool bm]) (Zav (Zbn p2a p2n p2c b n
 aa ab ac ad ae af a ag c ai aj ak al am an ao au ap ah bb bi a2 av aq a3 aw ar a4 ax a5 a6 ay a7 a8 bk bo az bc bp a0 bd bq a1 be bs ba bf bg bl)∧[Value.bool false]=[Value.bool bm]))∧Zav (Zbn
 p2a p2n p2c b n aa ab ac ad ae af a ag c ai aj ak al am an ao au ap ah bb bi a2 av aq a3 aw ar a4 ax a5 a6 ay a7 a8 bk bo az bc bp a0 bd bq a1 be bs ba bf bg bl)∧∃(n':Nat),n' < dl∧I [Value.bool bm,int i64
 (IntKind.wrap i64 (dc+(1:Int)))] [] [] m' n') (((0:Int)≤IntKind.wrap i64 ((↑(Int.toNat (if(12:Int) < (↑p2n:Int)then(12:Int)else(↑p2n:Int)) - 0):Int)+(1:Int))∧IntKind.wrap i64 ((↑(Int.toNat
 (if(12:Int) < (↑p2n:Int)then(12:Int)else(↑p2n:Int)) - 0):Int)+(1:Int))≤IntKind.wrap i64 ((↑(Int.toNat (if(12:Int) < (↑p2n:Int)then(12:Int)else(↑p2n:Int)) - 0):Int)+(1:Int))∧
 IntKind.wrap i64 ((↑(Int.toNat (if(12:Int) < (↑p2n:Int)then(12:Int)else(↑p2n:Int)) - 0):Int)+(1:Int))*(↑(8:Nat):Int)≤(281474976710656:Int)∧IntKind.wrap i64 ((↑(Int.toNat (if(12:Int) <
 (↑p2n:Int)then(12:Int)else(↑p2n:Int)) - 0):Int)+(1:Int))≤(9223372036854775807:Int))∧∀(bm:Nat),∃(J:JT),(Zaf (0:Int) (Int.toNat (IntKind.wrap i64 ((↑(Int.toNat (if(12:Int) < (↑p2n:
 Int)then(12:Int)else(↑p2n:Int)) - 0):Int)+(1:Int))))∧bif Nat.beq (Int.toNat (IntKind.wrap i64 ((↑(Int.toNat (if(12:Int) < (↑p2n:Int)then(12:Int)else(↑p2n:Int)) - 0):Int)+(1:Int)))*1)
 1&&true then Zav (ZaX p2a p2n p2c b n aa ab ac ad ae af a ag c ai aj ak al am an ao au ap ah bb bi a2 av aq a3 aw ar a4 ax a5 a6 ay a7 a8 bk bo az bc bp a0 bd bq a1 be bs ba bf bg bl bm)∧J []
 [[int i64 1]] [] m' else chk (Nat.ble 1 (List.length (List.flatten (List.replicate (Int.toNat (IntKind.wrap i64 ((↑(Int.toNat (if(12:Int) < (↑p2n:Int)then(12:Int)else(↑p2n:Int)) - 0):Int)+(1:Int))))
 [int i64 0])))) (Zav (ZaX p2a p2n p2c b n aa ab ac ad ae af a ag c ai aj ak al am an ao au ap ah bb bi a2 av aq a3 aw ar a4 ax a5 a6 ay a7 a8 bk bo az bc bp a0 bd bq a1 be bs ba bf bg bl bm)∧J []
 [Zao (List.flatten (List.replicate (Int.toNat (IntKind.wrap i64 ((↑(Int.toNat (if(12:Int) < (↑p2n:Int)then(12:Int)else(↑p2n:Int)) - 0):Int)+(1:Int)))) [int i64 0])) 0 [int i64 1]] [] m'))∧∀(cs:
 List Value) (d6:Mem),Mem.le m' d6→J [] [cs] [] d6→∃(I:IT),(∃(n:Nat),I [int i64 0] [cs] [] d6 n)∧∀(cy:Int)(cs:List Value)(m':Mem)(dm:Nat),Mem.le d6 m'→I [int i64 cy] [cs] [] m' dm→br
 (decide (cy < (↑(Int.toNat (if(12:Int) < (↑p2n:Int)then(12:Int)else(↑p2n:Int)) - 0):Int))) (∃(er:IT),(∃(n:Nat),er [int i64 (IntKind.wrap i64 (cy+(1:Int)))] [cs] [] m' n)∧∀(a9:Int) (cs:
 List Value) (d4:Mem) (bj:Nat),Mem.le m' d4→er [int i64 a9] [cs] [] d4 bj→∃(bn:Bool),br (decide (a9≤(↑(Int.toNat (if(12:Int) < (↑p2n:Int)then(12:Int)else(↑p2n:Int)) - 0):Int))) (Zaf cy
 (Int.toNat (IntKind.wrap i64 ((↑(Int.toNat (if(12:Int) < (↑p2n:Int)then(12:Int)else(↑p2n:Int)) - 0):Int)+(1:Int))))∧Eng.ZsL cs (Int.toNat cy*1) fun(v:Value)=>chk (ZbG i64 v&&decide (i64
 = i64)) (Zav (ZcK p2a p2n p2c b n aa ab ac ad ae af a ag c ai aj ak al am an ao au ap ah bb bi a2 av aq a3 aw ar a4 ax a5 a6 ay a7 a8 bk bo az bc bp a0 bd bq a1 be bs ba bf bg bl bm cs)∧[Value.bool
 (RowKit.intOf v == (1:Int))]=[Value.bool bn])) (Zav (ZcK p2a p2n p2c b n aa ab ac ad ae af a ag c ai aj ak al am an ao au ap ah bb bi a2 av aq a3 aw ar a4 ax a5 a6 ay a7 a8 bk bo az bc bp a0 bd
 bq a1 be bs ba bf bg bl bm cs)∧[Value.bool false]=[Value.bool bn])∧br bn (∃(R:RT),True∧CX Try.prog 31 (Array.mk [agg (Array.mk [slice a2 av aq,slice a3 aw ar,slice a4 ax a5,slice a6 ay a7,Value.bool
 a8]),int i64 cy,int i64 a9,Value.pointer (some (Addr.mk b 0 none))]) d4 [] R∧ZaH Shape.bool R∧∀(bu:Bool)(m':Mem),Mem.le d4 m'→R (Value.bool bu) m' []→br bu (Zaf a9 (Int.toNat (IntKind.wrap i64
 ((↑(Int.toNat (if(12:Int) < (↑p2n:Int)then(12:Int)else(↑p2n:Int)) - 0):Int)+(1:Int))))∧bif Nat.beq (Int.toNat (IntKind.wrap i64 ((↑(Int.toNat (if(12:Int) < (↑p2n:Int)then(12:Int)else(↑p2n
 : Int)) - 0):Int)+(1:Int)))*1) 1&&Nat.beq (Int.toNat a9*1) 0 then Zav (ZaX p2a p2n p2c b n aa ab ac ad ae af a ag c ai aj ak al am an ao au ap ah bb bi a2 av aq a3 aw ar a4 ax a5 a6 ay a7
 a8 bk bo az bc bp a0 bd bq a1 be bs ba bf bg bl bm)∧∃(n':Nat),n' < bj∧er [int i64 (IntKind.wrap i64 (a9+(1:Int)))] [[int i64 1]] [] m' n' else chk (Nat.ble (Int.toNat a9*1+1) (List.length cs)) (Zav
 (ZaX p2a p2n p2c b n aa ab ac ad ae af a ag c ai aj ak al am an ao au ap ah bb bi a2 av aq a3 aw ar a4 ax a5 a6 ay a7 a8 bk bo az bc bp a0 bd bq a1 be bs ba bf bg bl bm)∧∃(n':Nat),n' < bj∧er
 [int i64 (IntKind.wrap i64 (a9+(1:Int)))] [Zao cs (Int.toNat a9*1) [int i64 1]] [] m' n')) (Zav (ZaX p2a p2n p2c b n aa ab ac ad ae af a ag c ai aj ak al am an ao au ap ah bb bi a2 av aq a3
 aw ar a4 ax a5 a6 ay a7 a8 bk bo az bc bp a0 bd bq a1 be bs ba bf bg bl bm)∧∃(n':Nat),n' < bj∧er [int i64 (IntKind.wrap i64 (a9+(1:Int)))] [cs] [] m' n')) (Zav (ZaX p2a p2n p2c b n aa ab
 ac ad ae af a ag c ai aj ak al am an ao au ap ah bb bi a2 av aq a3 aw ar a4 ax a5 a6 ay a7 a8 bk bo az bc bp a0 bd bq a1 be bs ba bf bg bl bm)∧∃(n':Nat),n' < dm∧I [int i64 (IntKind.wrap i64 (cy+(1:Int)))]
 [cs] [] d4 n')) (∃(f:Fx),∀(bn:Nat),Mem.free m' bn→∃(R_6:RT),R_6=f 3 [slice (some (Addr.mk bn 0 none)) 2 2] (Mem.add m' bn (ZaP n aa ab ac ad ae af a ag c ai aj ak al am an ao au ap ah))
 ∧ CX Try.prog 32 (Array.mk [slice (some (Addr.mk bn 0 none)) 2 2]) (Mem.add m' bn (ZaP n aa ab ac ad ae af a ag c ai aj ak al am an ao au ap ah)) [] R_6∧ZaH (shT) R_6∧∀(a9 bj bt bv bw bx bz:Int)
 (dn:Option Addr) (ca cb:Nat) (d4:Mem),Mem.le (Mem.add m' bn (ZaP n aa ab ac ad ae af a ag c ai aj ak al am an ao au ap ah)) d4→R_6 (agg (Array.mk [int u8 a9,int u64 bj,int u64 bt,int u64 bv,
 int u64 bw,int i64 bx,int i64 bz,slice dn ca cb])) d4 []→∀(bu:Nat),Mem.free m' bu→∀(V:Mem),Mem.le m' V→Mem.le d4 V→Mem.le (Mem.add m' bu (ZaP n aa ab ac ad ae af a ag c ai aj ak al am
 an ao au ap ah)) V→∃(R_7:RT),R_7=f 7 [slice (some (Addr.mk bu 0 none)) 2 2] V∧CX Try.prog 24 (Array.mk [slice (some (Addr.mk bu 0 none)) 2 2]) V [] R_7∧ZaH (shT) R_7∧∀(cc cd ce cf cg ch ci:Int) (dp:
 Option Addr) (cj ck:Nat) (em:Mem),Mem.le V em→R_7 (agg (Array.mk [int u8 cc,int u64 cd,int u64 ce,int u64 cf,int u64 cg,int i64 ch,int i64 ci,slice dp cj ck])) em []→∃(R_8:RT),R_8=f 9 [agg
 (Array.mk [int u8 n,int u64 aa,int u64 ab,int u64 ac,int u64 ad,int i64 ae,int i64 af,slice a ag c]),int i64 0,int i64 (-1:Int)] em∧CX Try.prog 33 (Array.mk [agg (Array.mk [int u8 n,int u64 aa,int u64 ab,
 int u64 ac,int u64 ad,int i64 ae,int i64 af,slice a ag c]),int i64 0,int i64 (-1:Int)]) em [] R_8∧ZaH (shT) R_8∧∀(cl cm cn co cp cq cr:Int)(dq:Option Addr)(ct cu:Nat)(en:Mem),Mem.le em en→R_8
 (agg (Array.mk [int u8 cl,int u64 cm,int u64 cn,int u64 co,int u64 cp,int i64 cq,int i64 cr,slice dq ct cu])) en []→∃(R_9:RT),R_9=f 11 [agg (Array.mk [int u8 n,int u64 aa,int u64 ab,int u64 ac,int u64
 ad,int i64 ae,int i64 af,slice a ag c])] en∧CX Try.prog 34 (Array.mk [agg (Array.mk [int u8 n,int u64 aa,int u64 ab,int u64 ac,int u64 ad,int i64 ae,int i64 af,slice a ag c])]) en [] R_9∧ZaH (shT) R_9∧∀
 (cv cw de df dg dh di:Int) (dr:Option Addr) (ds cx:Nat) (es:Mem),Mem.le en es→R_9 (agg (Array.mk [int u8 cv,int u64 cw,int u64 de,int u64 df,int u64 dg,int i64 dh,int i64 di,slice dr ds cx])) es []→∀
 (dt:Nat),Mem.free es dt→∀(M:Mem),Mem.le m' M→Mem.le (Mem.add m' bn (ZaP n aa ab ac ad ae af a ag c ai aj ak al am an ao au ap ah)) M→Mem.le d4 M→Mem.le (Mem.add m' bu
 (ZaP n aa ab ac ad ae af a ag c ai aj ak al am an ao au ap ah)) M→Mem.le em M→Mem.le en M→Mem.le es M→Mem.le (Mem.add es dt (ZaD a9 bj bt bv bw bx bz dn ca cb cc cd ce cf cg ch
 ci dp cj ck cl cm cn co cp cq cr dq ct cu cv cw de df dg dh di dr ds cx)) M→∃(I:IT),(∃(n:Nat),I [int i64 0] [] [] M n)∧∀(db:Int)(m':Mem)(ew:Nat),Mem.le M m'→I [int i64 db] [] [] m' ew→br
 (decide (db < (↑(4:Nat):Int))) (Zaf db 4∧chk (Nat.ble (Int.toNat db*8) (1+1+1+1+1+1+1+1+1+1+1+1+1+1+1+1+1+1+1+1+1+1+1+1)) (∀(d7:Nat),chk (Nat.beq
 (List.length (List.take 8 (List.drop (Int.toNat db*8) (ZaD a9 bj bt bv bw bx bz dn ca cb cc cd ce cf cg ch ci dp cj ck cl cm cn co cp cq cr dq ct cu cv cw de df dg dh di dr ds cx)))) 8&&Zdl
 (List.take 8 (List.drop (Int.toNat db*8) (ZaD a9 bj bt bv bw bx bz dn ca cb cc cd ce cf cg ch ci dp cj ck cl cm cn co cp cq cr dq ct cu cv cw de df dg dh di dr ds cx)))) (∃(R_10:RT),True∧CX
 Try.prog 14 (Array.mk [agg (Array.mk (List.take 8 (List.drop (Int.toNat db*8) (ZaD a9 bj bt bv bw bx bz dn ca cb cc cd ce cf cg ch ci dp cj ck cl cm cn co cp cq cr dq ct cu cv cw de df dg dh di dr ds
 cx))))]) m' [] R_10∧ZaH (Shape.tup [Shape.agg [Shape.slice,Shape.slice,Shape.slice,Shape.slice,Shape.bool],Shape.int i64]) R_10∧∀(ea:Option Addr)(eb dw:Nat)(ec:Option Addr)(ed dx:Nat) (ee:Option
 Addr) (ef dy:Nat) (eg:Option Addr) (eh dz:Nat) (d0:Bool) (ez:Int) (ex:Mem),Mem.le m' ex→R_10 (Value.tuple (Array.mk [agg (Array.mk [slice ea eb dw,slice ec ed dx,slice ee ef dy,slice eg eh dz,
 Value.bool d0]),int i64 ez])) ex []→∀(d8:Nat),chk (Nat.beq (List.length (List.take 8 (List.drop (Int.toNat db*8) (ZaD a9 bj bt bv bw bx bz dn ca cb cc cd ce cf cg ch ci dp cj ck cl cm cn co cp
 cq cr dq ct cu cv cw de df dg dh di dr ds cx)))) 8&&true) (∃(R_11:RT),True∧CX Try.prog 35 (Array.mk [agg (Array.mk (Zao [Value.bool false,Value.bool false,int u8 0,int u64 0,int u64 0,int u64 0,int u64
 0,int i64 0,int i64 0,slice none 0 0] 2 (List.take 8 (List.drop (Int.toNat db*8) (ZaD a9 bj bt bv bw bx bz dn ca cb cc cd ce cf cg ch ci dp cj ck cl cm cn co cp cq cr dq ct cu cv cw de df dg dh di
 dr ds cx)))))]) ex [] R_11∧ZaH (Shape.int i64) R_11∧∀(e0:Int)(m':Mem),Mem.le ex m'→R_11 (int i64 e0) m' []→br (!e0 == (0:Int)) (Zav (ZbP p2a p2n p2c b n aa ab ac ad ae af a ag c ai
 aj ak al am an ao au ap ah bb bi a2 av aq a3 aw ar a4 ax a5 a6 ay a7 a8 bk bo az bc bp a0 bd bq a1 be bs ba bf bg bl bm cs bn a9 bj bt bv bw bx bz dn ca cb bu cc cd ce cf cg ch ci dp cj ck cl cm cn co cp cq cr dq ct cu
 cv cw de df dg dh di dr ds cx dt)∧∃(n':Nat),n' < ew∧I [int i64 (IntKind.wrap i64 (db+(1:Int)))] [] [] m' n') (∃(f:Fx),∃(R_12:RT),R_12=f 4 [agg (Array.mk [slice a2 av aq,slice a3 aw ar,slice a4 ax
 a5,slice a6 ay a7,Value.bool a8]),int i64 0,int i64 (↑(Int.toNat (if(12:Int) < (↑p2n:Int)then(12:Int)else(↑p2n:Int)) - 0):Int),Value.pointer (some (Addr.mk b 0 none))] m'∧CX Try.prog 31 (Array.mk
 [agg (Array.mk [slice a2 av aq,slice a3 aw ar,slice a4 ax a5,slice a6 ay a7,Value.bool a8]),int i64 0,int i64 (↑(Int.toNat (if(12:Int) < (↑p2n:Int)then(12:Int)else(↑p2n:Int)) - 0):Int),
 Value.pointer (some (Addr.mk b 0 none))]) m' [] R_12∧ZaH Shape.bool R_12∧∀(eo:Bool)(d1:Mem),Mem.le m' d1→R_12 (Value.bool eo) d1 []→br eo (Zaf (↑(Int.toNat (if(12:Int) < (↑p2n:Int)then(12:
 Int)else(↑p2n:Int)) - 0):Int) (Int.toNat (IntKind.wrap i64 ((↑(Int.toNat (if(12:Int) < (↑p2n:Int)then(12:Int)else(↑p2n:Int)) - 0):Int)+(1:Int))))∧Eng.ZsL cs (Int.toNat (↑(Int.toNat (if(12:
 Int) < (↑p2n:Int)then(12:Int)else(↑p2n:Int)) - 0):Int)*1) fun(v:Value)=>chk (ZbG i64 v&&decide (i64=i64)) (∃(R_13:RT),R_13=f 23 [agg (Array.mk [slice a2 av aq,slice a3 aw ar,slice a4 ax
 a5,slice a6 ay a7,Value.bool a8]),int i64 0,int i64 (↑(Int.toNat (if(12:Int) < (↑p2n:Int)then(12:Int)else(↑p2n:Int)) - 0):Int),Value.pointer (some (Addr.mk b 0 none))] d1∧CX Try.prog 31 (Array.mk
 [agg (Array.mk [slice a2 av aq,slice a3 aw ar,slice a4 ax a5,slice a6 ay a7,Value.bool a8]),int i64 0,int i64 (↑(Int.toNat (if(12:Int) < (↑p2n:Int)then(12:Int)else(↑p2n:Int)) - 0):Int),
 Value.pointer (some (Addr.mk b 0 none))]) d1 [] R_13∧ZaH Shape.bool R_13∧∀(du:Bool)(dv:Mem),Mem.le d1 dv→R_13 (Value.bool du) dv []→∀(d5:Nat),Mem.free dv d5→Zaf db 4∧Eng.ZsL [Value.bool
 true,Value.bool dj,Value.bool (RowKit.intOf v == (1:Int)),Value.bool du] (Int.toNat db*1) fun(et:Value)=>∀(M:Mem),Mem.le m' M→Mem.le d1 M→Mem.le d1 M→Mem.le dv M→Mem.le (Mem.add dv d5 [Value.bool
 true,Value.bool dj,Value.bool (RowKit.intOf v == (1:Int)),Value.bool du]) M→∃(d9:Bool),br (!ez == (0:Int)) (Zav (Zcu p2a p2n p2c b n aa ab ac ad ae af a ag c ai aj ak al am an ao au ap
 ah bb bi a2 av aq a3 aw ar a4 ax a5 a6 ay a7 a8 bk bo az bc bp a0 bd bq a1 be bs ba bf bg bl dj bm cs bn a9 bj bt bv bw bx bz dn ca cb bu cc cd ce cf cg ch ci dp cj ck cl cm cn co cp cq cr dq ct cu cv cw de df dg dh di
 dr ds cx dt db d7 ea eb dw ec ed dx ee ef dy eg eh dz d0 d8 v du d5)∧[Value.bool true]=[Value.bool d9]) (∃(R:RT),True∧CX Try.prog 31 (Array.mk [agg (Array.mk [slice ea eb dw,slice ec ed dx,slice ee ef dy,
 slice eg eh dz,Value.bool d0]),int i64 0,int i64 (↑(Int.toNat (if(12:Int) < (↑p2n:Int)then(12:Int)else(↑p2n:Int)) - 0):Int),Value.pointer (some (Addr.mk b 0 none))]) M [] R∧ZaH Shape.bool R∧∀(ep
 : Bool) (m':Mem),Mem.le M m'→R (Value.bool ep) m' []→chk (Zad et) (Zav (Zcu p2a p2n p2c b n aa ab ac ad ae af a ag c ai aj ak al am an ao au ap ah bb bi a2 av aq a3 aw ar a4 ax a5 a6 ay a7
 a8 bk bo az bc bp a0 bd bq a1 be bs ba bf bg bl dj bm cs bn a9 bj bt bv bw bx bz dn ca cb bu cc cd ce cf cg ch ci dp cj ck cl cm cn co cp cq cr dq ct cu cv cw de df dg dh di dr ds cx dt db d7 ea eb dw ec ed dx ee ef dy
 eg eh dz d0 d8 v du d5)∧[Value.bool !ep == Zac et]=[Value.bool d9]))∧br d9 (∃(m'':Mem),Mem.le m m''∧Mem.le m'' M∧R (Value.bool false) m'' []) (Zav (ZbP p2a p2n p2c b n aa ab ac ad
 ae af a ag c ai aj ak al am an ao au ap ah bb bi a2 av aq a3 aw ar a4 ax a5 a6 ay a7 a8 bk bo az bc bp a0 bd bq a1 be bs ba bf bg bl bm cs bn a9 bj bt bv bw bx bz dn ca cb bu cc cd ce cf cg ch ci dp cj ck cl cm cn co cp
 cq cr dq ct cu cv cw de df dg dh di dr ds cx dt)∧∃(n':Nat),n' < ew∧I [int i64 (IntKind.wrap i64 (db+(1:Int)))] [] [] M n'))) (∃(R_13:RT),R_13=f 10 [agg (Array.mk [slice bo az bc,slice bp a0 bd,slice
 bq a1 be,slice bs ba bf,Value.bool bg]),int i64 0,int i64 (↑(Int.toNat (if(12:Int) < (↑p2n:Int)then(12:Int)else(↑p2n:Int)) - 0):Int),Value.pointer (some (Addr.mk b 0 none))] d1∧CX Try.prog 31
 (Array.mk [agg (Array.mk [slice bo az bc,slice bp a0 bd,slice bq a1 be,slice bs ba bf,Value.bool bg]),int i64 0,int i64 (↑(Int.toNat (if(12:Int) < (↑p2n:Int)then(12:Int)else(↑p2n:Int)) - 0):Int),
 Value.pointer (some (Addr.mk b 0 none))]) d1 [] R_13∧ZaH Shape.bool R_13∧∀(du:Bool)(dv:Mem),Mem.le d1 dv→R_13 (Value.bool du) dv []→Zaf (↑(Int.toNat (if(12:Int) < (↑p2n:Int)then(12:Int)else
 (↑p2n:Int)) - 0):Int) (Int.toNat (IntKind.wrap i64 ((↑(Int.toNat (if(12:Int) < (↑p2n:Int)then(12:Int)else(↑p2n:Int)) - 0):Int)+(1:Int))))∧Eng.ZsL cs (Int.toNat (↑(Int.toNat (if(12:Int) <
 (↑p2n:Int)then(12:Int)else(↑p2n:Int)) - 0):Int)*1) fun(v:Value)=>chk (ZbG i64 v&&decide (i64=i64)) (∃(R_14:RT),R_14=f 23 [agg (Array.mk [slice a2 av aq,slice a3 aw ar,slice a4 ax a5,
 slice a6 ay a7,Value.bool a8]),int i64 0,int i64 (↑(Int.toNat (if(12:Int) < (↑p2n:Int)then(12:Int)else(↑p2n:Int)) - 0):Int),Value.pointer (some (Addr.mk b 0 none))] dv∧CX Try.prog 31 (Array.mk [agg
 (Array.mk [slice a2 av aq,slice a3 aw ar,slice a4 ax a5,slice a6 ay a7,Value.bool a8]),int i64 0,int i64 (↑(Int.toNat (if(12:Int) < (↑p2n:Int)then(12:Int)else(↑p2n:Int)) - 0):Int),Value.pointer
 (some (Addr.mk b 0 none))]) dv [] R_14∧ZaH Shape.bool R_14∧∀(d5:Bool)(eu:Mem),Mem.le dv eu→R_14 (Value.bool d5) eu []→∀(d9:Nat),Mem.free eu d9→Zaf db 4∧Eng.ZsL [Value.bool du,Value.bool dj,
 Value.bool (RowKit.intOf v == (1:Int)),Value.bool d5] (Int.toNat db*1) fun(et:Value)=>∀(M:Mem),Mem.le m' M→Mem.le d1 M→Mem.le dv M→Mem.le eu M→Mem.le (Mem.add eu d9 [Value.bool du,Value.bool dj,
 Value.bool (RowKit.intOf v == (1:Int)),Value.bool d5]) M→∃(ep:Bool),br (!ez == (0:Int)) (Zav (Zcv p2a p2n p2c b n aa ab ac ad ae af a ag c ai aj ak al am an ao au ap ah bb bi a2 av aq a3
 aw ar a4 ax a5 a6 ay a7 a8 bk bo az bc bp a0 bd bq a1 be bs ba bf bg bl dj bm cs bn a9 bj bt bv bw bx bz dn ca cb bu cc cd ce cf cg ch ci dp cj ck cl cm cn co cp cq cr dq ct cu cv cw de df dg dh di dr ds cx dt db d7 ea
 eb dw ec ed dx ee ef dy eg eh dz d0 d8 du v d5 d9)∧[Value.bool true]=[Value.bool ep]) (∃(R:RT),True∧CX Try.prog 31 (Array.mk [agg (Array.mk [slice ea eb dw,slice ec ed dx,slice ee ef dy,slice eg eh dz,
 Value.bool d0]),int i64 0,int i64 (↑(Int.toNat (if(12:Int) < (↑p2n:Int)then(12:Int)else(↑p2n:Int)) - 0):Int),Value.pointer (some (Addr.mk b 0 none))]) M [] R∧ZaH Shape.bool R∧∀(e1:Bool) (m':
 Mem),Mem.le M m'→R (Value.bool e1) m' []→chk (Zad et) (Zav (Zcv p2a p2n p2c b n aa ab ac ad ae af a ag c ai aj ak al am an ao au ap ah bb bi a2 av aq a3 aw ar a4 ax a5 a6 ay a7 a8 bk bo az
 bc bp a0 bd bq a1 be bs ba bf bg bl dj bm cs bn a9 bj bt bv bw bx bz dn ca cb bu cc cd ce cf cg ch ci dp cj ck cl cm cn co cp cq cr dq ct cu cv cw de df dg dh di dr ds cx dt db d7 ea eb dw ec ed dx ee ef dy eg eh dz d0
 d8 du v d5 d9)∧[Value.bool !e1 == Zac et]=[Value.bool ep]))∧br ep (∃(m'':Mem),Mem.le m m''∧Mem.le m'' M∧R (Value.bool false) m'' []) (Zav (ZbP p2a p2n p2c b n aa ab ac ad ae af a ag
 c ai aj ak al am an ao au ap ah bb bi a2 av aq a3 aw ar a4 ax a5 a6 ay a7 a8 bk bo az bc bp a0 bd bq a1 be bs ba bf bg bl bm cs bn a9 bj bt bv bw bx bz dn ca cb bu cc cd ce cf cg ch ci dp cj ck cl cm cn co cp cq cr dq
 ct cu cv cw de df dg dh di dr ds cx dt)∧∃(n':Nat),n' < ew∧I [int i64 (IntKind.wrap i64 (db+(1:Int)))] [] [] M n')))))))) (∃(m'':Mem),Mem.le m m''∧Mem.le m'' m'∧R (Value.bool true) m'' [])))))
theorem Zey(p0a:Option Addr)(p0n p0c:Nat)(p1a:Option Addr)(p1n p1c:Nat)(p2a:Option Addr)(p2n p2c:Nat)(m:Mem)(R:RT)(h:ZcL p0a p0n p0c p1a p1n p1c p2a p2n p2c m R):CX Try.prog 7 #[.slice p0a p0n p0c,.slice p1a p1n p1c,.slice p2a p2n p2c] m [] R:=
 Zaj (E:=Zfr) ZaE mix Try.func7 [.v (.slice p0a p0n p0c),.v (.slice p1a p1n p1c),.v (.slice p2a p2n p2c)] [] (by kernel_rfl) (Eq.mp (by kernel_rfl) h)
end Go.Proofs.Ytplacemlpkhmfaa

