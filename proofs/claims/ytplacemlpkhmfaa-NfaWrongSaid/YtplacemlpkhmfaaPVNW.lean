/- Part of the proof: conditions and contracts of functions of this program. No condition of its own. -/
import Derived.Test.YtplacemlpkhmfaaPEnv
set_option linter.unusedVariables false
namespace Go.Proofs.Ytplacemlpkhmfaa
open Go Go.Eng Go.Proofs Go.RowKit
open Go.Value (int slice agg)
open Go.IntKind (u8 u64 i64)
set_option maxRecDepth 100000
noncomputable def ZrE:Env:={ EB with
 loops:=(fun i=>bif Nat.beq i 3 then⟨[(8,.int .i64)],[3],[],false⟩ else⟨[],[],[],false⟩) }
def Zls(p0a:Option Addr)(p0n p0c:Nat)(m:Mem)(R:RT):Prop:=
 ∀(b b_1:Nat),∃(I:IT),(∃(n:Nat),I [int i64 0] [[int u64 0,int u64 0,int u64 0,int u64 0]] [] m n)∧∀(n:Int)(cs:List Value)(m':Mem)(n_1:Nat),Mem.le m m'→I [int i64 n] [cs] [] m' n_1→br
 (decide (n < (↑p0n:Int))) (∃(b_2:Nat),∃(o:Nat),p0a=some (Addr.mk b_2 o none)∧Zaf n p0n∧∃(v:Value),m' b_2 (o+Int.toNat n*1)=some v∧chk (Zbn u8 v&&true) ((0:Int)≤(6:Int)∧Zaf
 (Int.fdiv (RowKit.intOf v) ((2:Int) ^ 6)) 4∧Eng.Zr2 cs (0+Int.toNat (Int.fdiv (RowKit.intOf v) ((2:Int) ^ 6))*1) fun(v_1:Value)=>chk (Zbn u8 v&&decide (u8=u8)) ((0:Int)≤IntKind.wrap u8
 (↑(BitVec.toNat (BitVec.ofInt 8 (RowKit.intOf v)&&&BitVec.ofInt 8 (63:Int))):Int)∧chk (Zbn u64 v_1&&decide (u64=u64)) (Zaf (Int.fdiv (RowKit.intOf v) ((2:Int) ^ 6)) 4∧chk (Nat.ble (0+Int.toNat
 (Int.fdiv (RowKit.intOf v) ((2:Int) ^ 6))*1+1) (List.length cs)) ([some (Box.mk b_1 [] 38 4 false true),some (Box.mk b [int u64 0,int u64 0,int u64 0,int u64 0] 38 4 false true)]=[some (Box.mk b_1 [] 38 4
 false true),some (Box.mk b [int u64 0,int u64 0,int u64 0,int u64 0] 38 4 false true)]∧∃(n':Nat),n' < n_1∧I [int i64 (IntKind.wrap i64 (n+(1:Int)))] [Zan cs (0+Int.toNat (Int.fdiv (RowKit.intOf v)
 ((2:Int) ^ 6))*1) [int u64 (IntKind.wrap u64 (↑(BitVec.toNat (BitVec.ofInt 64 (RowKit.intOf v_1)|||BitVec.ofInt 64 (IntKind.wrap u64 ((1:Int)*(2:Int) ^ min (Int.toNat (IntKind.wrap u8 (↑(BitVec.toNat
 (BitVec.ofInt 8 (RowKit.intOf v)&&&BitVec.ofInt 8 (63:Int))):Int))) 64)))):Int))]] [] m' n'))))) (chk (Nat.beq (List.length cs) 4&&Zc8 cs) (∃(m'':Mem),Mem.le m m''∧Mem.le m'' m'∧R (agg (Array.mk cs))
 m'' []))
theorem Zpm(p0a:Option Addr)(p0n p0c:Nat)(m:Mem)(R:RT)(h:Zls p0a p0n p0c m R):CX Try.prog 76 #[.slice p0a p0n p0c] m [] R:=
 Zal (E:=ZrE) ZaC mix Try.func76 [.v (.slice p0a p0n p0c)] [] (by kernel_rfl) (Eq.mp (by kernel_rfl) h)
noncomputable def ZuG:Env:={ EB with
 frzNew:=[1] }
def Zqs(aF aG aH aI:Int)(m:Mem)(R:RT):Prop:=
 ∀(b:Nat)(m':Mem),Mem.le m m'→Mem.reads m' b 0 [int u64 aF,int u64 aG,int u64 aH,int u64 aI]→∀(b:Nat),∃(b:Bool),EqIs Try.prog 38 (agg (Array.mk [int u64 aF,int u64 aG,int u64 aH,int
 u64 aI])) (agg (Array.mk [int u64 0,int u64 0,int u64 0,int u64 0])) b∧br b (∃(m'':Mem),Mem.le m m''∧Mem.le m'' m'∧R (agg (Array.mk [int u8 0,int u64 0,int u64 0,int u64 0,int u64 0,int i64 0,int
 i64 0,slice none 0 0])) m'' []) (∃(m'':Mem),Mem.le m m''∧Mem.le m'' m'∧R (agg (Array.mk [int u8 2,int u64 aF,int u64 aG,int u64 aH,int u64 aI,int i64 0,int i64 0,slice none 0 0])) m'' [])
theorem Ztn(aF aG aH aI:Int)(m:Mem)(R:RT)(h:Zqs aF aG aH aI m R):CX Try.prog 75 #[.agg #[.int .u64 aF,.int .u64 aG,.int .u64 aH,.int .u64 aI]] m [] R:=
 Zal (E:=ZuG) ZaC mix Try.func75 [.v (.agg #[.int .u64 aF,.int .u64 aG,.int .u64 aH,.int .u64 aI])] [] (by kernel_rfl) (Eq.mp (by kernel_rfl) h)
noncomputable def ZrF:Env:=EB
def Zlt(p0:Int)(m:Mem)(R:RT):Prop:=
 ∀(b b:Nat),Mem.free m b→∃(R_1:RT),True∧CX Try.prog 76 (Array.mk [slice (some (Addr.mk b 0 none)) 1 1]) (Mem.add m b [int u8 p0]) [] R_1∧ZaJ (Shape.agg [Shape.int u64,Shape.int u64,Shape.int u64,
 Shape.int u64]) R_1∧∀(n n_1 n_2 n_3:Int)(m':Mem),Mem.le (Mem.add m b [int u8 p0]) m'→R_1 (agg (Array.mk [int u64 n,int u64 n_1,int u64 n_2,int u64 n_3])) m' []→∃(R_2:RT),True∧CX Try.prog 75
 (Array.mk [agg (Array.mk [int u64 n,int u64 n_1,int u64 n_2,int u64 n_3])]) m' [] R_2∧ZaJ (shT) R_2∧∀(n n_4 n_5 n_6 n_7 n_8 n_9:Int)(a:Option Addr)(n_10 c:Nat)(m'_1:Mem),Mem.le m' m'_1→R_2 (agg
 (Array.mk [int u8 n,int u64 n_4,int u64 n_5,int u64 n_6,int u64 n_7,int i64 n_8,int i64 n_9,slice a n_10 c])) m'_1 []→∃(m'':Mem),Mem.le m m''∧Mem.le m'' m'_1∧R (agg (Array.mk [int u8 n,int u64 n_4,int
 u64 n_5,int u64 n_6,int u64 n_7,int i64 n_8,int i64 n_9,slice a n_10 c])) m'' []
theorem Zpn(p0:Int)(m:Mem)(R:RT)(h:Zlt p0 m R):CX Try.prog 25 #[.int .u8 p0] m [] R:=
 Zal (E:=ZrF) ZaC mix Try.func25 [.v (.int .u8 p0)] [] (by kernel_rfl) (Eq.mp (by kernel_rfl) h)
noncomputable def Zkw:Env:={ EB with
 frzNew:=[2] }
def ZdQ(aM:Option Addr)(aL aU:Nat)(aO:Option Addr)(aK aV:Nat)(aP:Option Addr)(aN aT:Nat)(aQ:Option Addr)(aR aS:Nat)(aA:Bool)(p1a:Option Addr)(p1n p1c:Nat)(m:Mem)(R:RT):Prop:=
 ∀(b:Nat)(m':Mem),Mem.le m m'→Mem.reads m' b 0 [slice aM aL aU,slice aO aK aV,slice aP aN aT,slice aQ aR aS,Value.bool aA]→∃(R_1:RT),True∧CX Try.prog 78
 (Array.mk [agg (Array.mk [slice aM aL aU,slice aO aK aV,slice aP aN aT,slice aQ aR aS,Value.bool aA]),slice p1a p1n p1c]) m' [] R_1∧ZaJ (Shape.int i64) R_1∧∀(n:Int)
 (m'_1:Mem),Mem.le m' m'_1→R_1 (int i64 n) m'_1 []→br (!n == (0:Int)) (∃(m'':Mem),Mem.le m m''∧Mem.le m'' m'_1∧R (Value.tuple (Array.mk [Value.bool false,int i64 n])) m'' []) (∃(R_2:RT),True∧CX
 Try.prog 68 (Array.mk [agg (Array.mk [slice aM aL aU,slice aO aK aV,slice aP aN aT,slice aQ aR aS,Value.bool aA]),slice p1a p1n p1c]) m'_1 [] R_2∧ZaJ Shape.bool R_2∧∀(b:
 Bool) (m':Mem),Mem.le m'_1 m'→R_2 (Value.bool b) m' []→∃(m'':Mem),Mem.le m m''∧Mem.le m'' m'∧R (Value.tuple (Array.mk [Value.bool b,int i64 0])) m'' [])
theorem ZfW(aM:Option Addr)(aL aU:Nat)(aO:Option Addr)(aK aV:Nat)(aP:Option Addr)(aN aT:Nat)(aQ:Option Addr)(aR aS:Nat)(aA:Bool)(p1a:Option Addr)(p1n p1c:Nat)(m:Mem)(R:RT)(h:ZdQ aM aL aU aO aK aV aP aN aT aQ aR aS aA p1a p1n p1c m R):CX Try.prog 28 #[.agg #[.slice aM aL aU,.slice aO aK aV,.slice aP aN aT,.slice aQ aR aS,.bool aA],.slice p1a p1n p1c] m [] R:=
 Zal (E:=Zkw) ZaC mix Try.func28 [.v (.agg #[.slice aM aL aU,.slice aO aK aV,.slice aP aN aT,.slice aQ aR aS,.bool aA]),.v (.slice p1a p1n p1c)] [] (by kernel_rfl) (Eq.mp (by kernel_rfl) h)
noncomputable def Zg0:Env:={ EB with
 loops:=(fun i=>bif Nat.beq i 36 then⟨[(191,.int .i64)],[],[],false⟩ else bif Nat.beq i 44 then⟨[(235,.int .i64)],[],[],false⟩ else⟨[],[],[],false⟩)
 joins:=(fun i=>bif Nat.beq i 6 then some [(59,.bool)]else bif Nat.beq i 9 then some [(83,.bool)]else bif Nat.beq i 41 then some [(225,.bool)]else bif Nat.beq i 48 then some [(264,.bool)]else none)
 dr:=(fun i=>bif Nat.beq i 13 then[⟨0,[91],[91],none,[],[]⟩,⟨1,[92],[92],none,[],[]⟩,⟨2,[91,92],[],none,[0,1],[]⟩,⟨3,[9],[9],none,[0,1,2],[]⟩]else[])
 tokOf:=(fun i=>bif Nat.beq i 116 then 991 else 0)
 acq:=(fun i=>bif Nat.beq i 19 then some (991,1)else none)
 thaw:=true
 stAt:=(fun i=>bif Nat.beq i 103 then some 999 else bif Nat.beq i 129 then some 999 else bif Nat.beq i 140 then some 999 else none)
 gb:=true
 cuts:=(fun i=>bif Nat.beq i 28 then some ⟨[],[9],[],false⟩ else none) }
abbrev Zcr:Int→Int→Int→Int→Int→Int→Int→Option Addr→Nat→Nat→Int→Int→Int→Int→Int→Int→Int→Option Addr→Nat→Nat→List Value:=fun(n ab ac ad af ag ah:Int) (a:
 Option Addr) (ak c:Nat) (al am an ao ap aq ar:Int) (bn:Option Addr) (au ai:Nat)=>[int u8 n,int u64 ab,int u64 ac,int u64 ad,int u64 af,int i64 ag,int i64 ah,slice a ak c,int u8 al,int u64 am,int u64
 an,int u64 ao,int u64 ap,int i64 aq,int i64 ar,slice bn au ai]
abbrev ZaS:Option Addr→Nat→Nat→Option Addr→Nat→Nat→Option Addr→Nat→Nat→Option Addr→Nat→Nat→Bool→Nat→Option Box:=fun(a:Option Addr)(n c:Nat)(bn:Option Addr) (ab ai:
 Nat) (cz:Option Addr) (ac bp:Nat) (ay:Option Addr) (ad aj:Nat) (b:Bool) (ae:Nat)=>some (Box.mk ae [slice a n c,slice bn ab ai,slice cz ac bp,slice ay ad aj,Value.bool b] 26 5 false true)
abbrev Zbq:Int→Int→Int→Int→Int→Int→Int→Option Addr→Nat→Nat→Int→Int→Int→Int→Int→Int→Int→Option Addr→Nat→Nat→Nat→Option Box:=fun(n ab ac ad af ag ah:Int) (a:
 Option Addr) (ak c:Nat) (al am an ao ap aq ar:Int) (bn:Option Addr) (au ai b:Nat)=>some (Box.mk b (Zcr n ab ac ad af ag ah a ak c al am an ao ap aq ar bn au ai) 41 16 true true)
abbrev Zcs:Int→Int→Int→Int→Int→Int→Int→Option Addr→Nat→Nat→Int→Int→Int→Int→Int→Int→Int→Option Addr→Nat→Nat→Nat→Option Addr→Nat→Nat→Option Addr→Nat→Nat
 → Option Addr→Nat→Nat→Option Addr→Nat→Nat→Bool→Nat→List (Option Box):=fun(n ab ac ad af ag ah:Int)(a:Option Addr)(ak c:Nat)(al am an ao ap aq ar:Int)(bn:Option Addr)(au ai b:Nat) (cz
 : Option Addr) (bo bp:Nat) (ay:Option Addr) (cq aj:Nat) (db:Option Addr) (cr aw:Nat) (dc:Option Addr) (ct ax:Nat) (ae:Bool) (a1:Nat)=>[ZaS cz bo bp ay cq aj db cr aw dc ct ax ae a1,
 Zbq n ab ac ad af ag ah a ak c al am an ao ap aq ar bn au ai b]
abbrev Zct:Int→Int→Int→Int→Int→Int→Int→Option Addr→Nat→Nat→Int→Int→Int→Int→Int→Int→Int→Option Addr→Nat→Nat→Nat→Option Addr→Nat→Nat→Option Addr→Nat→Nat
 → Option Addr→Nat→Nat→Option Addr→Nat→Nat→Bool→Nat→Option Addr→Nat→Nat→Option Addr→Nat→Nat→Option Addr→Nat→Nat→Option Addr→Nat→Nat→Bool→Nat→List (Option Box):=fun(n ab ac
 ad af ag ah:Int) (a:Option Addr) (ak c:Nat) (al am an ao ap aq ar:Int) (bn:Option Addr) (au ai b:Nat) (cz:Option Addr) (bo bp:Nat) (ay:Option Addr) (cq aj:Nat) (db:Option Addr) (cr aw:Nat) (dc:
 Option Addr) (ct ax:Nat) (ae:Bool) (a1:Nat) (ds:Option Addr) (dd a0:Nat) (dg:Option Addr) (de bg:Nat) (dt:Option Addr) (df bh:Nat) (du:Option Addr) (dh be:Nat) (bq:Bool) (bf:Nat)=>
 [ZaS ds dd a0 dg de bg dt df bh du dh be bq bf,ZaS cz bo bp ay cq aj db cr aw dc ct ax ae a1,Zbq n ab ac ad af ag ah a ak c al am an ao ap aq ar bn au ai b]
abbrev ZaT:Int→Int→Int→Int→Int→Int→Int→Option Addr→Nat→Nat→Int→Int→Int→Int→Int→Int→Int→Option Addr→Nat→Nat→Nat→Option Addr→Nat→Nat→Option Addr→Nat→Nat
 → Option Addr→Nat→Nat→Option Addr→Nat→Nat→Bool→Nat→Nat→List (Option Box):=fun(n ab ac ad af ag ah:Int)(a:Option Addr)(ak c:Nat)(al am an ao ap aq ar:Int)(bn:Option Addr) (au ai b:
 Nat) (cz:Option Addr) (bo bp:Nat) (ay:Option Addr) (cq aj:Nat) (db:Option Addr) (cr aw:Nat) (dc:Option Addr) (ct ax:Nat) (ae:Bool) (a1 bq:Nat)=>[some (Box.mk bq [] 26 5 false true),
 ZaS cz bo bp ay cq aj db cr aw dc ct ax ae a1,Zbq n ab ac ad af ag ah a ak c al am an ao ap aq ar bn au ai b]
abbrev ZdD:Int→Int→Int→Int→Int→Int→Int→Nat→Option Box:=fun(n ab ac ad af ag ah:Int)(b:Nat)=>some (Box.mk b [int i64 n,int i64 ab,int i64 ac,int i64 ad,int i64 af,int i64
 ag,int i64 ah] 33 7 true true)
abbrev ZdE:Nat→List Value→Option Box:=fun(b:Nat)(cs:List Value)=>some (Box.mk b cs 26 5 false true)
abbrev Za7:Int→Int→Int→Int→Int→Int→Int→Option Addr→Nat→Nat→Int→Int→Int→Int→Int→Int→Int→Option Addr→Nat→Nat→Nat→Option Addr→Nat→Nat→Option Addr→Nat→Nat
 → Option Addr→Nat→Nat→Option Addr→Nat→Nat→Bool→Nat→Nat→List Value→Int→Int→Int→Int→Int→Option Addr→Nat→Nat→Option Addr→Nat→Nat→Option Addr→Nat→Nat→Option Addr→Nat→Nat→
 Bool→Int→Nat→Int→Nat→List (Option Box):=fun(n ab ac ad af ag ah:Int)(a:Option Addr)(ak c:Nat)(al am an ao ap aq ar:Int)(bn:Option Addr)(au ai b:Nat)(cz:Option Addr)(bo bp:Nat) (ay:
 Option Addr) (cq aj:Nat) (db:Option Addr) (cr aw:Nat) (dc:Option Addr) (ct ax:Nat) (ae:Bool) (a1 bq:Nat) (cs:List Value) (dd de df dh aa:Int) (ds:Option Addr) (az a0:Nat) (dg:Option Addr) (a2 bg
 : Nat) (dt:Option Addr) (a3 bh:Nat) (du:Option Addr) (dk be:Nat) (bf:Bool) (bb:Int) (a8:Nat) (ba:Int) (di:Nat)=>[ZdD dd de df dh aa bb ba di,ZaS ds az a0 dg a2 bg dt a3
 bh du dk be bf a8,ZdE bq cs,ZaS cz bo bp ay cq aj db cr aw dc ct ax ae a1,Zbq n ab ac ad af ag ah a ak c al am an ao ap aq ar bn au ai b]
abbrev Zgh:Nat→Nat→Nat→Nat→Nat→Option Box:=fun(b ae a1 bq bf:Nat)=>some (Box.mk bf [slice (some (Addr.mk b 0 none)) 1 1,slice (some (Addr.mk ae 0 none)) 1 1,slice (some (Addr.mk a1 0
 none)) 2 2,slice (some (Addr.mk bq 0 none)) 2 2] 24 4 true true)
abbrev Zbe:Int→Int→Int→Int→Int→Int→Int→Int→Option Addr→Nat→Nat→Int→Int→Int→Int→Int→Int→Int→Option Addr→Nat→Nat→Nat→Option Addr→Nat→Nat→Option Addr→Nat
 → Nat→Option Addr→Nat→Nat→Option Addr→Nat→Nat→Bool→Nat→Nat→List Value→Int→Int→Int→Int→Int→Option Addr→Nat→Nat→Option Addr→Nat→Nat→Option Addr→Nat→Nat→Option Addr→Nat→
 Nat→Bool→Int→Nat→Int→Nat→Nat→Nat→Nat→Nat→Nat→List (Option Box):=fun(p2 n ab ac ad af ag ah:Int)(a:Option Addr)(ak c:Nat)(al am an ao ap aq ar:Int)(bn:Option Addr)(au ai b:Nat)
 (cz:Option Addr) (bo bp:Nat) (ay:Option Addr) (cq aj:Nat) (db:Option Addr) (cr aw:Nat) (dc:Option Addr) (ct ax:Nat) (ae:Bool) (a1 bq:Nat) (cs:List Value) (dd de df dh aa:Int) (ds:Option Addr)
 (az a0:Nat) (dg:Option Addr) (a2 bg:Nat) (dt:Option Addr) (a3 bh:Nat) (du:Option Addr) (dk be:Nat) (bf:Bool) (bb:Int) (a8:Nat) (ba:Int) (di av bd bi ca bl:Nat)=>[Zgh av bd bi ca
 bl,some (Box.mk ca [int i64 0,int i64 (-1:Int)] 3 2 true true),some (Box.mk bi [int i64 0,int i64 0] 3 2 true true),some (Box.mk bd [int i64 (if(-2:Int) < p2 then(-2:Int)else p2)] 3 1 true true),some
 (Box.mk av [int i64 (if(↑bo:Int) > p2 then(↑bo:Int)else p2)] 3 1 true true),ZdD dd de df dh aa bb ba di,ZaS ds az a0 dg a2 bg dt a3 bh du dk be bf a8,ZdE bq cs,
 ZaS cz bo bp ay cq aj db cr aw dc ct ax ae a1,Zbq n ab ac ad af ag ah a ak c al am an ao ap aq ar bn au ai b]
def ZdF(p0a:Option Addr)(p0n p0c:Nat)(p1 p2:Int)(m:Mem)(R:RT):Prop:=
 ∃(R_1:RT),True∧CX Try.prog 12 (Array.mk []) m [] R_1∧ZaJ Shape.bool R_1∧∀(b:Bool)(m':Mem),Mem.le m m'→R_1 (Value.bool b) m' []→br (!b) (∃(m'':Mem),Mem.le m m''∧Mem.le m'' m'∧R (Value.bool
 false) m'' []) (∃(R_2:RT),True∧CX Try.prog 25 (Array.mk [int u8 97]) m' [] R_2∧ZaJ (shT) R_2∧∀(n ab ac ad af ag ah:Int)(a:Option Addr)(ak c:Nat)(dv:Mem),Mem.le m' dv→R_2 (agg (Array.mk [int u8
 n,int u64 ab,int u64 ac,int u64 ad,int u64 af,int i64 ag,int i64 ah,slice a ak c])) dv []→∃(R_3:RT),True∧CX Try.prog 15 (Array.mk [slice p0a p0n p0c]) dv [] R_3∧ZaJ (shT) R_3∧∀(al am an ao ap aq ar
 : Int) (ay:Option Addr) (au ai:Nat) (m':Mem),Mem.le dv m'→R_3 (agg (Array.mk [int u8 al,int u64 am,int u64 an,int u64 ao,int u64 ap,int i64 aq,int i64 ar,slice ay au ai])) m' []→∀(b:Nat),Mem.free
 m' b→∃(R_4:RT),True∧CX Try.prog 24 (Array.mk [slice (some (Addr.mk b 0 none)) 2 2]) (Mem.add m' b (Zcr n ab ac ad af ag ah a ak c al am an ao ap aq ar ay au ai)) [] R_4∧ZaJ (shT) R_4∧∀(bo cq
 cr ct dd de df:Int) (dg:Option Addr) (dh bp:Nat) (dw:Mem),Mem.le (Mem.add m' b (Zcr n ab ac ad af ag ah a ak c al am an ao ap aq ar ay au ai)) dw→R_4 (agg (Array.mk [int u8 bo,int u64 cq,int
 u64 cr,int u64 ct,int u64 dd,int i64 de,int i64 df,slice dg dh bp])) dw []→∃(R_5:RT),True∧CX Try.prog 14 (Array.mk [agg (Array.mk [int u8 bo,int u64 cq,int u64 cr,int u64 ct,int u64 dd,int i64 de,int
 i64 df,slice dg dh bp])]) dw [] R_5∧ZaJ (Shape.tup [Shape.agg [Shape.slice,Shape.slice,Shape.slice,Shape.slice,Shape.bool],Shape.int i64]) R_5∧∀(a4:Option Addr)(aa aj:Nat)(a5:Option Addr) (az aw:
 Nat) (a6:Option Addr) (a2 ax:Nat) (a7:Option Addr) (a3 a0:Nat) (ae:Bool) (dk:Int) (m':Mem),Mem.le dw m'→R_5 (Value.tuple (Array.mk [agg (Array.mk [slice a4 aa aj,slice a5 az aw,slice a6 a2 ax,slice
 a7 a3 a0,Value.bool ae]),int i64 dk])) m' []→∀(a1:Nat),br (dk == (170:Int)) (∃(m'':Mem),Mem.le m m''∧Mem.le m'' m'∧R (Value.bool true) m'' []) (∃(bq:Bool),br (!dk == (0:Int)) (Zas
 (Zcs n ab ac ad af ag ah a ak c al am an ao ap aq ar ay au ai b a4 aa aj a5 az aw a6 a2 ax a7 a3 a0 ae a1)∧[Value.bool true]=[Value.bool bq]) (br ((↑aa:Int) == (0:Int)) (Zas (Zcs n
 ab ac ad af ag ah a ak c al am an ao ap aq ar ay au ai b a4 aa aj a5 az aw a6 a2 ax a7 a3 a0 ae a1)∧[Value.bool true]=[Value.bool bq]) (Zas (Zcs n ab ac ad af ag ah a ak c al am an ao ap aq ar ay au
 ai b a4 aa aj a5 az aw a6 a2 ax a7 a3 a0 ae a1)∧[Value.bool ((↑az:Int) == (0:Int))]=[Value.bool bq]))∧br bq (∃(m'':Mem),Mem.le m m''∧Mem.le m'' m'∧R (Value.bool false) m'' []) (∃(R_6:RT),True∧CX
 Try.prog 26 (Array.mk [agg (Array.mk [slice a4 aa aj,slice a5 az aw,slice a6 a2 ax,slice a7 a3 a0,Value.bool ae])]) m' [] R_6∧ZaJ (Shape.agg [Shape.slice,Shape.slice,Shape.slice,Shape.slice,Shape.bool]) R_6∧
 ∀(cc:Option Addr)(bb bg:Nat)(bs:Option Addr)(ba bh:Nat)(bk:Option Addr)(bc be:Nat)(cu:Option Addr)(cv cw:Nat)(bf:Bool)(a9:Mem),Mem.le m' a9→R_6 (agg (Array.mk [slice cc bb bg,slice bs
 ba bh,slice bk bc be,slice cu cv cw,Value.bool bf])) a9 []→∀(a8:Nat),∃(di:Bool),(∃(R:RT),True∧CX Try.prog 22 (Array.mk [agg (Array.mk [slice cc bb bg,slice bs ba bh,slice bk bc be,slice cu cv cw,
 Value.bool bf]),agg (Array.mk [slice a4 aa aj,slice a5 az aw,slice a6 a2 ax,slice a7 a3 a0,Value.bool ae])]) a9 [] R∧ZaJ Shape.bool R∧∀(av:Bool)(m':Mem),Mem.le a9 m'→R (Value.bool av) m' []→br (!av)
 (Zas (Zct n ab ac ad af ag ah a ak c al am an ao ap aq ar ay au ai b a4 aa aj a5 az aw a6 a2 ax a7 a3 a0 ae a1 cc bb bg bs ba bh bk bc be cu cv cw bf a8)∧[Value.bool true]=[Value.bool di]) (br
 (!(↑ba:Int) == (↑az:Int)) (Zas (Zct n ab ac ad af ag ah a ak c al am an ao ap aq ar ay au ai b a4 aa aj a5 az aw a6 a2 ax a7 a3 a0 ae a1 cc bb bg bs ba bh bk bc be cu cv cw bf a8)∧[Value.bool
 true]=[Value.bool di]) (Zas (Zct n ab ac ad af ag ah a ak c al am an ao ap aq ar ay au ai b a4 aa aj a5 az aw a6 a2 ax a7 a3 a0 ae a1 cc bb bg bs ba bh bk bc be cu cv cw bf a8)∧[Value.bool !(↑bb:
 Int) == (↑aa:Int)]=[Value.bool di])))∧br di (∃(m'':Mem),Mem.le m m''∧Mem.le m'' a9∧R (Value.bool false) m'' []) (∃(J:JT),((8:Int)≠(0:Int)∧br (Int.tmod p1 (8:Int) == (0:Int)) (∃(av:Nat),
 ∃(o:Nat),cc=some (Addr.mk av o none)∧Zaf (IntKind.wrap i64 ((↑bb:Int) - (1:Int))) bb∧(∃(vs:List Value),List.length vs=4∧Mem.reads a9 av (o+Int.toNat (IntKind.wrap i64 ((↑bb:Int) - (1:
 Int)))*4) vs)∧Mem.free m av∧true=true∧b≠av∧Zas (ZaT n ab ac ad af ag ah a ak c al am an ao ap aq ar ay au ai b a4 aa aj a5 az aw a6 a2 ax a7 a3 a0 ae a1 a8)∧J [] [[slice cc bb bg,slice
 bs ba bh,slice bk bc be,slice cu cv cw,Value.bool bf]] [] (Mem.upd a9 av (o+Int.toNat (IntKind.wrap i64 ((↑bb:Int) - (1:Int)))*4) [int u64 0,int u64 0,int u64 0,int u64 0])) (br (Int.tmod p1 (8:Int) ==
 (1:Int)) (((0:Int)≤(1:Int)∧(1:Int)≤(↑bb:Int))∧Zas (ZaT n ab ac ad af ag ah a ak c al am an ao ap aq ar ay au ai b a4 aa aj a5 az aw a6 a2 ax a7 a3 a0 ae a1 a8)∧J [] [[slice (ZbS
 cc (Int.toNat (1:Int)) bg 4) (bb - Int.toNat (1:Int)) (bg - Int.toNat (1:Int)),slice bs ba bh,slice bk bc be,slice cu cv cw,Value.bool bf]] [] a9) (br (Int.tmod p1 (8:Int) == (2:Int)) (∃(dj:Option
 Addr),∃(cx:Nat),∃(dn:Nat),Zwo a9 m 1 dj cx dn∧(∀(av:Nat),Tok.blk (Tok.mk (slice dj cx dn) 1)=some av→b≠av∧True)∧∀(av:Nat),Mem.free (Mem.cutA a9 dj (cx*1)) av→(Tok.mk (slice dj cx dn) 1
 = Tok.mk (slice bk bc be) 1∨slice bk bc be=slice none 0 0∨be < bc+1)∧∃(xs:List Value),∃(ys:List Value),List.length xs=bc*1∧List.length ys=1*1∧rowRd (Mem.add (Mem.cutA a9 dj (cx*1)) av
 [int i64 (if(↑aa:Int) > p2 then(↑aa:Int)else p2)]) bk xs∧rowRd (Mem.add (Mem.cutA a9 dj (cx*1)) av [int i64 (if(↑aa:Int) > p2 then(↑aa:Int)else p2)]) (some (Addr.mk av 0 none)) ys∧(∀(u:Value),u ∈
 ys→Value.oneCell' u=true)∧(bc+1)*8≤140737488355328∧bc+1≤9223372036854775807∧∀(a':Option Addr)(c':Nat)(m':Mem),Mem.le (Mem.add (Mem.cutA a9 dj (cx*1)) av [int i64 (if(↑aa:Int) > p2 then
 (↑aa:Int)else p2)]) m'→rowRd m' a' (List.append xs ys)→TokFact (Mem.add (Mem.cutA a9 dj (cx*1)) av [int i64 (if(↑aa:Int) > p2 then(↑aa:Int)else p2)]) bk a' (bc+1) c'→∀(zs:List Value),List.length
 zs=(c' - (bc+1))*1→Zas (ZaT n ab ac ad af ag ah a ak c al am an ao ap aq ar ay au ai b a4 aa aj a5 az aw a6 a2 ax a7 a3 a0 ae a1 a8)∧J [] [[slice cc bb bg,slice bs ba bh,slice a' (bc+1)
 c',slice cu cv cw,Value.bool bf]] [] (Mem.addA m' a' ((bc+1)*1) zs)) (br (Int.tmod p1 (8:Int) == (3:Int)) (∀(av:Nat),Mem.free a9 av→Zas (ZaT n ab ac ad af ag ah a ak c al am an ao ap aq
 ar ay au ai b a4 aa aj a5 az aw a6 a2 ax a7 a3 a0 ae a1 a8)∧J [] [[slice cc bb bg,slice bs ba bh,slice bk bc be,slice (some (Addr.mk av 0 none)) 1 1,Value.bool bf]] [] (Mem.add a9 av [int i64 (if(-1:Int) < p2
 then(-1:Int)else p2)])) (br (Int.tmod p1 (8:Int) == (4:Int)) (∀(av:Nat),Mem.free a9 av→∃(bd:Nat),∃(o:Nat),bs=some (Addr.mk bd o none)∧Zaf (0:Int) ba∧(∃(vs:List Value),List.length vs
 = 1∧Mem.reads (Mem.add a9 av [int i64 0,int i64 0]) bd (o+0) vs)∧Mem.free m bd∧true=true∧av≠bd∧b≠bd∧Zas (ZaT n ab ac ad af ag ah a ak c al am an ao ap aq ar ay au ai b a4 aa aj a5
 az aw a6 a2 ax a7 a3 a0 ae a1 a8)∧J [] [[slice cc bb bg,slice bs ba bh,slice bk bc be,slice cu cv cw,Value.bool bf]] [] (Mem.upd (Mem.add a9 av [int i64 0,int i64 0]) bd (o+0) [slice (some (Addr.mk av 0 none))
 2 2])) (br (Int.tmod p1 (8:Int) == (5:Int)) (∀(av:Nat),Mem.free a9 av→∃(bd:Nat),∃(o:Nat),bs=some (Addr.mk bd o none)∧Zaf (IntKind.wrap i64 ((↑ba:Int) - (1:Int))) ba∧(∃(vs:List Value),
 List.length vs=1∧Mem.reads (Mem.add a9 av [int i64 (if(↑aa:Int) > p2 then(↑aa:Int)else p2)]) bd (o+Int.toNat (IntKind.wrap i64 ((↑ba:Int) - (1:Int)))*1) vs)∧Mem.free m bd∧true=true∧av≠bd∧b
 ≠ bd∧Zas (ZaT n ab ac ad af ag ah a ak c al am an ao ap aq ar ay au ai b a4 aa aj a5 az aw a6 a2 ax a7 a3 a0 ae a1 a8)∧J [] [[slice cc bb bg,slice bs ba bh,slice bk bc be,slice cu cv cw,
 Value.bool bf]] [] (Mem.upd (Mem.add a9 av [int i64 (if(↑aa:Int) > p2 then(↑aa:Int)else p2)]) bd (o+Int.toNat (IntKind.wrap i64 ((↑ba:Int) - (1:Int)))*1) [slice (some (Addr.mk av 0 none)) 1 1])) (br
 (Int.tmod p1 (8:Int) == (6:Int)) (((0:Int)≤(1:Int)∧(1:Int)≤(↑ba:Int))∧Zas (ZaT n ab ac ad af ag ah a ak c al am an ao ap aq ar ay au ai b a4 aa aj a5 az aw a6 a2 ax a7 a3 a0 ae a1
 a8)∧J [] [[slice cc bb bg,slice (ZbS bs (Int.toNat (1:Int)) bh 1) (ba - Int.toNat (1:Int)) (bh - Int.toNat (1:Int)),slice bk bc be,slice cu cv cw,Value.bool bf]] [] a9) (((0:Int)≤(401:Int)∧(401:
 Int)≤(401:Int)∧(401:Int)*(↑(32:Nat):Int)≤(281474976710656:Int)∧(401:Int)≤(9223372036854775807:Int))∧∀(av:Nat),((0:Int)≤(401:Int)∧(401:Int)≤(401:Int)∧(401:Int)*(↑(24:
 Nat):Int)≤(281474976710656:Int)∧(401:Int)≤(9223372036854775807:Int))∧∀(bd:Nat),Zas (ZaT n ab ac ad af ag ah a ak c al am an ao ap aq ar ay au ai b a4 aa aj a5 az aw a6 a2 ax a7 a3 a0
 ae a1 a8)∧J [] [[slice (some (Addr.mk av 0 none)) (Int.toNat (401:Int)) (Int.toNat (401:Int)),slice (some (Addr.mk bd 0 none)) (Int.toNat (401:Int)) (Int.toNat (401:Int)),slice none 0 0,slice none 0 0,
 Value.bool false]] [] a9))))))))∧∀(cs:List Value)(m':Mem),True→J [] [cs] [] m'→∃(R_7:RT),True∧CX Try.prog 27 (Array.mk [agg (Array.mk cs),slice none 0 0,int u8 97]) m' [] R_7∧ZaJ (Shape.tup
 [Shape.slice,Shape.int i64]) R_7∧∀(ea:Option Addr)(cx dn:Nat)(bt:Int)(dx:Mem),Mem.le m' dx→R_7 (Value.tuple (Array.mk [slice ea cx dn,int i64 bt])) dx []→∃(R_8:RT),True∧CX Try.prog 28
 (Array.mk [agg (Array.mk cs),slice none 0 0]) dx [] R_8∧ZaJ (Shape.tup [Shape.bool,Shape.int i64]) R_8∧∀(av:Bool)(bu:Int)(m':Mem),Mem.le dx m'→R_8 (Value.tuple (Array.mk [Value.bool av,int i64 bu]))
 m' []→∃(R_9:RT),True∧CX Try.prog 29 (Array.mk [agg (Array.mk cs),slice none 0 0]) m' [] R_9∧ZaJ (Shape.tup [Shape.slice,Shape.int i64]) R_9∧∀(eb:Option Addr)(d1 ec:Nat)(bv:Int)(dy:Mem),Mem.le
 m' dy→R_9 (Value.tuple (Array.mk [slice eb d1 ec,int i64 bv])) dy []→∃(R_10:RT),True∧CX Try.prog 18 (Array.mk [agg (Array.mk cs),slice none 0 0]) dy [] R_10∧ZaJ (Shape.tup [Shape.bool,Shape.int i64])
 R_10∧∀(bd:Bool)(bw:Int)(m':Mem),Mem.le dy m'→R_10 (Value.tuple (Array.mk [Value.bool bd,int i64 bw])) m' []→∃(R_11:RT),True∧CX Try.prog 30 (Array.mk [agg (Array.mk cs),slice none 0 0]) m' [] R_11
 ∧ ZaJ (Shape.tup [Shape.slice,Shape.int i64]) R_11∧∀(ed:Option Addr)(d2 ee:Nat)(bx:Int)(dz:Mem),Mem.le m' dz→R_11 (Value.tuple (Array.mk [slice ed d2 ee,int i64 bx])) dz []→∃(R_12:RT),True∧CX
 Try.prog 16 (Array.mk [agg (Array.mk cs)]) dz [] R_12∧ZaJ (Shape.tup [Shape.agg [Shape.slice,Shape.slice,Shape.slice,Shape.slice,Shape.bool],Shape.int i64]) R_12∧∀(cd:Option Addr)(ce cf:Nat) (cg:Option
 Addr) (ch ci:Nat) (cj:Option Addr) (ck cl:Nat) (cm:Option Addr) (cn co:Nat) (bi:Bool) (bz:Int) (m':Mem),Mem.le dz m'→R_12 (Value.tuple (Array.mk [agg (Array.mk [slice cd ce cf,slice cg ch ci,slice
 cj ck cl,slice cm cn co,Value.bool bi]),int i64 bz])) m' []→∀(ca:Nat),∃(R_13:RT),True∧CX Try.prog 20 (Array.mk [agg (Array.mk cs)]) m' [] R_13∧ZaJ (Shape.tup [Shape.slice,Shape.int i64]) R_13∧∀(ef
 : Option Addr) (d3 eg:Nat) (cb:Int) (d0:Mem),Mem.le m' d0→R_13 (Value.tuple (Array.mk [slice ef d3 eg,int i64 cb])) d0 []→∀(bl:Nat),Mem.free d0 bl→∃(I:IT),(∃(n:Nat),I [int i64 0] [] [] (Mem.add
 d0 bl [int i64 bt,int i64 bu,int i64 bv,int i64 bw,int i64 bx,int i64 bz,int i64 cb]) n)∧∀(dp:Int)(m':Mem)(d4:Nat),True→I [int i64 dp] [] [] m' d4→br (decide (dp < (↑(7:Nat):Int))) (Zaf dp
 7∧Eng.Zr2 [int i64 bt,int i64 bu,int i64 bv,int i64 bw,int i64 bx,int i64 bz,int i64 cb] (Int.toNat dp*1) fun(v:Value)=>chk (Zbn i64 v&&decide (i64=i64)) (br (!RowKit.intOf v == (171:Int)) (∃
 (m'':Mem),Mem.le m m''∧Mem.le m'' m'∧R (Value.bool false) m'' []) (Zas (Za7 n ab ac ad af ag ah a ak c al am an ao ap aq ar ay au ai b a4 aa aj a5 az aw a6 a2 ax a7 a3 a0 ae a1 a8 cs bt bu bv bw
 bx cd ce cf cg ch ci cj ck cl cm cn co bi bz ca cb bl)∧∃(n':Nat),n' < d4∧I [int i64 (IntKind.wrap i64 (dp+(1:Int)))] [] [] m' n'))) (∃(dm:Bool),(∃(R:RT),True∧CX Try.prog 21 (Array.mk [agg (Array.mk
 cs)]) m' [] R∧ZaJ Shape.bool R∧∀(bj:Bool)(cp:Mem),Mem.le m' cp→R (Value.bool bj) cp []→br bj (Zas (Za7 n ab ac ad af ag ah a ak c al am an ao ap aq ar ay au ai b a4 aa aj a5 az aw a6 a2
 ax a7 a3 a0 ae a1 a8 cs bt bu bv bw bx cd ce cf cg ch ci cj ck cl cm cn co bi bz ca cb bl)∧[Value.bool true]=[Value.bool dm]) (br (!IntKind.wrap i64 (IntKind.wrap i64 (IntKind.wrap i64 ((↑cx:Int)+(↑d1:Int)) +
 (↑d2:Int))+(↑d3:Int)) == (0:Int)) (Zas (Za7 n ab ac ad af ag ah a ak c al am an ao ap aq ar ay au ai b a4 aa aj a5 az aw a6 a2 ax a7 a3 a0 ae a1 a8 cs bt bu bv bw bx cd ce cf cg ch ci cj ck cl
 cm cn co bi bz ca cb bl)∧[Value.bool true]=[Value.bool dm]) (br av (Zas (Za7 n ab ac ad af ag ah a ak c al am an ao ap aq ar ay au ai b a4 aa aj a5 az aw a6 a2 ax a7 a3 a0 ae a1 a8 cs bt bu bv bw bx
 cd ce cf cg ch ci cj ck cl cm cn co bi bz ca cb bl)∧[Value.bool true]=[Value.bool dm]) (br bd (Zas (Za7 n ab ac ad af ag ah a ak c al am an ao ap aq ar ay au ai b a4 aa aj a5 az aw a6 a2 ax a7 a3 a0
 ae a1 a8 cs bt bu bv bw bx cd ce cf cg ch ci cj ck cl cm cn co bi bz ca cb bl)∧[Value.bool true]=[Value.bool dm]) (∃(R:RT),True∧CX Try.prog 22 (Array.mk [agg (Array.mk [slice cd ce cf,slice cg ch ci,slice cj
 ck cl,slice cm cn co,Value.bool bi]),agg (Array.mk [slice none 0 0,slice none 0 0,slice none 0 0,slice none 0 0,Value.bool false])]) cp [] R∧ZaJ Shape.bool R∧∀(bm:Bool)(m':Mem),Mem.le cp m'→R
 (Value.bool bm) m' []→Zas (Za7 n ab ac ad af ag ah a ak c al am an ao ap aq ar ay au ai b a4 aa aj a5 az aw a6 a2 ax a7 a3 a0 ae a1 a8 cs bt bu bv bw bx cd ce cf cg ch ci cj ck cl cm cn co bi bz ca cb
 bl)∧[Value.bool !bm]=[Value.bool dm])))))∧br dm (∃(m'':Mem),Mem.le m m''∧Mem.le m'' m'∧R (Value.bool false) m'' []) (∀(bj:Nat),Mem.free m' bj→∀(bm:Nat),Mem.free (Mem.add m' bj [int i64 (if(↑aa:
 Int) > p2 then(↑aa:Int)else p2)]) bm→∀(cy:Nat),Mem.free (Mem.add (Mem.add m' bj [int i64 (if(↑aa:Int) > p2 then(↑aa:Int)else p2)]) bm [int i64 (if(-2:Int) < p2 then(-2:Int)else p2)]) cy→∀(da:
 Nat),Mem.free (Mem.add (Mem.add (Mem.add m' bj [int i64 (if(↑aa:Int) > p2 then(↑aa:Int)else p2)]) bm [int i64 (if(-2:Int) < p2 then(-2:Int)else p2)]) cy [int i64 0,int i64 0]) da→∀(dl:Nat),Mem.free
 (Mem.add (Mem.add (Mem.add (Mem.add m' bj [int i64 (if(↑aa:Int) > p2 then(↑aa:Int)else p2)]) bm [int i64 (if(-2:Int) < p2 then(-2:Int)else p2)]) cy [int i64 0,int i64 0]) da [int i64 0,int i64 (-1:
 Int)]) dl→∃(I:IT),(∃(n:Nat),I [int i64 0] [] [] (Mem.add (Mem.add (Mem.add (Mem.add (Mem.add m' bj [int i64 (if(↑aa:Int) > p2 then(↑aa:Int)else p2)]) bm [int i64 (if(-2:Int) < p2 then(-2:Int)else
 p2)]) cy [int i64 0,int i64 0]) da [int i64 0,int i64 (-1:Int)]) dl [slice (some (Addr.mk bj 0 none)) 1 1,slice (some (Addr.mk bm 0 none)) 1 1,slice (some (Addr.mk cy 0 none)) 2 2,slice (some (Addr.mk da 0 none))
 2 2]) n)∧∀(dq:Int)(m':Mem)(d5:Nat),True→I [int i64 dq] [] [] m' d5→br (decide (dq < (↑(4:Nat):Int))) (Zaf dq 4∧Eng.Zr2 [slice (some (Addr.mk bj 0 none)) 1 1,slice (some (Addr.mk bm 0 none)) 1
 1,slice (some (Addr.mk cy 0 none)) 2 2,slice (some (Addr.mk da 0 none)) 2 2] (Int.toNat dq*1) fun(v:Value)=>∃(R_14:RT),True∧CX Try.prog 27 (Array.mk [agg (Array.mk [slice a4 aa aj,slice a5 az aw,slice
 a6 a2 ax,slice a7 a3 a0,Value.bool ae]),v,int u8 97]) m' [] R_14∧ZaJ (Shape.tup [Shape.slice,Shape.int i64]) R_14∧∀(eh:Option Addr)(d6 ei:Nat)(d7:Int)(cp:Mem),Mem.le m' cp→R_14 (Value.tuple
 (Array.mk [slice eh d6 ei,int i64 d7])) cp []→∃(R_15:RT),True∧CX Try.prog 28 (Array.mk [agg (Array.mk [slice a4 aa aj,slice a5 az aw,slice a6 a2 ax,slice a7 a3 a0,Value.bool ae]),v]) cp [] R_15∧ZaJ
 (Shape.tup [Shape.bool,Shape.int i64]) R_15∧∀(d8:Bool)(d9:Int)(m':Mem),Mem.le cp m'→R_15 (Value.tuple (Array.mk [Value.bool d8,int i64 d9])) m' []→∃(dr:Bool),br (!(↑d6:Int) == (0:Int)) (Zas
 (Zbe p2 n ab ac ad af ag ah a ak c al am an ao ap aq ar ay au ai b a4 aa aj a5 az aw a6 a2 ax a7 a3 a0 ae a1 a8 cs bt bu bv bw bx cd ce cf cg ch ci cj ck cl cm cn co bi bz ca cb bl bj bm cy da dl)∧
 [Value.bool true]=[Value.bool dr]) (br d8 (Zas (Zbe p2 n ab ac ad af ag ah a ak c al am an ao ap aq ar ay au ai b a4 aa aj a5 az aw a6 a2 ax a7 a3 a0 ae a1 a8 cs bt bu bv bw bx cd ce cf cg ch ci cj
 ck cl cm cn co bi bz ca cb bl bj bm cy da dl)∧[Value.bool true]=[Value.bool dr]) (br (!d7 == (172:Int)) (Zas (Zbe p2 n ab ac ad af ag ah a ak c al am an ao ap aq ar ay au ai b a4 aa aj a5 az aw
 a6 a2 ax a7 a3 a0 ae a1 a8 cs bt bu bv bw bx cd ce cf cg ch ci cj ck cl cm cn co bi bz ca cb bl bj bm cy da dl)∧[Value.bool true]=[Value.bool dr]) (Zas (Zbe p2 n ab ac ad af ag ah a ak c al am an
 ao ap aq ar ay au ai b a4 aa aj a5 az aw a6 a2 ax a7 a3 a0 ae a1 a8 cs bt bu bv bw bx cd ce cf cg ch ci cj ck cl cm cn co bi bz ca cb bl bj bm cy da dl)∧[Value.bool !d9 == (172:Int)]=[Value.bool dr])))∧br dr (∃
 (m'':Mem),Mem.le m m''∧Mem.le m'' m'∧R (Value.bool false) m'' []) (Zas (Zbe p2 n ab ac ad af ag ah a ak c al am an ao ap aq ar ay au ai b a4 aa aj a5 az aw a6 a2 ax a7 a3 a0 ae a1 a8 cs bt bu bv
 bw bx cd ce cf cg ch ci cj ck cl cm cn co bi bz ca cb bl bj bm cy da dl)∧∃(n':Nat),n' < d5∧I [int i64 (IntKind.wrap i64 (dq+(1:Int)))] [] [] m' n')) (∃(R_14:RT),True∧CX Try.prog 21 (Array.mk [agg
 (Array.mk [slice a4 aa aj,slice a5 az aw,slice a6 a2 ax,slice a7 a3 a0,Value.bool ae])]) m' [] R_14∧ZaJ Shape.bool R_14∧∀(b:Bool)(cp:Mem),Mem.le m' cp→R_14 (Value.bool b) cp []→∃(m'':Mem),Mem.le
 m m''∧Mem.le m'' cp∧R (Value.bool b) m'' [])))))))
theorem Zgi(p0a:Option Addr)(p0n p0c:Nat)(p1 p2:Int)(m:Mem)(R:RT)(h:ZdF p0a p0n p0c p1 p2 m R):CX Try.prog 6 #[.slice p0a p0n p0c,.int .u8 p1,.int .i64 p2] m [] R:=
 Zal (E:=Zg0) ZaC mix Try.func6 [.v (.slice p0a p0n p0c),.v (.int .u8 p1),.v (.int .i64 p2)] [] (by kernel_rfl) (Eq.mp (by kernel_rfl) h)
end Go.Proofs.Ytplacemlpkhmfaa

