/- Part of the proof: conditions and contracts of functions of this program. No condition of its own. -/
import Derived.Test.YthiefodednaikaaPEnv
import Derived.Test.YthiefodednaikaaMc
set_option linter.unusedVariables false
set_option linter.unusedSimpArgs false
set_option linter.unusedSectionVars false
namespace Go.Proofs.Ythiefodednaikaa
open Go Go.Eng Go.Proofs Go.RowKit
open Go.Value (int slice agg bool string tuple func)
open Go.IntKind (u8 u64 i64)
set_option maxRecDepth 100000
noncomputable def Zi9:Env:=EB
def ZeB(p0 p1:Int)(m:Mem)(R:RT):Prop:=
 ∃(R_1:RT),True/\CX Try.prog 118 (Array.mk [int u64 p0,int u64 p1]) m [] R_1/\Zaq (Shape.tup [Shape.int u64,Shape.int u64]) R_1/\∀(n n_1:Int)(m':Mem),Mem.le m m'->R_1 (tuple (Array.mk [int u64 n,int
 u64 n_1])) m' []->∃(m'':Mem),Mem.le m m''/\Mem.le m'' m'/\R (tuple (Array.mk [int u64 n,int u64 n_1])) m'' []
theorem ZhT(p0 p1:Int)(m:Mem)(R:RT)(h:ZeB p0 p1 m R):CX Try.prog 96 #[.int .u64 p0,.int .u64 p1] m [] R:=
 Zae (E:=Zi9) Zax mix Try.func96 [.v (.int .u64 p0),.v (.int .u64 p1)] [] (by kernel_rfl) (Eq.mp (by kernel_rfl) h)
noncomputable def Zg2:Env:=EB
def Zdu(p0 p1:Int)(m:Mem)(R:RT):Prop:=
 (0:Int)<=(32:Int)/\(0:Int)<=(32:Int)/\(0:Int)<=(32:Int)/\(0:Int)<=(32:Int)/\(0:Int)<=(32:Int)/\∃(m'':Mem),Mem.le m m''/\Mem.le m'' m/\R (tuple (Array.mk [int u64 (IntKind.wrap u64
 (IntKind.wrap u64 (IntKind.wrap u64 (Int.fdiv p0 ((2:Int) ^ 32)*Int.fdiv p1 ((2:Int) ^ 32))+Int.fdiv (IntKind.wrap u64 (IntKind.wrap u64 (Int.fdiv p0 ((2:Int) ^ 32)*IntKind.wrap u64 (↑(BitVec.toNat
 (BitVec.ofInt 64 p1&&&BitVec.ofInt 64 (4294967295:Int))):Int))+Int.fdiv (IntKind.wrap u64 (IntKind.wrap u64 (↑(BitVec.toNat (BitVec.ofInt 64 p0&&&BitVec.ofInt 64 (4294967295:Int))):Int)*IntKind.wrap u64
 (↑(BitVec.toNat (BitVec.ofInt 64 p1&&&BitVec.ofInt 64 (4294967295:Int))):Int))) ((2:Int) ^ 32))) ((2:Int) ^ 32))+Int.fdiv (IntKind.wrap u64 (IntKind.wrap u64 (↑(BitVec.toNat (BitVec.ofInt 64 (IntKind.wrap
 u64 (IntKind.wrap u64 (Int.fdiv p0 ((2:Int) ^ 32)*IntKind.wrap u64 (↑(BitVec.toNat (BitVec.ofInt 64 p1&&&BitVec.ofInt 64 (4294967295:Int))):Int))+Int.fdiv (IntKind.wrap u64 (IntKind.wrap u64 (↑(BitVec.toNat
 (BitVec.ofInt 64 p0&&&BitVec.ofInt 64 (4294967295:Int))):Int)*IntKind.wrap u64 (↑(BitVec.toNat (BitVec.ofInt 64 p1&&&BitVec.ofInt 64 (4294967295:Int))):Int))) ((2:Int) ^ 32)))&&&BitVec.ofInt 64
 (4294967295:Int))):Int)+IntKind.wrap u64 (IntKind.wrap u64 (↑(BitVec.toNat (BitVec.ofInt 64 p0&&&BitVec.ofInt 64 (4294967295:Int))):Int)*Int.fdiv p1 ((2:Int) ^ 32)))) ((2:Int) ^ 32))),int u64
 (IntKind.wrap u64 (p0*p1))])) m'' []
theorem Zf7(p0 p1:Int)(m:Mem)(R:RT)(h:Zdu p0 p1 m R):CX Try.prog 118 #[.int .u64 p0,.int .u64 p1] m [] R:=
 Zae (E:=Zg2) Zax mix Try.func118 [.v (.int .u64 p0),.v (.int .u64 p1)] [] (by kernel_rfl) (Eq.mp (by kernel_rfl) h)
noncomputable def ZnO:Env:={ EB with
 loops:=(λi=>bif Nat.beq i 3 then⟨[(3,.slice),(4,.int .i64)],[],[(15,1)],false⟩ else⟨[],[],[],false⟩)
 tokOf:=(λi=>bif Nat.beq i 15 then 15 else 0) }
def ZhJ(p0:Int)(m:Mem)(R:RT):Prop:=
 ∃(I:IT),(∃(n:Nat),I [slice none 0 0,int i64 p0] [] [slice none 0 0] m n)/\∀(a:Option Addr)(n c:Nat)(n_1:Int)(a_1:Option Addr)(n_2 c_1:Nat)(m':Mem)(n_3:Nat),Mem.le m m'->I [slice a n c,
 int i64 n_1] [] [slice a_1 n_2 c_1] m' n_3->br (decide (n_1 > (1:Int))) ((2:Int)≠(0:Int)/\Zaf (Int.tmod n_1 (2:Int)) (ByteArray.size (ByteArray.mk (Array.mk [(97:UInt8),(98:UInt8)])))/\∀(b:Nat),
 Mem.free m' b->(Tok.mk (slice a_1 n_2 c_1) 1=Tok.mk (slice a n c) 1\/slice a n c=slice none 0 0\/c < n+1)/\∃(xs:List Value),∃(ys:List Value),List.length xs=n*1/\List.length ys=1*1/\rowRd
 (Mem.add m' b [int u8 (ZtC (ByteArray.mk (Array.mk [(97:UInt8),(98:UInt8)])) (Int.toNat (Int.tmod n_1 (2:Int))))]) a xs/\rowRd (Mem.add m' b [int u8 (ZtC (ByteArray.mk (Array.mk [(97:UInt8),(98:
 UInt8)])) (Int.toNat (Int.tmod n_1 (2:Int))))]) (some (Addr.mk b 0 none)) ys/\(∀(u:Value),u∈ys->Value.oneCell' u=true)/\(n+1)*1<=140737488355328/\n+1<=9223372036854775807/\∀(a':Option Addr) (c'
 : Nat) (m'_1:Mem),Mem.le (Mem.add m' b [int u8 (ZtC (ByteArray.mk (Array.mk [(97:UInt8),(98:UInt8)])) (Int.toNat (Int.tmod n_1 (2:Int))))]) m'_1->rowRd m'_1 a' (List.append xs ys)->(2:Int)≠(0:Int)/\
 ∃(n':Nat),n' < n_3/\I [slice a' (n+1) c',int i64 (IntKind.wrap i64 (Int.tdiv n_1 (2:Int)))] [] [slice a' (n+1) c'] m'_1 n') (∃(m'':Mem),Mem.le m m''/\Mem.le m'' m'/\R (slice a n c) m'' [])
theorem Zl9(p0:Int)(m:Mem)(R:RT)(h:ZhJ p0 m R):CX Try.prog 40 #[.int .i64 p0] m [] R:=
 Zae (E:=ZnO) Zax mix Try.func40 [.v (.int .i64 p0)] [] (by kernel_rfl) (Eq.mp (by kernel_rfl) h)
noncomputable def ZeS:Env:={ EB with
 loops:=(λi=>bif Nat.beq i 18 then⟨[(10,.int .i64)],[54],[],false⟩ else⟨[],[],[],false⟩)
 joins:=(λi=>bif Nat.beq i 6 then some [(32,.bool)]else none)
 dr:=(λi=>bif Nat.beq i 20 then[⟨0,[],[],none,[],[]⟩,⟨1,[],[],none,[],[]⟩,⟨2,[],[],none,[],[]⟩,⟨3,[],[],none,[1,2],[]⟩,⟨4,[],[],none,[],[]⟩,⟨5,[],[],none,[],[]⟩,⟨6,[],[],none,[4,5],[]⟩,⟨7,[54],[54],none,[1,2,3,4,5,6],[]⟩,⟨8,[],[],none,[0,1,2,3,4,5,6,7],[]⟩,⟨9,[],[],none,[0,1,2,3,4,5,6,7,8],[]⟩]else[])
 hint:=(λi=>bif Nat.beq i 58 then some 54 else bif Nat.beq i 70 then some 54 else none)
 ext:=(λi=>bif Nat.beq i 54 then true else false)
 frz:=[54] }
def Zcw(p0a:Option Addr)(p0c:Nat)(m:Mem)(R:RT):Prop:=
 ∃(R_1:RT),True/\CX Try.prog 96 (Array.mk [int u64 (IntKind.wrap u64 (↑(1:Nat):Int)),int u64 (IntKind.wrap u64 (513:Int))]) m [] R_1/\Zaq (Shape.tup [Shape.int u64,Shape.int u64]) R_1/\∀(n aa:Int) (m'
 : Mem),Mem.le m m'->R_1 (tuple (Array.mk [int u64 n,int u64 aa])) m' []->∃(b:Bool),br (decide (n > (0:Int))) ([bool true]=[bool b]) ([bool (decide (aa > (9223372036854775807:Int)))]=[bool b])/\br b
 False (br (decide (IntKind.wrap i64 aa > (8192:Int))) ((↑(1:Nat):Int)≠(0:Int)/\∃(n:Nat),∃(e:TypeId),int i64 (IntKind.wrap i64 aa)=int i64 (↑n:Int)/\n<=281474976710656/\Zyv Try.prog 97 e/\∀(b
 : Nat) (cs:List Value),n<=List.length cs->((0:Int)<=IntKind.wrap i64 aa/\IntKind.wrap i64 aa<=(↑(List.length cs):Int))/\((0:Int)<=IntKind.wrap i64 aa/\IntKind.wrap i64 aa<=(↑(Int.toNat (IntKind.wrap
 i64 aa)):Int))/\(Mem.free m' b->∃(o:Nat),∃(xs:List Value),Za4 (some (Addr.mk b 0 none)) 0 (Int.toNat (IntKind.wrap i64 aa)) 1=some (Addr.mk b o none)/\List.length xs=min 1 (Int.toNat (IntKind.wrap
 i64 aa) - 0)*1/\o+List.length xs<=List.length cs/\(∀(u:Value),u∈xs->Value.oneCell' u=true)/\(rowRd m' p0a xs\/∃(o':Nat),p0a=some (Addr.mk b o' none)/\∀(i:Nat)(u:Value),List.get?Internal
 xs i=some u->List.get?Internal cs (o'+i)=some u)/\∃(I:IT),(∃(n:Nat),I [int i64 (↑(min 1 (Int.toNat (IntKind.wrap i64 aa) - 0)):Int)] [Zam cs o xs] [] m' n)/\∀(n:Int)(ac:List Value)(ab:Mem)
 (ad:Nat),Mem.le m' ab->I [int i64 n] [ac] [] ab ad->br (decide (n < IntKind.wrap i64 aa)) (((0:Int)<=n/\n<=(↑(Int.toNat (IntKind.wrap i64 aa) - 0):Int))/\(((0:Int)<=if IntKind.wrap i64 (IntKind.wrap i64
 (Int.tdiv (8192:Int) (↑(1:Nat):Int))*(↑(1:Nat):Int)) < n then IntKind.wrap i64 (IntKind.wrap i64 (Int.tdiv (8192:Int) (↑(1:Nat):Int))*(↑(1:Nat):Int))else n)/\(if IntKind.wrap i64 (IntKind.wrap
 i64 (Int.tdiv (8192:Int) (↑(1:Nat):Int))*(↑(1:Nat):Int)) < n then IntKind.wrap i64 (IntKind.wrap i64 (Int.tdiv (8192:Int) (↑(1:Nat):Int))*(↑(1:Nat):Int))else n)<=(↑(Int.toNat (IntKind.wrap i64
 aa) - 0):Int))/\(Mem.free ab b->∃(o:Nat),∃(xs:List Value),Za4 (Za4 (some (Addr.mk b 0 none)) 0 (Int.toNat (IntKind.wrap i64 aa)) 1) (Int.toNat n) (Int.toNat (IntKind.wrap i64 aa) - 0) 1=some (Addr.mk
 b o none)/\List.length xs=min (Int.toNat (if IntKind.wrap i64 (IntKind.wrap i64 (Int.tdiv (8192:Int) (↑(1:Nat):Int))*(↑(1:Nat):Int)) < n then IntKind.wrap i64 (IntKind.wrap i64 (Int.tdiv (8192:Int) (↑(1
 : Nat):Int))*(↑(1:Nat):Int))else n) - 0) (Int.toNat (IntKind.wrap i64 aa) - 0 - Int.toNat n)*1/\o+List.length xs<=List.length ac/\(∀(u:Value),u∈xs->Value.oneCell' u=true)/\(rowRd ab (Za4
 (Za4 (some (Addr.mk b 0 none)) 0 (Int.toNat (IntKind.wrap i64 aa)) 1) 0 (Int.toNat (IntKind.wrap i64 aa) - 0) 1) xs\/∃(o':Nat),Za4 (Za4 (some (Addr.mk b 0 none)) 0 (Int.toNat (IntKind.wrap i64 aa)) 1) 0
 (Int.toNat (IntKind.wrap i64 aa) - 0) 1=some (Addr.mk b o' none)/\∀(i:Nat)(u:Value),List.get?Internal xs i=some u->List.get?Internal ac (o'+i)=some u)/\[some (Box.mk b [] e (List.length cs) false
 true)]=[some (Box.mk b [] e (List.length cs) false true)]/\∃(n':Nat),n' < ad/\I [int i64 (IntKind.wrap i64 (n+(↑(min (Int.toNat (if IntKind.wrap i64 (IntKind.wrap i64 (Int.tdiv (8192:Int) (↑(1:Nat):Int))
 * (↑(1:Nat):Int)) < n then IntKind.wrap i64 (IntKind.wrap i64 (Int.tdiv (8192:Int) (↑(1:Nat):Int))*(↑(1:Nat):Int))else n) - 0) (Int.toNat (IntKind.wrap i64 aa) - 0 - Int.toNat n)):Int)))] [Zam ac o
 xs] [] ab n')) (∃(m'':Mem),Mem.le m m''/\Mem.le m'' (Mem.add ab b ac)/\R (slice (Za4 (some (Addr.mk b 0 none)) 0 (Int.toNat (IntKind.wrap i64 aa)) 1) (Int.toNat (IntKind.wrap i64 aa) - 0) (Int.toNat
 (IntKind.wrap i64 aa) - 0)) m'' []))) (∃(n:Nat),∃(e:TypeId),int i64 (IntKind.wrap i64 aa)=int i64 (↑n:Int)/\n<=281474976710656/\Zyv Try.prog 97 e/\∀(b:Nat)(cs:List Value),n<=List.length cs->((0
 : Int)<=IntKind.wrap i64 aa/\IntKind.wrap i64 aa<=(↑(List.length cs):Int))/\((0:Int)<=IntKind.wrap i64 aa/\IntKind.wrap i64 aa<=(↑(Int.toNat (IntKind.wrap i64 aa)):Int))/\(Mem.free m' b->∃(o:Nat),∃
 (xs:List Value),Za4 (some (Addr.mk b 0 none)) 0 (Int.toNat (IntKind.wrap i64 aa)) 1=some (Addr.mk b o none)/\List.length xs=min 1 (Int.toNat (IntKind.wrap i64 aa) - 0)*1/\o+List.length xs<=List.length
 cs/\(∀(u:Value),u∈xs->Value.oneCell' u=true)/\(rowRd m' p0a xs\/∃(o':Nat),p0a=some (Addr.mk b o' none)/\∀(i:Nat)(u:Value),List.get?Internal xs i=some u->List.get?Internal cs (o'+i)=some
 u)/\∃(I:IT),(∃(n:Nat),I [int i64 (↑(min 1 (Int.toNat (IntKind.wrap i64 aa) - 0)):Int)] [Zam cs o xs] [] m' n)/\∀(n:Int)(ac:List Value)(ab:Mem)(ad:Nat),Mem.le m' ab->I [int i64 n] [ac] [] ab
 ad->br (decide (n < IntKind.wrap i64 aa)) (((0:Int)<=n/\n<=(↑(Int.toNat (IntKind.wrap i64 aa) - 0):Int))/\(((0:Int)<=if IntKind.wrap i64 aa < n then IntKind.wrap i64 aa else n)/\(if IntKind.wrap i64 aa < n
 then IntKind.wrap i64 aa else n)<=(↑(Int.toNat (IntKind.wrap i64 aa) - 0):Int))/\(Mem.free ab b->∃(o:Nat),∃(xs:List Value),Za4 (Za4 (some (Addr.mk b 0 none)) 0 (Int.toNat (IntKind.wrap i64 aa)) 1)
 (Int.toNat n) (Int.toNat (IntKind.wrap i64 aa) - 0) 1=some (Addr.mk b o none)/\List.length xs=min (Int.toNat (if IntKind.wrap i64 aa < n then IntKind.wrap i64 aa else n) - 0) (Int.toNat (IntKind.wrap i64 aa) - 0 -
 Int.toNat n)*1/\o+List.length xs<=List.length ac/\(∀(u:Value),u∈xs->Value.oneCell' u=true)/\(rowRd ab (Za4 (Za4 (some (Addr.mk b 0 none)) 0 (Int.toNat (IntKind.wrap i64 aa)) 1) 0 (Int.toNat
 (IntKind.wrap i64 aa) - 0) 1) xs\/∃(o':Nat),Za4 (Za4 (some (Addr.mk b 0 none)) 0 (Int.toNat (IntKind.wrap i64 aa)) 1) 0 (Int.toNat (IntKind.wrap i64 aa) - 0) 1=some (Addr.mk b o' none)/\∀(i:Nat) (u:
 Value),List.get?Internal xs i=some u->List.get?Internal ac (o'+i)=some u)/\[some (Box.mk b [] e (List.length cs) false true)]=[some (Box.mk b [] e (List.length cs) false true)]/\∃(n':Nat),n' < ad/\I
 [int i64 (IntKind.wrap i64 (n+(↑(min (Int.toNat (if IntKind.wrap i64 aa < n then IntKind.wrap i64 aa else n) - 0) (Int.toNat (IntKind.wrap i64 aa) - 0 - Int.toNat n)):Int)))] [Zam ac o xs] [] ab n')) (∃(m'':
 Mem),Mem.le m m''/\Mem.le m'' (Mem.add ab b ac)/\R (slice (Za4 (some (Addr.mk b 0 none)) 0 (Int.toNat (IntKind.wrap i64 aa)) 1) (Int.toNat (IntKind.wrap i64 aa) - 0) (Int.toNat (IntKind.wrap i64 aa) - 0)) m''
 []))))
theorem Zeo(p0a:Option Addr)(p0c:Nat)(m:Mem)(R:RT)(h:Zcw p0a p0c m R):CX Try.prog 81 #[.slice p0a 1 p0c,.int .i64 513] m [] R:=
 Zae (E:=ZeS) Zax mix Try.func81 [.v (.slice p0a 1 p0c),.v (.int .i64 513)] [] (by kernel_rfl) (Eq.mp (by kernel_rfl) h)
noncomputable def Zb2:Env:={ EB with
 tokOf:=(λi=>bif Nat.beq i 2 then 7 else bif Nat.beq i 7 then 7 else 0)
 tokC:=(λi=>bif Nat.beq i 5 then some (7,8)else none)
 thaw:=true }
def Zbc(p0a:Option Addr)(p0n p0c:Nat)(m:Mem)(R:RT):Prop:=
 br (Option.isNone p0a) (slice none 0 0=slice none 0 0/\R (slice none 0 0) m []) (((0:Int)=(0:Int)/\(0:Int)<=(0:Int)/\(0:Int)*(↑(80:Nat):Int)<=(281474976710656:Int)/\(0:Int) <=
 (9223372036854775807:Int))/\∀(b:Nat),Mem.free m b->(Tok.mk (slice (some (Addr.mk b 0 none)) 0 (Int.toNat (0:Int))) 8=Tok.mk (slice (some (Addr.mk b 0 none)) 0 (Int.toNat (0:Int))) 8\/slice (some (Addr.mk
 b 0 none)) 0 (Int.toNat (0:Int))=slice none 0 0\/Int.toNat (0:Int) < 0+p0n)/\∃(xs:List Value),∃(ys:List Value),List.length xs=0*8/\List.length ys=p0n*8/\rowRd m (some (Addr.mk b 0 none)) xs/\
 rowRd m p0a ys/\(∀(u:Value),u∈ys->Value.oneCell' u=true)/\(0+p0n)*80<=140737488355328/\0+p0n<=9223372036854775807/\∀(a':Option Addr)(c':Nat)(m':Mem),Mem.le m m'->rowRd m' a' (List.append
 xs ys)->TokFact m (some (Addr.mk b 0 none)) a' (0+p0n) c'->some (Tok.mk (slice a' (0+p0n) c') 8)=some (Tok.mk (slice a' (0+p0n) c') 8)/\R (slice a' (0+p0n) c') m' [])
theorem ZbS(p0a:Option Addr)(p0n p0c:Nat)(m:Mem)(R:RT)(h:Zbc p0a p0n p0c m R):CXT Try.prog 39 #[.slice p0a p0n p0c] m 8 R:=
 ZmD (E:=Zb2) Zax mix Try.func39 [.v (.slice p0a p0n p0c)] (by kernel_rfl) (Eq.mp (by kernel_rfl) h)
noncomputable def Zki:Env:={ EB with
 loops:=(λi=>bif Nat.beq i 13 then⟨[(124,.int .i64)],[],[],false⟩ else bif Nat.beq i 19 then⟨[(184,.int .i64)],[],[],false⟩ else⟨[],[],[],false⟩)
 joins:=(λi=>bif Nat.beq i 10 then some [(121,.bool)]else none)
 dr:=(λi=>bif Nat.beq i 3 then[⟨0,[1],[],none,[],[]⟩,⟨1,[],[],none,[],[]⟩,⟨2,[],[],none,[1],[]⟩,⟨3,[],[],none,[0,1,2],[]⟩,⟨4,[],[],none,[0,1,2,3],[]⟩,⟨5,[],[],none,[0,1,2,3,4],[]⟩,⟨6,[],[],none,[0,1,2,3,4],[]⟩,⟨7,[],[],none,[0,1,2,3,4,5],[]⟩,⟨8,[],[],none,[0,1,2,3,4,5,6,7],[]⟩]else bif Nat.beq i 4 then[⟨0,[1],[],none,[],[]⟩,⟨1,[],[],none,[],[]⟩,⟨2,[],[],none,[1],[]⟩,⟨3,[],[],none,[0,1,2],[]⟩,⟨4,[],[],none,[0,1,2,3],[]⟩,⟨5,[],[],none,[0,1,2,3,4],[]⟩,⟨6,[],[],none,[0,1,2,3,4],[]⟩,⟨7,[],[],none,[0,1,2,3,4,5],[]⟩,⟨8,[],[],none,[0,1,2,3,4,5,6,7],[]⟩]else bif Nat.beq i 5 then[⟨0,[],[],none,[],[]⟩,⟨1,[1],[],none,[],[]⟩,⟨2,[46],[46],none,[0,1],[0]⟩,⟨3,[46],[46],none,[0,1,2],[2]⟩,⟨4,[],[],none,[0,1,2,3],[]⟩,⟨5,[49],[49],none,[0,1,2,3,4],[3]⟩,⟨6,[],[],none,[],[]⟩,⟨7,[],[],none,[6],[]⟩,⟨8,[49],[49],none,[0,1,2,3,4,5,6,7],[5]⟩,⟨9,[],[],none,[0,1,2,3,4,5,6,7,8],[]⟩,⟨10,[],[],none,[0,1,2,3,4,5,6,7,8,9],[]⟩,⟨11,[],[],none,[0,1,2,3,4,5,6,7,8,9],[]⟩,⟨12,[],[],none,[0,1,2,3,4,5,6,7,8,9],[]⟩,⟨13,[7],[7],none,[],[]⟩,⟨14,[7],[7],none,rg 0 11++[13],[]⟩,⟨15,[],[],none,rg 0 12++[13,14],[]⟩,⟨16,[],[],none,rg 0 16,[]⟩]else bif Nat.beq i 15 then[⟨0,[1],[],none,[],[]⟩,⟨1,[129],[129],none,[],[]⟩,⟨2,[129],[],none,[1],[]⟩,⟨3,[],[],none,[],[]⟩,⟨4,[129],[129],none,[0,1,2,3],[1]⟩,⟨5,[],[],none,[0,1,2,3,4],[]⟩,⟨6,[],[],none,[0,1,2,3,4,5],[]⟩,⟨7,[],[],none,[0,1,2,3,4,5,6],[]⟩,⟨8,[136],[136],none,[0,1,2,3,4,5,6],[4]⟩,⟨9,[136],[],none,[0,1,2,3,4,5,6,8],[]⟩,⟨10,[],[],none,[0,1,2,3,4,5,6],[]⟩,⟨11,[136],[136],none,[0,1,2,3,4,5,6,7,8,9,10],[8]⟩,⟨12,[],[],none,rg 0 12,[]⟩,⟨13,[],[],none,rg 0 13,[]⟩,⟨14,[],[],none,rg 0 14,[]⟩,⟨15,[1],[],none,rg 0 15,[11]⟩,⟨16,[],[],none,rg 0 16,[]⟩,⟨17,[],[],none,rg 0 15,[]⟩,⟨18,[146],[146],none,rg 0 18,[11]⟩,⟨19,[147],[147],none,rg 0 15,[11]⟩,⟨20,[147],[],none,rg 0 15++[19],[]⟩,⟨21,[],[],none,rg 0 15,[]⟩,⟨22,[146,147],[146,147],none,rg 0 22,[18,19]⟩,⟨23,[],[],none,rg 0 23,[]⟩,⟨24,[],[],none,rg 0 24,[]⟩,⟨25,[],[],none,rg 0 25,[]⟩,⟨26,[1],[],none,rg 0 26,[22]⟩,⟨27,[],[],none,rg 0 27,[]⟩,⟨28,[],[],none,rg 0 26,[22]⟩,⟨29,[],[],none,rg 0 26++[28],[]⟩,⟨30,[158],[158],none,rg 0 30,[28]⟩,⟨31,[159],[159],none,rg 0 26,[22]⟩,⟨32,[159],[],none,rg 0 26++[31],[]⟩,⟨33,[],[],none,rg 0 26,[]⟩,⟨34,[158,159],[158,159],none,rg 0 34,[30,31]⟩,⟨35,[],[],none,rg 0 35,[]⟩,⟨36,[],[],none,rg 0 36,[]⟩]else bif Nat.beq i 18 then[⟨0,[],[],none,[],[]⟩,⟨1,[],[],none,[],[]⟩,⟨2,[1],[],none,[],[]⟩,⟨3,[169],[169],none,[2],[]⟩,⟨4,[169],[169],none,[2,3],[3]⟩,⟨5,[],[],none,[],[]⟩,⟨6,[1],[],none,[],[]⟩,⟨7,[173],[173],none,[5,6],[]⟩,⟨8,[173],[173],none,[2,3,4,5,6,7],[4,7]⟩,⟨9,[],[],none,[2,3,4,5,6,7,8],[8]⟩,⟨10,[176],[176],none,[2,3,4,5,6,7,8,9],[9]⟩,⟨11,[176],[],none,[2,3,4,5,6,7,8,9,10],[]⟩,⟨12,[178],[178],none,[2,3,4,5,6,7,8,9,10,11],[10]⟩,⟨13,[178],[],none,[2,3,4,5,6,7,8,9,10,11,12],[]⟩,⟨14,[180],[180],none,rg 2 12,[12]⟩,⟨15,[180],[],none,rg 2 13,[]⟩,⟨16,[182],[182],none,rg 0 16,[14]⟩,⟨17,[182],[],none,rg 0 17,[]⟩,⟨18,[],[],none,[],[]⟩]else[])
 frzAt:=(λi=>bif Nat.beq i 72 then[70]else bif Nat.beq i 204 then[203]else[])
 gb:=true }
abbrev Zb0:Int->Int->Int->Int->Int->Int->Int->Option Addr->Nat->Nat->Int->Int->Int->Int->Int->Int->Int->Option Addr->Nat->Nat->List Value:=λ(n ah ai aj ak al am:Int) (a:Option
 Addr) (an c:Nat) (aa ab ac ad ae af ag:Int) (bv:Option Addr) (ap ao:Nat)=>[int u8 aa,int u64 ab,int u64 ac,int u64 ad,int u64 ae,int i64 af,int i64 ag,slice bv ap ao,int u8 n,int u64 ah,int u64 ai,
 int u64 aj,int u64 ak,int i64 al,int i64 am,slice a an c]
abbrev Zdv:Nat->Option Box:=λ(b:Nat)=>some (Box.mk b [bool false,bool false,int u8 0,int u64 0,int u64 0,int u64 0,int u64 0,int i64 0,int i64 0,slice none 0 0] 37 10 true true)
abbrev ZfH:List Value:=[bool false,bool false,int u8 0,int u64 0,int u64 0,int u64 0,int u64 0,int i64 0,int i64 0,slice none 0 0,bool false,bool false,int u8 0,int u64 0,int u64 0,int u64
 0,int u64 0,int i64 0,int i64 0,slice none 0 0,bool false,bool false,int u8 0,int u64 0,int u64 0,int u64 0,int u64 0,int i64 0,int i64 0,slice none 0 0,bool false,bool false,int u8 0,int u64 0,int
 u64 0,int u64 0,int u64 0,int i64 0,int i64 0,slice none 0 0,bool false,bool false,int u8 0,int u64 0,int u64 0,int u64 0,int u64 0,int i64 0,int i64 0,slice none 0 0,bool false,bool false,int u8 0,
 int u64 0,int u64 0,int u64 0,int u64 0,int i64 0,int i64 0,slice none 0 0,bool false,bool false,int u8 0,int u64 0,int u64 0,int u64 0,int u64 0,int i64 0,int i64 0,slice none 0 0,bool false,bool
 false,int u8 0,int u64 0,int u64 0,int u64 0,int u64 0,int i64 0,int i64 0,slice none 0 0,bool false,bool false,int u8 0,int u64 0,int u64 0,int u64 0,int u64 0,int i64 0,int i64 0,slice none 0 0,bool
 false,bool false,int u8 0,int u64 0,int u64 0,int u64 0,int u64 0,int i64 0,int i64 0,slice none 0 0,bool false,bool false,int u8 0,int u64 0,int u64 0,int u64 0,int u64 0,int i64 0,int i64 0,slice
 none 0 0,bool false,bool false,int u8 0,int u64 0,int u64 0,int u64 0,int u64 0,int i64 0,int i64 0,slice none 0 0,bool false,bool false,int u8 0,int u64 0,int u64 0,int u64 0,int u64 0,int i64 0,int
 i64 0,slice none 0 0,bool false,bool false,int u8 0,int u64 0,int u64 0,int u64 0,int u64 0,int i64 0,int i64 0,slice none 0 0,bool false,bool false,int u8 0,int u64 0,int u64 0,int u64 0,int u64 0,
 int i64 0,int i64 0,slice none 0 0,bool false,bool false,int u8 0,int u64 0,int u64 0,int u64 0,int u64 0,int i64 0,int i64 0,slice none 0 0,bool false,bool false,int u8 0,int u64 0,int u64 0,int u64
 0,int u64 0,int i64 0,int i64 0,slice none 0 0,bool false,bool false,int u8 0,int u64 0,int u64 0,int u64 0,int u64 0,int i64 0,int i64 0,slice none 0 0,bool false,bool false,int u8 0,int u64 0,int
 u64 0,int u64 0,int u64 0,int i64 0,int i64 0,slice none 0 0,bool false,bool false,int u8 0,int u64 0,int u64 0,int u64 0,int u64 0,int i64 0,int i64 0,slice none 0 0,bool false,bool false,int u8 0,
 int u64 0,int u64 0,int u64 0,int u64 0,int i64 0,int i64 0,slice none 0 0,bool false,bool false,int u8 0,int u64 0,int u64 0,int u64 0,int u64 0,int i64 0,int i64 0,slice none 0 0,bool false,bool
 false,int u8 0,int u64 0,int u64 0,int u64 0,int u64 0,int i64 0,int i64 0,slice none 0 0,bool false,bool false,int u8 0,int u64 0,int u64 0,int u64 0,int u64 0,int i64 0,int i64 0,slice none 0 0,bool
 false,bool false,int u8 0,int u64 0,int u64 0,int u64 0,int u64 0,int i64 0,int i64 0,slice none 0 0,bool false,bool false,int u8 0,int u64 0,int u64 0,int u64 0,int u64 0,int i64 0,int i64 0,slice
 none 0 0,bool false,bool false,int u8 0,int u64 0,int u64 0,int u64 0,int u64 0,int i64 0,int i64 0,slice none 0 0,bool false,bool false,int u8 0,int u64 0,int u64 0,int u64 0,int u64 0,int i64 0,int
 i64 0,slice none 0 0,bool false,bool false,int u8 0,int u64 0,int u64 0,int u64 0,int u64 0,int i64 0,int i64 0,slice none 0 0,bool false,bool false,int u8 0,int u64 0,int u64 0,int u64 0,int u64 0,
 int i64 0,int i64 0,slice none 0 0,bool false,bool false,int u8 0,int u64 0,int u64 0,int u64 0,int u64 0,int i64 0,int i64 0,slice none 0 0,bool false,bool false,int u8 0,int u64 0,int u64 0,int u64
 0,int u64 0,int i64 0,int i64 0,slice none 0 0,bool false,bool false,int u8 0,int u64 0,int u64 0,int u64 0,int u64 0,int i64 0,int i64 0,slice none 0 0,bool false,bool false,int u8 0,int u64 0,int
 u64 0,int u64 0,int u64 0,int i64 0,int i64 0,slice none 0 0,bool false,bool false,int u8 0,int u64 0,int u64 0,int u64 0,int u64 0,int i64 0,int i64 0,slice none 0 0,bool false,bool false,int u8 0,
 int u64 0,int u64 0,int u64 0,int u64 0,int i64 0,int i64 0,slice none 0 0,bool false,bool false,int u8 0,int u64 0,int u64 0,int u64 0,int u64 0,int i64 0,int i64 0,slice none 0 0,bool false,bool
 false,int u8 0,int u64 0,int u64 0,int u64 0,int u64 0,int i64 0,int i64 0,slice none 0 0,bool false,bool false,int u8 0,int u64 0,int u64 0,int u64 0,int u64 0,int i64 0,int i64 0,slice none 0 0,bool
 false,bool false,int u8 0,int u64 0,int u64 0,int u64 0,int u64 0,int i64 0,int i64 0,slice none 0 0,bool false,bool false,int u8 0,int u64 0,int u64 0,int u64 0,int u64 0,int i64 0,int i64 0,slice
 none 0 0,bool false,bool false,int u8 0,int u64 0,int u64 0,int u64 0,int u64 0,int i64 0,int i64 0,slice none 0 0,bool false,bool false,int u8 0,int u64 0,int u64 0,int u64 0,int u64 0,int i64 0,int
 i64 0,slice none 0 0,bool false,bool false,int u8 0,int u64 0,int u64 0,int u64 0,int u64 0,int i64 0,int i64 0,slice none 0 0,bool false,bool false,int u8 0,int u64 0,int u64 0,int u64 0,int u64 0,
 int i64 0,int i64 0,slice none 0 0,bool false,bool false,int u8 0,int u64 0,int u64 0,int u64 0,int u64 0,int i64 0,int i64 0,slice none 0 0,bool false,bool false,int u8 0,int u64 0,int u64 0,int u64
 0,int u64 0,int i64 0,int i64 0,slice none 0 0,bool false,bool false,int u8 0,int u64 0,int u64 0,int u64 0,int u64 0,int i64 0,int i64 0,slice none 0 0,bool false,bool false,int u8 0,int u64 0,int
 u64 0,int u64 0,int u64 0,int i64 0,int i64 0,slice none 0 0,bool false,bool false,int u8 0,int u64 0,int u64 0,int u64 0,int u64 0,int i64 0,int i64 0,slice none 0 0,bool false,bool false,int u8 0,
 int u64 0,int u64 0,int u64 0,int u64 0,int i64 0,int i64 0,slice none 0 0,bool false,bool false,int u8 0,int u64 0,int u64 0,int u64 0,int u64 0,int i64 0,int i64 0,slice none 0 0,bool false,bool
 false,int u8 0,int u64 0,int u64 0,int u64 0,int u64 0,int i64 0,int i64 0,slice none 0 0,bool false,bool false,int u8 0,int u64 0,int u64 0,int u64 0,int u64 0,int i64 0,int i64 0,slice none 0 0,bool
 false,bool false,int u8 0,int u64 0,int u64 0,int u64 0,int u64 0,int i64 0,int i64 0,slice none 0 0,bool false,bool false,int u8 0,int u64 0,int u64 0,int u64 0,int u64 0,int i64 0,int i64 0,slice
 none 0 0,bool false,bool false,int u8 0,int u64 0,int u64 0,int u64 0,int u64 0,int i64 0,int i64 0,slice none 0 0,bool false,bool false,int u8 0,int u64 0,int u64 0,int u64 0,int u64 0,int i64 0,int
 i64 0,slice none 0 0,bool false,bool false,int u8 0,int u64 0,int u64 0,int u64 0,int u64 0,int i64 0,int i64 0,slice none 0 0,bool false,bool false,int u8 0,int u64 0,int u64 0,int u64 0,int u64 0,
 int i64 0,int i64 0,slice none 0 0,bool false,bool false,int u8 0,int u64 0,int u64 0,int u64 0,int u64 0,int i64 0,int i64 0,slice none 0 0,bool false,bool false,int u8 0,int u64 0,int u64 0,int u64
 0,int u64 0,int i64 0,int i64 0,slice none 0 0,bool false,bool false,int u8 0,int u64 0,int u64 0,int u64 0,int u64 0,int i64 0,int i64 0,slice none 0 0,bool false,bool false,int u8 0,int u64 0,int
 u64 0,int u64 0,int u64 0,int i64 0,int i64 0,slice none 0 0,bool false,bool false,int u8 0,int u64 0,int u64 0,int u64 0,int u64 0,int i64 0,int i64 0,slice none 0 0]
abbrev Zdw:Nat->Option Box:=λ(b:Nat)=>some (Box.mk b ZfH 37 650 false true)
abbrev Zbv:Int->Int->Int->Int->Int->Int->Int->Option Addr->Nat->Nat->Int->Int->Int->Int->Int->Int->Int->Option Addr->Nat->Nat->Nat->Option Box:=λ(n ah ai aj ak al am:Int) (a:
 Option Addr) (an c:Nat) (aa ab ac ad ae af ag:Int) (bv:Option Addr) (ap ao b:Nat)=>some (Box.mk b (Zb0 n ah ai aj ak al am a an c aa ab ac ad ae af ag bv ap ao) 29 16 true true)
abbrev Zbw:Int->Int->Int->Int->Int->Int->Int->Option Addr->Nat->Nat->Nat->Option Box:=λ(n ah ai aj ak al am:Int)(a:Option Addr)(an c b:Nat)=>some (Box.mk b [bool false,bool true,
 int u8 n,int u64 ah,int u64 ai,int u64 aj,int u64 ak,int i64 al,int i64 am,slice a an c] 37 10 true true)
abbrev Zdx:Int->Int->Int->Int->Int->Int->Int->Option Addr->Nat->Nat->Nat->Option Box:=λ(n ah ai aj ak al am:Int)(a:Option Addr)(an c b:Nat)=>some (Box.mk b [int u8 n,int u64 ah,
 int u64 ai,int u64 aj,int u64 ak,int i64 al,int i64 am,slice a an c] 29 8 false true)
abbrev Za1:Int->Int->Int->Int->Int->Int->Int->Option Addr->Nat->Nat->Nat->Nat->Int->Int->Int->Int->Int->Int->Int->Option Addr->Nat->Nat->Nat->Int->Int->Int->Int->Int->Int->Int
 -> Option Addr->Nat->Nat->Nat->Int->Int->Int->Nat->Nat->Int->Int->Int->Nat->Nat->Int->Int->Int->Nat->List (Option Box):=λ(n ah ai aj ak al am:Int)(a:Option Addr)(an c b ar:Nat) (aa ab ac ad
 ae af ag:Int) (bv:Option Addr) (ap ao dc:Nat) (dd de df ax ay az a0:Int) (d1:Option Addr) (a1 dg au:Nat) (a2 a3 a4:Int) (av dy:Nat) (a8 a9 ba:Int) (bw d2:Nat) (bb bc bd:Int) (bu:Nat)=>[some
 (Box.mk bu [int i64 bb,int i64 bc,int i64 bd] 46 3 false true),Zdv d2,some (Box.mk bw [int i64 a8,int i64 a9,int i64 ba] 46 3 false true),Zdw dy,Zbv n ah ai aj ak al am a an c
 aa ab ac ad ae af ag bv ap ao dc,Zbv n ah ai aj ak al am a an c aa ab ac ad ae af ag bv ap ao dc,Zbw dd de df ax ay az a0 d1 a1 dg au,Zbw dd de df ax ay az a0 d1 a1 dg au,some
 (Box.mk av [int i64 a2,int i64 a3,int i64 a4] 46 3 false true),some (Box.mk av [int i64 a2,int i64 a3,int i64 a4] 46 3 false true),some (Box.mk ar [int u8 97] 5 1 true true),Zdx n ah ai aj ak al am a
 an c b]
abbrev Zdy:Int->Int->Int->Int->Int->Int->Int->Option Addr->Nat->Nat->List Value:=λ(n ah ai aj ak al am:Int)(a:Option Addr)(an c:Nat)=>[bool false,bool false,int u8 n,int u64 ah,
 int u64 ai,int u64 aj,int u64 ak,int i64 al,int i64 am,slice a an c,bool false,bool false,int u8 0,int u64 0,int u64 0,int u64 0,int u64 0,int i64 0,int i64 0,slice none 0 0]
abbrev ZfI:Int->Int->Int->Int->Int->Int->Int->Option Addr->Nat->Nat->Int->Int->Int->Int->Int->Int->Int->Option Addr->Nat->Nat->List Value:=λ(n ah ai aj ak al am:Int) (a:Option
 Addr) (an c:Nat) (aa ab ac ad ae af ag:Int) (bv:Option Addr) (ap ao:Nat)=>[bool false,bool false,int u8 n,int u64 ah,int u64 ai,int u64 aj,int u64 ak,int i64 al,int i64 am,slice a an c,bool false,
 bool false,int u8 aa,int u64 ab,int u64 ac,int u64 ad,int u64 ae,int i64 af,int i64 ag,slice bv ap ao]
abbrev ZeC:Nat->Option Box:=λ(b:Nat)=>some (Box.mk b [int i64 (-9223372036854775808:Int),int i64 (-1:Int),int i64 0,int i64 1,int i64 3,int i64 4,int i64 9223372036854775807] 3 7 true
 true)
abbrev ZhU:Int->Int->Int->Int->Int->Int->Int->Option Addr->Nat->Nat->Nat->Nat->Int->Int->Int->Int->Int->Int->Int->Option Addr->Nat->Nat->Nat->Int->Int->Int->Int->Int->Int->Int
 -> Option Addr->Nat->Nat->Nat->Int->Int->Int->Nat->Nat->Int->Int->Int->Nat->Nat->Int->Int->Int->Nat->Nat->List (Option Box):=λ(n ah ai aj ak al am:Int)(a:Option Addr)(an c b ar:Nat) (aa ab
 ac ad ae af ag:Int) (bv:Option Addr) (ap ao dc:Nat) (dd de df ax ay az a0:Int) (d1:Option Addr) (a1 dg au:Nat) (a2 a3 a4:Int) (av dy:Nat) (a8 a9 ba:Int) (bw d2:Nat) (bb bc bd:Int) (bu d7:Nat)=>
 [ZeC d7,some (Box.mk bu [int i64 bb,int i64 bc,int i64 bd] 46 3 false true),Zdv d2,some (Box.mk bw [int i64 a8,int i64 a9,int i64 ba] 46 3 false true),Zdw dy,Zbv
 n ah ai aj ak al am a an c aa ab ac ad ae af ag bv ap ao dc,Zbv n ah ai aj ak al am a an c aa ab ac ad ae af ag bv ap ao dc,Zbw dd de df ax ay az a0 d1 a1 dg au,Zbw dd de df ax ay
 az a0 d1 a1 dg au,some (Box.mk av [int i64 a2,int i64 a3,int i64 a4] 46 3 false true),some (Box.mk av [int i64 a2,int i64 a3,int i64 a4] 46 3 false true),some (Box.mk ar [int u8 97] 5 1 true true),
 Zdx n ah ai aj ak al am a an c b]
abbrev ZcP:Int->Int->Int->Int->Int->Int->Int->Option Addr->Nat->Nat->List Value:=λ(n ah ai aj ak al am:Int)(a:Option Addr)(an c:Nat)=>[int u8 0,int u64 0,int u64 0,int u64 0,
 int u64 0,int i64 0,int i64 0,slice none 0 0,int u8 n,int u64 ah,int u64 ai,int u64 aj,int u64 ak,int i64 al,int i64 am,slice a an c]
abbrev Zau:Int->Int->Int->Int->Int->Int->Int->Option Addr->Nat->Nat->Int->Int->Int->Int->Int->Int->Int->Option Addr->Nat->Nat->Nat->List Value:=λ(n ah ai aj ak al am:Int) (a:
 Option Addr) (an c:Nat) (aa ab ac ad ae af ag:Int) (bv:Option Addr) (ap ao b:Nat)=>[int u8 0,int u64 0,int u64 0,int u64 0,int u64 0,int i64 1,int i64 0,slice none 0 0,int u8 9,int u64 0,int u64 0,
 int u64 0,int u64 0,int i64 0,int i64 0,slice none 0 0,int u8 n,int u64 ah,int u64 ai,int u64 aj,int u64 ak,int i64 al,int i64 am,slice a an c,int u8 aa,int u64 ab,int u64 ac,int u64 ad,int u64 ae,int
 i64 af,int i64 ag,slice bv ap ao,int u8 5,int u64 0,int u64 0,int u64 0,int u64 0,int i64 16,int i64 16,slice (some (Addr.mk b 0 none)) 1 1]
abbrev ZcQ:Int->Int->Int->Int->Int->Int->Int->Option Addr->Nat->Nat->Nat->Option Box:=λ(n ah ai aj ak al am:Int)(a:Option Addr)(an c b:Nat)=>some (Box.mk b [int u8 n,int u64 ah,
 int u64 ai,int u64 aj,int u64 ak,int i64 al,int i64 am,slice a an c] 29 8 true true)
abbrev ZeD:Int->Int->Int->Int->Int->Int->Int->Option Addr->Nat->Nat->Nat->Option Box:=λ(n ah ai aj ak al am:Int)(a:Option Addr)(an c b:Nat)=>some (Box.mk b (ZcP n ah
 ai aj ak al am a an c) 29 16 true true)
abbrev ZhV:Nat->Nat->Option Box:=λ(b ar:Nat)=>some (Box.mk ar [int u8 5,int u64 0,int u64 0,int u64 0,int u64 0,int i64 0,int i64 2,slice (some (Addr.mk b 0 none)) 1 1] 29 8 true true)
abbrev ZhW:Nat->Nat->Option Box:=λ(b ar:Nat)=>some (Box.mk ar [int u8 5,int u64 0,int u64 0,int u64 0,int u64 0,int i64 16,int i64 16,slice (some (Addr.mk b 0 none)) 1 1] 29 8 true true)
abbrev ZhX:Int->Int->Int->Int->Int->Int->Int->Option Addr->Nat->Nat->Int->Int->Int->Int->Int->Int->Int->Option Addr->Nat->Nat->Nat->Nat->Option Box:=λ(n ah ai aj ak al am:Int)
 (a:Option Addr) (an c:Nat) (aa ab ac ad ae af ag:Int) (bv:Option Addr) (ap ao b ar:Nat)=>some (Box.mk ar (Zau n ah ai aj ak al am a an c aa ab ac ad ae af ag bv ap ao b) 29 40 true true)
abbrev ZhY(n ah ai aj ak al am:Int)(a:Option Addr)(an c b ar:Nat)(aa ab ac ad ae af ag:Int)(bv:Option Addr)(ap ao dc:Nat)(dd de df ax ay az a0:Int)(d1:Option Addr)(a1 dg au:Nat)
 (a2 a3 a4:Int) (av dy:Nat) (a8 a9 ba:Int) (bw d2:Nat) (bb bc bd:Int) (bu d7 ct:Nat) (bq bs cc cd ce d8 d9:Int) (er:Option Addr) (cq bp cb:Nat) (cr cs ea cu cv cw ec:Int) (es:Option Addr) (ek bt:
 Nat) (ee d3 ef be bf bg bh:Int) (et:Option Addr) (bi el eb cx cy dh:Nat):List (Option Box):=[ZcQ n ah ai aj ak al am a an c ct,ZcQ n ah ai aj ak al am a an c ct,ZeD n
 ah ai aj ak al am a an c cb,ZeD n ah ai aj ak al am a an c cb,ZcQ ee d3 ef be bf bg bh et bi el eb,ZhV eb cx,ZhW cx cy,ZhX bq bs cc cd ce d8 d9 er cq
 bp cr cs ea cu cv cw ec es ek bt cy dh,ZeC d7,some (Box.mk bu [int i64 bb,int i64 bc,int i64 bd] 46 3 false true),Zdv d2,some (Box.mk bw [int i64 a8,int i64 a9,int i64 ba] 46 3 false
 true),Zdw dy,Zbv n ah ai aj ak al am a an c aa ab ac ad ae af ag bv ap ao dc,Zbv n ah ai aj ak al am a an c aa ab ac ad ae af ag bv ap ao dc,Zbw dd de df ax ay az a0
 d1 a1 dg au,Zbw dd de df ax ay az a0 d1 a1 dg au,some (Box.mk av [int i64 a2,int i64 a3,int i64 a4] 46 3 false true),some (Box.mk av [int i64 a2,int i64 a3,int i64 a4] 46 3 false true),some (Box.mk
 ar [int u8 97] 5 1 true true),Zdx n ah ai aj ak al am a an c b]
def ZfJ  (m:Mem)(R:RT):Prop:=
 ∃(R_1:RT),True/\CX Try.prog 35 (Array.mk [int u8 97]) m [] R_1/\Zaq (shT) R_1/\∀(n ah ai aj ak al am:Int)(a:Option Addr)(an c:Nat)(m':Mem),Mem.le m m'->R_1 (agg (Array.mk [int u8 n,int u64 ah,int
 u64 ai,int u64 aj,int u64 ak,int i64 al,int i64 am,slice a an c])) m' []->∃(R_2:RT),True/\CX Try.prog 38 (Array.mk [agg (Array.mk [int u8 n,int u64 ah,int u64 ai,int u64 aj,int u64 ak,int i64 al,int i64
 am,slice a an c])]) m' [] R_2/\Zaq (shT) R_2/\∀(n aa ab ac ad ae af:Int)(a:Option Addr)(ag c:Nat)(d6:Mem),Mem.le m' d6->R_2 (agg (Array.mk [int u8 n,int u64 aa,int u64 ab,int u64 ac,int u64 ad,int
 i64 ae,int i64 af,slice a ag c])) d6 []->∀(b ar:Nat),Mem.free d6 ar->∃(R_3:RT),True/\CX Try.prog 81 (Array.mk [slice (some (Addr.mk ar 0 none)) 1 1,int i64 513]) (Mem.add d6 ar [int u8 97]) [] R_3/\Zaq
 Shape.slice R_3/\∀(db:Option Addr)(ap ao:Nat)(m':Mem),Mem.le (Mem.add d6 ar [int u8 97]) m'->R_3 (slice db ap ao) m' []->∃(f:Fx),((0:Int)<=(1:Int)/\(1:Int)<=(↑ap:Int))/\∃(R_4:RT),R_4=f
 3 [agg (Array.mk [int u8 n,int u64 aa,int u64 ab,int u64 ac,int u64 ad,int i64 ae,int i64 af,slice a ag c]),slice (Za4 db (Int.toNat (1:Int)) ao 1) (ap - Int.toNat (1:Int)) (ao - Int.toNat (1:Int))] m'
 /\ CX Try.prog 19 (Array.mk [agg (Array.mk [int u8 n,int u64 aa,int u64 ab,int u64 ac,int u64 ad,int i64 ae,int i64 af,slice a ag c]),slice (Za4 db (Int.toNat (1:Int)) ao 1) (ap - Int.toNat (1:Int)) (ao -
 Int.toNat (1:Int))]) m' [] R_4/\Zaq (Shape.tup [Shape.bool,Shape.int i64]) R_4/\∀(dc:Bool)(dd:Int)(eh:Mem),Mem.le m' eh->R_4 (tuple (Array.mk [bool dc,int i64 dd])) eh []->∀(M:Mem),Mem.le m' M->
 Mem.le eh M->∃(f:Fx),((0:Int)<=(1:Int)/\(1:Int)<=(↑ap:Int))/\∃(R_5:RT),R_5=f 3 [agg (Array.mk [int u8 n,int u64 aa,int u64 ab,int u64 ac,int u64 ad,int i64 ae,int i64 af,slice a ag c]),
 slice (Za4 db (Int.toNat (1:Int)) ao 1) (ap - Int.toNat (1:Int)) (ao - Int.toNat (1:Int)),int i64 500] M/\CX Try.prog 14 (Array.mk [agg (Array.mk [int u8 n,int u64 aa,int u64 ab,int u64 ac,int u64 ad,int
 i64 ae,int i64 af,slice a ag c]),slice (Za4 db (Int.toNat (1:Int)) ao 1) (ap - Int.toNat (1:Int)) (ao - Int.toNat (1:Int)),int i64 500]) M [] R_5/\Zaq (Shape.tup [Shape.slice,Shape.int i64]) R_5/\∀(ep
 : Option Addr) (de dg:Nat) (df:Int) (m':Mem),Mem.le M m'->R_5 (tuple (Array.mk [slice ep de dg,int i64 df])) m' []->∀(d4:Mem),Mem.le M d4->Mem.le m' d4->∃(f:Fx),∃(R_6:RT),R_6=f 0 [int u8 97] d4
 /\ CX Try.prog 35 (Array.mk [int u8 97]) d4 [] R_6/\Zaq (shT) R_6/\∀(ax ay az a0 a1 a2 a3:Int)(bz:Option Addr)(a4 bp:Nat)(m':Mem),Mem.le d4 m'->R_6 (agg (Array.mk [int u8 ax,int u64 ay,int u64 az,int
 u64 a0,int u64 a1,int i64 a2,int i64 a3,slice bz a4 bp])) m' []->∀(au:Nat),Mem.free m' au->∃(R_7:RT),R_7=f 3 [slice (some (Addr.mk au 0 none)) 2 2] (Mem.add m' au (Zb0 n aa ab ac ad ae af a
 ag c ax ay az a0 a1 a2 a3 bz a4 bp))/\CX Try.prog 13 (Array.mk [slice (some (Addr.mk au 0 none)) 2 2]) (Mem.add m' au (Zb0 n aa ab ac ad ae af a ag c ax ay az a0 a1 a2 a3 bz a4 bp)) [] R_7/\Zaq (shT) R_7
 /\ ∀(a8 a9 ba bb bc bd bq:Int)(ca:Option Addr)(bs bt:Nat)(dx:Mem),Mem.le (Mem.add m' au (Zb0 n aa ab ac ad ae af a ag c ax ay az a0 a1 a2 a3 bz a4 bp)) dx->R_7 (agg (Array.mk [int u8 a8,int u64
 a9,int u64 ba,int u64 bb,int u64 bc,int i64 bd,int i64 bq,slice ca bs bt])) dx []->∀(av:Nat),Mem.free dx av->((0:Int)<=(1:Int)/\(1:Int)<=(↑ap:Int))/\∃(R_8:RT),R_8=f 8 [slice (some (Addr.mk
 av 0 none)) 1 1,slice (Za4 db (Int.toNat (1:Int)) ao 1) (ap - Int.toNat (1:Int)) (ao - Int.toNat (1:Int))] (Mem.add dx av [bool false,bool true,int u8 a8,int u64 a9,int u64 ba,int u64 bb,int u64 bc,int
 i64 bd,int i64 bq,slice ca bs bt])/\CX Try.prog 20 (Array.mk [slice (some (Addr.mk av 0 none)) 1 1,slice (Za4 db (Int.toNat (1:Int)) ao 1) (ap - Int.toNat (1:Int)) (ao - Int.toNat (1:Int))]) (Mem.add dx av
 [bool false,bool true,int u8 a8,int u64 a9,int u64 ba,int u64 bb,int u64 bc,int i64 bd,int i64 bq,slice ca bs bt]) [] R_8/\Zaq (Shape.tup [Shape.agg [Shape.int i64,Shape.int i64,Shape.int i64],Shape.bool,
 Shape.int i64]) R_8/\∀(cc cd ce:Int)(dy:Bool)(d8:Int)(ei:Mem),Mem.le (Mem.add dx av [bool false,bool true,int u8 a8,int u64 a9,int u64 ba,int u64 bb,int u64 bc,int i64 bd,int i64 bq,slice ca bs
 bt]) ei->R_8 (tuple (Array.mk [agg (Array.mk [int i64 cc,int i64 cd,int i64 ce]),bool dy,int i64 d8])) ei []->∀(bw:Nat)(M:Mem),Mem.le d4 M->Mem.le m' M->Mem.le (Mem.add m' au (Zb0 n aa ab ac
 ad ae af a ag c ax ay az a0 a1 a2 a3 bz a4 bp)) M->Mem.le dx M->Mem.le (Mem.add dx av [bool false,bool true,int u8 a8,int u64 a9,int u64 ba,int u64 bb,int u64 bc,int i64 bd,int i64 bq,slice ca bs bt]) M->
 Mem.le ei M->∃(R_9:RT),True/\CX Try.prog 19 (Array.mk [agg (Array.mk [int u8 n,int u64 aa,int u64 ab,int u64 ac,int u64 ad,int i64 ae,int i64 af,slice a ag c]),slice db ap ao]) M [] R_9/\Zaq (Shape.tup
 [Shape.bool,Shape.int i64]) R_9/\∀(d2:Bool)(d9:Int)(m':Mem),Mem.le M m'->R_9 (tuple (Array.mk [bool d2,int i64 d9])) m' []->((0:Int)<=(65:Int)/\(65:Int)<=(65:Int)/\(65:Int)*(↑(88:Nat):
 Int)<=(281474976710656:Int)/\(65:Int)<=(9223372036854775807:Int))/\∀(bu:Nat),∃(R_10:RT),True/\CX Try.prog 20 (Array.mk [slice (some (Addr.mk bu 0 none)) (Int.toNat (65:Int)) (Int.toNat (65:Int)),
 slice db ap ao]) m' [] R_10/\Zaq (Shape.tup [Shape.agg [Shape.int i64,Shape.int i64,Shape.int i64],Shape.bool,Shape.int i64]) R_10/\∀(cq cr cs:Int)(d7:Bool)(ea:Int)(ej:Mem),Mem.le m' ej->R_10 (tuple
 (Array.mk [agg (Array.mk [int i64 cq,int i64 cr,int i64 cs]),bool d7,int i64 ea])) ej []->∀(ct:Nat),((0:Int)<=(1:Int)/\(1:Int)<=(1:Int)/\(1:Int)*(↑(88:Nat):Int)<=(281474976710656:Int)/\
 (1:Int)<=(9223372036854775807:Int))/\∀(cb:Nat)(m':Mem),Mem.le ej m'->Mem.reads m' cb 0 [bool false,bool false,int u8 0,int u64 0,int u64 0,int u64 0,int u64 0,int i64 0,int i64 0,slice none 0 0]->
 ∃(R_11:RT),True/\CX Try.prog 20 (Array.mk [slice (some (Addr.mk cb 0 none)) (Int.toNat (1:Int)) (Int.toNat (1:Int)),slice db ap ao]) m' [] R_11/\Zaq (Shape.tup [Shape.agg [Shape.int i64,Shape.int i64,
 Shape.int i64],Shape.bool,Shape.int i64]) R_11/\∀(cu cv cw:Int)(eb:Bool)(ec:Int)(ed:Mem),Mem.le m' ed->R_11 (tuple (Array.mk [agg (Array.mk [int i64 cu,int i64 cv,int i64 cw]),bool eb,int i64 ec]))
 ed []->∀(cx:Nat),∃(R_12:RT),True/\CX Try.prog 14 (Array.mk [agg (Array.mk [int u8 n,int u64 aa,int u64 ab,int u64 ac,int u64 ad,int i64 ae,int i64 af,slice a ag c]),slice db ap ao,int i64 (-1:Int)])
 ed [] R_12/\Zaq (Shape.tup [Shape.slice,Shape.int i64]) R_12/\∀(eq:Option Addr)(ek el:Nat)(ee:Int)(m':Mem),Mem.le ed m'->R_12 (tuple (Array.mk [slice eq ek el,int i64 ee])) m' []->∃(cy:Bool),br
 (!dc) (ZaM (Za1 n aa ab ac ad ae af a ag c b ar ax ay az a0 a1 a2 a3 bz a4 bp au a8 a9 ba bb bc bd bq ca bs bt av cc cd ce bw bu cq cr cs ct cb cu cv cw cx)/\[bool true]=[bool cy]) (br (!(↑de:Int) ==
 (13:Int)) (ZaM (Za1 n aa ab ac ad ae af a ag c b ar ax ay az a0 a1 a2 a3 bz a4 bp au a8 a9 ba bb bc bd bq ca bs bt av cc cd ce bw bu cq cr cs ct cb cu cv cw cx)/\[bool true]=[bool cy]) (br (!dy)
 (ZaM (Za1 n aa ab ac ad ae af a ag c b ar ax ay az a0 a1 a2 a3 bz a4 bp au a8 a9 ba bb bc bd bq ca bs bt av cc cd ce bw bu cq cr cs ct cb cu cv cw cx)/\[bool true]=[bool cy]) (∃(dh:Bool),EqIs
 Try.prog 46 (agg (Array.mk [int i64 cc,int i64 cd,int i64 ce])) (agg (Array.mk [int i64 0,int i64 0,int i64 512])) dh/\br (!dh) (ZaM (Za1 n aa ab ac ad ae af a ag c b ar ax ay az a0 a1 a2 a3 bz a4 bp
 au a8 a9 ba bb bc bd bq ca bs bt av cc cd ce bw bu cq cr cs ct cb cu cv cw cx)/\[bool true]=[bool cy]) (br (!IntKind.wrap i64 (IntKind.wrap i64 (dd+df)+d8) == (0:Int)) (ZaM (Za1 n aa ab ac ad ae
 af a ag c b ar ax ay az a0 a1 a2 a3 bz a4 bp au a8 a9 ba bb bc bd bq ca bs bt av cc cd ce bw bu cq cr cs ct cb cu cv cw cx)/\[bool true]=[bool cy]) (br (!d9 == (3:Int)) (ZaM (Za1 n aa ab ac ad ae af
 a ag c b ar ax ay az a0 a1 a2 a3 bz a4 bp au a8 a9 ba bb bc bd bq ca bs bt av cc cd ce bw bu cq cr cs ct cb cu cv cw cx)/\[bool true]=[bool cy]) (br (!ea == (5:Int)) (ZaM (Za1 n aa ab ac ad ae af a
 ag c b ar ax ay az a0 a1 a2 a3 bz a4 bp au a8 a9 ba bb bc bd bq ca bs bt av cc cd ce bw bu cq cr cs ct cb cu cv cw cx)/\[bool true]=[bool cy]) (br (!ec == (130:Int)) (ZaM (Za1 n aa ab ac ad ae af a
 ag c b ar ax ay az a0 a1 a2 a3 bz a4 bp au a8 a9 ba bb bc bd bq ca bs bt av cc cd ce bw bu cq cr cs ct cb cu cv cw cx)/\[bool true]=[bool cy]) (ZaM (Za1 n aa ab ac ad ae af a ag c b ar ax ay az a0 a1
 a2 a3 bz a4 bp au a8 a9 ba bb bc bd bq ca bs bt av cc cd ce bw bu cq cr cs ct cb cu cv cw cx)/\[bool !ee == (3:Int)]=[bool cy]))))))))/\br cy (∃(m'':Mem),Mem.le m m''/\Mem.le m'' m'/\R (bool false) m'' [])
 (∀(dh:Nat),Mem.free m' dh->∃(I:IT),(∃(n:Nat),I [int i64 0] [] [] (Mem.add m' dh [int i64 (-9223372036854775808:Int),int i64 (-1:Int),int i64 0,int i64 1,int i64 3,int i64 4,int i64
 9223372036854775807]) n)/\∀(d3:Int)(aq:Mem)(ef:Nat),Mem.le (Mem.add m' dh [int i64 (-9223372036854775808:Int),int i64 (-1:Int),int i64 0,int i64 1,int i64 3,int i64 4,int i64 9223372036854775807])
 aq->I [int i64 d3] [] [] aq ef->br (decide (d3 < (↑(7:Nat):Int))) (Zaf d3 7/\Eng.Zty [int i64 (-9223372036854775808:Int),int i64 (-1:Int),int i64 0,int i64 1,int i64 3,int i64 4,int i64
 9223372036854775807] (Int.toNat d3*1) λ(v:Value)=>∃(f:Fx),∀(bj:Nat),Mem.free aq bj->∃(R_13:RT),R_13=f 4 [agg (Array.mk [int u8 n,int u64 aa,int u64 ab,int u64 ac,int u64 ad,int i64 ae,int
 i64 af,slice a ag c]),slice (some (Addr.mk bj 0 none)) 3 3,v] (Mem.add aq bj [int u8 97,int u8 97,int u8 98])/\CX Try.prog 23 (Array.mk [agg (Array.mk [int u8 n,int u64 aa,int u64 ab,int u64 ac,int u64 ad,int
 i64 ae,int i64 af,slice a ag c]),slice (some (Addr.mk bj 0 none)) 3 3,v]) (Mem.add aq bj [int u8 97,int u8 97,int u8 98]) [] R_13/\Zaq Shape.bool R_13/\∀(dk:Bool)(m':Mem),Mem.le (Mem.add aq bj [int u8
 97,int u8 97,int u8 98]) m'->R_13 (bool dk) m' []->br (!dk) (∀(V:Mem),Mem.le aq V->Mem.le m' V->Mem.le m' V->∀(dl:Mem),Mem.le aq dl->Mem.le V dl->Mem.le V dl->∀(M:Mem),Mem.le aq M->Mem.le (Mem.add
 aq bj [int u8 97,int u8 97,int u8 98]) M->Mem.le m' M->Mem.le m' M->Mem.le m' M->Mem.le m' M->Mem.le m' M->Mem.le V M->Mem.le V M->Mem.le V M->Mem.le V M->Mem.le dl M->∃(m'':Mem),Mem.le m m''/\Mem.le
 m'' M/\R (bool false) m'' []) (∀(a6:Nat),Mem.free m' a6->∃(R_14:RT),R_14=f 11 [agg (Array.mk [int u8 0,int u64 0,int u64 0,int u64 0,int u64 0,int i64 0,int i64 0,slice none 0 0]),slice (some
 (Addr.mk a6 0 none)) 3 3,v] (Mem.add m' a6 [int u8 97,int u8 97,int u8 98])/\CX Try.prog 23 (Array.mk [agg (Array.mk [int u8 0,int u64 0,int u64 0,int u64 0,int u64 0,int i64 0,int i64 0,slice none 0 0]),
 slice (some (Addr.mk a6 0 none)) 3 3,v]) (Mem.add m' a6 [int u8 97,int u8 97,int u8 98]) [] R_14/\Zaq Shape.bool R_14/\∀(cz:Bool)(a7:Mem),Mem.le (Mem.add m' a6 [int u8 97,int u8 97,int u8 98]) a7->R_14
 (bool cz) a7 []->br (!cz) (∀(V:Mem),Mem.le aq V->Mem.le a7 V->Mem.le a7 V->∀(dl:Mem),Mem.le aq dl->Mem.le V dl->Mem.le V dl->∀(M:Mem),Mem.le aq M->Mem.le (Mem.add aq bj [int u8 97,int u8 97,int u8
 98]) M->Mem.le m' M->Mem.le (Mem.add m' a6 [int u8 97,int u8 97,int u8 98]) M->Mem.le a7 M->Mem.le a7 M->Mem.le a7 M->Mem.le V M->Mem.le V M->Mem.le V M->Mem.le V M->Mem.le dl M->∃(m'':Mem),Mem.le m m''
 /\ Mem.le m'' M/\R (bool false) m'' []) (∀(a5:Nat),Mem.free a7 a5->∀(di:Nat),Mem.free a7 di->∀(V:Mem),Mem.le aq V->Mem.le (Mem.add a7 a5 (Zdy n aa ab ac ad ae af a ag c)) V->Mem.le (Mem.add
 a7 di [int u8 97,int u8 97,int u8 98]) V->∃(R_15:RT),R_15=f 22 [slice (some (Addr.mk a5 0 none)) 2 2,slice (some (Addr.mk di 0 none)) 3 3,v] V/\CX Try.prog 22 (Array.mk [slice (some (Addr.mk a5 0 none)) 2 2,
 slice (some (Addr.mk di 0 none)) 3 3,v]) V [] R_15/\Zaq Shape.bool R_15/\∀(d5:Bool)(aw:Mem),Mem.le V aw->R_15 (bool d5) aw []->br (!d5) (∀(V:Mem),Mem.le aq V->Mem.le aw V->Mem.le aw V->∀(M:Mem),
 Mem.le aq M->Mem.le (Mem.add aq bj [int u8 97,int u8 97,int u8 98]) M->Mem.le m' M->Mem.le (Mem.add m' a6 [int u8 97,int u8 97,int u8 98]) M->Mem.le a7 M->Mem.le (Mem.add a7 a5 (Zdy n aa ab ac ad ae
 af a ag c)) M->Mem.le (Mem.add a7 di [int u8 97,int u8 97,int u8 98]) M->Mem.le aw M->Mem.le aw M->Mem.le aw M->Mem.le aw M->Mem.le V M->∃(m'':Mem),Mem.le m m''/\Mem.le m'' M/\R (bool false) m'' []) (∃
 (R_16:RT),R_16=f 28 [int u8 98] aw/\CX Try.prog 35 (Array.mk [int u8 98]) aw [] R_16/\Zaq (shT) R_16/\∀(be bf bg bh bi bk bl:Int)(em:Option Addr)(bm bn:Nat)(bo:Mem),Mem.le aw bo->R_16 (agg
 (Array.mk [int u8 be,int u64 bf,int u64 bg,int u64 bh,int u64 bi,int i64 bk,int i64 bl,slice em bm bn])) bo []->∀(da:Nat),Mem.free bo da->∀(dz:Nat),Mem.free aw dz->∀(V:Mem),Mem.le aq V->Mem.le
 (Mem.add bo da (ZfI n aa ab ac ad ae af a ag c be bf bg bh bi bk bl em bm bn)) V->Mem.le (Mem.add aw dz [int u8 97,int u8 97,int u8 98]) V->∃(R_17:RT),R_17=f 34 [slice (some (Addr.mk da 0 none)) 2
 2,slice (some (Addr.mk dz 0 none)) 3 3,v] V/\CX Try.prog 22 (Array.mk [slice (some (Addr.mk da 0 none)) 2 2,slice (some (Addr.mk dz 0 none)) 3 3,v]) V [] R_17/\Zaq Shape.bool R_17/\∀(d0:Bool)(dj:Mem),
 Mem.le V dj->R_17 (bool d0) dj []->∀(M:Mem),Mem.le aq M->Mem.le (Mem.add aq bj [int u8 97,int u8 97,int u8 98]) M->Mem.le m' M->Mem.le (Mem.add m' a6 [int u8 97,int u8 97,int u8 98]) M->Mem.le a7 M->
 Mem.le (Mem.add a7 a5 (Zdy n aa ab ac ad ae af a ag c)) M->Mem.le (Mem.add a7 di [int u8 97,int u8 97,int u8 98]) M->Mem.le aw M->Mem.le bo M->Mem.le (Mem.add bo da (ZfI n aa ab ac ad ae af
 a ag c be bf bg bh bi bk bl em bm bn)) M->Mem.le (Mem.add aw dz [int u8 97,int u8 97,int u8 98]) M->Mem.le dj M->br (!d0) (∃(m'':Mem),Mem.le m m''/\Mem.le m'' M/\R (bool false) m'' []) (ZaM
 (ZhU n aa ab ac ad ae af a ag c b ar ax ay az a0 a1 a2 a3 bz a4 bp au a8 a9 ba bb bc bd bq ca bs bt av cc cd ce bw bu cq cr cs ct cb cu cv cw cx dh)/\∃(n':Nat),n' < ef/\I [int i64 (IntKind.wrap i64
 (d3+(1:Int)))] [] [] M n'))))) (∃(f:Fx),∀(bj:Nat),Mem.free aq bj->∃(R_13:RT),R_13=f 4 [slice (some (Addr.mk bj 0 none)) 1 1] (Mem.add aq bj [int u8 n,int u64 aa,int u64 ab,int u64 ac,int u64 ad,
 int i64 ae,int i64 af,slice a ag c])/\CX Try.prog 13 (Array.mk [slice (some (Addr.mk bj 0 none)) 1 1]) (Mem.add aq bj [int u8 n,int u64 aa,int u64 ab,int u64 ac,int u64 ad,int i64 ae,int i64 af,slice a ag c])
 [] R_13/\Zaq (shT) R_13/\∀(be bf bg bh bi bk bl:Int)(cf:Option Addr)(bm bn:Nat)(m':Mem),Mem.le (Mem.add aq bj [int u8 n,int u64 aa,int u64 ab,int u64 ac,int u64 ad,int i64 ae,int i64 af,slice a ag
 c]) m'->R_13 (agg (Array.mk [int u8 be,int u64 bf,int u64 bg,int u64 bh,int u64 bi,int i64 bk,int i64 bl,slice cf bm bn])) m' []->∀(dk:Nat),Mem.free aq dk->∀(V:Mem),Mem.le aq V->Mem.le m' V->Mem.le
 (Mem.add aq dk (ZcP n aa ab ac ad ae af a ag c)) V->∃(R_14:RT),R_14=f 8 [slice (some (Addr.mk dk 0 none)) 2 2] V/\CX Try.prog 13 (Array.mk [slice (some (Addr.mk dk 0 none)) 2 2]) V [] R_14/\Zaq
 (shT) R_14/\∀(cg ch ci cj ck cl cm:Int)(cn:Option Addr)(co cp:Nat)(a7:Mem),Mem.le V a7->R_14 (agg (Array.mk [int u8 cg,int u64 ch,int u64 ci,int u64 cj,int u64 ck,int i64 cl,int i64 cm,slice cn co
 cp])) a7 []->∃(R_15:RT),R_15=f 9 [int u8 97] a7/\CX Try.prog 35 (Array.mk [int u8 97]) a7 [] R_15/\Zaq (shT) R_15/\∀(dm dn dp dq dr ds dt:Int)(du:Option Addr)(dv dw:Nat)(aw:Mem),Mem.le a7 aw->
 R_15 (agg (Array.mk [int u8 dm,int u64 dn,int u64 dp,int u64 dq,int u64 dr,int i64 ds,int i64 dt,slice du dv dw])) aw []->∀(a6:Nat),Mem.free aw a6->∀(cz:Nat),Mem.free (Mem.add aw a6 [int u8 dm,int u64
 dn,int u64 dp,int u64 dq,int u64 dr,int i64 ds,int i64 dt,slice du dv dw]) cz->∀(a5:Nat),Mem.free (Mem.add (Mem.add aw a6 [int u8 dm,int u64 dn,int u64 dp,int u64 dq,int u64 dr,int i64 ds,int i64 dt,
 slice du dv dw]) cz [int u8 5,int u64 0,int u64 0,int u64 0,int u64 0,int i64 0,int i64 2,slice (some (Addr.mk a6 0 none)) 1 1]) a5->∀(di:Nat),Mem.free (Mem.add (Mem.add (Mem.add aw a6 [int u8 dm,int u64
 dn,int u64 dp,int u64 dq,int u64 dr,int i64 ds,int i64 dt,slice du dv dw]) cz [int u8 5,int u64 0,int u64 0,int u64 0,int u64 0,int i64 0,int i64 2,slice (some (Addr.mk a6 0 none)) 1 1]) a5 [int u8 5,int
 u64 0,int u64 0,int u64 0,int u64 0,int i64 16,int i64 16,slice (some (Addr.mk cz 0 none)) 1 1]) di->∀(M:Mem),Mem.le aq M->Mem.le (Mem.add aq bj [int u8 n,int u64 aa,int u64 ab,int u64 ac,int u64 ad,int
 i64 ae,int i64 af,slice a ag c]) M->Mem.le m' M->Mem.le (Mem.add aq dk (ZcP n aa ab ac ad ae af a ag c)) M->Mem.le a7 M->Mem.le aw M->Mem.le (Mem.add aw a6 [int u8 dm,int u64 dn,int u64 dp,int u64
 dq,int u64 dr,int i64 ds,int i64 dt,slice du dv dw]) M->Mem.le (Mem.add (Mem.add aw a6 [int u8 dm,int u64 dn,int u64 dp,int u64 dq,int u64 dr,int i64 ds,int i64 dt,slice du dv dw]) cz [int u8 5,int u64 0,
 int u64 0,int u64 0,int u64 0,int i64 0,int i64 2,slice (some (Addr.mk a6 0 none)) 1 1]) M->Mem.le (Mem.add (Mem.add (Mem.add aw a6 [int u8 dm,int u64 dn,int u64 dp,int u64 dq,int u64 dr,int i64 ds,int i64
 dt,slice du dv dw]) cz [int u8 5,int u64 0,int u64 0,int u64 0,int u64 0,int i64 0,int i64 2,slice (some (Addr.mk a6 0 none)) 1 1]) a5 [int u8 5,int u64 0,int u64 0,int u64 0,int u64 0,int i64 16,int i64
 16,slice (some (Addr.mk cz 0 none)) 1 1]) M->Mem.le (Mem.add (Mem.add (Mem.add (Mem.add aw a6 [int u8 dm,int u64 dn,int u64 dp,int u64 dq,int u64 dr,int i64 ds,int i64 dt,slice du dv dw]) cz [int u8 5,int u64
 0,int u64 0,int u64 0,int u64 0,int i64 0,int i64 2,slice (some (Addr.mk a6 0 none)) 1 1]) a5 [int u8 5,int u64 0,int u64 0,int u64 0,int u64 0,int i64 16,int i64 16,slice (some (Addr.mk cz 0 none)) 1 1])
 di (Zau be bf bg bh bi bk bl cf bm bn cg ch ci cj ck cl cm cn co cp a5)) M->∃(I:IT),(∃(n:Nat),I [int i64 0] [] [] M n)/\∀(bx:Int)(m':Mem)(en:Nat),Mem.le M m'->I [int i64 bx] [] [] m' en
 -> br (decide (bx < (↑(5:Nat):Int))) (Zaf bx 5/\chk (Nat.ble (Int.toNat bx*8) (1+1+1+1+1+1+1+1+1+1+1+1+1+1+1+1+1+1+1+1+1+1+1+1+1+1+1+1+1+1+1+1)) (∀
 (d5:Nat),chk (Nat.beq (List.length (List.take 8 (List.drop (Int.toNat bx*8) (Zau be bf bg bh bi bk bl cf bm bn cg ch ci cj ck cl cm cn co cp a5)))) 8&&Zcp (List.take 8 (List.drop (Int.toNat bx*8)
 (Zau be bf bg bh bi bk bl cf bm bn cg ch ci cj ck cl cm cn co cp a5)))) (∀(da:Nat),Mem.free m' da->∃(R_16:RT),True/\CX Try.prog 23 (Array.mk [agg (Array.mk (List.take 8 (List.drop (Int.toNat bx *
 8) (Zau be bf bg bh bi bk bl cf bm bn cg ch ci cj ck cl cm cn co cp a5)))),slice (some (Addr.mk da 0 none)) 1 1,int i64 0]) (Mem.add m' da [int u8 97]) [] R_16/\Zaq Shape.bool R_16/\∀(dz:Bool) (bo:
 Mem),Mem.le (Mem.add m' da [int u8 97]) bo->R_16 (bool dz) bo []->br (!dz) (∃(m'':Mem),Mem.le m m''/\Mem.le m'' bo/\R (bool false) m'' []) (chk (Nat.beq (List.length (List.take 8 (List.drop (Int.toNat bx*8)
 (Zau be bf bg bh bi bk bl cf bm bn cg ch ci cj ck cl cm cn co cp a5)))) 8&&true) (chk (Nat.beq (List.length (List.append (List.take 8 (List.drop (Int.toNat bx*8) (Zau be bf bg bh bi bk bl
 cf bm bn cg ch ci cj ck cl cm cn co cp a5))) (List.drop (2+List.length (List.take 8 (List.drop (Int.toNat bx*8) (Zau be bf bg bh bi bk bl cf bm bn cg ch ci cj ck cl cm cn co cp a5)))) [bool false,bool
 false,int u8 0,int u64 0,int u64 0,int u64 0,int u64 0,int i64 0,int i64 0,slice none 0 0]))) (nat_lit 8)&&true) (∀(d0:Nat),Mem.free bo d0->∀(eg:Nat),Mem.free (Mem.add bo d0 (bool false::bool false
 :: List.append (List.append (List.take 8 (List.drop (Int.toNat bx*8) (Zau be bf bg bh bi bk bl cf bm bn cg ch ci cj ck cl cm cn co cp a5))) (List.drop (2+List.length (List.take 8 (List.drop (Int.toNat
 bx*8) (Zau be bf bg bh bi bk bl cf bm bn cg ch ci cj ck cl cm cn co cp a5)))) [bool false,bool false,int u8 0,int u64 0,int u64 0,int u64 0,int u64 0,int i64 0,int i64 0,slice none 0 0])) [])) eg
 -> ∃(R_17:RT),True/\CX Try.prog 22 (Array.mk [slice (some (Addr.mk d0 0 none)) 1 1,slice (some (Addr.mk eg 0 none)) 1 1,int i64 0]) (Mem.add (Mem.add bo d0 (bool false::bool false::List.append (List.append
 (List.take 8 (List.drop (Int.toNat bx*8) (Zau be bf bg bh bi bk bl cf bm bn cg ch ci cj ck cl cm cn co cp a5))) (List.drop (2+List.length (List.take 8 (List.drop (Int.toNat bx*8) (Zau be
 bf bg bh bi bk bl cf bm bn cg ch ci cj ck cl cm cn co cp a5)))) [bool false,bool false,int u8 0,int u64 0,int u64 0,int u64 0,int u64 0,int i64 0,int i64 0,slice none 0 0])) [])) eg [int u8 97]) [] R_17/\Zaq
 Shape.bool R_17/\∀(eo:Bool)(m':Mem),Mem.le (Mem.add (Mem.add bo d0 (bool false::bool false::List.append (List.append (List.take 8 (List.drop (Int.toNat bx*8) (Zau be bf bg bh bi bk bl cf bm bn
 cg ch ci cj ck cl cm cn co cp a5))) (List.drop (2+List.length (List.take 8 (List.drop (Int.toNat bx*8) (Zau be bf bg bh bi bk bl cf bm bn cg ch ci cj ck cl cm cn co cp a5)))) [bool false,bool false,
 int u8 0,int u64 0,int u64 0,int u64 0,int u64 0,int i64 0,int i64 0,slice none 0 0])) [])) eg [int u8 97]) m'->R_17 (bool eo) m' []->br (!eo) (∃(m'':Mem),Mem.le m m''/\Mem.le m'' m'/\R (bool false) m''
 []) (ZaM (ZhY n aa ab ac ad ae af a ag c b ar ax ay az a0 a1 a2 a3 bz a4 bp au a8 a9 ba bb bc bd bq ca bs bt av cc cd ce bw bu cq cr cs ct cb cu cv cw cx dh bj be bf bg bh bi bk bl cf bm bn dk cg ch ci
 cj ck cl cm cn co cp dm dn dp dq dr ds dt du dv dw a6 cz a5 di)/\∃(n':Nat),n' < en/\I [int i64 (IntKind.wrap i64 (bx+(1:Int)))] [] [] m' n'))))))) (((0:Int)<=(65:Int)/\(65:Int)<=(65:Int)/\(65:
 Int)*(↑(88:Nat):Int)<=(281474976710656:Int)/\(65:Int)<=(9223372036854775807:Int))/\∀(b:Nat)(bo:Mem),Mem.le m' bo->Mem.reads bo b 0 ZfH->∃(R_16:RT),True/\CX Try.prog 22 (Array.mk
 [slice (some (Addr.mk b 0 none)) (Int.toNat (65:Int)) (Int.toNat (65:Int)),slice none 0 0,int i64 (-1:Int)]) bo [] R_16/\Zaq Shape.bool R_16/\∀(b:Bool)(m':Mem),Mem.le bo m'->R_16 (bool b) m' []->br b
 (∀(b:Nat),Mem.free m' b->∃(R_17:RT),True/\CX Try.prog 22 (Array.mk [slice none 0 0,slice (some (Addr.mk b 0 none)) 1 1,int i64 1]) (Mem.add m' b [int u8 97]) [] R_17/\Zaq Shape.bool R_17/\∀(d5:Bool)
 (dj:Mem),Mem.le (Mem.add m' b [int u8 97]) dj->R_17 (bool d5) dj []->br d5 (∀(b:Nat),Mem.free dj b->∃(R_18:RT),True/\CX Try.prog 22 (Array.mk [slice none 0 0,slice (some (Addr.mk b 0 none)) 1 1,int i64
 2]) (Mem.add dj b [int u8 97]) [] R_18/\Zaq Shape.bool R_18/\∀(da:Bool)(m':Mem),Mem.le (Mem.add dj b [int u8 97]) m'->R_18 (bool da) m' []->∃(m'':Mem),Mem.le m m''/\Mem.le m'' m'/\R (bool da) m'' [])
 (∃(m'':Mem),Mem.le m m''/\Mem.le m'' dj/\R (bool false) m'' [])) (∃(m'':Mem),Mem.le m m''/\Mem.le m'' m'/\R (bool false) m'' []))))
theorem Zja  (m:Mem)(R:RT)(h:ZfJ  m R):CX Try.prog 41 #[] m [] R:=
 Zae (E:=Zki) Zax mix Try.func41 [] [] (by kernel_rfl) (Eq.mp (by kernel_rfl) h)
noncomputable def ZfK:Env:={ EB with
 loops:=(λi=>bif Nat.beq i 5 then⟨[(4,.slice),(37,.int .i64)],[],[(62,8)],false⟩ else bif Nat.beq i 8 then⟨[(4,.slice),(49,.int .i64)],[],[(62,8)],false⟩ else bif Nat.beq i 15 then⟨[(91,.int .i64)],[],[],false⟩ else bif Nat.beq i 18 then⟨[(11,.int .i64)],[],[],false⟩ else bif Nat.beq i 25 then⟨[(123,.int .i64)],[],[],false⟩ else⟨[],[],[],false⟩)
 joins:=(λi=>bif Nat.beq i 32 then some [(0,.bool)]else none)
 dr:=(λi=>bif Nat.beq i 2 then[⟨0,[],[],none,[],[]⟩,⟨1,[1],[],none,[],[]⟩,⟨2,[2],[],none,[],[]⟩,⟨3,[1],[],none,[],[]⟩,⟨4,[2],[],none,[],[]⟩,⟨5,[23],[23],none,[3,4],[]⟩,⟨6,[23],[23],none,[3,4,5],[5]⟩,⟨7,[],[],none,[3,4,5,6],[6]⟩,⟨8,[1],[],none,[],[]⟩,⟨9,[],[],none,[3,4,5,6,7,8],[7]⟩,⟨10,[],[],none,[],[]⟩,⟨11,[1],[],none,[],[]⟩,⟨12,[30],[30],none,[10,11],[]⟩,⟨13,[30],[30],none,[3,4,5,6,7,8,9,10,11,12],[9,12]⟩,⟨14,[32],[32],none,rg 0 14,[13]⟩,⟨15,[32],[],none,rg 0 15,[]⟩]else bif Nat.beq i 12 then[⟨0,[],[],none,[],[]⟩,⟨1,[6],[],none,[],[]⟩,⟨2,[32],[],none,[],[]⟩,⟨3,[],[],none,[],[]⟩,⟨4,[],[],none,[3],[]⟩,⟨5,[],[],none,[3,4],[]⟩,⟨6,[32],[],none,[2,3,4,5],[]⟩,⟨7,[32],[],none,[2,3,4,5,6],[]⟩,⟨8,[72],[72],none,[1,2,3,4,5,6,7],[]⟩,⟨9,[72],[72],none,[1,2,3,4,5,6,7,8],[8]⟩,⟨10,[32],[],none,[],[]⟩,⟨11,[],[],none,[],[]⟩,⟨12,[],[],none,[11],[]⟩,⟨13,[],[],none,[11,12],[]⟩,⟨14,[32],[],none,[10,11,12,13],[]⟩,⟨15,[32],[],none,[10,11,12,13,14],[]⟩,⟨16,[6],[],none,[],[]⟩,⟨17,[81],[81],none,[10,11,12,13,14,15,16],[]⟩,⟨18,[81],[81],none,rg 1 17,[9,17]⟩,⟨19,[6],[],none,[],[]⟩,⟨20,[84],[84],none,[19],[]⟩,⟨21,[84],[],none,[19,20],[]⟩,⟨22,[86],[86],none,rg 1 21,[18,20]⟩,⟨23,[86],[],some 62,rg 0 23,[22]⟩,⟨24,[],[],none,rg 0 24,[]⟩]else bif Nat.beq i 21 then[⟨0,[10],[],none,[],[]⟩,⟨1,[],[],none,[],[]⟩,⟨2,[],[],none,[],[]⟩,⟨3,[],[],none,[],[]⟩,⟨4,[],[],none,[3],[]⟩,⟨5,[],[],none,[3,4],[]⟩,⟨6,[],[],none,[2,3,4,5],[]⟩,⟨7,[],[],none,[0,1,2,3,4,5,6],[]⟩,⟨8,[],[],none,[0,1,2,3,4,5,6,7],[]⟩]else bif Nat.beq i 28 then[⟨0,[142],[],none,[],[]⟩,⟨1,[],[],none,[],[]⟩,⟨2,[],[],none,[1],[]⟩,⟨3,[],[],none,[1,2],[]⟩,⟨4,[],[],none,[1,2,3],[]⟩,⟨5,[],[],none,[],[]⟩,⟨6,[],[],none,[5],[]⟩,⟨7,[142],[142],none,[0,1,2,3,4,5,6],[4]⟩,⟨8,[],[],none,[0,1,2,3,4,5,6,7],[]⟩,⟨9,[],[],none,[0,1,2,3,4,5,6,7,8],[]⟩,⟨10,[142],[],none,[0,1,2,3,4,5,6,7,8,9],[]⟩,⟨11,[142],[],none,[0,1,2,3,4,5,6,7,8,9,10],[]⟩,⟨12,[],[],none,[0,1,2,3,4,5,6,7,8,9],[]⟩,⟨13,[],[],none,[0,1,2,3,4,5,6,7,8,9,12],[]⟩,⟨14,[],[],none,rg 0 10++[12,13],[]⟩,⟨15,[],[],none,rg 0 10++[12,13,14],[7]⟩,⟨16,[],[],none,[0,1,2,3,4,5,6,7,8,9],[]⟩,⟨17,[],[],none,[0,1,2,3,4,5,6,7,8,9,16],[]⟩,⟨18,[],[],none,rg 0 10++[16,17],[]⟩,⟨19,[],[],none,rg 0 19,[15]⟩,⟨20,[],[],none,rg 0 20,[]⟩,⟨21,[],[],none,rg 0 21,[]⟩]else[])
 tokOf:=(λi=>bif Nat.beq i 62 then 62 else bif Nat.beq i 87 then 62 else 0)
 tokC:=(λi=>bif Nat.beq i 34 then some (62,8)else none)
 gb:=true }
abbrev Za8:Int->Int->Int->Int->Int->Int->Int->Option Addr->Nat->Nat->Int->Int->Int->Int->Int->Int->Int->Option Addr->Nat->Nat->List Value:=λ(n aa ab ac ad ae af:Int) (a:
 Option Addr) (ag c:Nat) (ah ai aj ak al am an:Int) (cb:Option Addr) (ao ap:Nat)=>[int u8 n,int u64 aa,int u64 ab,int u64 ac,int u64 ad,int i64 ae,int i64 af,slice a ag c,int u8 ah,int u64 ai,int u64
 aj,int u64 ak,int u64 al,int i64 am,int i64 an,slice cb ao ap]
abbrev ZbW:Int->Int->Int->Int->Int->Int->Int->Option Addr->Nat->Nat->List Value:=λ(n aa ab ac ad ae af:Int)(a:Option Addr)(ag c:Nat)=>[int u8 1,int u64 0,int u64 0,int u64
 0,int u64 0,int i64 0,int i64 0,slice none 0 0,int u8 n,int u64 aa,int u64 ab,int u64 ac,int u64 ad,int i64 ae,int i64 af,slice a ag c]
abbrev Zad(n aa ab ac ad ae af:Int)(a:Option Addr)(ag c:Nat)(ah ai aj ak al am an:Int)(cb:Option Addr)(ao ap:Nat)(ar au av aw ax ay az:Int)(cz:Option Addr)(a0 a1:Nat)(a2 a3
 a4 a5 a6 a7 a8:Int) (aq:Option Addr) (a9 ba:Nat) (bb bc bd be bf bg bh:Int) (da:Option Addr) (bi bj:Nat) (bk bl bm bn bo bp bq:Int) (db:Option Addr) (bs bt:Nat):List Value:=[int u8 1,int u64 0,
 int u64 0,int u64 0,int u64 0,int i64 0,int i64 0,slice none 0 0,int u8 n,int u64 aa,int u64 ab,int u64 ac,int u64 ad,int i64 ae,int i64 af,slice a ag c,int u8 ah,int u64 ai,int u64 aj,int u64 ak,int
 u64 al,int i64 am,int i64 an,slice cb ao ap,int u8 ar,int u64 au,int u64 av,int u64 aw,int u64 ax,int i64 ay,int i64 az,slice cz a0 a1,int u8 a2,int u64 a3,int u64 a4,int u64 a5,int u64 a6,int i64 a7,
 int i64 a8,slice aq a9 ba,int u8 bb,int u64 bc,int u64 bd,int u64 be,int u64 bf,int i64 bg,int i64 bh,slice da bi bj,int u8 bk,int u64 bl,int u64 bm,int u64 bn,int u64 bo,int i64 bp,int i64 bq,slice db
 bs bt]
abbrev ZeT:Nat->Option Box:=λ(b:Nat)=>some (Box.mk b [int i64 0,int i64 1,int i64 2,int i64 3,int i64 0,int i64 (-1:Int),int i64 1,int i64 (-1:Int),int i64 2,int i64 2] 76 10
 true true)
abbrev ZeU:Int->Int->Int->Int->Int->Int->Int->Option Addr->Nat->Nat->Int->Int->Int->Int->Int->Int->Int->Option Addr->Nat->Nat->Int->Int->Int->Int->Int->Int->Int->Option Addr
 -> Nat->Nat->Int->Int->Int->Int->Int->Int->Int->Option Addr->Nat->Nat->Int->Int->Int->Int->Int->Int->Int->Option Addr->Nat->Nat->Int->Int->Int->Int->Int->Int->Int->Option Addr->Nat->Nat->
 Int->Nat->Option Box:=λ(n aa ab ac ad ae af:Int)(a:Option Addr)(ag c:Nat)(ah ai aj ak al am an:Int)(cb:Option Addr)(ao ap:Nat)(ar au av aw ax ay az:Int)(cz:Option Addr)(a0 a1:Nat) (a2 a3
 a4 a5 a6 a7 a8:Int) (aq:Option Addr) (a9 ba:Nat) (bb bc bd be bf bg bh:Int) (da:Option Addr) (bi bj:Nat) (bk bl bm bn bo bp bq:Int) (db:Option Addr) (bs bt:Nat) (du:Int) (b:Nat)=>some (Box.mk b
 (List.take 8 (List.drop (Int.toNat du*8) (Zad n aa ab ac ad ae af a ag c ah ai aj ak al am an cb ao ap ar au av aw ax ay az cz a0 a1 a2 a3 a4 a5 a6 a7 a8 aq a9 ba bb bc bd be bf bg bh da bi bj bk bl
 bm bn bo bp bq db bs bt))) 29 8 false true)
abbrev ZaH:Int->Int->Int->Int->Int->Int->Int->Option Addr->Nat->Nat->Int->Int->Int->Int->Int->Int->Int->Option Addr->Nat->Nat->Nat->Option Box:=λ(n aa ab ac ad ae af:Int)
 (a:Option Addr) (ag c:Nat) (ah ai aj ak al am an:Int) (cb:Option Addr) (ao ap b:Nat)=>some (Box.mk b (Za8 n aa ab ac ad ae af a ag c ah ai aj ak al am an cb ao ap) 29 16 true true)
abbrev ZaI:Int->Int->Int->Int->Int->Int->Int->Option Addr->Nat->Nat->Nat->Option Box:=λ(n aa ab ac ad ae af:Int)(a:Option Addr)(ag c b:Nat)=>some (Box.mk b
 (ZbW n aa ab ac ad ae af a ag c) 29 16 true true)
abbrev Zbn:Int->Int->Int->Int->Int->Int->Int->Option Addr->Nat->Nat->Int->Int->Int->Int->Int->Int->Int->Option Addr->Nat->Nat->Int->Int->Int->Int->Int->Int->Int->Option Addr
 -> Nat->Nat->Int->Int->Int->Int->Int->Int->Int->Option Addr->Nat->Nat->Int->Int->Int->Int->Int->Int->Int->Option Addr->Nat->Nat->Int->Int->Int->Int->Int->Int->Int->Option Addr->Nat->Nat->
 Nat->Option Box:=λ(n aa ab ac ad ae af:Int)(a:Option Addr)(ag c:Nat)(ah ai aj ak al am an:Int)(cb:Option Addr)(ao ap:Nat)(ar au av aw ax ay az:Int)(cz:Option Addr)(a0 a1:Nat) (a2 a3 a4 a5
 a6 a7 a8:Int) (aq:Option Addr) (a9 ba:Nat) (bb bc bd be bf bg bh:Int) (da:Option Addr) (bi bj:Nat) (bk bl bm bn bo bp bq:Int) (db:Option Addr) (bs bt b:Nat)=>some (Box.mk b (Zad n aa
 ab ac ad ae af a ag c ah ai aj ak al am an cb ao ap ar au av aw ax ay az cz a0 a1 a2 a3 a4 a5 a6 a7 a8 aq a9 ba bb bc bd be bf bg bh da bi bj bk bl bm bn bo bp bq db bs bt) 29 56 true true)
abbrev ZaJ:Int->Int->Int->Int->Int->Int->Int->Option Addr->Nat->Nat->Nat->Option Box:=λ(n aa ab ac ad ae af:Int)(a:Option Addr)(ag c b:Nat)=>some (Box.mk b [int u8 n,int u64
 aa,int u64 ab,int u64 ac,int u64 ad,int i64 ae,int i64 af,slice a ag c] 29 8 false true)
abbrev ZeV:Int->Int->Int->Int->Int->Int->Int->Option Addr->Nat->Nat->Int->Int->Int->Int->Int->Int->Int->Option Addr->Nat->Nat->Nat->Nat->Nat->Int->Int->Int->Int->Int->Int->
 Int->Option Addr->Nat->Nat->Int->Int->Int->Int->Int->Int->Int->Option Addr->Nat->Nat->Int->Int->Int->Int->Int->Int->Int->Option Addr->Nat->Nat->Nat->Int->Int->Int->Int->Int->Int->Int->
 Option Addr->Nat->Nat->Nat->Int->Nat->Nat->List (Option Box):=λ(n aa ab ac ad ae af:Int)(a:Option Addr)(ag c:Nat)(ah ai aj ak al am an:Int)(cb:Option Addr)(ao ap b cv ce:Nat) (ar au av aw ax
 ay az:Int) (cz:Option Addr) (a0 a1:Nat) (a2 a3 a4 a5 a6 a7 a8:Int) (aq:Option Addr) (a9 ba:Nat) (bb bc bd be bf bg bh:Int) (da:Option Addr) (bi bj cf:Nat) (bk bl bm bn bo bp bq:Int) (db:Option
 Addr) (bs bt cr:Nat) (du:Int) (cx cy:Nat)=>[ZeT cy,ZeU n aa ab ac ad ae af a ag c ah ai aj ak al am an cb ao ap ar au av aw ax ay az cz a0 a1 a2 a3 a4 a5 a6 a7 a8 aq a9 ba bb
 bc bd be bf bg bh da bi bj bk bl bm bn bo bp bq db bs bt du cx,ZaH n aa ab ac ad ae af a ag c ah ai aj ak al am an cb ao ap ce,ZaH n aa ab ac ad ae af a ag c ah ai aj ak al am an cb
 ao ap ce,ZaI n aa ab ac ad ae af a ag c cf,ZaI n aa ab ac ad ae af a ag c cf,Zbn n aa ab ac ad ae af a ag c ah ai aj ak al am an cb ao ap ar au av aw ax ay az cz a0
 a1 a2 a3 a4 a5 a6 a7 a8 aq a9 ba bb bc bd be bf bg bh da bi bj bk bl bm bn bo bp bq db bs bt cr,ZaJ ah ai aj ak al am an cb ao ap cv,ZaJ n aa ab ac ad ae af a ag c b]
abbrev Zbf:Int->Int->Int->Int->Int->Int->Int->Option Addr->Nat->Nat->Int->Int->Int->Int->Int->Int->Int->Option Addr->Nat->Nat->Nat->List Value:=λ(n aa ab ac ad ae af:Int)
 (a:Option Addr) (ag c:Nat) (ah ai aj ak al am an:Int) (cb:Option Addr) (ao ap b:Nat)=>[int u8 n,int u64 aa,int u64 ab,int u64 ac,int u64 ad,int i64 ae,int i64 af,slice a ag c,int u8 ah,int u64 ai,
 int u64 aj,int u64 ak,int u64 al,int i64 am,int i64 an,slice cb ao ap,int u8 6,int u64 0,int u64 0,int u64 0,int u64 0,int i64 0,int i64 0,slice (some (Addr.mk b 0 none)) 1 1]
abbrev Zbg:Int->Int->Int->Int->Int->Int->Int->Option Addr->Nat->Nat->Int->Int->Int->Int->Int->Int->Int->Option Addr->Nat->Nat->Nat->Nat->Nat->Int->Int->Int->Int->Int->Int
 -> Int->Option Addr->Nat->Nat->Int->Int->Int->Int->Int->Int->Int->Option Addr->Nat->Nat->Int->Int->Int->Int->Int->Int->Int->Option Addr->Nat->Nat->Nat->Int->Int->Int->Int->Int->Int->Int->
 Option Addr->Nat->Nat->Nat->List (Option Box):=λ(n aa ab ac ad ae af:Int)(a:Option Addr)(ag c:Nat)(ah ai aj ak al am an:Int)(cb:Option Addr)(ao ap b cv ce:Nat)(ar au av aw ax ay az:Int) (cz
 : Option Addr) (a0 a1:Nat) (a2 a3 a4 a5 a6 a7 a8:Int) (aq:Option Addr) (a9 ba:Nat) (bb bc bd be bf bg bh:Int) (da:Option Addr) (bi bj cf:Nat) (bk bl bm bn bo bp bq:Int) (db:Option Addr) (bs bt cr:
 Nat)=>[ZaH n aa ab ac ad ae af a ag c ah ai aj ak al am an cb ao ap ce,ZaH n aa ab ac ad ae af a ag c ah ai aj ak al am an cb ao ap ce,ZaI n aa ab ac ad ae af a ag
 c cf,ZaI n aa ab ac ad ae af a ag c cf,Zbn n aa ab ac ad ae af a ag c ah ai aj ak al am an cb ao ap ar au av aw ax ay az cz a0 a1 a2 a3 a4 a5 a6 a7 a8 aq a9 ba bb bc bd be bf bg bh da
 bi bj bk bl bm bn bo bp bq db bs bt cr,ZaJ ah ai aj ak al am an cb ao ap cv,ZaJ n aa ab ac ad ae af a ag c b]
abbrev ZbM:Value->Value->Value->Value->Value->Value->Value->Value->Nat->Option Box:=λ(v bu cl cm cn co cp cq:Value)(b:Nat)=>some (Box.mk b [v,bu,cl,cm,cn,co,cp,cq] 29 8
 false true)
abbrev Zep:Int->Int->Int->Int->Int->Int->Int->Option Addr->Nat->Nat->Int->Int->Int->Int->Int->Int->Int->Option Addr->Nat->Nat->Nat->Nat->Nat->Int->Int->Int->Int->Int->Int
 -> Int->Option Addr->Nat->Nat->Int->Int->Int->Int->Int->Int->Int->Option Addr->Nat->Nat->Int->Int->Int->Int->Int->Int->Int->Option Addr->Nat->Nat->Nat->Int->Int->Int->Int->Int->Int->Int->
 Option Addr->Nat->Nat->Nat->Value->Value->Value->Value->Value->Value->Value->Value->Nat->List (Option Box):=λ(n aa ab ac ad ae af:Int)(a:Option Addr)(ag c:Nat)(ah ai aj ak al am an:Int) (cb
 : Option Addr) (ao ap b cv ce:Nat) (ar au av aw ax ay az:Int) (cz:Option Addr) (a0 a1:Nat) (a2 a3 a4 a5 a6 a7 a8:Int) (aq:Option Addr) (a9 ba:Nat) (bb bc bd be bf bg bh:Int) (da:Option Addr) (bi bj cf
 : Nat) (bk bl bm bn bo bp bq:Int) (db:Option Addr) (bs bt cr:Nat) (v bu cl cm cn co cp cq:Value) (cx:Nat)=>[ZbM v bu cl cm cn co cp cq cx,ZaH n aa ab ac ad ae af a ag c ah
 ai aj ak al am an cb ao ap ce,ZaH n aa ab ac ad ae af a ag c ah ai aj ak al am an cb ao ap ce,ZaI n aa ab ac ad ae af a ag c cf,ZaI n aa ab ac ad ae af a ag c cf,
 Zbn n aa ab ac ad ae af a ag c ah ai aj ak al am an cb ao ap ar au av aw ax ay az cz a0 a1 a2 a3 a4 a5 a6 a7 a8 aq a9 ba bb bc bd be bf bg bh da bi bj bk bl bm bn bo bp bq db bs bt cr,
 ZaJ ah ai aj ak al am an cb ao ap cv,ZaJ n aa ab ac ad ae af a ag c b]
abbrev ZaR:Value->Value->Value->Value->Value->Value->Value->Value->Value->Value->Value->Value->Value->Value->Value->Value->Int->List Value:=λ(v bu cl cm cn co cp cq df dg dh di
 dj dk dl dm:Value) (n:Int)=>[bool (IntKind.wrap i64 (↑(BitVec.toNat (BitVec.ofInt 64 n&&&BitVec.ofInt 64 (1:Int))):Int) == (1:Int)),bool (IntKind.wrap i64 (↑(BitVec.toNat (BitVec.ofInt 64 n &&&
 BitVec.ofInt 64 (2:Int))):Int) == (2:Int)),v,bu,cl,cm,cn,co,cp,cq,bool (IntKind.wrap i64 (↑(BitVec.toNat (BitVec.ofInt 64 n&&&BitVec.ofInt 64 (4:Int))):Int) == (4:Int)),bool (IntKind.wrap i64
 (↑(BitVec.toNat (BitVec.ofInt 64 n&&&BitVec.ofInt 64 (8:Int))):Int) == (8:Int)),df,dg,dh,di,dj,dk,dl,dm]
abbrev Zeq:Int->Int->Int->Int->Int->Int->Int->Option Addr->Nat->Nat->Int->Int->Int->Int->Int->Int->Int->Option Addr->Nat->Nat->Nat->Nat->Nat->Int->Int->Int->Int->Int->Int
 -> Int->Option Addr->Nat->Nat->Int->Int->Int->Int->Int->Int->Int->Option Addr->Nat->Nat->Int->Int->Int->Int->Int->Int->Int->Option Addr->Nat->Nat->Nat->Int->Int->Int->Int->Int->Int->Int->
 Option Addr->Nat->Nat->Nat->Value->Value->Value->Value->Value->Value->Value->Value->Nat->Value->Value->Value->Value->Value->Value->Value->Value->Nat->List (Option Box):=λ(n aa ab ac ad ae af:
 Int) (a:Option Addr) (ag c:Nat) (ah ai aj ak al am an:Int) (cb:Option Addr) (ao ap b cv ce:Nat) (ar au av aw ax ay az:Int) (cz:Option Addr) (a0 a1:Nat) (a2 a3 a4 a5 a6 a7 a8:Int) (aq:Option Addr) (a9
 ba:Nat) (bb bc bd be bf bg bh:Int) (da:Option Addr) (bi bj cf:Nat) (bk bl bm bn bo bp bq:Int) (db:Option Addr) (bs bt cr:Nat) (v bu cl cm cn co cp cq:Value) (cx:Nat) (df dg dh di dj dk dl dm:Value)
 (cy:Nat)=>[ZbM df dg dh di dj dk dl dm cy,ZbM v bu cl cm cn co cp cq cx,ZaH n aa ab ac ad ae af a ag c ah ai aj ak al am an cb ao ap ce,ZaH n
 aa ab ac ad ae af a ag c ah ai aj ak al am an cb ao ap ce,ZaI n aa ab ac ad ae af a ag c cf,ZaI n aa ab ac ad ae af a ag c cf,Zbn n aa ab ac ad ae af a ag c ah ai aj
 ak al am an cb ao ap ar au av aw ax ay az cz a0 a1 a2 a3 a4 a5 a6 a7 a8 aq a9 ba bb bc bd be bf bg bh da bi bj bk bl bm bn bo bp bq db bs bt cr,ZaJ ah ai aj ak al am an cb ao ap cv,
 ZaJ n aa ab ac ad ae af a ag c b]
def ZcM  (m:Mem)(R:RT):Prop:=
 ∃(R_1:RT),True/\CX Try.prog 35 (Array.mk [int u8 97]) m [] R_1/\Zaq (shT) R_1/\∀(n aa ab ac ad ae af:Int)(a:Option Addr)(ag c:Nat)(m':Mem),Mem.le m m'->R_1 (agg (Array.mk [int u8 n,int u64 aa,int
 u64 ab,int u64 ac,int u64 ad,int i64 ae,int i64 af,slice a ag c])) m' []->∃(R_2:RT),True/\CX Try.prog 35 (Array.mk [int u8 98]) m' [] R_2/\Zaq (shT) R_2/\∀(ah ai aj ak al am an:Int)(aq:Option Addr)
 (ao ap:Nat) (dd:Mem),Mem.le m' dd->R_2 (agg (Array.mk [int u8 ah,int u64 ai,int u64 aj,int u64 ak,int u64 al,int i64 am,int i64 an,slice aq ao ap])) dd []->∀(b cv:Nat),∃(f:Fx),∀(ce:Nat),
 Mem.free dd ce->∃(R_3:RT),R_3=f 6 [slice (some (Addr.mk ce 0 none)) 2 2] (Mem.add dd ce (Za8 n aa ab ac ad ae af a ag c ah ai aj ak al am an aq ao ap))/\CX Try.prog 36 (Array.mk [slice (some
 (Addr.mk ce 0 none)) 2 2]) (Mem.add dd ce (Za8 n aa ab ac ad ae af a ag c ah ai aj ak al am an aq ao ap)) [] R_3/\Zaq (shT) R_3/\∀(ar au av aw ax ay az:Int)(bw:Option Addr)(a0 a1:Nat) (m':
 Mem),Mem.le (Mem.add dd ce (Za8 n aa ab ac ad ae af a ag c ah ai aj ak al am an aq ao ap)) m'->R_3 (agg (Array.mk [int u8 ar,int u64 au,int u64 av,int u64 aw,int u64 ax,int i64 ay,int i64 az,
 slice bw a0 a1])) m' []->∃(R_4:RT),R_4=f 7 [string (ByteArray.mk (Array.mk [(97:UInt8),(98:UInt8)]))] m'/\CX Try.prog 37 (Array.mk [string (ByteArray.mk (Array.mk [(97:UInt8),(98:UInt8)]))]) m' [] R_4
 /\ Zaq (shT) R_4/\∀(a2 a3 a4 a5 a6 a7 a8:Int)(bx:Option Addr)(a9 ba:Nat)(dz:Mem),Mem.le m' dz->R_4 (agg (Array.mk [int u8 a2,int u64 a3,int u64 a4,int u64 a5,int u64 a6,int i64 a7,int i64 a8,slice
 bx a9 ba])) dz []->∃(R_5:RT),R_5=f 9 [agg (Array.mk [int u8 n,int u64 aa,int u64 ab,int u64 ac,int u64 ad,int i64 ae,int i64 af,slice a ag c])] dz/\CX Try.prog 38 (Array.mk [agg (Array.mk [int u8 n,int
 u64 aa,int u64 ab,int u64 ac,int u64 ad,int i64 ae,int i64 af,slice a ag c])]) dz [] R_5/\Zaq (shT) R_5/\∀(bb bc bd be bf bg bh:Int)(bz:Option Addr)(bi bj:Nat)(ej:Mem),Mem.le dz ej->R_5 (agg
 (Array.mk [int u8 bb,int u64 bc,int u64 bd,int u64 be,int u64 bf,int i64 bg,int i64 bh,slice bz bi bj])) ej []->∀(cf:Nat),Mem.free dd cf->∀(V:Mem),Mem.le dd V->Mem.le ej V->Mem.le (Mem.add dd cf
 (ZbW n aa ab ac ad ae af a ag c)) V->∃(R_6:RT),R_6=f 13 [slice (some (Addr.mk cf 0 none)) 2 2] V/\CX Try.prog 36 (Array.mk [slice (some (Addr.mk cf 0 none)) 2 2]) V [] R_6/\Zaq (shT) R_6/\∀
 (bk bl bm bn bo bp bq:Int) (ca:Option Addr) (bs bt:Nat) (d1:Mem),Mem.le V d1->R_6 (agg (Array.mk [int u8 bk,int u64 bl,int u64 bm,int u64 bn,int u64 bo,int i64 bp,int i64 bq,slice ca bs bt])) d1 []->∀
 (cr:Nat),Mem.free d1 cr->∀(M:Mem),Mem.le dd M->Mem.le (Mem.add dd ce (Za8 n aa ab ac ad ae af a ag c ah ai aj ak al am an aq ao ap)) M->Mem.le m' M->Mem.le dz M->Mem.le ej M->Mem.le
 (Mem.add dd cf (ZbW n aa ab ac ad ae af a ag c)) M->Mem.le d1 M->Mem.le (Mem.add d1 cr (Zad n aa ab ac ad ae af a ag c ah ai aj ak al am an aq ao ap ar au av aw ax ay az bw a0 a1 a2
 a3 a4 a5 a6 a7 a8 bx a9 ba bb bc bd be bf bg bh bz bi bj bk bl bm bn bo bp bq ca bs bt)) M->∃(R_7:RT),CXT Try.prog 39 (Array.mk [slice (some (Addr.mk cr 0 none)) 7 7]) M 8 R_7/\Zaq Shape.slice R_7/\∀(el:
 Option Addr) (du em:Nat) (m':Mem),Mem.le M m'->R_7 (slice el du em) m' []->∃(I:IT),(∃(n:Nat),I [slice el du em,int i64 0] [] [slice el du em] m' n)/\∀(ek:Option Addr)(dr et:Nat)(bv:Int) (ch:
 Option Addr) (ci cj:Nat) (dv:Mem) (eu:Nat),Mem.le m' dv->I [slice ek dr et,int i64 bv] [] [slice ch ci cj] dv eu->br (decide (bv < (↑(7:Nat):Int))) (Zaf bv 7/\chk (Nat.ble (Int.toNat bv*8) (1+1 +
 1+1+1+1+1+1+1+1+1+1+1+1+1+1+1+1+1+1+1+1+1+1+1+1+1+1+1+1+1+1+1+1+1+1+1+1+1+1+1+1+1+1+1+1+1+1)) (∀(cx:Nat),chk (Nat.beq
 (List.length (List.take 8 (List.drop (Int.toNat bv*8) (Zad n aa ab ac ad ae af a ag c ah ai aj ak al am an aq ao ap ar au av aw ax ay az bw a0 a1 a2 a3 a4 a5 a6 a7 a8 bx a9 ba bb bc bd be bf bg bh bz
 bi bj bk bl bm bn bo bp bq ca bs bt)))) 8&&Zcp (List.take 8 (List.drop (Int.toNat bv*8) (Zad n aa ab ac ad ae af a ag c ah ai aj ak al am an aq ao ap ar au av aw ax ay az bw a0 a1 a2 a3 a4 a5 a6
 a7 a8 bx a9 ba bb bc bd be bf bg bh bz bi bj bk bl bm bn bo bp bq ca bs bt)))) (∀(cy:Nat),Mem.free dv cy->∃(dw:IT),(∃(n:Nat),dw [slice ek dr et,int i64 0] [] [slice ch ci cj] (Mem.add dv cy [int i64 0,int
 i64 1,int i64 2,int i64 3,int i64 0,int i64 (-1:Int),int i64 1,int i64 (-1:Int),int i64 2,int i64 2]) n)/\∀(dx:Option Addr)(cc cw:Nat)(de:Int)(en:Option Addr)(ds dy:Nat)(m':Mem) (d2:
 Nat),Mem.le (Mem.add dv cy [int i64 0,int i64 1,int i64 2,int i64 3,int i64 0,int i64 (-1:Int),int i64 1,int i64 (-1:Int),int i64 2,int i64 2]) m'->dw [slice dx cc cw,int i64 de] [] [slice en ds dy] m'
 d2->br (decide (de < (↑(5:Nat):Int))) (Zaf de 5/\chk (Nat.ble (Int.toNat de*2) (nat_lit 8)) (∀(cs:Nat),chk (Nat.beq (List.length (List.take 2 (List.drop (Int.toNat de*2) [int i64 0,int i64 1,int i64
 2,int i64 3,int i64 0,int i64 (-1:Int),int i64 1,int i64 (-1:Int),int i64 2,int i64 2]))) 2&&Zcp (List.take 2 (List.drop (Int.toNat de*2) [int i64 0,int i64 1,int i64 2,int i64 3,int i64 0,int i64
 (-1:Int),int i64 1,int i64 (-1:Int),int i64 2,int i64 2]))) (Zaf (0:Int) 2/\Eng.Zty (List.take 2 (List.drop (Int.toNat de*2) [int i64 0,int i64 1,int i64 2,int i64 3,int i64 0,int i64 (-1:Int),
 int i64 1,int i64 (-1:Int),int i64 2,int i64 2])) 0 λ(v:Value)=>Zaf (1:Int) 2/\Eng.Zty (List.take 2 (List.drop (Int.toNat de*2) [int i64 0,int i64 1,int i64 2,int i64 3,int i64 0,int i64 (-1:
 Int),int i64 1,int i64 (-1:Int),int i64 2,int i64 2])) 1 λ(bu:Value)=>chk (Nat.beq (List.length (List.take 8 (List.drop (Int.toNat bv*8) (Zad n aa ab ac ad ae af a ag c ah ai aj ak al am
 an aq ao ap ar au av aw ax ay az bw a0 a1 a2 a3 a4 a5 a6 a7 a8 bx a9 ba bb bc bd be bf bg bh bz bi bj bk bl bm bn bo bp bq ca bs bt)))) 8&&true) (∀(ct:Nat),Mem.free m' ct->chk (Nat.beq (List.length (Array.toList
 (Value.cells v))) 1&&true) (chk (Nat.beq (List.length (Array.toList (Value.cells bu))) 1&&Nat.ble (nat_lit 2) (List.length (List.append (Array.toList (Value.cells v)) (List.drop (5+List.length (Array.toList
 (Value.cells v))) [int u8 5,int u64 0,int u64 0,int u64 0,int u64 0,int i64 0,int i64 0,slice none 0 0])))) (chk (Nat.ble (nat_lit 3) (List.length (List.append (List.append (List.take (nat_lit 1) (List.append
 (Array.toList (Value.cells v)) (List.drop (5+List.length (Array.toList (Value.cells v))) [int u8 5,int u64 0,int u64 0,int u64 0,int u64 0,int i64 0,int i64 0,slice none 0 0]))) (Array.toList (Value.cells bu)))
 (List.drop (6+List.length (Array.toList (Value.cells bu))) (Zam [int u8 5,int u64 0,int u64 0,int u64 0,int u64 0,int i64 0,int i64 0,slice none 0 0] 5 (Array.toList (Value.cells v))))))) (chk (Nat.beq
 (List.length (List.append (List.append (List.take (nat_lit 2) (List.append (List.append (List.take (nat_lit 1) (List.append (Array.toList (Value.cells v)) (List.drop (5+List.length (Array.toList (Value.cells v))) [int
 u8 5,int u64 0,int u64 0,int u64 0,int u64 0,int i64 0,int i64 0,slice none 0 0]))) (Array.toList (Value.cells bu))) (List.drop (6+List.length (Array.toList (Value.cells bu))) (Zam [int u8 5,int u64 0,int
 u64 0,int u64 0,int u64 0,int i64 0,int i64 0,slice none 0 0] 5 (Array.toList (Value.cells v)))))) [slice (some (Addr.mk ct 0 none)) 1 1]) (List.drop (nat_lit 3) (List.append (List.append (List.take (nat_lit 1)
 (List.append (Array.toList (Value.cells v)) (List.drop (5+List.length (Array.toList (Value.cells v))) [int u8 5,int u64 0,int u64 0,int u64 0,int u64 0,int i64 0,int i64 0,slice none 0 0]))) (Array.toList
 (Value.cells bu))) (List.drop (6+List.length (Array.toList (Value.cells bu))) (Zam [int u8 5,int u64 0,int u64 0,int u64 0,int u64 0,int i64 0,int i64 0,slice none 0 0] 5 (Array.toList (Value.cells v))))))))
 (nat_lit 3)&&true) (∀(cg:Nat),Mem.free (Mem.add m' ct (List.append (List.take 8 (List.drop (Int.toNat bv*8) (Zad n aa ab ac ad ae af a ag c ah ai aj ak al am an aq ao ap ar au av aw ax ay az bw
 a0 a1 a2 a3 a4 a5 a6 a7 a8 bx a9 ba bb bc bd be bf bg bh bz bi bj bk bl bm bn bo bp bq ca bs bt))) [])) cg->(Tok.mk (slice en ds dy) 8=Tok.mk (slice dx cc cw) 8\/slice dx cc cw=slice none 0 0\/cw < cc+1)/\∃
 (xs:List Value),∃(ys:List Value),List.length xs=cc*8/\List.length ys=1*8/\rowRd (Mem.add (Mem.add m' ct (List.append (List.take 8 (List.drop (Int.toNat bv*8) (Zad n aa ab ac ad ae af
 a ag c ah ai aj ak al am an aq ao ap ar au av aw ax ay az bw a0 a1 a2 a3 a4 a5 a6 a7 a8 bx a9 ba bb bc bd be bf bg bh bz bi bj bk bl bm bn bo bp bq ca bs bt))) [])) cg (int u8 5::int u64 0::int u64 0::int u64 0 ::
 int u64 0::List.append (List.append (List.append (List.take (nat_lit 2) (List.append (List.append (List.take (nat_lit 1) (List.append (Array.toList (Value.cells v)) (List.drop (5+List.length (Array.toList
 (Value.cells v))) [int u8 5,int u64 0,int u64 0,int u64 0,int u64 0,int i64 0,int i64 0,slice none 0 0]))) (Array.toList (Value.cells bu))) (List.drop (6+List.length (Array.toList (Value.cells bu))) (Zam
 [int u8 5,int u64 0,int u64 0,int u64 0,int u64 0,int i64 0,int i64 0,slice none 0 0] 5 (Array.toList (Value.cells v)))))) [slice (some (Addr.mk ct 0 none)) 1 1]) (List.drop (nat_lit 3) (List.append (List.append
 (List.take (nat_lit 1) (List.append (Array.toList (Value.cells v)) (List.drop (5+List.length (Array.toList (Value.cells v))) [int u8 5,int u64 0,int u64 0,int u64 0,int u64 0,int i64 0,int i64 0,slice none 0
 0]))) (Array.toList (Value.cells bu))) (List.drop (6+List.length (Array.toList (Value.cells bu))) (Zam [int u8 5,int u64 0,int u64 0,int u64 0,int u64 0,int i64 0,int i64 0,slice none 0 0] 5 (Array.toList
 (Value.cells v))))))) [])) dx xs/\rowRd (Mem.add (Mem.add m' ct (List.append (List.take 8 (List.drop (Int.toNat bv*8) (Zad n aa ab ac ad ae af a ag c ah ai aj ak al am an aq ao ap ar au av aw ax ay
 az bw a0 a1 a2 a3 a4 a5 a6 a7 a8 bx a9 ba bb bc bd be bf bg bh bz bi bj bk bl bm bn bo bp bq ca bs bt))) [])) cg (int u8 5::int u64 0::int u64 0::int u64 0::int u64 0::List.append (List.append (List.append
 (List.take (nat_lit 2) (List.append (List.append (List.take (nat_lit 1) (List.append (Array.toList (Value.cells v)) (List.drop (5+List.length (Array.toList (Value.cells v))) [int u8 5,int u64 0,int u64 0,int u64 0,
 int u64 0,int i64 0,int i64 0,slice none 0 0]))) (Array.toList (Value.cells bu))) (List.drop (6+List.length (Array.toList (Value.cells bu))) (Zam [int u8 5,int u64 0,int u64 0,int u64 0,int u64 0,int i64 0,
 int i64 0,slice none 0 0] 5 (Array.toList (Value.cells v)))))) [slice (some (Addr.mk ct 0 none)) 1 1]) (List.drop (nat_lit 3) (List.append (List.append (List.take (nat_lit 1) (List.append (Array.toList (Value.cells v))
 (List.drop (5+List.length (Array.toList (Value.cells v))) [int u8 5,int u64 0,int u64 0,int u64 0,int u64 0,int i64 0,int i64 0,slice none 0 0]))) (Array.toList (Value.cells bu))) (List.drop (6+List.length
 (Array.toList (Value.cells bu))) (Zam [int u8 5,int u64 0,int u64 0,int u64 0,int u64 0,int i64 0,int i64 0,slice none 0 0] 5 (Array.toList (Value.cells v))))))) [])) (some (Addr.mk cg 0 none)) ys/\(∀(u:
 Value),u∈ys->Value.oneCell' u=true)/\(cc+1)*80<=140737488355328/\cc+1<=9223372036854775807/\∀(a':Option Addr)(c':Nat)(ck:Mem),Mem.le (Mem.add (Mem.add m' ct (List.append (List.take 8
 (List.drop (Int.toNat bv*8) (Zad n aa ab ac ad ae af a ag c ah ai aj ak al am an aq ao ap ar au av aw ax ay az bw a0 a1 a2 a3 a4 a5 a6 a7 a8 bx a9 ba bb bc bd be bf bg bh bz bi bj bk bl bm bn bo bp bq
 ca bs bt))) [])) cg (int u8 5::int u64 0::int u64 0::int u64 0::int u64 0::List.append (List.append (List.append (List.take (nat_lit 2) (List.append (List.append (List.take (nat_lit 1) (List.append
 (Array.toList (Value.cells v)) (List.drop (5+List.length (Array.toList (Value.cells v))) [int u8 5,int u64 0,int u64 0,int u64 0,int u64 0,int i64 0,int i64 0,slice none 0 0]))) (Array.toList (Value.cells bu)))
 (List.drop (6+List.length (Array.toList (Value.cells bu))) (Zam [int u8 5,int u64 0,int u64 0,int u64 0,int u64 0,int i64 0,int i64 0,slice none 0 0] 5 (Array.toList (Value.cells v)))))) [slice (some
 (Addr.mk ct 0 none)) 1 1]) (List.drop (nat_lit 3) (List.append (List.append (List.take (nat_lit 1) (List.append (Array.toList (Value.cells v)) (List.drop (5+List.length (Array.toList (Value.cells v))) [int u8 5,int
 u64 0,int u64 0,int u64 0,int u64 0,int i64 0,int i64 0,slice none 0 0]))) (Array.toList (Value.cells bu))) (List.drop (6+List.length (Array.toList (Value.cells bu))) (Zam [int u8 5,int u64 0,int u64 0,int
 u64 0,int u64 0,int i64 0,int i64 0,slice none 0 0] 5 (Array.toList (Value.cells v))))))) [])) ck->rowRd ck a' (List.append xs ys)->ZaM (ZeV n aa ab ac ad ae af a ag c ah ai aj ak al am an aq
 ao ap b cv ce ar au av aw ax ay az bw a0 a1 a2 a3 a4 a5 a6 a7 a8 bx a9 ba bb bc bd be bf bg bh bz bi bj cf bk bl bm bn bo bp bq ca bs bt cr bv cx cy)/\([none,none]:List (Option Tok))=[none,none]/\∃(n':Nat),
 n' < d2/\dw [slice a' (cc+1) c',int i64 (IntKind.wrap i64 (de+(1:Int)))] [] [slice a' (cc+1) c'] ck n')))))))) (∃(f:Fx),(7:Int)≠(0:Int)/\Zaf (Int.tmod (IntKind.wrap i64 (bv+(3:Int))) (7:
 Int)) 7/\chk (Nat.ble (Int.toNat (Int.tmod (IntKind.wrap i64 (bv+(3:Int))) (7:Int))*8) (1+1+1+1+1+1+1+1+1+1+1+1+1+1+1+1+1+1+1+1+1+1+1+1+1+1+1+1+1+1+1
 + 1+1+1+1+1+1+1+1+1+1+1+1+1+1+1+1+1)) (chk (Nat.beq (List.length (List.take 8 (List.drop (Int.toNat bv*8) (Zad n aa ab ac ad ae af a ag c ah ai aj ak al am an aq ao ap
 ar au av aw ax ay az bw a0 a1 a2 a3 a4 a5 a6 a7 a8 bx a9 ba bb bc bd be bf bg bh bz bi bj bk bl bm bn bo bp bq ca bs bt)))) 8&&(Nat.beq (List.length (List.take 8 (List.drop (Int.toNat (Int.tmod (IntKind.wrap i64 (bv +
 (3:Int))) (7:Int))*8) (Zad n aa ab ac ad ae af a ag c ah ai aj ak al am an aq ao ap ar au av aw ax ay az bw a0 a1 a2 a3 a4 a5 a6 a7 a8 bx a9 ba bb bc bd be bf bg bh bz bi bj bk bl bm bn bo bp bq
 ca bs bt)))) 8&&true)) (∀(cs:Nat),Mem.free m' cs->∃(R:RT),R=f 9 [slice (some (Addr.mk cs 0 none)) 2 2] (Mem.add m' cs (List.append (List.take 8 (List.drop (Int.toNat bv*8) (Zad n aa ab ac
 ad ae af a ag c ah ai aj ak al am an aq ao ap ar au av aw ax ay az bw a0 a1 a2 a3 a4 a5 a6 a7 a8 bx a9 ba bb bc bd be bf bg bh bz bi bj bk bl bm bn bo bp bq ca bs bt))) (List.append (List.take 8 (List.drop (Int.toNat
 (Int.tmod (IntKind.wrap i64 (bv+(3:Int))) (7:Int))*8) (Zad n aa ab ac ad ae af a ag c ah ai aj ak al am an aq ao ap ar au av aw ax ay az bw a0 a1 a2 a3 a4 a5 a6 a7 a8 bx a9 ba bb bc bd be bf bg
 bh bz bi bj bk bl bm bn bo bp bq ca bs bt))) [])))/\CX Try.prog 13 (Array.mk [slice (some (Addr.mk cs 0 none)) 2 2]) (Mem.add m' cs (List.append (List.take 8 (List.drop (Int.toNat bv*8) (Zad n aa ab
 ac ad ae af a ag c ah ai aj ak al am an aq ao ap ar au av aw ax ay az bw a0 a1 a2 a3 a4 a5 a6 a7 a8 bx a9 ba bb bc bd be bf bg bh bz bi bj bk bl bm bn bo bp bq ca bs bt))) (List.append (List.take 8 (List.drop (Int.toNat
 (Int.tmod (IntKind.wrap i64 (bv+(3:Int))) (7:Int))*8) (Zad n aa ab ac ad ae af a ag c ah ai aj ak al am an aq ao ap ar au av aw ax ay az bw a0 a1 a2 a3 a4 a5 a6 a7 a8 bx a9 ba bb bc bd be bf bg
 bh bz bi bj bk bl bm bn bo bp bq ca bs bt))) []))) [] R/\Zaq (shT) R/\∀(cd dt dn dp d3 d4 d5:Int)(d6:Option Addr)(d7 d8:Nat)(ck:Mem),Mem.le (Mem.add m' cs (List.append (List.take 8 (List.drop (Int.toNat
 bv*8) (Zad n aa ab ac ad ae af a ag c ah ai aj ak al am an aq ao ap ar au av aw ax ay az bw a0 a1 a2 a3 a4 a5 a6 a7 a8 bx a9 ba bb bc bd be bf bg bh bz bi bj bk bl bm bn bo bp bq ca bs bt)))
 (List.append (List.take 8 (List.drop (Int.toNat (Int.tmod (IntKind.wrap i64 (bv+(3:Int))) (7:Int))*8) (Zad n aa ab ac ad ae af a ag c ah ai aj ak al am an aq ao ap ar au av aw ax ay az bw a0 a1
 a2 a3 a4 a5 a6 a7 a8 bx a9 ba bb bc bd be bf bg bh bz bi bj bk bl bm bn bo bp bq ca bs bt))) []))) ck->R (agg (Array.mk [int u8 cd,int u64 dt,int u64 dn,int u64 dp,int u64 d3,int i64 d4,int i64 d5,slice d6 d7
 d8])) ck []->(7:Int)≠(0:Int)/\Zaf (Int.tmod (IntKind.wrap i64 (bv+(2:Int))) (7:Int)) 7/\chk (Nat.ble (Int.toNat (Int.tmod (IntKind.wrap i64 (bv+(2:Int))) (7:Int))*8) (1+1+1+1+1+1+1
 + 1+1+1+1+1+1+1+1+1+1+1+1+1+1+1+1+1+1+1+1+1+1+1+1+1+1+1+1+1+1+1+1+1+1+1+1+1+1+1+1+1)) (chk (Nat.beq (List.length (List.take 8 (List.drop
 (Int.toNat (Int.tmod (IntKind.wrap i64 (bv+(2:Int))) (7:Int))*8) (Zad n aa ab ac ad ae af a ag c ah ai aj ak al am an aq ao ap ar au av aw ax ay az bw a0 a1 a2 a3 a4 a5 a6 a7 a8 bx a9 ba bb bc
 bd be bf bg bh bz bi bj bk bl bm bn bo bp bq ca bs bt)))) 8&&(Nat.beq (List.length (List.take 8 (List.drop (Int.toNat bv*8) (Zad n aa ab ac ad ae af a ag c ah ai aj ak al am an aq ao ap ar au av aw
 ax ay az bw a0 a1 a2 a3 a4 a5 a6 a7 a8 bx a9 ba bb bc bd be bf bg bh bz bi bj bk bl bm bn bo bp bq ca bs bt)))) 8&&true)) (∀(ct:Nat),Mem.free m' ct->∀(V:Mem),Mem.le m' V->Mem.le ck V->Mem.le (Mem.add m' ct
 (List.append (List.take 8 (List.drop (Int.toNat (Int.tmod (IntKind.wrap i64 (bv+(2:Int))) (7:Int))*8) (Zad n aa ab ac ad ae af a ag c ah ai aj ak al am an aq ao ap ar au av aw ax ay az bw a0 a1
 a2 a3 a4 a5 a6 a7 a8 bx a9 ba bb bc bd be bf bg bh bz bi bj bk bl bm bn bo bp bq ca bs bt))) (List.append (List.take 8 (List.drop (Int.toNat bv*8) (Zad n aa ab ac ad ae af a ag c ah ai aj ak al am an
 aq ao ap ar au av aw ax ay az bw a0 a1 a2 a3 a4 a5 a6 a7 a8 bx a9 ba bb bc bd be bf bg bh bz bi bj bk bl bm bn bo bp bq ca bs bt))) []))) V->∃(R:RT),R=f 18 [slice (some (Addr.mk ct 0 none)) 2 2] V/\CX Try.prog
 36 (Array.mk [slice (some (Addr.mk ct 0 none)) 2 2]) V [] R/\Zaq (shT) R/\∀(d9 ea eb ec ed ee ef:Int)(eg:Option Addr)(eh ei:Nat)(cu:Mem),Mem.le V cu->R (agg (Array.mk [int u8 d9,int u64 ea,int u64 eb,
 int u64 ec,int u64 ed,int i64 ee,int i64 ef,slice eg eh ei])) cu []->chk (Nat.beq (List.length (List.take 8 (List.drop (Int.toNat bv*8) (Zad n aa ab ac ad ae af a ag c ah ai aj ak al am an aq ao
 ap ar au av aw ax ay az bw a0 a1 a2 a3 a4 a5 a6 a7 a8 bx a9 ba bb bc bd be bf bg bh bz bi bj bk bl bm bn bo bp bq ca bs bt)))) 8&&true) (∀(cg:Nat),Mem.free m' cg->∀(V:Mem),Mem.le m' V->Mem.le cu V->Mem.le
 (Mem.add m' cg (List.append (List.take 8 (List.drop (Int.toNat bv*8) (Zad n aa ab ac ad ae af a ag c ah ai aj ak al am an aq ao ap ar au av aw ax ay az bw a0 a1 a2 a3 a4 a5 a6 a7 a8 bx a9 ba bb bc bd
 be bf bg bh bz bi bj bk bl bm bn bo bp bq ca bs bt))) [])) V->∀(dq:Nat),Mem.free V dq->(Tok.mk (slice en ds dy) 8=Tok.mk (slice dx cc cw) 8\/slice dx cc cw=slice none 0 0\/cw < cc+3)/\∃(xs:List Value),
 ∃(ys:List Value),List.length xs=cc*8/\List.length ys=3*8/\rowRd (Mem.add V dq (Zbf cd dt dn dp d3 d4 d5 d6 d7 d8 d9 ea eb ec ed ee ef eg eh ei cg)) dx xs/\rowRd (Mem.add V dq
 (Zbf cd dt dn dp d3 d4 d5 d6 d7 d8 d9 ea eb ec ed ee ef eg eh ei cg)) (some (Addr.mk dq 0 none)) ys/\(∀(u:Value),u∈ys->Value.oneCell' u=true)/\(cc+3)*80<=140737488355328/\cc+3 <=
 9223372036854775807/\∀(a':Option Addr)(c':Nat)(dc:Mem),Mem.le (Mem.add V dq (Zbf cd dt dn dp d3 d4 d5 d6 d7 d8 d9 ea eb ec ed ee ef eg eh ei cg)) dc->rowRd dc a' (List.append xs ys)->∀(M
 : Mem),Mem.le m' M->Mem.le (Mem.add m' cs (List.append (List.take 8 (List.drop (Int.toNat bv*8) (Zad n aa ab ac ad ae af a ag c ah ai aj ak al am an aq ao ap ar au av aw ax ay az bw a0 a1 a2 a3 a4
 a5 a6 a7 a8 bx a9 ba bb bc bd be bf bg bh bz bi bj bk bl bm bn bo bp bq ca bs bt))) (List.append (List.take 8 (List.drop (Int.toNat (Int.tmod (IntKind.wrap i64 (bv+(3:Int))) (7:Int))*8) (Zad n
 aa ab ac ad ae af a ag c ah ai aj ak al am an aq ao ap ar au av aw ax ay az bw a0 a1 a2 a3 a4 a5 a6 a7 a8 bx a9 ba bb bc bd be bf bg bh bz bi bj bk bl bm bn bo bp bq ca bs bt))) []))) M->Mem.le ck M->Mem.le (Mem.add
 m' ct (List.append (List.take 8 (List.drop (Int.toNat (Int.tmod (IntKind.wrap i64 (bv+(2:Int))) (7:Int))*8) (Zad n aa ab ac ad ae af a ag c ah ai aj ak al am an aq ao ap ar au av aw ax ay az bw
 a0 a1 a2 a3 a4 a5 a6 a7 a8 bx a9 ba bb bc bd be bf bg bh bz bi bj bk bl bm bn bo bp bq ca bs bt))) (List.append (List.take 8 (List.drop (Int.toNat bv*8) (Zad n aa ab ac ad ae af a ag c ah ai aj ak al
 am an aq ao ap ar au av aw ax ay az bw a0 a1 a2 a3 a4 a5 a6 a7 a8 bx a9 ba bb bc bd be bf bg bh bz bi bj bk bl bm bn bo bp bq ca bs bt))) []))) M->Mem.le cu M->Mem.le (Mem.add m' cg (List.append (List.take 8
 (List.drop (Int.toNat bv*8) (Zad n aa ab ac ad ae af a ag c ah ai aj ak al am an aq ao ap ar au av aw ax ay az bw a0 a1 a2 a3 a4 a5 a6 a7 a8 bx a9 ba bb bc bd be bf bg bh bz bi bj bk bl bm bn bo bp bq
 ca bs bt))) [])) M->Mem.le (Mem.add V dq (Zbf cd dt dn dp d3 d4 d5 d6 d7 d8 d9 ea eb ec ed ee ef eg eh ei cg)) M->Mem.le dc M->ZaM (Zbg n aa ab ac ad ae af a ag c ah ai aj ak al
 am an aq ao ap b cv ce ar au av aw ax ay az bw a0 a1 a2 a3 a4 a5 a6 a7 a8 bx a9 ba bb bc bd be bf bg bh bz bi bj cf bk bl bm bn bo bp bq ca bs bt cr)/\([none]:List (Option Tok))=[none]/\∃(n':Nat),n' < eu/\I
 [slice a' (cc+3) c',int i64 (IntKind.wrap i64 (bv+(1:Int)))] [] [slice a' (cc+3) c'] M n'))))))))) (∃(I:IT),(∃(n:Nat),I [int i64 0] [] [] dv n)/\∀(cc:Int)(m':Mem)(de:Nat),Mem.le dv m'->I
 [int i64 cc] [] [] m' de->br (decide (cc < (↑dr:Int))) (∃(cx:Nat),∃(o:Nat),ek=some (Addr.mk cx o none)/\Zaf cc dr/\∃(v:Value),∃(bu:Value),∃(cl:Value),∃(cm:Value),∃(cn:Value),∃(co
 : Value),∃(cp:Value),∃(cq:Value),Mem.reads m' cx (o+Int.toNat cc*8) [v,bu,cl,cm,cn,co,cp,cq]/\∀(cy:Nat),chk (Value.oneCell' v&&(Value.oneCell' bu&&(Value.oneCell' cl&&(Value.oneCell' cm &&
 (Value.oneCell' cn&&(Value.oneCell' co&&(Value.oneCell' cp&&(Value.oneCell' cq&&true)))))))) (∃(dw:IT),(∃(n:Nat),dw [int i64 1] [] [] m' n)/\∀(ds:Int)(ck:Mem)(d2:Nat),Mem.le m' ck->dw [int
 i64 ds] [] [] ck d2->br (decide (ds < (64:Int))) (∃(R_8:RT),True/\CX Try.prog 40 (Array.mk [int i64 ds]) ck [] R_8/\Zaq Shape.slice R_8/\∀(eo:Option Addr)(cd cw:Nat)(m':Mem),Mem.le ck m'->R_8
 (slice eo cd cw) m' []->∃(f:Fx),IntKind.wrap i64 ((↑cd:Int)+(1:Int))≠(0:Int)/\∃(R_9:RT),R_9=f 7 [agg (Array.mk [v,bu,cl,cm,cn,co,cp,cq]),slice eo cd cw,int i64 (Int.tmod cc (IntKind.wrap
 i64 ((↑cd:Int)+(1:Int))))] m'/\CX Try.prog 23 (Array.mk [agg (Array.mk [v,bu,cl,cm,cn,co,cp,cq]),slice eo cd cw,int i64 (Int.tmod cc (IntKind.wrap i64 ((↑cd:Int)+(1:Int))))]) m' [] R_9/\Zaq
 Shape.bool R_9/\∀(cs:Bool)(cu:Mem),Mem.le m' cu->R_9 (bool cs) cu []->∀(M:Mem),Mem.le m' M->Mem.le cu M->br (!cs) (∃(m'':Mem),Mem.le m m''/\Mem.le m'' M/\R (bool false) m'' []) ((4:Int)≠(0:
 Int)/\ZaM (Zep n aa ab ac ad ae af a ag c ah ai aj ak al am an aq ao ap b cv ce ar au av aw ax ay az bw a0 a1 a2 a3 a4 a5 a6 a7 a8 bx a9 ba bb bc bd be bf bg bh bz bi bj cf bk bl bm bn bo bp bq ca
 bs bt cr v bu cl cm cn co cp cq cy)/\[some (Tok.mk (slice ch ci cj) 8),some (Tok.mk (slice ch ci cj) 8)]=[some (Tok.mk (slice ch ci cj) 8),some (Tok.mk (slice ch ci cj) 8)]/\∃(n':Nat),n' < d2/\dw [int i64
 (IntKind.wrap i64 (ds+IntKind.wrap i64 ((1:Int)+Int.tmod cc (4:Int))))] [] [] M n')) ((↑dr:Int)≠(0:Int)/\∃(cs:Nat),∃(o:Nat),ek=some (Addr.mk cs o none)/\Zaf (Int.tmod (IntKind.wrap i64
 (IntKind.wrap i64 (cc*(5:Int))+(2:Int))) (↑dr:Int)) dr/\∃(df:Value),∃(dg:Value),∃(dh:Value),∃(di:Value),∃(dj:Value),∃(dk:Value),∃(dl:Value),∃(dm:Value),Mem.reads ck cs (o +
 Int.toNat (Int.tmod (IntKind.wrap i64 (IntKind.wrap i64 (cc*(5:Int))+(2:Int))) (↑dr:Int))*8) [df,dg,dh,di,dj,dk,dl,dm]/\∀(ct:Nat),chk (Value.oneCell' df&&(Value.oneCell' dg&&(Value.oneCell'
 dh&&(Value.oneCell' di&&(Value.oneCell' dj&&(Value.oneCell' dk&&(Value.oneCell' dl&&(Value.oneCell' dm&&true)))))))) (∃(ep:IT),(∃(n:Nat),ep [int i64 0] [] [] ck n)/\∀(cd:Int)(m':Mem) (dt:
 Nat),Mem.le ck m'->ep [int i64 cd] [] [] m' dt->br (decide (cd < (16:Int))) (∀(cg:Nat),Mem.free m' cg->∃(f:Fx),∃(R_8:RT),R_8=f 4 [int i64 (IntKind.wrap i64 ((17:Int)+IntKind.wrap i64 (cd*(3:
 Int))))] (Mem.add m' cg (ZaR v bu cl cm cn co cp cq df dg dh di dj dk dl dm cd))/\CX Try.prog 40 (Array.mk [int i64 (IntKind.wrap i64 ((17:Int)+IntKind.wrap i64 (cd*(3:Int))))]) (Mem.add m' cg
 (ZaR v bu cl cm cn co cp cq df dg dh di dj dk dl dm cd)) [] R_8/\Zaq Shape.slice R_8/\∀(eq:Option Addr)(dn cw:Nat)(cu:Mem),Mem.le (Mem.add m' cg (ZaR v bu cl cm cn co cp
 cq df dg dh di dj dk dl dm cd)) cu->R_8 (slice eq dn cw) cu []->(6:Int)≠(0:Int)/\∃(R_9:RT),R_9=f 7 [slice (some (Addr.mk cg 0 none)) 2 2,slice eq dn cw,int i64 (Int.tmod cd (6:Int))] cu/\CX Try.prog
 22 (Array.mk [slice (some (Addr.mk cg 0 none)) 2 2,slice eq dn cw,int i64 (Int.tmod cd (6:Int))]) cu [] R_9/\Zaq Shape.bool R_9/\∀(dq:Bool)(dc:Mem),Mem.le cu dc->R_9 (bool dq) dc []->br (!dq) (∀(M:
 Mem),Mem.le (Mem.add m' cg (ZaR v bu cl cm cn co cp cq df dg dh di dj dk dl dm cd)) M->Mem.le cu M->Mem.le dc M->Mem.le dc M->Mem.le dc M->∃(m'':Mem),Mem.le m m''/\Mem.le m'' M/\R (bool
 false) m'' []) (((0:Int)<=(1:Int)/\(1:Int)<=(↑(2:Nat):Int))/\(20:Int)≠(0:Int)/\∃(R_10:RT),R_10=f 15 [int i64 (IntKind.wrap i64 ((40:Int)+Int.tmod cc (20:Int)))] dc/\CX Try.prog 40
 (Array.mk [int i64 (IntKind.wrap i64 ((40:Int)+Int.tmod cc (20:Int)))]) dc [] R_10/\Zaq Shape.slice R_10/\∀(er:Option Addr)(dp dy:Nat)(d0:Mem),Mem.le dc d0->R_10 (slice er dp dy) d0 []->(7:Int) ≠
 (0:Int)/\∃(R_11:RT),R_11=f 19 [slice (Za4 (some (Addr.mk cg 0 none)) (Int.toNat (1:Int)) 2 10) 1 1,slice er dp dy,int i64 (IntKind.wrap i64 (Int.tmod cd (7:Int) - (1:Int)))] d0/\CX Try.prog 22
 (Array.mk [slice (Za4 (some (Addr.mk cg 0 none)) (Int.toNat (1:Int)) 2 10) 1 1,slice er dp dy,int i64 (IntKind.wrap i64 (Int.tmod cd (7:Int) - (1:Int)))]) d0 [] R_11/\Zaq Shape.bool R_11/\∀(ev:Bool) (es
 : Mem),Mem.le d0 es->R_11 (bool ev) es []->∀(M:Mem),Mem.le (Mem.add m' cg (ZaR v bu cl cm cn co cp cq df dg dh di dj dk dl dm cd)) M->Mem.le cu M->Mem.le dc M->Mem.le d0 M->Mem.le es M->br
 (!ev) (∃(m'':Mem),Mem.le m m''/\Mem.le m'' M/\R (bool false) m'' []) (ZaM (Zeq n aa ab ac ad ae af a ag c ah ai aj ak al am an aq ao ap b cv ce ar au av aw ax ay az bw a0 a1 a2 a3 a4 a5 a6 a7
 a8 bx a9 ba bb bc bd be bf bg bh bz bi bj cf bk bl bm bn bo bp bq ca bs bt cr v bu cl cm cn co cp cq cy df dg dh di dj dk dl dm ct)/\[some (Tok.mk (slice ch ci cj) 8),some (Tok.mk (slice ch ci cj) 8)]=[some (Tok.mk
 (slice ch ci cj) 8),some (Tok.mk (slice ch ci cj) 8)]/\∃(n':Nat),n' < dt/\ep [int i64 (IntKind.wrap i64 (cd+(1:Int)))] [] [] M n'))) (ZaM (Zbg n aa ab ac ad ae af a ag c ah ai aj ak al am
 an aq ao ap b cv ce ar au av aw ax ay az bw a0 a1 a2 a3 a4 a5 a6 a7 a8 bx a9 ba bb bc bd be bf bg bh bz bi bj cf bk bl bm bn bo bp bq ca bs bt cr)/\[some (Tok.mk (slice ch ci cj) 8),some (Tok.mk (slice ch ci cj) 8)] =
 [some (Tok.mk (slice ch ci cj) 8),some (Tok.mk (slice ch ci cj) 8)]/\∃(n':Nat),n' < de/\I [int i64 (IntKind.wrap i64 (cc+(1:Int)))] [] [] m' n'))))) (∃(cx:Bool),(∃(R:RT),True/\CX Try.prog 41
 (Array.mk []) m' [] R/\Zaq Shape.bool R/\∀(cy:Bool)(ck:Mem),Mem.le m' ck->R (bool cy) ck []->br cy (∃(R:RT),True/\CX Try.prog 11 (Array.mk []) ck [] R/\Zaq Shape.bool R/\∀(cs:Bool)(m':Mem),
 Mem.le ck m'->R (bool cs) m' []->ZaM (Zbg n aa ab ac ad ae af a ag c ah ai aj ak al am an aq ao ap b cv ce ar au av aw ax ay az bw a0 a1 a2 a3 a4 a5 a6 a7 a8 bx a9 ba bb bc bd be bf bg bh bz bi bj
 cf bk bl bm bn bo bp bq ca bs bt cr)/\[some (Tok.mk (slice ch ci cj) 8),some (Tok.mk (slice ch ci cj) 8)]=[some (Tok.mk (slice ch ci cj) 8),some (Tok.mk (slice ch ci cj) 8)]/\[bool cs]=[bool cx]) (ZaM
 (Zbg n aa ab ac ad ae af a ag c ah ai aj ak al am an aq ao ap b cv ce ar au av aw ax ay az bw a0 a1 a2 a3 a4 a5 a6 a7 a8 bx a9 ba bb bc bd be bf bg bh bz bi bj cf bk bl bm bn bo bp bq ca bs bt cr)/\
 [some (Tok.mk (slice ch ci cj) 8),some (Tok.mk (slice ch ci cj) 8)]=[some (Tok.mk (slice ch ci cj) 8),some (Tok.mk (slice ch ci cj) 8)]/\[bool false]=[bool cx]))/\∃(m'':Mem),Mem.le m m''/\Mem.le m'' m'/\R
 (bool cx) m'' []))
theorem ZeW  (m:Mem)(R:RT)(h:ZcM  m R):CX Try.prog 10 #[] m [] R:=
 Zae (E:=ZfK) Zax mix Try.func10 [] [] (by kernel_rfl) (Eq.mp (by kernel_rfl) h)
end Go.Proofs.Ythiefodednaikaa