/- Part of the proof: conditions and contracts of functions of this program. No condition of its own. -/
import Derived.Test.YtfgfahnakepegaaPEnv
import Derived.Test.YtfgfahnakepegaaPC15TA
import Derived.Test.YtfgfahnakepegaaPC15ZN
set_option linter.unusedVariables false
namespace Go.Proofs.Ytfgfahnakepegaa
open Go Go.Eng Go.Proofs Go.RowKit
open Go.Value (int slice agg bool string tuple func)
open Go.IntKind (u8 u64 i64)
set_option maxRecDepth 100000
noncomputable def Zoy:Env:={ EB with
 loops:=(λi=>bif Nat.beq i 6 then⟨[(3,.slice),(4,.int .i64)],[],[(38,256)],false⟩ else⟨[],[],[],false⟩)
 joins:=(λi=>bif Nat.beq i 6 then some [(27,.bool)]else none)
 tokOf:=(λi=>bif Nat.beq i 38 then 38 else 0)
 frzNew:=[1] }
abbrev Zmo:List Value->Nat->Option Box:=λ(p0:List Value)(b:Nat)=>some (Box.mk b p0 70 260 true true)
abbrev ZeI:List Value->Nat->List (Option Box):=λ(p0:List Value)(b:Nat)=>[Zmo p0 b]
def Zho(p0:List Value)(m:Mem)(R:RT):Prop:=
 chk (Nat.beq (List.length p0) 260) (∀(b:Nat)(m':Mem),Mem.le m m'->Mem.reads m' b 0 p0->Eng.Zvl p0 0 λ(v:Value)=>chk (ZaG i64 v&&decide (i64=i64)) (br (RowKit.intOf v == (2:Int)) (chk (Nat.ble
 257 (List.length p0)) (chk (Nat.beq (List.length (List.take 256 (List.drop 1 p0))) 256&&true) (∀(b:Nat),Mem.free m' b->∃(m'':Mem),Mem.le m m''/\Mem.le m'' (Mem.add m' b (List.append (List.take 256 (List.drop
 1 p0)) []))/\R (slice (some (Addr.mk b 0 none)) 1 1) m'' []))) (Eng.Zvl p0 0 λ(v:Value)=>chk (ZaG i64 v&&decide (i64=i64)) (br (RowKit.intOf v == (3:Int)) (∃(I:IT),(∃(n:Nat),I [slice none 0 0,
 int i64 0] [] [slice none 0 0] m' n)/\∀(a:Option Addr)(n c:Nat)(n_1:Int)(a_1:Option Addr)(n_2 c_1:Nat)(m'_1:Mem)(n_3:Nat),Mem.le m' m'_1->I [slice a n c,int i64 n_1] [] [slice a_1 n_2 c_1] m'_1
 n_3->∃(b_1:Bool),(Eng.Zvl p0 259 λ(v:Value)=>chk (Zcn v) (br (decide (n_1 < (↑(slN v):Int))) (Eng.Zvl p0 259 λ(v:Value)=>chk (Zcn v) (∃(b_2:Nat),∃(o:Nat),slA v=some (Addr.mk b_2 o
 none)/\Zad n_1 (slN v)/\∃(v:Value),m'_1 b_2 (o+Int.toNat n_1*260+0)=some v/\chk (ZaG i64 v&&decide (i64=i64)) (Zaz (ZeI p0 b)/\[some (Tok.mk (slice a_1 n_2 c_1) 256)]=[some
 (Tok.mk (slice a_1 n_2 c_1) 256)]/\[bool (RowKit.intOf v == (2:Int))]=[bool b_1]))) (Zaz (ZeI p0 b)/\[some (Tok.mk (slice a_1 n_2 c_1) 256)]=[some (Tok.mk (slice a_1 n_2 c_1) 256)]/\[bool false] =
 [bool b_1])))/\br b_1 (Eng.Zvl p0 259 λ(v:Value)=>chk (Zcn v) (∃(b_2:Nat),∃(o:Nat),slA v=some (Addr.mk b_2 o none)/\Zad n_1 (slN v)/\∃(vs:List Value),List.length vs=256/\Mem.reads m'_1
 b_2 (o+Int.toNat n_1*260+1) vs/\chk (Nat.beq (List.length vs) 256&&true) (∀(b_3:Nat),Mem.free m'_1 b_3->(Tok.mk (slice a_1 n_2 c_1) 256=Tok.mk (slice a n c) 256\/slice a n c=slice none 0 0\/c < n +
 1)/\∃(xs:List Value),∃(ys:List Value),List.length xs=n*256/\List.length ys=1*256/\rowRd (Mem.add m'_1 b_3 (List.append vs [])) a xs/\rowRd (Mem.add m'_1 b_3 (List.append vs [])) (some (Addr.mk b_3 0
 none)) ys/\(∀(u:Value),u∈ys->Value.oneCell' u=true)/\(n+1)*2048<=140737488355328/\n+1<=9223372036854775807/\∀(a':Option Addr)(c':Nat)(m':Mem),Mem.le (Mem.add m'_1 b_3 (List.append vs []))
 m'->rowRd m' a' (List.append xs ys)->Zaz (ZeI p0 b)/\∃(n':Nat),n' < n_3/\I [slice a' (n+1) c',int i64 (IntKind.wrap i64 (n_1+(1:Int)))] [] [slice a' (n+1) c'] m' n'))) (∃(m'':Mem),
 Mem.le m m''/\Mem.le m'' m'_1/\R (slice a n c) m'' [])) (∃(m'':Mem),Mem.le m m''/\Mem.le m'' m'/\R (slice none 0 0) m'' [])))))
theorem Zmp(p0:List Value)(m:Mem)(R:RT)(h:Zho p0 m R):CX Try.prog 63 #[.agg p0.toArray] m [] R:=
 Zaf (E:=Zoy) ZaH mix Try.func63 [.v (.agg p0.toArray)] [] (by kernel_rfl) (Eq.mp (by kernel_rfl) h)
noncomputable def Zoz:Env:={ EB with
 frzNew:=[2] }
abbrev Zhp:List Value:=[int i64 1,int i64 0,int i64 0,int i64 0,int i64 0,int i64 0,int i64 0,int i64 0,int i64 0,int i64 0,int i64 0,int i64 0,int i64 0,int i64 0,int i64 0,int i64 0,int
 i64 0,int i64 0,int i64 0,int i64 0,int i64 0,int i64 0,int i64 0,int i64 0,int i64 0,int i64 0,int i64 0,int i64 0,int i64 0,int i64 0,int i64 0,int i64 0,int i64 0,int i64 0,int i64 0,int i64 0,int
 i64 0,int i64 0,int i64 0,int i64 0,int i64 0,int i64 0,int i64 0,int i64 0,int i64 0,int i64 0,int i64 0,int i64 0,int i64 0,int i64 0,int i64 0,int i64 0,int i64 0,int i64 0,int i64 0,int i64 0,int
 i64 0,int i64 0,int i64 0,int i64 0,int i64 0,int i64 0,int i64 0,int i64 0,int i64 0,int i64 0,int i64 0,int i64 0,int i64 0,int i64 0,int i64 0,int i64 0,int i64 0,int i64 0,int i64 0,int i64 0,int
 i64 0,int i64 0,int i64 0,int i64 0,int i64 0,int i64 0,int i64 0,int i64 0,int i64 0,int i64 0,int i64 0,int i64 0,int i64 0,int i64 0,int i64 0,int i64 0,int i64 0,int i64 0,int i64 0,int i64 0,int
 i64 0,int i64 0,int i64 0,int i64 0,int i64 0,int i64 0,int i64 0,int i64 0,int i64 0,int i64 0,int i64 0,int i64 0,int i64 0,int i64 0,int i64 0,int i64 0,int i64 0,int i64 0,int i64 0,int i64 0,int
 i64 0,int i64 0,int i64 0,int i64 0,int i64 0,int i64 0,int i64 0,int i64 0,int i64 0,int i64 0,int i64 0,int i64 0,int i64 0,int i64 0,int i64 0,int i64 0,int i64 0,int i64 0,int i64 0,int i64 0,int
 i64 0,int i64 0,int i64 0,int i64 0,int i64 0,int i64 0,int i64 0,int i64 0,int i64 0,int i64 0,int i64 0,int i64 0,int i64 0,int i64 0,int i64 0,int i64 0,int i64 0,int i64 0,int i64 0,int i64 0,int
 i64 0,int i64 0,int i64 0,int i64 0,int i64 0,int i64 0,int i64 0,int i64 0,int i64 0,int i64 0,int i64 0,int i64 0,int i64 0,int i64 0,int i64 0,int i64 0,int i64 0,int i64 0,int i64 0,int i64 0,int
 i64 0,int i64 0,int i64 0,int i64 0,int i64 0,int i64 0,int i64 0,int i64 0,int i64 0,int i64 0,int i64 0,int i64 0,int i64 0,int i64 0,int i64 0,int i64 0,int i64 0,int i64 0,int i64 0,int i64 0,int
 i64 0,int i64 0,int i64 0,int i64 0,int i64 0,int i64 0,int i64 0,int i64 0,int i64 0,int i64 0,int i64 0,int i64 0,int i64 0,int i64 0,int i64 0,int i64 0,int i64 0,int i64 0,int i64 0,int i64 0,int
 i64 0,int i64 0,int i64 0,int i64 0,int i64 0,int i64 0,int i64 0,int i64 0,int i64 0,int i64 0,int i64 0,int i64 0,int i64 0,int i64 0,int i64 0,int i64 0,int i64 0,int i64 0,int i64 0,int i64 0,int
 i64 0,int i64 0,int i64 0,int i64 0,int i64 0,int i64 0,int i64 0,int i64 0,int i64 0,int i64 0,int i64 0,int i64 0,int i64 0,int i64 0,int i64 0,int i64 0,int i64 0,int i64 0,int i64 0,int i64 0,int
 i64 0,int i64 0,int i64 0,slice none 0 0]
def Zhq(p0:List Value)(p1:Int)(m:Mem)(R:RT):Prop:=
 chk (Nat.beq (List.length p0) 260) (∀(b:Nat)(m':Mem),Mem.le m m'->Mem.reads m' b 0 p0->∀(b:Nat),Eng.Zvl p0 0 λ(v:Value)=>chk (ZaG i64 v&&decide (i64=i64)) (br (RowKit.intOf v == (2:Int)) (∃
 (m'':Mem),Mem.le m m''/\Mem.le m'' m'/\R (agg (Array.mk Zhp)) m'' []) (Eng.Zvl p0 259 λ(v:Value)=>chk (Zcn v) (((0:Int)<=p1/\p1<=(↑(slN v):Int))/\∃(R_1:RT),True/\CX Try.prog 118
 (Array.mk [slice (ZaM (slA v) (Int.toNat p1) (slC v) 260) (slN v - Int.toNat p1) (slC v - Int.toNat p1)]) m' [] R_1/\Zau Shape.cells R_1/\∀(cs:List Value)(m'_1:Mem),Mem.le m' m'_1->R_1 (agg (Array.mk cs))
 m'_1 []->chk (Nat.beq (List.length cs) 260&&ZbA cs) (∃(m'':Mem),Mem.le m m''/\Mem.le m'' m'_1/\R (agg (Array.mk cs)) m'' [])))))
theorem Zmq(p0:List Value)(p1:Int)(m:Mem)(R:RT)(h:Zhq p0 p1 m R):CX Try.prog 122 #[.agg p0.toArray,.int .i64 p1] m [] R:=
 Zaf (E:=Zoz) ZaH mix Try.func122 [.v (.agg p0.toArray),.v (.int .i64 p1)] [] (by kernel_rfl) (Eq.mp (by kernel_rfl) h)
noncomputable def ZoA:Env:={ EB with
 loops:=(λi=>bif Nat.beq i 5 then⟨[(3,.slice),(4,.int .i64)],[],[(11,260)],false⟩ else⟨[],[],[],false⟩)
 tokOf:=(λi=>bif Nat.beq i 11 then 11 else bif Nat.beq i 26 then 11 else 0)
 frzNew:=[1] }
abbrev Zmr:List Value->Nat->Option Box:=λ(p0:List Value)(b:Nat)=>some (Box.mk b (List.append p0 []) 70 260 true true)
abbrev Zhr:List Value->Nat->Option Box:=λ(p0:List Value)(b:Nat)=>some (Box.mk b p0 70 260 true true)
abbrev Zms:List Value->Nat->Nat->List (Option Box):=λ(p0:List Value)(b ab:Nat)=>[Zmr p0 ab,Zhr p0 b]
abbrev Zmt:List Value->Nat->List (Option Box):=λ(p0:List Value)(b:Nat)=>[Zhr p0 b]
def Zhs(p0:List Value)(m:Mem)(R:RT):Prop:=
 chk (Nat.beq (List.length p0) 260) (∀(b:Nat)(m':Mem),Mem.le m m'->Mem.reads m' b 0 p0->Eng.Zvl p0 0 λ(v:Value)=>chk (ZaG i64 v&&decide (i64=i64)) (br (RowKit.intOf v == (4:Int)) (chk (Nat.beq
 (List.length p0) 260&&true) (∀(ab:Nat),Mem.free m' ab->(slice none 0 0=slice none 0 0\/0 < 0+1)/\∃(xs:List Value),∃(ys:List Value),List.length xs=0/\List.length ys=1*260/\rowRd (Mem.add m'
 ab (List.append p0 [])) none xs/\rowRd (Mem.add m' ab (List.append p0 [])) (some (Addr.mk ab 0 none)) ys/\(∀(u:Value),u∈ys->Value.oneCell' u=true)/\(0+1)*2096<=140737488355328/\0+1 <=
 9223372036854775807/\∀(a':Option Addr)(c':Nat)(ac:Mem),Mem.le (Mem.add m' ab (List.append p0 [])) ac->rowRd ac a' (List.append xs ys)->∃(I:IT),(∃(n:Nat),I [slice a' 1 c',int i64 0] [] [slice a' 1
 c'] ac n)/\∀(a:Option Addr)(n c:Nat)(ad:Int)(af:Option Addr)(ag ah:Nat)(m':Mem)(ai:Nat),Mem.le ac m'->I [slice a n c,int i64 ad] [] [slice af ag ah] m' ai->Eng.Zvl p0 259 λ(v:Value)=>
 chk (Zcn v) (br (decide (ad < (↑(slN v):Int))) (Eng.Zvl p0 259 λ(v:Value)=>chk (Zcn v) (∃(al:Nat),∃(o:Nat),slA v=some (Addr.mk al o none)/\Zad ad (slN v)/\∃(vs:List Value),List.length vs
 = 260/\Mem.reads m' al (o+Int.toNat ad*260) vs/\∃(R:RT),True/\CX Try.prog 80 (Array.mk [agg (Array.mk vs)]) m' [] R/\Zau Shape.slice R/\∀(aj:Option Addr)(aa ak:Nat)(ae:Mem),Mem.le m' ae->R
 (slice aj aa ak) ae []->(Tok.mk (slice af ag ah) 260=Tok.mk (slice a n c) 260\/slice a n c=slice none 0 0\/c < n+aa)/\∃(xs:List Value),∃(ys:List Value),List.length xs=n*260/\List.length ys=aa *
 260/\rowRd ae a xs/\rowRd ae aj ys/\(∀(u:Value),u∈ys->Value.oneCell' u=true)/\(n+aa)*2096<=140737488355328/\n+aa<=9223372036854775807/\∀(a':Option Addr)(c':Nat)(m':Mem),Mem.le ae m'->
 rowRd m' a' (List.append xs ys)->Zaz (Zms p0 b ab)/\([none]:List (Option Tok))=[none]/\∃(n':Nat),n' < ai/\I [slice a' (n+aa) c',int i64 (IntKind.wrap i64 (ad+(1:Int)))] [] [slice a' (n +
 aa) c'] m' n')) (∃(m'':Mem),Mem.le m m''/\Mem.le m'' m'/\R (slice a n c) m'' [])))) (∃(I:IT),(∃(n:Nat),I [slice none 0 0,int i64 0] [] [slice none 0 0] m' n)/\∀(a:Option Addr)(n c:Nat)(ad:Int)
 (af:Option Addr) (ag ah:Nat) (ac:Mem) (ai:Nat),Mem.le m' ac->I [slice a n c,int i64 ad] [] [slice af ag ah] ac ai->Eng.Zvl p0 259 λ(v:Value)=>chk (Zcn v) (br (decide (ad < (↑(slN v):Int)))
 (Eng.Zvl p0 259 λ(v:Value)=>chk (Zcn v) (∃(ab:Nat),∃(o:Nat),slA v=some (Addr.mk ab o none)/\Zad ad (slN v)/\∃(vs:List Value),List.length vs=260/\Mem.reads ac ab (o+Int.toNat ad*260)
 vs/\∃(R:RT),True/\CX Try.prog 80 (Array.mk [agg (Array.mk vs)]) ac [] R/\Zau Shape.slice R/\∀(aj:Option Addr)(aa ak:Nat)(m':Mem),Mem.le ac m'->R (slice aj aa ak) m' []->(Tok.mk (slice af ag ah) 260
 = Tok.mk (slice a n c) 260\/slice a n c=slice none 0 0\/c < n+aa)/\∃(xs:List Value),∃(ys:List Value),List.length xs=n*260/\List.length ys=aa*260/\rowRd m' a xs/\rowRd m' aj ys/\(∀(u:Value),
 u∈ys->Value.oneCell' u=true)/\(n+aa)*2096<=140737488355328/\n+aa<=9223372036854775807/\∀(a':Option Addr)(c':Nat)(ae:Mem),Mem.le m' ae->rowRd ae a' (List.append xs ys)->Zaz (Zmt
 p0 b)/\∃(n':Nat),n' < ai/\I [slice a' (n+aa) c',int i64 (IntKind.wrap i64 (ad+(1:Int)))] [] [slice a' (n+aa) c'] ae n')) (∃(m'':Mem),Mem.le m m''/\Mem.le m'' ac/\R (slice a n c) m'' [])))))
theorem Zmu(p0:List Value)(m:Mem)(R:RT)(h:Zhs p0 m R):CX Try.prog 80 #[.agg p0.toArray] m [] R:=
 Zaf (E:=ZoA) ZaH mix Try.func80 [.v (.agg p0.toArray)] [] (by kernel_rfl) (Eq.mp (by kernel_rfl) h)
noncomputable def Zkd:Env:={ EB with
 loops:=(λi=>bif Nat.beq i 2 then⟨[(3,.int .i64)],[],[],false⟩ else bif Nat.beq i 3 then⟨[(4,.int .i64)],[],[],false⟩ else⟨[],[],[],false⟩)
 dr:=(λi=>bif Nat.beq i 5 then[⟨0,[],[],none,[],[]⟩,⟨1,[],[],none,[],[]⟩,⟨2,[],[],none,[0,1],[]⟩,⟨3,[],[],none,[0,1,2],[]⟩,⟨4,[],[],none,[0,1,2,3],[]⟩,⟨5,[],[],none,[0,1,2,3,4],[]⟩,⟨6,[],[],none,[],[]⟩,⟨7,[],[],none,[0,1,2,3,4,5,6],[]⟩,⟨8,[],[],none,[0,1,2,3,4,5,6,7],[]⟩,⟨9,[],[],none,[0,1,2,3,4,5,6,7,8],[]⟩,⟨10,[],[],none,[0,1,2,3,4,5,6,7,8],[]⟩,⟨11,[],[],none,[0,1,2,3,4,5,6,7,8,9,10],[]⟩,⟨12,[],[],none,rg 0 12,[4]⟩,⟨13,[],[],none,rg 0 13,[4]⟩,⟨14,[],[],none,[0,1,2,3,4,5,6,7,8],[]⟩,⟨15,[],[],none,rg 0 15,[]⟩,⟨16,[],[],none,rg 0 16,[13]⟩,⟨17,[],[],none,[0,1,2,3,4,5,6,7,8],[]⟩,⟨18,[],[],none,[0,1,2,3,4,5,6,7,8,17],[]⟩,⟨19,[],[],none,[0,1,2,3,4,5,6,7,8,17,18],[4]⟩,⟨20,[],[],none,rg 0 14++[17,18,19],[13]⟩,⟨21,[],[],none,[0,1,2,3,4,5,6,7,8],[]⟩,⟨22,[],[],none,rg 0 14++rg 17 5,[]⟩,⟨23,[],[],none,rg 0 14++rg 17 6,[20]⟩,⟨24,[],[],none,rg 0 24,[]⟩,⟨25,[],[],none,rg 0 25,[]⟩]else[])
 gb:=true }
def Zff(p0a:Option Addr)(p0n p0c:Nat)(m:Mem)(R:RT):Prop:=
 ∃(I:IT),(∃(n:Nat),I [int i64 0] [] [] m n)/\∀(n:Int)(m':Mem)(n_1:Nat),Mem.le m m'->I [int i64 n] [] [] m' n_1->∃(I_1:IT),(∃(n:Nat),I_1 [int i64 0] [] [] m' n)/\∀(n_2:Int)(m'_1:Mem)
 (n_3:Nat),Mem.le m' m'_1->I_1 [int i64 n_2] [] [] m'_1 n_3->br (decide (n_2 < (↑p0n:Int))) (∃(f:Fx),∃(b:Nat),∃(o:Nat),p0a=some (Addr.mk b o none)/\Zad n_2 p0n/\∃(vs:List Value),List.length
 vs=260/\Mem.reads m'_1 b (o+Int.toNat n_2*260) vs/\∃(R_1:RT),R_1=f 4 [agg (Array.mk vs)] m'_1/\CX Try.prog 63 (Array.mk [agg (Array.mk vs)]) m'_1 [] R_1/\Zau Shape.slice R_1/\∀(a:Option Addr) (n_4 c
 : Nat) (m':Mem),Mem.le m'_1 m'->R_1 (slice a n_4 c) m' []->br (decide ((↑n_4:Int)<=n)) (∀(M:Mem),Mem.le m'_1 M->Mem.le m' M->Mem.le m' M->Mem.le m' M->∃(m'':Mem),Mem.le m m''/\Mem.le m'' M/\R (int
 i64 n) m'' []) (∃(b:Nat),∃(o:Nat),p0a=some (Addr.mk b o none)/\Zad n_2 p0n/\∃(vs:List Value),List.length vs=260/\Mem.reads m' b (o+Int.toNat n_2*260) vs/\∃(R_2:RT),R_2=f 13 [agg
 (Array.mk vs)] m'/\CX Try.prog 63 (Array.mk [agg (Array.mk vs)]) m' [] R_2/\Zau Shape.slice R_2/\∀(a:Option Addr)(n_5 c:Nat)(m'_2:Mem),Mem.le m' m'_2->R_2 (slice a n_5 c) m'_2 []->∃(b:Nat),∃(o:
 Nat),a=some (Addr.mk b o none)/\Zad n n_5/\∃(vs:List Value),List.length vs=256/\Mem.reads m'_2 b (o+Int.toNat n*256) vs/\∃(b:Nat),∃(o:Nat),p0a=some (Addr.mk b o none)/\Zad (0:Int)
 p0n/\∃(vs_1:List Value),List.length vs_1=260/\Mem.reads m' b (o+0) vs_1/\∃(R_3:RT),R_3=f 20 [agg (Array.mk vs_1)] m'_2/\CX Try.prog 63 (Array.mk [agg (Array.mk vs_1)]) m'_2 [] R_3/\Zau Shape.slice
 R_3/\∀(a:Option Addr)(n_6 c:Nat)(m'_3:Mem),Mem.le m'_2 m'_3->R_3 (slice a n_6 c) m'_3 []->∃(b:Nat),∃(o:Nat),a=some (Addr.mk b o none)/\Zad n n_6/\∃(vs_2:List Value),List.length vs_2 =
 256/\Mem.reads m'_3 b (o+Int.toNat n*256) vs_2/\∃(b:Bool),EqIs Try.prog 67 (agg (Array.mk vs)) (agg (Array.mk vs_2)) b/\∀(M:Mem),Mem.le m'_1 M->Mem.le m' M->Mem.le m'_2 M->Mem.le m'_3 M->br (!b) (∃
 (m'':Mem),Mem.le m m''/\Mem.le m'' M/\R (int i64 n) m'' []) (∃(n':Nat),n' < n_3/\I_1 [int i64 (IntKind.wrap i64 (n_2+(1:Int)))] [] [] M n'))) (∃(n':Nat),n' < n_1/\I [int i64 (IntKind.wrap i64 (n+(1
 : Int)))] [] [] m'_1 n')
theorem ZiZ(p0a:Option Addr)(p0n p0c:Nat)(m:Mem)(R:RT)(h:Zff p0a p0n p0c m R):CX Try.prog 81 #[.slice p0a p0n p0c] m [] R:=
 Zaf (E:=Zkd) ZaH mix Try.func81 [.v (.slice p0a p0n p0c)] [] (by kernel_rfl) (Eq.mp (by kernel_rfl) h)
noncomputable def ZoB:Env:={ EB with
 loops:=(λi=>bif Nat.beq i 4 then⟨[(3,.slice),(5,.int .i64)],[],[(51,4)],false⟩ else bif Nat.beq i 8 then⟨[(3,.slice),(7,.int .i64)],[],[(51,4)],false⟩ else bif Nat.beq i 11 then⟨[(3,.slice),(8,.int .i64)],[],[(51,4)],false⟩ else⟨[],[],[],false⟩)
 tokOf:=(λi=>bif Nat.beq i 51 then 51 else 0)
 frzNew:=[1] }
def Zht(p0:List Value)(m:Mem)(R:RT):Prop:=
 chk (Nat.beq (List.length p0) 260) (∀(b:Nat)(m':Mem),Mem.le m m'->Mem.reads m' b 0 p0->∃(R_1:RT),True/\CX Try.prog 80 (Array.mk [agg (Array.mk p0)]) m' [] R_1/\Zau Shape.slice R_1/\∀(a:Option Addr)
 (n c:Nat) (ah:Mem),Mem.le m' ah->R_1 (slice a n c) ah []->∃(I:IT),(∃(n:Nat),I [slice none 0 0,int i64 0] [] [slice none 0 0] ah n)/\∀(al:Option Addr)(am c:Nat)(ac:Int)(au:Option Addr) (av aw
 : Nat) (m':Mem) (ax:Nat),Mem.le ah m'->I [slice al am c,int i64 ac] [] [slice au av aw] m' ax->br (decide (ac < (↑n:Int))) (∃(ay:Nat),∃(o:Nat),a=some (Addr.mk ay o none)/\Zad ac n/\∃(v:
 Value),m' ay (o+Int.toNat ac*260+259)=some v/\∃(an:IT),(∃(n:Nat),an [slice al am c,int i64 0] [] [slice au av aw] m' n)/\∀(a:Option Addr)(n c:Nat)(ab:Int)(ao:Option Addr)(ap aq:Nat)
 (ae:Mem) (az:Nat),Mem.le m' ae->an [slice a n c,int i64 ab] [] [slice ao ap aq] ae az->chk (Zcn v) (br (decide (ab < (↑(slN v):Int))) (∃(I:IT),(∃(aa:Nat),I [slice a n c,int i64 (IntKind.wrap i64 (ab
 + (2:Int)))] [] [slice ao ap aq] ae aa)/\∀(a:Option Addr)(n c:Nat)(aa:Int)(ai:Option Addr)(aj ak:Nat)(m':Mem)(ar:Nat),Mem.le ae m'->I [slice a n c,int i64 aa] [] [slice ai aj ak] m' ar->chk
 (Zcn v) (br (decide (aa<=(↑(slN v):Int))) (chk (Zcn v) (((0:Int)<=aa/\aa<=(↑(slC v):Int))/\((0:Int)<=ab/\ab<=(↑(Int.toNat aa):Int))/\∃(R:RT),True/\CX Try.prog 81 (Array.mk [slice (ZaM (slA
 v) (Int.toNat ab) (slC v) 260) (Int.toNat aa - Int.toNat ab) (slC v - Int.toNat ab)]) m' [] R/\Zau (Shape.int i64) R/\∀(af:Int)(ad:Mem),Mem.le m' ad->R (int i64 af) ad []->br (decide (af > (0:Int))) (∀(ag
 : Nat),Mem.free ad ag->(Tok.mk (slice ai aj ak) 4=Tok.mk (slice a n c) 4\/slice a n c=slice none 0 0\/c < n+1)/\∃(xs:List Value),∃(ys:List Value),List.length xs=n*4/\List.length ys=1*4/\
 rowRd (Mem.add ad ag [int i64 ac,int i64 ab,int i64 aa,int i64 af]) a xs/\rowRd (Mem.add ad ag [int i64 ac,int i64 ab,int i64 aa,int i64 af]) (some (Addr.mk ag 0 none)) ys/\(∀(u:Value),u∈ys->
 Value.oneCell' u=true)/\(n+1)*32<=140737488355328/\n+1<=9223372036854775807/\∀(a':Option Addr)(c':Nat)(m':Mem),Mem.le (Mem.add ad ag [int i64 ac,int i64 ab,int i64 aa,int i64 af]) m'->rowRd m'
 a' (List.append xs ys)->[some (Box.mk b p0 70 260 true true)]=[some (Box.mk b p0 70 260 true true)]/\([none,none]:List (Option Tok))=[none,none]/\∃(n':Nat),n' < ar/\I [slice a' (n+1) c',int i64
 (IntKind.wrap i64 (aa+(1:Int)))] [] [slice a' (n+1) c'] m' n') ([some (Box.mk b p0 70 260 true true)]=[some (Box.mk b p0 70 260 true true)]/\([none,none]:List (Option Tok))=[none,none]/\∃(n':Nat),n'
 < ar/\I [slice a n c,int i64 (IntKind.wrap i64 (aa+(1:Int)))] [] [slice ai aj ak] ad n'))) ([some (Box.mk b p0 70 260 true true)]=[some (Box.mk b p0 70 260 true true)]/\([none]:List (Option Tok))=[none]/\∃
 (n':Nat),n' < az/\an [slice a n c,int i64 (IntKind.wrap i64 (ab+(1:Int)))] [] [slice ai aj ak] m' n'))) ([some (Box.mk b p0 70 260 true true)]=[some (Box.mk b p0 70 260 true true)]/\∃(n':Nat),n' < ax/\I
 [slice a n c,int i64 (IntKind.wrap i64 (ac+(1:Int)))] [] [slice ao ap aq] ae n'))) (∃(m'':Mem),Mem.le m m''/\Mem.le m'' m'/\R (slice al am c) m'' []))
theorem Zmv(p0:List Value)(m:Mem)(R:RT)(h:Zht p0 m R):CX Try.prog 41 #[.agg p0.toArray] m [] R:=
 Zaf (E:=ZoB) ZaH mix Try.func41 [.v (.agg p0.toArray)] [] (by kernel_rfl) (Eq.mp (by kernel_rfl) h)
end Go.Proofs.Ytfgfahnakepegaa
set_option linter.unusedVariables false
set_option linter.unusedSimpArgs false
namespace Go.Proofs.Ytfgfahnakepegaa
open Go Go.Eng Go.Rx Go.Proofs Go.RowKit
set_option maxRecDepth 100000
def ZhT(L:List T):List Value:=(L.map λx=>ZaI x.q).flatten
theorem ZqP(L:List T):(ZhT L).length=L.length*256:=by
 induction L with
 | nil=>rfl
 | cons x L ih=>
  have e:ZhT (x::L)=ZaI x.q++ZhT L:=rfl
  rw[e,List.length_append,Zam,ih,List.length_cons];omega
theorem Zsn(L:List T)(x:T):ZhT (L++[x])=ZhT L++ZaI x.q:=by simp[ZhT]
theorem ZtF:∀{L:List T} {i:Nat} {x:T},L[i]?=some x->∀j v,(ZaI x.q)[j]?=some v->(ZhT L)[i*256+j]?=some v
 | [],i,x,h=>by simp at h
 | y::L,0,x,h=>λj v hv=>by
  simp at h;subst h
  have e:ZhT (y::L)=ZaI y.q++ZhT L:=rfl
  have hj:=(List.getElem?_eq_some_iff.1 hv).1
  rw[e,Nat.zero_mul,Nat.zero_add,List.getElem?_append_left hj];exact hv
 | y::L,i+1,x,h=>λj v hv=>by
  have e:ZhT (y::L)=ZaI y.q++ZhT L:=rfl
  rw[e,List.getElem?_append_right (by rw[Zam];omega),Zam,show(i+1)*256+j - 256=i*256+j by omega]
  exact ZtF (by simpa using h) j v hv
theorem Zmw{m:Mem}{a:Option Addr}{L:List T}(h:rowRd m a (ZhT L)){i:Nat}{x:T}(hx:L[i]?=some x):∃b o,a=some ⟨b,o,none⟩/\m.reads b (o+i*256) (ZaI x.q):=by
 rcases h with h|⟨b,o,e,h⟩
 ·have h1:=ZqP L
  have h2:=(List.getElem?_eq_some_iff.1 hx).1
  rw[h]at h1;simp at h1;omega
 ·exact⟨b,o,e,λj v hv=>by have:=h _ v (ZtF hx j v hv);rwa [<-Nat.add_assoc]at this⟩
def Zxt(t:T):Value->Mem->List (List Value)->Prop:=λv m' _=>∃a c,v=.slice a (Zao t).length c/\rowRd m' a (ZhT (Zao t))
theorem ZgB{t:T}:∀(v:Value)(m':Mem) (css:List (List Value)),Zxt t v m' css->Shape.fits .slice v=true:=λv _ _ ⟨_,_,h,_⟩=>by rw[h];rfl
theorem ZvY{m:Mem}{x:T}{cs:List Value}(h:RefT m x cs):∀u∈Zao x,QOk u.q:=by
 obtain⟨aZ,_,a,c,css,_,_,bP,_⟩:=ZaX.1 h
 intro u hu
 unfold Zao at hu
 split at hu
 ·simp at hu;subst hu;exact Zti aZ
 ·split at hu
  ·exact Zti (bP.reps u ((List.takeWhile_sublist _).mem hu)).1
  ·simp at hu
theorem Zso{l:List T}{i:Nat}(h:∀x∈l.take i,x.k=2)(hx:∀x,l[i]?=some x->x.k≠2):l.takeWhile T.isC=l.take i:=by
 induction l generalizing i with
 | nil=>simp
 | cons y l ih=>
  cases i with
  | zero=>
   have:=hx y rfl
   rw[List.takeWhile_cons_of_neg (by simpa[T.isC]using this)];rfl
  | succ i=>
   have h0:=h y (by simp)
   rw[List.takeWhile_cons_of_pos (by simpa[T.isC]using h0),List.take_succ_cons,ih (i:=i) (λx hx=>h x (by simp[hx])) λx hh=>hx x (by simpa using hh)]
theorem Zmx(t:T)(cs:List Value)(m:Mem)(hr:RefT m t cs):CX Try.prog 63 #[.agg cs.toArray] m [] (Zxt t):=by
 obtain⟨aZ,aU,a,c,css,rfl,aR,bP,bM⟩:=ZaX.1 hr
 apply Zmp
 unfold Zho
 refine ZiS λb m1 aO _=>Zba (Zaa rfl (ZdE (λhk=>?_) (λhk=>Zba (Zaa rfl (ZdE (λeO=>?_) (λeO=>?_))))))
 ·have hk:t.k=2:=hk
  have e:Zao t=[t]:=by unfold Zao;rw[if_pos hk]
  rw[ZkU]
  refine Zaa (by rw[Ze8];rfl) (Zaa (by rw[Zam];rfl) λb2 nS=>⟨m1.add b2 (List.append (ZaI t.q) []),mLt aO (Mem.le_add nS _),Mem.le_refl _,some ⟨b2,0,none⟩,1,by rw[e];rfl,?_⟩)
  rw[e]
  have:ZhT [t]=ZaI t.q:=by simp[ZhT]
  rw[this]
  exact Zdb
 ·have hk:¬t.k=2:=hk
  have eO:t.k=3:=eO
  have e:Zao t=t.subs.takeWhile T.isC:=by unfold Zao;rw[if_neg hk,if_pos eO]
  refine⟨λxs _ tvs m' q=>∃(i:Nat)(a:Option Addr)(c:Nat),i<=t.subs.length/\xs=[.slice a i c,.int .i64 i]/\tvs=[.slice a i c]/\rowRd m' a (ZhT (t.subs.take i))/\(∀x∈t.subs.take i,x.k=2)/\q=t.subs.length - i,⟨_,0,none,0,Nat.zero_le _,rfl,rfl,.inl rfl,by simp,rfl⟩,?_⟩
  rintro a1 n1 c1 z a2 n2 c2 m2 q aP ⟨i,a',c',hi,bB,cF,cG,aV,hq⟩
  simp only[List.cons.injEq,Value.slice.injEq,Value.int.injEq,true_and,and_true]at bB cF
  obtain⟨⟨rfl,rfl,rfl⟩,rfl⟩:=bB
  obtain⟨rfl,rfl,rfl⟩:=cF
  subst hq
  have bY:=mLt aO aP
  have fin:(∀x,t.subs[n2]?=some x->x.k≠2)->Zxt t (.slice a2 n2 c2) m2 []:=λh=>by
   have:=Zso aV h
   refine⟨a2,c2,?_,?_⟩
   ·rw[e,this,List.length_take,Nat.min_eq_left hi]
   ·rw[e,this];exact cG
  rcases Nat.lt_or_ge n2 t.subs.length with aQ|bR
  ·obtain⟨x,hx⟩:=ZaY aQ
   obtain⟨b0,o0,cs2,rfl,bC,bW⟩:=Zb1 aR bP hx
   have dB:Zad (n2:Int) t.subs.length:=⟨by omega,by omega⟩
   have hw:IntKind.i64.wrap ((n2:Int)+1)=((n2+1:Nat):Int):=by rw[ZaA (by omega) (by omega)];rfl
   simp only[hw,Int.toNat_natCast]
   refine⟨x.k == 2,Zbq (Zaa rfl (ZbF (λ_=>Zbq (Zaa rfl ⟨b0,o0,rfl,dB,_,Zfw (bC.mono bY) bW.at0,Zaa rfl ⟨by trivial,by trivial,rfl⟩⟩)) (λh=>absurd (show(n2:Int) < (t.subs.length:Nat) by omega) h))),ZdE (λdC=>Zbq (Zaa rfl ?_)) (λdC=>?_)⟩
   ·have hq:=Zti (bP.reps x (List.mem_of_getElem? hx)).1
    have e2:t.subs.take (n2+1)=t.subs.take n2++[x]:=by rw[List.take_add_one,hx];rfl
    refine⟨b0,o0,rfl,dB,ZaI x.q,Zam _,λj v hv=>?_,Zaa (by rw[Zam];rfl) λb3 sy=>⟨.inl trivial,ZhT (t.subs.take n2),ZaI x.q,by rw[ZqP,List.length_take,Nat.min_eq_left hi],by rw[Zam],cG.mono (Mem.le_add sy _),Zdb,λu hu=>Zgt _ u hu,by omega,by omega,λa7 c7 m7 dA eW=>⟨by trivial,t.subs.length - (n2+1),by omega,n2+1,a7,c7,by omega,rfl,rfl,?_,?_,rfl⟩⟩⟩
    ·obtain⟨_,_,xa,xc,ds,rfl,_⟩:=ZaX.1 bW
     have hj:=(List.getElem?_eq_some_iff.1 hv).1
     rw[Zam]at hj
     have h1:(rcs x.k x.q x.mn x.mx xa x.subs.length xc)[1+j]?=some v:=by
      have:=congrArg (λl=>l[j]?) (ZkU x.k x.q x.mn x.mx xa x.subs.length xc)
      simp only[List.getElem?_take_of_lt hj,List.getElem?_drop]at this
      rw[this];exact hv
     have:=Zfw (bC.mono bY) h1
     rwa [<-Nat.add_assoc]at this
    ·rw[e2,Zsn];exact eW
    ·rw[e2]
     intro y hy
     rcases List.mem_append.1 hy with hy|hy
     ·exact aV y hy
     ·simp at hy;subst hy;exact dC
   ·exact⟨m2,bY,Mem.le_refl _,fin λy hy=>by rw[hx]at hy;cases hy;exact dC⟩
  ·refine⟨false,Zbq (Zaa rfl (ZbF (λh=>absurd (show(n2:Int) < (t.subs.length:Nat) from h) (by omega)) (λh=>⟨by trivial,by trivial,rfl⟩))),Zb6 rfl ⟨m2,bY,Mem.le_refl _,fin λy hy=>?_⟩⟩
   rw[List.getElem?_eq_none bR]at hy;cases hy
 ·have hk:¬t.k=2:=hk
  have eO:¬t.k=3:=eO
  refine Zaj aO ⟨none,0,?_,?_⟩
  ·unfold Zao;rw[if_neg hk,if_neg eO];rfl
  ·unfold Zao;rw[if_neg hk,if_neg eO];exact .inl rfl
theorem ZqQ{m:Mem}{a:Option Addr}{L:List T}{css:List (List Value)}(hr:rowRd m a css.flatten)(bP:RefAt m L css){i n c:Nat}(hi:i<=n)(hn:n<=L.length)(hc:L.length<=c):rowRd m (ZaM a i c 260) ((css.take n).drop i).flatten/\RefAt m (seg L i n) ((css.take n).drop i):=by
 refine⟨?_,(bP.take n).drop i⟩
 have hl:=bP.len
 rcases Nat.lt_or_ge i n with aS|bR
 ·rcases hr with hr|⟨b,o,rfl,hr⟩
  ·have:=ZbU bP.all
   rw[hr]at this;simp at this;omega
  ·have hs:ZaM (some ⟨b,o,none⟩) i c 260=some ⟨b,o+i*260,none⟩:=by
    unfold ZaM
    by_cases h0:i=0
    ·subst h0;simp
    ·rw[Zat h0,Zat (show c≠i by omega)];simp[Addr.add];omega
   rw[hs]
   refine .inr ⟨b,o+i*260,rfl,λj v hv=>?_⟩
   have h1:=congrArg List.flatten (List.take_append_drop i (css.take n))
   rw[List.flatten_append,List.take_take,Nat.min_eq_left hi]at h1
   have h2:=congrArg List.flatten (List.take_append_drop n css)
   rw[List.flatten_append,<-h1]at h2
   have h3:(css.take i).flatten.length=i*260:=by
    rw[ZbU (λcs cI=>bP.all cs (List.mem_of_mem_take cI)),List.length_take,Nat.min_eq_left (by omega)]
   have hj:=(List.getElem?_eq_some_iff.1 hv).1
   have:css.flatten[i*260+j]?=some v:=by
    rw[<-h2,List.getElem?_append_left (by rw[List.length_append,h3];omega),List.getElem?_append_right (by omega),h3,show i*260+j - i*260=j by omega]
    exact hv
   have:=hr _ v this
   rwa [<-Nat.add_assoc]at this
 ·left
  rw[List.drop_eq_nil_of_le (by rw[List.length_take];omega)];rfl
theorem Zw1(t:T)(cs:List Value)(n:Nat)(m:Mem)(hr:RefT m t cs)(hg:t.good=true)(hz:t.nodes.length<=900)(hn:n<=(Zao t).length):CX Try.prog 122 #[.agg cs.toArray,.int .i64 n] m [] (ZtQ (Zbm n t)):=by
 obtain⟨aZ,aU,a,c,css,rfl,aR,bP,bM⟩:=ZaX.1 hr
 apply Zmq
 unfold Zhq
 refine ZiS λb m1 aO _ b1=>Zba (Zaa rfl (ZdE (λhk=>?_) (λhk=>Zbq (Zaa rfl ?_))))
 ·have hk:t.k=2:=hk
  have e:Zhp=rcs 1 (0,0,0,0) 0 0 none 0 0:=ZiY 1 0 0 none 0 0
  rw[e]
  refine Zaj aO ?_
  unfold Zbm
  rw[if_pos hk]
  exact⟨_,rfl,ZyM _⟩
 ·have dC:¬t.k=2:=hk
  have bE:n<=t.subs.length:=by
   unfold Zao at hn
   rw[if_neg dC]at hn
   split at hn
   ·exact Nat.le_trans hn (List.takeWhile_sublist _).length_le
   ·simp at hn;omega
  have fY:∀x∈t.subs.drop n,x.good=true:=λx hx=>(Zal hg).2 x (List.mem_of_mem_drop hx)
  have bA:szL (t.subs.drop n)<=900:=by
   have:=Zcy t.subs n
   rw[Zcr]at hz
   omega
  have h1:=ZqQ (aR.mono aO) (bP.mono aO) (i:=n) (n:=t.subs.length) (c:=c) bE (Nat.le_refl _) bM
  have hl:=bP.len
  have e1:seg t.subs n t.subs.length=t.subs.drop n:=by unfold seg;rw[List.take_length]
  rw[e1]at h1
  have h:=ZtE (t.subs.drop n) _ _ (c - n) m1 h1.1 h1.2 fY (by omega)
  rw[List.length_drop]at h
  refine⟨⟨by omega,by simp only[slN];omega⟩,?_⟩
  simp only[Int.toNat_natCast]
  refine Zag h Zbf (Zhn λcs2 m2 aP h2=>h2.chk1 ⟨m2,mLt aO aP,Mem.le_refl _,cs2,rfl,?_⟩)
  unfold Zbm
  rw[if_neg dC]
  exact h2
def Zsp(L:List T):Value->Mem->List (List Value)->Prop:=λv m' _=>∃a c css,v=.slice a L.length c/\rowRd m' a css.flatten/\RefAt m' L css
theorem ZdX{L:List T}:∀(v:Value)(m':Mem) (css:List (List Value)),Zsp L v m' css->Shape.fits .slice v=true:=λv _ _ ⟨_,_,_,h,_⟩=>by rw[h];rfl
theorem Zmy(l:List T)(i:Nat):(Zax (l.take i)).length<=szL l:=by
 have h1:=ZdB (l.take i)
 have h2:=Zcy l i
 omega
theorem ZtG:∀(t:T)(cs:List Value)(m:Mem),RefT m t cs->t.nodes.length<=100000->CX Try.prog 80 #[.agg cs.toArray] m [] (Zsp t.alts):=by
 intro t
 induction hn:SizeOf.sizeOf t using Nat.strongRecOn generalizing t with
 | ind n ih=>
 intro cs m hr hz
 have pR:=hr
 obtain⟨aZ,aU,a,c,css,rfl,aR,bP,bM⟩:=ZaX.1 hr
 have pS:=Zeo t
 have zl:=Zcr t
 apply Zmu
 unfold Zhs
 refine ZiS λb m1 aO _=>Zba (Zaa rfl (ZdE (λhk=>?_) (λhk=>?_)))
 ·have hk:t.k=4:=hk
  rw[if_pos hk]at pS
  refine pR.chk2 λb1 gT=>⟨.inl rfl,[],rcs t.k t.q t.mn t.mx a t.subs.length c,rfl,by rw[Ze8],.inl rfl,Zdb,Zqh _ _ _ _ _ _ _,by decide,by decide,λa' c' m2 aP dN=>?_⟩
  have oW:=Mem.le_add gT (List.append (rcs t.k t.q t.mn t.mx a t.subs.length c) [])
  have bY:=mLt aO (mLt oW aP)
  refine⟨λxs _ tvs m' q=>∃(i:Nat)(a1:Option Addr)(c1:Nat) (R:List (List Value)),i<=t.subs.length/\xs=[.slice a1 (t::Zax (t.subs.take i)).length c1,.int .i64 i]/\tvs=[.slice a1 (t::Zax (t.subs.take i)).length c1]/\rowRd m' a1 R.flatten/\RefAt m' (t::Zax (t.subs.take i)) R/\q=t.subs.length - i,⟨_,0,a',c',[rcs t.k t.q t.mn t.mx a t.subs.length c],Nat.zero_le _,rfl,rfl,by rw[List.flatten_singleton];exact dN,RefAt.one (pR.mono bY),rfl⟩,?_⟩
  rintro a1 n1 c1 z a2 n2 c2 m3 q aX ⟨i,a5,c5,R,hi,bB,cF,cG,hR,hq⟩
  simp only[List.cons.injEq,Value.slice.injEq,Value.int.injEq,true_and,and_true]at bB cF
  obtain⟨⟨rfl,rfl,rfl⟩,rfl⟩:=bB
  obtain⟨rfl,rfl,rfl⟩:=cF
  subst hq
  have bT:=mLt bY aX
  refine Zbq (Zaa rfl (ZbF (λaS=>Zbq (Zaa rfl ?_)) (λbR=>?_)))
  ·have aQ:i < t.subs.length:=by simp only[slN]at aS;omega
   obtain⟨x,hx⟩:=ZaY aQ
   have cN:=List.mem_of_getElem? hx
   obtain⟨b0,o0,cs2,rfl,bC,bW⟩:=Zb1 aR bP hx
   have bB:=Zbz cN
   have hw:IntKind.i64.wrap ((i:Int)+1)=((i+1:Nat):Int):=by rw[ZaA (by omega) (by omega)];rfl
   simp only[hw,Int.toNat_natCast]
   refine⟨b0,o0,rfl,⟨by omega,by simp only[slN];omega⟩,cs2,bW.len,bC.mono bT,Zag (ih _ (by have:=Zdk cN;omega) x rfl cs2 m3 (bW.mono bT) (by omega)) ZdX ?_⟩
   rintro a6 n6 c6 m4 bK ⟨ax,cx,xss,hv,cW,fL⟩
   simp only[Value.slice.injEq]at hv
   obtain⟨rfl,rfl,rfl⟩:=hv
   have cM:=ZjA hx
   have bX:=congrArg List.length cM
   rw[List.length_append]at bX
   have gL:=Zmy t.subs (i+1)
   have iH:=hR.len
   have gY:=fL.len
   refine⟨.inl trivial,R.flatten,xss.flatten,by rw[ZbU hR.all,iH],by rw[ZbU fL.all,gY],cG.mono bK,cW,Zfs fL,by rw[List.length_cons];omega,by rw[List.length_cons];omega,λa7 c7 m7 dA eW=>⟨by trivial,by trivial,t.subs.length - (i+1),by omega,i+1,a7,c7,R++xss,by omega,?_,?_,Zmn eW,?_,rfl⟩⟩
   ·rw[List.length_cons,List.length_cons,bX,Nat.add_right_comm]
   ·rw[List.length_cons,List.length_cons,bX,Nat.add_right_comm]
   ·rw[cM,<-List.cons_append]
    exact(hR.mono (mLt bK dA)).append (fL.mono dA)
  ·have:i=t.subs.length:=by simp only[slN]at bR;omega
   subst this
   rw[List.take_length]at hR ⊢
   refine⟨m3,bT,Mem.le_refl _,a2,c2,R,?_,cG,?_⟩
   ·rw[pS];rfl
   ·rw[pS];exact hR
 ·have hk:¬t.k=4:=hk
  rw[if_neg hk,List.nil_append]at pS
  refine⟨λxs _ tvs m' q=>∃(i:Nat)(a1:Option Addr)(c1:Nat) (R:List (List Value)),i<=t.subs.length/\xs=[.slice a1 (Zax (t.subs.take i)).length c1,.int .i64 i]/\tvs=[.slice a1 (Zax (t.subs.take i)).length c1]/\rowRd m' a1 R.flatten/\RefAt m' (Zax (t.subs.take i)) R/\q=t.subs.length - i,⟨_,0,none,0,[],Nat.zero_le _,rfl,rfl,.inl rfl,by simp[Zax,RefAt],rfl⟩,?_⟩
  rintro a1 n1 c1 z a2 n2 c2 m3 q aX ⟨i,a5,c5,R,hi,bB,cF,cG,hR,hq⟩
  simp only[List.cons.injEq,Value.slice.injEq,Value.int.injEq,true_and,and_true]at bB cF
  obtain⟨⟨rfl,rfl,rfl⟩,rfl⟩:=bB
  obtain⟨rfl,rfl,rfl⟩:=cF
  subst hq
  have bT:=mLt aO aX
  refine Zbq (Zaa rfl (ZbF (λaS=>Zbq (Zaa rfl ?_)) (λbR=>?_)))
  ·have aQ:i < t.subs.length:=by simp only[slN]at aS;omega
   obtain⟨x,hx⟩:=ZaY aQ
   have cN:=List.mem_of_getElem? hx
   obtain⟨b0,o0,cs2,rfl,bC,bW⟩:=Zb1 aR bP hx
   have bB:=Zbz cN
   have hw:IntKind.i64.wrap ((i:Int)+1)=((i+1:Nat):Int):=by rw[ZaA (by omega) (by omega)];rfl
   simp only[hw,Int.toNat_natCast]
   refine⟨b0,o0,rfl,⟨by omega,by simp only[slN];omega⟩,cs2,bW.len,bC.mono bT,Zag (ih _ (by have:=Zdk cN;omega) x rfl cs2 m3 (bW.mono bT) (by omega)) ZdX ?_⟩
   rintro a6 n6 c6 m4 bK ⟨ax,cx,xss,hv,cW,fL⟩
   simp only[Value.slice.injEq]at hv
   obtain⟨rfl,rfl,rfl⟩:=hv
   have cM:=ZjA hx
   have bX:=congrArg List.length cM
   rw[List.length_append]at bX
   have gL:=Zmy t.subs (i+1)
   have iH:=hR.len
   have gY:=fL.len
   refine⟨.inl trivial,R.flatten,xss.flatten,by rw[ZbU hR.all,iH],by rw[ZbU fL.all,gY],cG.mono bK,cW,Zfs fL,by omega,by omega,λa7 c7 m7 dA eW=>⟨by trivial,t.subs.length - (i+1),by omega,i+1,a7,c7,R++xss,by omega,?_,?_,Zmn eW,?_,rfl⟩⟩
   ·rw[bX]
   ·rw[bX]
   ·rw[cM]
    exact(hR.mono (mLt bK dA)).append (fL.mono dA)
  ·have:i=t.subs.length:=by simp only[slN]at bR;omega
   subst this
   rw[List.take_length]at hR ⊢
   refine⟨m3,bT,Mem.le_refl _,a2,c2,R,?_,cG,?_⟩
   ·rw[pS]
   ·rw[pS];exact hR
theorem ZqR(u v:T):ZcG u v=decide (u.q=v.q):=by
 rw[ZBT]
 unfold ZcG
 cases u.s0 == v.s0 <;> cases u.s1 == v.s1 <;> cases u.s2 == v.s2 <;> cases u.s3 == v.s3 <;> rfl
theorem Zsq(x:T)(r:List T)(css:List (List Value))(a:Option Addr)(c:Nat)(m:Mem)(hr:rowRd m a css.flatten)(bP:RefAt m (x::r) css)(hl:(x::r).length<=100000):CX Try.prog 81 #[.slice a (x::r).length c] m [] (Ret (.int .i64 (ZmU (x::r):Nat))):=by
 apply ZiZ
 unfold Zff
 obtain⟨bx,ox,csx,rfl,vC,nB⟩:=Zb1 hr bP (i:=0) (t:=x) rfl
 have zm:(Zao x).length<=1000000:=by
  obtain⟨_,h1,_⟩:=ZaX.1 nB
  unfold Zao
  split
  ·simp
  ·split
   ·exact Nat.le_trans (List.takeWhile_sublist _).length_le h1
   ·simp
 have bE:=Zyj x r
 refine⟨λxs _ _ m' q=>∃n:Nat,n<=ZmU (x::r)/\xs=[.int .i64 n]/\q=(Zao x).length - n,⟨_,0,Nat.zero_le _,rfl,rfl⟩,?_⟩
 rintro z m1 q aO ⟨n,hn,bB,hq⟩
 obtain rfl:z=n:=by simpa using bB
 subst hq
 refine⟨λxs _ _ m' q=>∃i:Nat,i<=(x::r).length/\xs=[.int .i64 i]/\(∀y∈(x::r).take i,ZA2 x y n)/\q=(x::r).length - i,⟨_,0,Nat.zero_le _,rfl,by simp,rfl⟩,?_⟩
 rintro z m2 q aP ⟨i,hi,bB,aV,hq⟩
 obtain rfl:z=i:=by simpa using bB
 subst hq
 have bY:=mLt aO aP
 refine ZbF (λaS=>?_) (λbR=>?_)
 ·have aQ:i < (x::r).length:=by omega
  obtain⟨y,hy⟩:=ZaY aQ
  have tp:=List.mem_of_getElem? hy
  obtain⟨b0,o0,csy,e0,bC,jX⟩:=Zb1 hr bP hy
  cases e0
  have dB:Zad (i:Int) (x::r).length:=⟨by omega,by omega⟩
  have hw:IntKind.i64.wrap ((i:Int)+1)=((i+1:Nat):Int):=by rw[ZaA (by omega) (by omega)];rfl
  simp only[hw,Int.toNat_natCast]
  have stop:∀M:Mem,m.le M->¬ZA2 x y n->∃m'':Mem,m.le m''/\m''.le M/\Ret (.int .i64 (ZmU (x::r):Nat)) (.int .i64 n) m'' []:=λM hM h=>by
   have h1:=ZuH tp h
   have:ZmU (x::r)=n:=by omega
   rw[this]
   exact Zaj hM rfl
  refine⟨λk _ _=>bif Nat.beq k 20 then Zxt x else Zxt y,bx,ox,rfl,dB,csy,jX.len,bC.mono bY,_,rfl,Zmx y csy m2 (jX.mono bY),ZgB,?_⟩
  rintro a3 n3 c3 m3 aX ⟨ah,ch,hv,xg⟩
  simp only[Value.slice.injEq]at hv
  obtain⟨rfl,rfl,rfl⟩:=hv
  have bT:=mLt bY aX
  refine ZbF (λh1=>λM hM _ _ _=>stop M (mLt bY hM) ?_) (λh1=>?_)
  ·rintro⟨u,v,_,hv,_⟩
   have:=(List.getElem?_eq_some_iff.1 hv).1
   omega
  have h1':n < (Zao y).length:=by omega
  have gY:n < (Zao x).length:=by
   rcases Nat.eq_zero_or_pos i with h0|h0
   ·subst h0;simp at hy;subst hy;exact h1'
   ·obtain⟨u,v,hu,_⟩:=aV x (by
     obtain⟨i',rfl⟩:∃i',i=i'+1:=⟨i - 1,by omega⟩
     simp)
    exact(List.getElem?_eq_some_iff.1 hu).1
  obtain⟨v,hv⟩:=ZaY h1'
  obtain⟨u,hu⟩:=ZaY gY
  refine⟨bx,ox,rfl,dB,csy,jX.len,bC.mono bT,_,rfl,Zmx y csy m3 (jX.mono bT),ZgB,?_⟩
  rintro a4 n4 c4 m4 bK ⟨ah4,ch4,xh,vD⟩
  simp only[Value.slice.injEq]at xh
  obtain⟨rfl,rfl,rfl⟩:=xh
  obtain⟨b4,o4,rfl,pI⟩:=Zmw vD hv
  have gA:=mLt bT bK
  refine⟨b4,o4,rfl,⟨by omega,by omega⟩,ZaI v.q,Zam _,pI,bx,ox,rfl,⟨by decide,by simp⟩,csx,nB.len,by simpa using vC.mono bT,_,rfl,Zmx x csx m4 (nB.mono gA),ZgB,?_⟩
  rintro a5 n5 c5 m5 cU ⟨ah5,ch5,r5,vE⟩
  simp only[Value.slice.injEq]at r5
  obtain⟨rfl,rfl,rfl⟩:=r5
  obtain⟨b5,o5,rfl,vF⟩:=Zmw vE hu
  refine⟨b5,o5,rfl,⟨by omega,by omega⟩,ZaI u.q,Zam _,vF,decide (v.q=u.q),ZBo (ZvY jX v (List.mem_of_getElem? hv)) (ZvY nB u (List.mem_of_getElem? hu)),λM dS eC fQ jG=>Zab (λhb=>?_) (λhb=>?_)⟩
  ·refine stop M (mLt bY dS) ?_
   rintro⟨u',v',hu',hv',hs⟩
   rw[hu]at hu';rw[hv]at hv'
   cases hu';cases hv'
   rw[ZqR]at hs
   have:=of_decide_eq_true hs
   rw[this]at hb;simp at hb
  ·refine⟨(x::r).length - (i+1),by omega,i+1,aQ,rfl,?_,rfl⟩
   have hb':v.q=u.q:=by simpa using hb
   rw[List.take_add_one,hy]
   intro y' hy'
   rcases List.mem_append.1 hy' with hy'|hy'
   ·exact aV y' hy'
   ·simp at hy';subst hy'
    exact⟨u,v,hu,hv,by rw[ZqR];exact decide_eq_true hb'.symm⟩
 ·have:i=(x::r).length:=by omega
  subst this
  rw[List.take_length]at aV
  have h1:=ZuG hn aV
  have hw:IntKind.i64.wrap ((n:Int)+1)=((n+1:Nat):Int):=by rw[ZaA (by omega) (by omega)];rfl
  rw[hw]
  exact⟨(Zao x).length - (n+1),by omega,n+1,h1,rfl,rfl⟩
end Go.Proofs.Ytfgfahnakepegaa
