/- Part of the proof: conditions and contracts of functions of this program. No condition of its own. -/
import Derived.Test.YtiadlgdcbpnmkaaGreatDoorPEnv
import Derived.Test.YtiadlgdcbpnmkaaGreatDoorMc
set_option linter.unusedVariables false
set_option linter.unusedSimpArgs false
set_option linter.unusedSectionVars false
namespace Go.Proofs.YtiadlgdcbpnmkaaGreatDoor
open Go Go.Eng Go.Proofs Go.RowKit
open Go.Value (int slice agg bool string tuple func)
open Go.IntKind (u8 u64 i64)
set_option maxRecDepth 100000
noncomputable def Zjx:Env:={ EB with
 loops:=(λi=>bif Nat.beq i 6 then⟨[(0,.slice),(23,.int .i64)],[],[(900,1)],false⟩ else⟨[],[],[],false⟩)
 tokOf:=(λi=>bif Nat.beq i 19 then 900 else 0)
 frzNew:=[3]
 thaw:=true
 lentC:=(λi=>bif Nat.beq i 29 then some [(900,1)]else none) }
def ZeM(aW:Int)(aX:Value)(aV:ByteArray)(aY:Int)(bV:Option Addr)(bU bW:Nat)(t0a:Option Addr)(t0n t0c:Nat)(m:Mem)(Y:Nat->Prop)(R:RTY):Prop:=
 ∀(b:Nat)(m':Mem),Mem.le m m'->Mem.reads m' b 0 [int u8 aW,aX,string aV,int i64 aY,slice bV bU bW]->Mem.free m b->(∀(b' o:Nat)(u:Value),m' b' o=some u->m b' o=some u\/b'=b)->
 br (aW == (9:Int)) (∃(R_1:RT),True/\CX Tryz.prog 81 (Array.mk [slice t0a t0n t0c,string aV]) m' [] R_1/\Zal Shape.bool R_1/\∀(b:Bool)(m'_1:Mem),Mem.le m' m'_1->R_1 (bool b) m'_1 []->br b (R
 (slice t0a t0n t0c) m'_1 [] [slice t0a t0n t0c]) (∀(b:Nat),Mem.free m'_1 b->(Tok.mk (slice t0a t0n t0c) 1=Tok.mk (slice t0a t0n t0c) 1\/slice t0a t0n t0c=slice none 0 0\/t0c < t0n+1)/\∃(xs:List Value),
 ∃(ys:List Value),List.length xs=t0n*1/\List.length ys=1*1/\rowRd (Mem.add m'_1 b [string aV]) t0a xs/\rowRd (Mem.add m'_1 b [string aV]) (some (Addr.mk b 0 none)) ys/\(∀(u:Value),u∈ys->
 Value.oneCell' u=true)/\(t0n+1)*16<=140737488355328/\t0n+1<=9223372036854775807/\∀(a':Option Addr)(c':Nat)(m':Mem),Mem.le (Mem.add m'_1 b [string aV]) m'->rowRd m' a' (List.append xs ys)->
 TokFact (Mem.add m'_1 b [string aV]) t0a a' (t0n+1) c'->R (slice a' (t0n+1) c') m' [] [slice a' (t0n+1) c'])) (∃(I:IT),(∃(n:Nat),I [slice t0a t0n t0c,int i64 0] [] [slice t0a t0n t0c] m' n)/\∀(a:
 Option Addr) (n c:Nat) (n_1:Int) (a_1:Option Addr) (n_2 c_1:Nat) (m':Mem) (n_3:Nat),True->I [slice a n c,int i64 n_1] [] [slice a_1 n_2 c_1] m' n_3->br (decide (n_1 < (↑bU:Int))) (∃(b_1:Nat),∃
 (o:Nat),bV=some (Addr.mk b_1 o none)/\Zai n_1 bU/\∃(v:Value),∃(v_1:Value),∃(v_2:Value),∃(v_3:Value),∃(v_4:Value),Mem.reads m' b_1 (o+Int.toNat n_1*5) [v,v_1,v_2,v_3,v_4]/\∀
 (b_2:Nat),chk (Value.oneCell' v&&(Value.oneCell' v_1&&(Value.oneCell' v_2&&(Value.oneCell' v_3&&(Value.oneCell' v_4&&true))))) (∃(Y_1:Nat->Prop),∃(R:Value->Mem->List (List Value)->List Value->
 Prop),CXY Tryz.prog 115 (Array.mk [slice a n c,agg (Array.mk [v,v_1,v_2,v_3,v_4])]) m' Y_1 [] [Tok.mk (slice a_1 n_2 c_1) 1] R/\(∀(t:Tok),t∈[Tok.mk (slice a_1 n_2 c_1) 1]->∀(b:Nat),Tok.blk t=some b->
 Y_1 b)/\(∀(b_3:Nat),Y_1 b_3->(∃(t:Tok),t∈[Tok.mk (slice a_1 n_2 c_1) 1]/\Tok.blk t=some b_3)\/(Mem.free (Mem.off m Y) b_3/\Mem.k (Mem.off m Y) b_3=none)/\((∃(o:Nat),∃(v:Value),m' b_3 o=some
 v)\/∃(e:List (Value×Value)),Mem.k m' b_3=some e)/\b≠b_3/\True)/\(∀(v:Value)(m':Mem) (css:List (List Value)) (tvs:List Value),R v m' css tvs->Shape.fits Shape.slice v=true)/\∀(a:Option
 Addr) (n c:Nat) (m'_1:Mem),Mem.le (Mem.off m' Y_1) m'_1->(NewM m' m'_1 λ(b:Nat)=>Y_1 b\/Mem.free m' b)->∀(a_6:Option Addr)(c_2 d:Nat),R (slice a n c) m'_1 [] [slice a_6 c_2 d]->[some (Box.mk b
 [int u8 aW,aX,string aV,int i64 aY,slice bV bU bW] 50 5 true true)]=[some (Box.mk b [int u8 aW,aX,string aV,int i64 aY,slice bV bU bW] 50 5 true true)]/\([none]:List
 (Option Tok))=[none]/\∃(n':Nat),n' < n_3/\I [slice a n c,int i64 (IntKind.wrap i64 (n_1+(1:Int)))] [] [slice a_6 c_2 d] m'_1 n')) (R (slice a n c) m' [] [slice a_1 n_2 c_1]))
theorem Zhc(aW:Int)(aX:Value)(aV:ByteArray)(aY:Int)(bV:Option Addr)(bU bW:Nat)(t0a:Option Addr)(t0n t0c:Nat)(m:Mem)(Y:Nat->Prop)(R:RTY)(h:ZeM aW aX aV aY bV bU bW t0a t0n t0c m Y R):CXY Tryz.prog 115 #[.slice t0a t0n t0c,.agg #[.int .u8 aW,aX,.string aV,.int .i64 aY,.slice bV bU bW]] m Y [] [⟨.slice t0a t0n t0c,1⟩] R:=
 Zp6 (E:=Zjx) Zaj mix Tryz.func115 [.v (.slice t0a t0n t0c),.v (.agg #[.int .u8 aW,aX,.string aV,.int .i64 aY,.slice bV bU bW])] [] [900] [⟨.slice t0a t0n t0c,1⟩] (by decide) (by kernel_rfl) (Eq.mp (by kernel_rfl) h)
noncomputable def Zbz:Env:={ EB with
 loops:=(λi=>bif Nat.beq i 2 then⟨[(8,.int .i64)],[],[],false⟩ else⟨[],[],[],false⟩)
 dr:=(λi=>bif Nat.beq i 4 then[⟨0,[3],[],none,[],[]⟩,⟨1,[],[],none,[],[]⟩,⟨2,[],[],none,[],[]⟩,⟨3,[],[],none,[1,2],[]⟩,⟨4,[],[],none,[1,2,3],[]⟩,⟨5,[],[],none,[0,1,2,3,4],[]⟩]else[])
 frzNew:=[3] }
def ZaW(p0a:Option Addr)(p0n p0c:Nat)(aW aX aV aY bO:Int)(m:Mem)(R:RT):Prop:=
 ∀(b:Nat)(m':Mem),Mem.le m m'->Mem.reads m' b 0 [int i64 aW,int i64 aX,int i64 aV,int i64 aY,int i64 bO]->∃(I:IT),(∃(n:Nat),I [int i64 0] [] [] m' n)/\∀(n:Int)(m'_1:Mem)(n_1:Nat),
 Mem.le m' m'_1->I [int i64 n] [] [] m'_1 n_1->br (decide (n < (↑p0n:Int))) (∃(b_1:Nat),∃(o:Nat),p0a=some (Addr.mk b_1 o none)/\Zai n p0n/\∃(v:Value),∃(v_1:Value),∃(v_2:Value),∃(v_3:
 Value),∃(v_4:Value),Mem.reads m'_1 b_1 (o+Int.toNat n*5) [v,v_1,v_2,v_3,v_4]/\∃(b_2:Bool),EqIs Tryz.prog 34 (agg (Array.mk [int i64 aW,int i64 aX,int i64 aV,int i64 aY,int i64 bO])) (agg
 (Array.mk [v,v_1,v_2,v_3,v_4])) b_2/\br b_2 (∃(m'':Mem),Mem.le m m''/\Mem.le m'' m'_1/\R (int i64 n) m'' []) ([some (Box.mk b [int i64 aW,int i64 aX,int i64 aV,int i64 aY,int i64 bO] 34 5 true
 true)]=[some (Box.mk b [int i64 aW,int i64 aX,int i64 aV,int i64 aY,int i64 bO] 34 5 true true)]/\∃(n':Nat),n' < n_1/\I [int i64 (IntKind.wrap i64 (n+(1:Int)))] [] [] m'_1 n')) (∃(m'':Mem),
 Mem.le m m''/\Mem.le m'' m'_1/\R (int i64 (-1:Int)) m'' [])
theorem Zbu(p0a:Option Addr)(p0n p0c:Nat)(aW aX aV aY bO:Int)(m:Mem)(R:RT)(h:ZaW p0a p0n p0c aW aX aV aY bO m R):CX Tryz.prog 24 #[.slice p0a p0n p0c,.agg #[.int .i64 aW,.int .i64 aX,.int .i64 aV,.int .i64 aY,.int .i64 bO]] m [] R:=
 Zad (E:=Zbz) Zaj mix Tryz.func24 [.v (.slice p0a p0n p0c),.v (.agg #[.int .i64 aW,.int .i64 aX,.int .i64 aV,.int .i64 aY,.int .i64 bO])] [] (by kernel_rfl) (Eq.mp (by kernel_rfl) h)
noncomputable def Zbl:Env:={ EB with
 frzNew:=[3] }
def ZaM(p0a:Option Addr)(p0n p0c:Nat)(aW aX aV aY bO:Int)(m:Mem)(R:RT):Prop:=
 ∀(b:Nat)(m':Mem),Mem.le m m'->Mem.reads m' b 0 [int i64 aW,int i64 aX,int i64 aV,int i64 aY,int i64 bO]->∃(R_1:RT),True/\CX Tryz.prog 24 (Array.mk [slice p0a p0n p0c,agg (Array.mk [int i64
 aW,int i64 aX,int i64 aV,int i64 aY,int i64 bO])]) m' [] R_1/\Zal (Shape.int i64) R_1/\∀(n:Int)(m'_1:Mem),Mem.le m' m'_1->R_1 (int i64 n) m'_1 []->∃(m'':Mem),Mem.le m m''/\Mem.le m'' m'_1
 /\ R (bool (decide (n ≥ (0:Int)))) m'' []
theorem Zbf(p0a:Option Addr)(p0n p0c:Nat)(aW aX aV aY bO:Int)(m:Mem)(R:RT)(h:ZaM p0a p0n p0c aW aX aV aY bO m R):CX Tryz.prog 10 #[.slice p0a p0n p0c,.agg #[.int .i64 aW,.int .i64 aX,.int .i64 aV,.int .i64 aY,.int .i64 bO]] m [] R:=
 Zad (E:=Zbl) Zaj mix Tryz.func10 [.v (.slice p0a p0n p0c),.v (.agg #[.int .i64 aW,.int .i64 aX,.int .i64 aV,.int .i64 aY,.int .i64 bO])] [] (by kernel_rfl) (Eq.mp (by kernel_rfl) h)
noncomputable def Zsp:Env:={ EB with
 frzNew:=[1] }
def Zmd(aA aC aB aD aQ:Int)(m:Mem)(R:RT):Prop:=
 ∀(b:Nat)(m':Mem),Mem.le m m'->Mem.reads m' b 0 [int i64 aA,int i64 aC,int i64 aB,int i64 aD,int i64 aQ]->∀(b:Nat),Mem.free m' b->∃(m'':Mem),Mem.le m m''/\Mem.le m'' (Mem.add m' b [int
 i64 (if(-1:Int) > aC then(-1:Int)else aC),int i64 (if(-1:Int) > aA then(-1:Int)else aA),int i64 (if(-1:Int) > aB then(-1:Int)else aB),int i64 (if(-1:Int) > aD then(-1:Int)
 else aD),int i64 (if(-1:Int) > aQ then(-1:Int)else aQ)])/\R (slice (some (Addr.mk b 0 none)) 5 5) m'' []
theorem Zqg(aA aC aB aD aQ:Int)(m:Mem)(R:RT)(h:Zmd aA aC aB aD aQ m R):CX Tryz.prog 26 #[.agg #[.int .i64 aA,.int .i64 aC,.int .i64 aB,.int .i64 aD,.int .i64 aQ]] m [] R:=
 Zad (E:=Zsp) Zaj mix Tryz.func26 [.v (.agg #[.int .i64 aA,.int .i64 aC,.int .i64 aB,.int .i64 aD,.int .i64 aQ])] [] (by kernel_rfl) (Eq.mp (by kernel_rfl) h)
noncomputable def Zib:Env:=EB
def ZdX(p0:Int)(m:Mem)(R:RT):Prop:=
 ∃(m'':Mem),Mem.le m m''/\Mem.le m'' m/\R (bool !p0 == p0) m'' []
theorem Zhd(p0:Int)(m:Mem)(R:RT)(h:ZdX p0 m R):CX Tryz.prog 47 #[.int .i64 p0] m [] R:=
 Zad (E:=Zib) Zaj mix Tryz.func47 [.v (.int .i64 p0)] [] (by kernel_rfl) (Eq.mp (by kernel_rfl) h)
noncomputable def ZfZ:Env:=EB
def Zdd(p0 p1:Int)(m:Mem)(R:RT):Prop:=
 ∃(R_1:RT),True/\CX Tryz.prog 47 (Array.mk [int i64 p0]) m [] R_1/\Zal Shape.bool R_1/\∀(b:Bool)(m':Mem),Mem.le m m'->R_1 (bool b) m' []->∃(R_2:RT),True/\CX Tryz.prog 47 (Array.mk [int i64 p1]) m'
 [] R_2/\Zal Shape.bool R_2/\∀(b_1:Bool)(m'_1:Mem),Mem.le m' m'_1->R_2 (bool b_1) m'_1 []->br b (br b_1 (∃(m'':Mem),Mem.le m m''/\Mem.le m'' m'_1/\R (int i64 0) m'' []) (∃(m'':Mem),Mem.le m m''/\
 Mem.le m'' m'_1/\R (int i64 (-1:Int)) m'' [])) (br b_1 (∃(m'':Mem),Mem.le m m''/\Mem.le m'' m'_1/\R (int i64 1) m'' []) (br (decide (p0 < p1)) (∃(m'':Mem),Mem.le m m''/\Mem.le m'' m'_1/\R (int i64 (-1:
 Int)) m'' []) (br (decide (p0 > p1)) (∃(m'':Mem),Mem.le m m''/\Mem.le m'' m'_1/\R (int i64 1) m'' []) (∃(m'':Mem),Mem.le m m''/\Mem.le m'' m'_1/\R (int i64 0) m'' []))))
theorem Zfe(p0 p1:Int)(m:Mem)(R:RT)(h:Zdd p0 p1 m R):CX Tryz.prog 37 #[.int .i64 p0,.int .i64 p1] m [] R:=
 Zad (E:=ZfZ) Zaj mix Tryz.func37 [.v (.int .i64 p0),.v (.int .i64 p1)] [] (by kernel_rfl) (Eq.mp (by kernel_rfl) h)
noncomputable def Zc0:Env:={ EB with
 loops:=(λi=>bif Nat.beq i 2 then⟨[(11,.int .i64)],[],[],false⟩ else⟨[],[],[],false⟩) }
def ZbI(p0a:Option Addr)(p0n p0c:Nat)(p1a:Option Addr)(p1n p1c:Nat)(m:Mem)(R:RT):Prop:=
 ∃(I:IT),(∃(n:Nat),I [int i64 0] [] [] m n)/\∀(n:Int)(m':Mem)(n_1:Nat),Mem.le m m'->I [int i64 n] [] [] m' n_1->br (decide (n < (↑p0n:Int))) (∃(b:Nat),∃(o:Nat),p0a=some (Addr.mk b o none)
 /\ Zai n p0n/\∃(v:Value),m' b (o+Int.toNat n*1)=some v/\br (decide (n ≥ (↑p1n:Int))) (∃(m'':Mem),Mem.le m m''/\Mem.le m'' m'/\R (int i64 1) m'' []) (∃(b:Nat),∃(o:Nat),p1a=some (Addr.mk b
 o none)/\Zai n p1n/\∃(v_1:Value),m' b (o+Int.toNat n*1)=some v_1/\∃(R_1:RT),True/\CX Tryz.prog 37 (Array.mk [v,v_1]) m' [] R_1/\Zal (Shape.int i64) R_1/\∀(n_2:Int)(m'_1:Mem),Mem.le m'
 m'_1->R_1 (int i64 n_2) m'_1 []->br (!n_2 == (0:Int)) (∃(m'':Mem),Mem.le m m''/\Mem.le m'' m'_1/\R (int i64 n_2) m'' []) (∃(n':Nat),n' < n_1/\I [int i64 (IntKind.wrap i64 (n+(1:Int)))] [] [] m'_1
 n'))) (br (decide ((↑p0n:Int) < (↑p1n:Int))) (∃(m'':Mem),Mem.le m m''/\Mem.le m'' m'/\R (int i64 (-1:Int)) m'' []) (∃(m'':Mem),Mem.le m m''/\Mem.le m'' m'/\R (int i64 0) m'' []))
theorem ZcB(p0a:Option Addr)(p0n p0c:Nat)(p1a:Option Addr)(p1n p1c:Nat)(m:Mem)(R:RT)(h:ZbI p0a p0n p0c p1a p1n p1c m R):CX Tryz.prog 25 #[.slice p0a p0n p0c,.slice p1a p1n p1c] m [] R:=
 Zad (E:=Zc0) Zaj mix Tryz.func25 [.v (.slice p0a p0n p0c),.v (.slice p1a p1n p1c)] [] (by kernel_rfl) (Eq.mp (by kernel_rfl) h)
noncomputable def ZmY:Env:={ EB with
 dr:=(λi=>bif Nat.beq i 1 then[⟨0,[2],[],none,[],[]⟩,⟨1,[],[],none,[0],[]⟩,⟨2,[3],[],none,[],[]⟩,⟨3,[],[],none,[0,1,2],[1]⟩,⟨4,[],[],none,[0,1,2,3],[3]⟩,⟨5,[],[],none,[0,1,2,3,4],[]⟩,⟨6,[],[],none,[0,1,2,3,4,5],[]⟩]else[])
 frzNew:=[2,3] }
def ZgM(aA aC aB aD aQ aW aX aV aY bO:Int)(m:Mem)(R:RT):Prop:=
 ∀(b:Nat)(m':Mem),Mem.le m m'->Mem.reads m' b 0 [int i64 aA,int i64 aC,int i64 aB,int i64 aD,int i64 aQ]->∀(b:Nat)(m'_1:Mem),Mem.le m' m'_1->Mem.reads m'_1 b 0 [int i64 aW,int i64 aX,
 int i64 aV,int i64 aY,int i64 bO]->∃(f:Fx),∃(R_1:RT),R_1=f 1 [agg (Array.mk [int i64 aA,int i64 aC,int i64 aB,int i64 aD,int i64 aQ])] m'_1/\CX Tryz.prog 26 (Array.mk [agg (Array.mk
 [int i64 aA,int i64 aC,int i64 aB,int i64 aD,int i64 aQ])]) m'_1 [] R_1/\Zal Shape.slice R_1/\∀(a:Option Addr)(n c:Nat)(m':Mem),Mem.le m'_1 m'->R_1 (slice a n c) m' []->∃(R_2:RT),R_2=f
 3 [agg (Array.mk [int i64 aW,int i64 aX,int i64 aV,int i64 aY,int i64 bO])] m'/\CX Tryz.prog 26 (Array.mk [agg (Array.mk [int i64 aW,int i64 aX,int i64 aV,int i64 aY,int i64 bO])]) m' [] R_2
 /\ Zal Shape.slice R_2/\∀(a_3:Option Addr)(n_1 c_1:Nat)(m'_2:Mem),Mem.le m' m'_2->R_2 (slice a_3 n_1 c_1) m'_2 []->∃(R_3:RT),R_3=f 4 [slice a n c,slice a_3 n_1 c_1] m'_2/\CX Tryz.prog 25 (Array.mk
 [slice a n c,slice a_3 n_1 c_1]) m'_2 [] R_3/\Zal (Shape.int i64) R_3/\∀(n:Int)(m'_3:Mem),Mem.le m'_2 m'_3->R_3 (int i64 n) m'_3 []->∀(M:Mem),Mem.le m'_1 M->Mem.le m' M->Mem.le m'_2 M->Mem.le m'_3 M
 -> ∃(m'':Mem),Mem.le m m''/\Mem.le m'' M/\R (bool (decide (n < (0:Int)))) m'' []
theorem Zlh(aA aC aB aD aQ aW aX aV aY bO:Int)(m:Mem)(R:RT)(h:ZgM aA aC aB aD aQ aW aX aV aY bO m R):CX Tryz.prog 11 #[.agg #[.int .i64 aA,.int .i64 aC,.int .i64 aB,.int .i64 aD,.int .i64 aQ],.agg #[.int .i64 aW,.int .i64 aX,.int .i64 aV,.int .i64 aY,.int .i64 bO]] m [] R:=
 Zad (E:=ZmY) Zaj mix Tryz.func11 [.v (.agg #[.int .i64 aA,.int .i64 aC,.int .i64 aB,.int .i64 aD,.int .i64 aQ]),.v (.agg #[.int .i64 aW,.int .i64 aX,.int .i64 aV,.int .i64 aY,.int .i64 bO])] [] (by kernel_rfl) (Eq.mp (by kernel_rfl) h)
noncomputable def ZaU:Env:={ EB with
 loops:=(λi=>bif Nat.beq i 3 then⟨[(7,.agg [.int .i64,.int .i64,.int .i64,.int .i64,.int .i64,.int .i64])],[2],[(11,6)],false⟩ else⟨[],[],[],false⟩)
 tokOf:=(λi=>bif Nat.beq i 11 then 11 else 0) }
def Zau(p0a:Option Addr)(p0n p0c p1g:Nat)(p1fi p1ca:List Value)(m:Mem)(R:RT):Prop:=
 ∀(b:Nat),∃(xs:List (List Value)),IX Tryz.prog p1g p1fi p1ca m xs/\(∀(x:List Value),x∈xs->Shape.fitsL [Shape.agg [Shape.int i64,Shape.int i64,Shape.int i64,Shape.int i64,Shape.int i64,Shape.int i64]]
 x=true)/\∃(I:IT),I [] [[slice p0a p0n p0c]] [slice none 0 0] m 0/\(∀(n n_1 n_2 n_3 n_4 n_5:Int)(cs:List Value)(a:Option Addr)(n_6 c:Nat)(m':Mem)(n_7:Nat),Mem.le m m'->List.get?Internal xs n_7
 = some [agg (Array.mk [int i64 n,int i64 n_1,int i64 n_2,int i64 n_3,int i64 n_4,int i64 n_5])]->I [] [cs] [slice a n_6 c] m' n_7->∀(b_1:Nat),Eng.ZsZ cs 0 λ(v:Value)=>∀(b_2:Nat),Mem.free m' b_2->
 chk (ZbM v&&true) ((Tok.mk (slice a n_6 c) 6=Tok.mk v 6\/v=slice none 0 0\/slC v < slN v+1)/\∃(xs:List Value),∃(ys:List Value),List.length xs=slN v*6/\List.length ys=1*6/\rowRd (Mem.add m'
 b_2 [int i64 n,int i64 n_1,int i64 n_2,int i64 n_3,int i64 n_4,int i64 n_5]) (slA v) xs/\rowRd (Mem.add m' b_2 [int i64 n,int i64 n_1,int i64 n_2,int i64 n_3,int i64 n_4,int i64 n_5]) (some (Addr.mk b_2 0
 none)) ys/\(∀(u:Value),u∈ys->Value.oneCell' u=true)/\(slN v+1)*48<=140737488355328/\slN v+1<=9223372036854775807/\∀(a':Option Addr)(c':Nat)(m'_1:Mem),Mem.le (Mem.add m' b_2 [int i64 n,int
 i64 n_1,int i64 n_2,int i64 n_3,int i64 n_4,int i64 n_5]) m'_1->rowRd m'_1 a' (List.append xs ys)->[some (Box.mk b [] 29 1 false true)]=[some (Box.mk b [] 29 1 false true)]/\I [] [[slice a' (slN v+1) c']]
 [slice a' (slN v+1) c'] m'_1 (n_7+1)))/\∀(cs:List Value)(a:Option Addr)(n c:Nat)(m':Mem),Mem.le m m'->I [] [cs] [slice a n c] m' (List.length xs)->Eng.ZsZ cs 0 λ(v:Value)=>∃(m'':Mem),
 Mem.le m m''/\Mem.le m'' m'/\R v m'' []
theorem ZaS(p0a:Option Addr)(p0n p0c p1g:Nat)(p1fi p1ca:List Value)(m:Mem)(R:RT)(h:Zau p0a p0n p0c p1g p1fi p1ca m R):CX Tryz.prog 35 #[.slice p0a p0n p0c,.func (.func p1g) p1fi.toArray p1ca.toArray] m [] R:=
 Zad (E:=ZaU) Zaj mix Tryz.func35 [.v (.slice p0a p0n p0c),.v (.func (.func p1g) p1fi.toArray p1ca.toArray)] [] (by kernel_rfl) (Eq.mp (by kernel_rfl) h)
noncomputable def ZbY:Env:=EB
def Za8(p0g:Nat)(p0fi p0ca:List Value)(m:Mem)(R:RT):Prop:=
 ∃(R_1:RT),True/\CX Tryz.prog 35 (Array.mk [slice none 0 0,func (Fn.func p0g) (Array.mk p0fi) (Array.mk p0ca)]) m [] R_1/\Zal Shape.slice R_1/\∀(a:Option Addr)(n c:Nat)(m':Mem),Mem.le m m'->R_1 (slice
 a n c) m' []->∃(m'':Mem),Mem.le m m''/\Mem.le m'' m'/\R (slice a n c) m'' []
theorem ZbU(p0g:Nat)(p0fi p0ca:List Value)(m:Mem)(R:RT)(h:Za8 p0g p0fi p0ca m R):CX Tryz.prog 22 #[.func (.func p0g) p0fi.toArray p0ca.toArray] m [] R:=
 Zad (E:=ZbY) Zaj mix Tryz.func22 [.v (.func (.func p0g) p0fi.toArray p0ca.toArray)] [] (by kernel_rfl) (Eq.mp (by kernel_rfl) h)
noncomputable def Zhe:Env:={ EB with
 frzNew:=[1] }
def Zdz(aA:Int)(aI:Option Addr)(aE aJ:Nat)(aL:Option Addr)(aH aM:Nat)(m:Mem)(R:RT):Prop:=
 ∀(b:Nat)(m':Mem),Mem.le m m'->Mem.reads m' b 0 [int i64 aA,slice aI aE aJ,slice aL aH aM]->∃(R_1:RT),True/\CX Tryz.prog 21 (Array.mk [agg (Array.mk [int i64 aA,slice aI aE
 aJ,slice aL aH aM])]) m' [] R_1/\Zal Shape.bool R_1/\∀(b:Bool)(m'_1:Mem),Mem.le m' m'_1->R_1 (bool b) m'_1 []->br (!b) (∃(m'':Mem),Mem.le m m''/\Mem.le m'' m'_1/\R (slice none 0 0) m'' [])
 (∃(R_2:RT),True/\CX Tryz.prog 23 (Array.mk [agg (Array.mk [int i64 aA,slice aI aE aJ,slice aL aH aM])]) m'_1 [] R_2/\Zal Shape.fn R_2/\∀(g:Nat)(fi ca:List Value)(m':Mem),Mem.le
 m'_1 m'->R_2 (func (Fn.func g) (Array.mk fi) (Array.mk ca)) m' []->∃(R_3:RT),True/\CX Tryz.prog 22 (Array.mk [func (Fn.func g) (Array.mk fi) (Array.mk ca)]) m' [] R_3/\Zal Shape.slice R_3/\∀(a:Option Addr)
 (n c:Nat) (m'_2:Mem),Mem.le m' m'_2->R_3 (slice a n c) m'_2 []->∃(m'':Mem),Mem.le m m''/\Mem.le m'' m'_2/\R (slice a n c) m'' [])
theorem Zf0(aA:Int)(aI:Option Addr)(aE aJ:Nat)(aL:Option Addr)(aH aM:Nat)(m:Mem)(R:RT)(h:Zdz aA aI aE aJ aL aH aM m R):CX Tryz.prog 8 #[.agg #[.int .i64 aA,.slice aI aE aJ,.slice aL aH aM]] m [] R:=
 Zad (E:=Zhe) Zaj mix Tryz.func8 [.v (.agg #[.int .i64 aA,.slice aI aE aJ,.slice aL aH aM])] [] (by kernel_rfl) (Eq.mp (by kernel_rfl) h)
noncomputable def Zqh:Env:={ EB with
 dr:=(λi=>bif Nat.beq i 1 then[⟨0,[2],[],none,[],[]⟩,⟨1,[],[],none,[0],[]⟩,⟨2,[3],[],none,[],[]⟩,⟨3,[],[],none,[0,1,2],[1]⟩,⟨4,[],[],none,[0,1,2,3],[]⟩]else bif Nat.beq i 3 then[⟨0,[2],[],none,[],[]⟩,⟨1,[2],[],none,[],[]⟩,⟨2,[],[],none,[1],[]⟩,⟨3,[3],[],none,[],[]⟩,⟨4,[],[],none,[0,1,2,3],[2]⟩,⟨5,[],[],none,[0,1,2,3,4],[]⟩,⟨6,[],[],none,[0,1,2,3,4,5],[]⟩]else[])
 frzNew:=[2,3] }
def Zj7(aA:Int)(aI:Option Addr)(aE aJ:Nat)(aL:Option Addr)(aH aM:Nat)(aW aX aV aY bO:Int)(m:Mem)(R:RT):Prop:=
 ∀(b:Nat)(m':Mem),Mem.le m m'->Mem.reads m' b 0 [int i64 aA,slice aI aE aJ,slice aL aH aM]->∀(b:Nat)(m'_1:Mem),Mem.le m' m'_1->Mem.reads m'_1 b 0 [int i64 aW,int i64 aX,int
 i64 aV,int i64 aY,int i64 bO]->∃(f:Fx),∃(R_1:RT),R_1=f 1 [agg (Array.mk [int i64 aA,slice aI aE aJ,slice aL aH aM])] m'_1/\CX Tryz.prog 9 (Array.mk [agg (Array.mk [int i64 aA,
 slice aI aE aJ,slice aL aH aM])]) m'_1 [] R_1/\Zal Shape.slice R_1/\∀(a:Option Addr)(n c:Nat)(m':Mem),Mem.le m'_1 m'->R_1 (slice a n c) m' []->∃(R_2:RT),R_2=f 3 [slice a n c,agg
 (Array.mk [int i64 aW,int i64 aX,int i64 aV,int i64 aY,int i64 bO])] m'/\CX Tryz.prog 10 (Array.mk [slice a n c,agg (Array.mk [int i64 aW,int i64 aX,int i64 aV,int i64 aY,int i64 bO])]) m'
 [] R_2/\Zal Shape.bool R_2/\∀(b:Bool)(m'_2:Mem),Mem.le m' m'_2->R_2 (bool b) m'_2 []->∀(M:Mem),Mem.le m'_1 M->Mem.le m' M->Mem.le m'_2 M->br (!b) (∃(m'':Mem),Mem.le m m''/\Mem.le m'' M/\R (tuple
 (Array.mk [int i64 0,bool false])) m'' []) (∃(f:Fx),∃(R_3:RT),R_3=f 2 [agg (Array.mk [int i64 aA,slice aI aE aJ,slice aL aH aM])] M/\CX Tryz.prog 28 (Array.mk [agg (Array.mk [int i64
 aA,slice aI aE aJ,slice aL aH aM])]) M [] R_3/\Zal Shape.slice R_3/\∀(a:Option Addr)(n c:Nat)(m':Mem),Mem.le M m'->R_3 (slice a n c) m' []->∃(R_4:RT),R_4=f 4 [agg (Array.mk
 [int i64 aA,slice aI aE aJ,slice aL aH aM]),slice a n c,agg (Array.mk [int i64 aW,int i64 aX,int i64 aV,int i64 aY,int i64 bO])] m'/\CX Tryz.prog 27 (Array.mk [agg (Array.mk [int
 i64 aA,slice aI aE aJ,slice aL aH aM]),slice a n c,agg (Array.mk [int i64 aW,int i64 aX,int i64 aV,int i64 aY,int i64 bO])]) m' [] R_4/\Zal (Shape.int i64) R_4/\∀(n:Int) (m'_3
 : Mem),Mem.le m' m'_3->R_4 (int i64 n) m'_3 []->∀(M_1:Mem),Mem.le M M_1->Mem.le m' M_1->Mem.le m'_3 M_1->∃(m'':Mem),Mem.le m m''/\Mem.le m'' M_1/\R (tuple (Array.mk [int i64 n,bool true])) m'' [])
theorem ZoL(aA:Int)(aI:Option Addr)(aE aJ:Nat)(aL:Option Addr)(aH aM:Nat)(aW aX aV aY bO:Int)(m:Mem)(R:RT)(h:Zj7 aA aI aE aJ aL aH aM aW aX aV aY bO m R):CX Tryz.prog 12 #[.agg #[.int .i64 aA,.slice aI aE aJ,.slice aL aH aM],.agg #[.int .i64 aW,.int .i64 aX,.int .i64 aV,.int .i64 aY,.int .i64 bO]] m [] R:=
 Zad (E:=Zqh) Zaj mix Tryz.func12 [.v (.agg #[.int .i64 aA,.slice aI aE aJ,.slice aL aH aM]),.v (.agg #[.int .i64 aW,.int .i64 aX,.int .i64 aV,.int .i64 aY,.int .i64 bO])] [] (by kernel_rfl) (Eq.mp (by kernel_rfl) h)
noncomputable def ZoM:Env:={ EB with
 loops:=(λi=>bif Nat.beq i 3 then⟨[(5,.int .i64),(11,.int .i64)],[],[],false⟩ else⟨[],[],[],false⟩)
 frzNew:=[2] }
def Zic(aA aC aB aD aQ aG aP:Int)(aN:Option Addr)(aK aO:Nat)(p1:Int)(m:Mem)(R:RT):Prop:=
 ∀(b:Nat)(m':Mem),Mem.le m m'->Mem.reads m' b 0 [int u8 aA,int u64 aC,int u64 aB,int u64 aD,int u64 aQ,int i64 aG,int i64 aP,slice aN aK aO]->∃(I:IT),(∃(n:Nat),I [int i64 1,
 int i64 0] [] [] m' n)/\∀(n n_1:Int)(m'_1:Mem)(n_2:Nat),Mem.le m' m'_1->I [int i64 n,int i64 n_1] [] [] m'_1 n_2->br (decide (n_1 < (↑aK:Int))) (∃(b_1:Nat),∃(o:Nat),aN=some (Addr.mk b_1 o
 none)/\Zai n_1 aK/\∃(v:Value),∃(v_1:Value),∃(v_2:Value),∃(v_3:Value),∃(v_4:Value),∃(v_5:Value),∃(v_6:Value),∃(v_7:Value),Mem.reads m'_1 b_1 (o+Int.toNat n_1*8) [v,v_1,v_2,
 v_3,v_4,v_5,v_6,v_7]/\∀(b_2:Nat),chk (Value.oneCell' v&&(Value.oneCell' v_1&&(Value.oneCell' v_2&&(Value.oneCell' v_3&&(Value.oneCell' v_4&&(Value.oneCell' v_5&&(Value.oneCell' v_6 &&
 (Value.oneCell' v_7&&true)))))))) (br (decide (n > p1)) (∃(m'':Mem),Mem.le m m''/\Mem.le m'' m'_1/\R (int i64 n) m'' []) (∃(R:RT),True/\CX Tryz.prog 30 (Array.mk [agg (Array.mk [v,v_1,v_2,v_3,v_4,v_5,
 v_6,v_7]),int i64 (IntKind.wrap i64 (p1 - n))]) m'_1 [] R/\Zal (Shape.int i64) R/\∀(n_3:Int)(m':Mem),Mem.le m'_1 m'->R (int i64 n_3) m' []->[some (Box.mk b [int u8 aA,int u64 aC,int u64 aB,int u64
 aD,int u64 aQ,int i64 aG,int i64 aP,slice aN aK aO] 63 8 true true)]=[some (Box.mk b [int u8 aA,int u64 aC,int u64 aB,int u64 aD,int u64 aQ,int i64 aG,int i64 aP,slice aN
 aK aO] 63 8 true true)]/\∃(n':Nat),n' < n_2/\I [int i64 (IntKind.wrap i64 (n+n_3)),int i64 (IntKind.wrap i64 (n_1+(1:Int)))] [] [] m' n'))) (∃(m'':Mem),Mem.le m m''/\Mem.le m'' m'_1/\R (int i64
 n) m'' [])
theorem ZmZ(aA aC aB aD aQ aG aP:Int)(aN:Option Addr)(aK aO:Nat)(p1:Int)(m:Mem)(R:RT)(h:Zic aA aC aB aD aQ aG aP aN aK aO p1 m R):CX Tryz.prog 30 #[.agg #[.int .u8 aA,.int .u64 aC,.int .u64 aB,.int .u64 aD,.int .u64 aQ,.int .i64 aG,.int .i64 aP,.slice aN aK aO],.int .i64 p1] m [] R:=
 Zad (E:=ZoM) Zaj mix Tryz.func30 [.v (.agg #[.int .u8 aA,.int .u64 aC,.int .u64 aB,.int .u64 aD,.int .u64 aQ,.int .i64 aG,.int .i64 aP,.slice aN aK aO]),.v (.int .i64 p1)] [] (by kernel_rfl) (Eq.mp (by kernel_rfl) h)
noncomputable def Zli:Env:={ EB with
 loops:=(λi=>bif Nat.beq i 3 then⟨[(5,.int .i64),(11,.int .i64)],[],[],false⟩ else⟨[],[],[],false⟩)
 frzNew:=[2] }
def Zfz(aA:Int)(aC:Value)(aB:ByteArray)(aD:Int)(aS:Option Addr)(aR aT:Nat)(p1:Int)(m:Mem)(R:RT):Prop:=
 ∀(b:Nat)(m':Mem),Mem.le m m'->Mem.reads m' b 0 [int u8 aA,aC,string aB,int i64 aD,slice aS aR aT]->∃(I:IT),(∃(n:Nat),I [int i64 1,int i64 0] [] [] m' n)/\∀(n n_1:Int) (m'_1:
 Mem) (n_2:Nat),Mem.le m' m'_1->I [int i64 n,int i64 n_1] [] [] m'_1 n_2->br (decide (n_1 < (↑aR:Int))) (∃(b_1:Nat),∃(o:Nat),aS=some (Addr.mk b_1 o none)/\Zai n_1 aR/\∃(v:Value),∃
 (v_1:Value),∃(v_2:Value),∃(v_3:Value),∃(v_4:Value),Mem.reads m'_1 b_1 (o+Int.toNat n_1*5) [v,v_1,v_2,v_3,v_4]/\∀(b_2:Nat),chk (Value.oneCell' v&&(Value.oneCell' v_1&&(Value.oneCell' v_2
 && (Value.oneCell' v_3&&(Value.oneCell' v_4&&true))))) (br (decide (n > p1)) (∃(m'':Mem),Mem.le m m''/\Mem.le m'' m'_1/\R (int i64 n) m'' []) (∃(R:RT),True/\CX Tryz.prog 31 (Array.mk [agg (Array.mk [v,
 v_1,v_2,v_3,v_4]),int i64 (IntKind.wrap i64 (p1 - n))]) m'_1 [] R/\Zal (Shape.int i64) R/\∀(n_3:Int)(m':Mem),Mem.le m'_1 m'->R (int i64 n_3) m' []->[some (Box.mk b [int u8 aA,aC,string aB,int
 i64 aD,slice aS aR aT] 50 5 true true)]=[some (Box.mk b [int u8 aA,aC,string aB,int i64 aD,slice aS aR aT] 50 5 true true)]/\∃(n':Nat),n' < n_2/\I [int i64 (IntKind.wrap i64 (n +
 n_3)),int i64 (IntKind.wrap i64 (n_1+(1:Int)))] [] [] m' n'))) (∃(m'':Mem),Mem.le m m''/\Mem.le m'' m'_1/\R (int i64 n) m'' [])
theorem Zjy(aA:Int)(aC:Value)(aB:ByteArray)(aD:Int)(aS:Option Addr)(aR aT:Nat)(p1:Int)(m:Mem)(R:RT)(h:Zfz aA aC aB aD aS aR aT p1 m R):CX Tryz.prog 31 #[.agg #[.int .u8 aA,aC,.string aB,.int .i64 aD,.slice aS aR aT],.int .i64 p1] m [] R:=
 Zad (E:=Zli) Zaj mix Tryz.func31 [.v (.agg #[.int .u8 aA,aC,.string aB,.int .i64 aD,.slice aS aR aT]),.v (.int .i64 p1)] [] (by kernel_rfl) (Eq.mp (by kernel_rfl) h)
noncomputable def Zid:Env:={ EB with
 loops:=(λi=>bif Nat.beq i 3 then⟨[(5,.int .i64),(31,.int .i64)],[],[],false⟩ else bif Nat.beq i 8 then⟨[(5,.int .i64),(55,.int .i64)],[],[],false⟩ else⟨[],[],[],false⟩)
 dr:=(λi=>bif Nat.beq i 1 then[⟨0,[2],[],none,[],[]⟩,⟨1,[2],[],none,[0],[]⟩,⟨2,[2],[],none,[0,1],[]⟩,⟨3,[],[],none,[],[]⟩,⟨4,[],[],none,[0,1,2,3],[]⟩,⟨5,[],[],none,[0,1,2,3,4],[]⟩,⟨6,[2],[],none,[],[]⟩,⟨7,[2],[],none,[6],[]⟩,⟨8,[],[],none,[6,7],[]⟩,⟨9,[],[],none,[0,1,2,3,4,5,6,7,8],[]⟩,⟨10,[2],[],none,[],[]⟩,⟨11,[2],[],none,[10],[]⟩,⟨12,[],[],none,[10,11],[]⟩,⟨13,[],[],none,rg 0 13,[]⟩,⟨14,[2],[],none,[],[]⟩,⟨15,[2],[],none,[14],[]⟩,⟨16,[],[],none,[14,15],[]⟩,⟨17,[],[],none,rg 0 17,[]⟩,⟨18,[],[],none,rg 0 18,[]⟩]else bif Nat.beq i 6 then[⟨0,[],[],none,[],[]⟩,⟨1,[7],[],none,[],[]⟩,⟨2,[7],[],none,[1],[]⟩,⟨3,[],[],none,[],[]⟩,⟨4,[],[],none,[1,2,3],[]⟩,⟨5,[7],[],none,[],[]⟩,⟨6,[7],[],none,[5],[]⟩,⟨7,[],[],none,[5,6],[]⟩,⟨8,[],[],none,[1,2,3,4,5,6,7],[]⟩,⟨9,[7],[],none,[],[]⟩,⟨10,[7],[],none,[9],[]⟩,⟨11,[],[],none,[9,10],[]⟩,⟨12,[],[],none,[1,2,3,4,5,6,7,8,9,10,11],[]⟩,⟨13,[],[],none,rg 0 13,[]⟩,⟨14,[],[],none,rg 0 14,[]⟩]else bif Nat.beq i 11 then[⟨0,[],[],none,[],[]⟩,⟨1,[9],[],none,[],[]⟩,⟨2,[9],[],none,[1],[]⟩,⟨3,[],[],none,[],[]⟩,⟨4,[],[],none,[1,2,3],[]⟩,⟨5,[9],[],none,[],[]⟩,⟨6,[9],[],none,[5],[]⟩,⟨7,[],[],none,[5,6],[]⟩,⟨8,[],[],none,[1,2,3,4,5,6,7],[]⟩,⟨9,[],[],none,[0,1,2,3,4,5,6,7,8],[]⟩,⟨10,[],[],none,[0,1,2,3,4,5,6,7,8,9],[]⟩]else[])
 frzNew:=[2] }
def ZdY(aA:Int)(aC aB:Bool)(aD aQ aG aP bR bS bZ:Int)(aZ:Option Addr)(bA bB:Nat)(bI:ByteArray)(bJ:Int)(bD:Option Addr)(bC bE:Nat)(bM:ByteArray)(bN p1:Int)(m:Mem)(R:RT):Prop:=
 ∀(b:Nat)(m':Mem),Mem.le m m'->Mem.reads m' b 0 [int u8 aA,bool aC,bool aB,int u8 aD,int u64 aQ,int u64 aG,int u64 aP,int u64 bR,int i64 bS,int i64 bZ,slice aZ bA bB,
 string bI,int i64 bJ,slice bD bC bE,string bM,int i64 bN]->∃(f:Fx),∃(R_1:RT),R_1=f 4 [agg (Array.mk [int u8 aD,int u64 aQ,int u64 aG,int u64 aP,int u64 bR,int i64
 bS,int i64 bZ,slice aZ bA bB]),int i64 p1] m'/\CX Tryz.prog 30 (Array.mk [agg (Array.mk [int u8 aD,int u64 aQ,int u64 aG,int u64 aP,int u64 bR,int i64 bS,int i64 bZ,slice aZ
 bA bB]),int i64 p1]) m' [] R_1/\Zal (Shape.int i64) R_1/\∀(n:Int)(ap:Mem),Mem.le m' ap->R_1 (int i64 n) ap []->∀(M:Mem),Mem.le m' M->Mem.le ap M->∃(I:IT),(∃(ab:Nat),I [int i64
 (IntKind.wrap i64 (IntKind.wrap i64 (IntKind.wrap i64 (IntKind.wrap i64 ((1:Int)+n)+(↑(ByteArray.size bI):Int))+(↑(ByteArray.size bM):Int))+(↑bC:Int))),int i64 0] [] [] M ab)/\∀(n ab:Int)
 (m':Mem) (aq:Nat),Mem.le M m'->I [int i64 n,int i64 ab] [] [] m' aq->br (decide (ab < (↑bC:Int))) (∃(aw:Nat),∃(o:Nat),bD=some (Addr.mk aw o none)/\Zai ab bC/\∃(v:Value),∃(ad:
 Value),∃(aa:Value),∃(ae:Value),∃(af:Value),∃(ag:Value),∃(ah:Value),∃(ai:Value),Mem.reads m' aw (o+Int.toNat ab*8) [v,ad,aa,ae,af,ag,ah,ai]/\∀(ax:Nat),chk (Value.oneCell' v &&
 (Value.oneCell' ad&&(Value.oneCell' aa&&(Value.oneCell' ae&&(Value.oneCell' af&&(Value.oneCell' ag&&(Value.oneCell' ah&&(Value.oneCell' ai&&true)))))))) (br (decide (n > p1)) (∃(m'':Mem),Mem.le m m''/\
 Mem.le m'' m'/\R (int i64 n) m'' []) (∃(f:Fx),∃(R:RT),R=f 4 [agg (Array.mk [ae,af,ag,ah,ai]),int i64 p1] m'/\CX Tryz.prog 31 (Array.mk [agg (Array.mk [ae,af,ag,ah,ai]),int i64 p1]) m' [] R/\Zal
 (Shape.int i64) R/\∀(ay:Int)(ar:Mem),Mem.le m' ar->R (int i64 ay) ar []->chk (Zeh ad) (chk (ZbM aa) (∀(M:Mem),Mem.le m' M->Mem.le ar M->chk (ZbM aa) (∃(au:IT),(∃(ac:Nat),au [int i64
 (IntKind.wrap i64 (n+IntKind.wrap i64 (IntKind.wrap i64 (ay+(↑(ByteArray.size (Zbx ad)):Int))+(↑(slN aa):Int)))),int i64 0] [] [] M ac)/\∀(n ac:Int)(m':Mem)(az:Nat),Mem.le M m'->au [int i64 n,
 int i64 ac] [] [] m' az->br (decide (ac < (↑(slN aa):Int))) (chk (ZbM aa) (∃(a0:Nat),∃(o:Nat),slA aa=some (Addr.mk a0 o none)/\Zai ac (slN aa)/\∃(a1:Value),∃(aj:Value),∃(a2:Value),∃(ak:
 Value),∃(al:Value),∃(am:Value),∃(an:Value),∃(ao:Value),Mem.reads m' a0 (o+Int.toNat ac*8) [a1,aj,a2,ak,al,am,an,ao]/\∀(a4:Nat),chk (Value.oneCell' a1&&(Value.oneCell' aj &&
 (Value.oneCell' a2&&(Value.oneCell' ak&&(Value.oneCell' al&&(Value.oneCell' am&&(Value.oneCell' an&&(Value.oneCell' ao&&true)))))))) (br (decide (n > p1)) ([some (Box.mk b [int u8 aA,bool aC,bool aB,
 int u8 aD,int u64 aQ,int u64 aG,int u64 aP,int u64 bR,int i64 bS,int i64 bZ,slice aZ bA bB,string bI,int i64 bJ,slice bD bC bE,string bM,int i64 bN] 67 16
 true true)]=[some (Box.mk b [int u8 aA,bool aC,bool aB,int u8 aD,int u64 aQ,int u64 aG,int u64 aP,int u64 bR,int i64 bS,int i64 bZ,slice aZ bA bB,string bI,int i64 bJ,
 slice bD bC bE,string bM,int i64 bN] 67 16 true true)]/\∃(n':Nat),n' < aq/\I [int i64 n,int i64 (IntKind.wrap i64 (ab+(1:Int)))] [] [] m' n') (∃(f:Fx),∃(R:RT),R=f 4 [agg
 (Array.mk [ak,al,am,an,ao]),int i64 p1] m'/\CX Tryz.prog 31 (Array.mk [agg (Array.mk [ak,al,am,an,ao]),int i64 p1]) m' [] R/\Zal (Shape.int i64) R/\∀(a3:Int)(av:Mem),Mem.le m' av->R (int i64 a3) av
 []->chk (Zeh aj) (∀(M:Mem),Mem.le m' M->Mem.le av M->[some (Box.mk ax [v,ad,aa,ae,af,ag,ah,ai] 53 8 false true),some (Box.mk b [int u8 aA,bool aC,bool aB,int u8 aD,int u64 aQ,int u64
 aG,int u64 aP,int u64 bR,int i64 bS,int i64 bZ,slice aZ bA bB,string bI,int i64 bJ,slice bD bC bE,string bM,int i64 bN] 67 16 true true)]=[some (Box.mk ax [v,
 ad,aa,ae,af,ag,ah,ai] 53 8 false true),some (Box.mk b [int u8 aA,bool aC,bool aB,int u8 aD,int u64 aQ,int u64 aG,int u64 aP,int u64 bR,int i64 bS,int i64 bZ,slice aZ bA
 bB,string bI,int i64 bJ,slice bD bC bE,string bM,int i64 bN] 67 16 true true)]/\∃(n':Nat),n' < az/\au [int i64 (IntKind.wrap i64 (n+IntKind.wrap i64 (a3+(↑(ByteArray.size
 (Zbx aj)):Int)))),int i64 (IntKind.wrap i64 (ac+(1:Int)))] [] [] M n'))))) ([some (Box.mk b [int u8 aA,bool aC,bool aB,int u8 aD,int u64 aQ,int u64 aG,int u64 aP,int u64 bR,int i64 bS,
 int i64 bZ,slice aZ bA bB,string bI,int i64 bJ,slice bD bC bE,string bM,int i64 bN] 67 16 true true)]=[some (Box.mk b [int u8 aA,bool aC,bool aB,int u8 aD,int
 u64 aQ,int u64 aG,int u64 aP,int u64 bR,int i64 bS,int i64 bZ,slice aZ bA bB,string bI,int i64 bJ,slice bD bC bE,string bM,int i64 bN] 67 16 true true)]/\∃(n'
 : Nat),n' < aq/\I [int i64 n,int i64 (IntKind.wrap i64 (ab+(1:Int)))] [] [] m' n'))))))) (∃(m'':Mem),Mem.le m m''/\Mem.le m'' m'/\R (int i64 n) m'' [])
theorem Zhf(aA:Int)(aC aB:Bool)(aD aQ aG aP bR bS bZ:Int)(aZ:Option Addr)(bA bB:Nat)(bI:ByteArray)(bJ:Int)(bD:Option Addr)(bC bE:Nat)(bM:ByteArray)(bN p1:Int)(m:Mem)(R:RT)(h:ZdY aA aC aB aD aQ aG aP bR bS bZ aZ bA bB bI bJ bD bC bE bM bN p1 m R):CX Tryz.prog 20 #[.agg #[.int .u8 aA,.bool aC,.bool aB,.int .u8 aD,.int .u64 aQ,.int .u64 aG,.int .u64 aP,.int .u64 bR,.int .i64 bS,.int .i64 bZ,.slice aZ bA bB,.string bI,.int .i64 bJ,.slice bD bC bE,.string bM,.int .i64 bN],.int .i64 p1] m [] R:=
 Zad (E:=Zid) Zaj mix Tryz.func20 [.v (.agg #[.int .u8 aA,.bool aC,.bool aB,.int .u8 aD,.int .u64 aQ,.int .u64 aG,.int .u64 aP,.int .u64 bR,.int .i64 bS,.int .i64 bZ,.slice aZ bA bB,.string bI,.int .i64 bJ,.slice bD bC bE,.string bM,.int .i64 bN]),.v (.int .i64 p1)] [] (by kernel_rfl) (Eq.mp (by kernel_rfl) h)
noncomputable def ZoN:Env:={ EB with
 loops:=(λi=>bif Nat.beq i 3 then⟨[(5,.int .i64),(28,.int .i64)],[],[],false⟩ else bif Nat.beq i 8 then⟨[(5,.int .i64),(52,.int .i64)],[],[],false⟩ else bif Nat.beq i 12 then⟨[(5,.int .i64),(64,.int .i64)],[],[],false⟩ else⟨[],[],[],false⟩)
 frzNew:=[2] }
def Zie(aA:Int)(aI:Option Addr)(aE aJ:Nat)(aL:Option Addr)(aH aM:Nat)(p1:Int)(m:Mem)(R:RT):Prop:=
 ∀(b:Nat)(m':Mem),Mem.le m m'->Mem.reads m' b 0 [int i64 aA,slice aI aE aJ,slice aL aH aM]->(((0:Int)<=if p1 < (↑aE:Int)then p1 else(↑aE:Int))/\(if p1 < (↑aE:Int)then
 p1 else(↑aE:Int))<=(↑aJ:Int))/\∃(I:IT),(∃(n:Nat),I [int i64 (IntKind.wrap i64 ((↑aE:Int)+(↑aH:Int))),int i64 0] [] [] m' n)/\∀(n ah:Int)(ae:Mem)(a2:Nat),Mem.le m' ae->I [int
 i64 n,int i64 ah] [] [] ae a2->br (decide (ah < (↑(Int.toNat (if p1 < (↑aE:Int)then p1 else(↑aE:Int)) - 0):Int))) (∃(ai:Nat),∃(o:Nat),ZdZ aI 0 aJ 4=some (Addr.mk ai o none)/\Zai
 ah (Int.toNat (if p1 < (↑aE:Int)then p1 else(↑aE:Int)) - 0)/\∃(v:Value),∃(aa:Value),∃(ab:Value),∃(af:Value),Mem.reads ae ai (o+Int.toNat ah*4) [v,aa,ab,af]/\∀(aj:Nat),chk
 (Value.oneCell' v&&(Value.oneCell' aa&&(Value.oneCell' ab&&(Value.oneCell' af&&true)))) (chk (Zeh v) (chk (Zeh ab) ([some (Box.mk b [int i64 aA,slice aI aE aJ,slice aL aH aM] 27 3 true
 true)]=[some (Box.mk b [int i64 aA,slice aI aE aJ,slice aL aH aM] 27 3 true true)]/\∃(n':Nat),n' < a2/\I [int i64 (IntKind.wrap i64 (n+IntKind.wrap i64 ((↑(ByteArray.size (Zbx v)):
 Int)+(↑(ByteArray.size (Zbx ab)):Int)))),int i64 (IntKind.wrap i64 (ah+(1:Int)))] [] [] ae n')))) ((((0:Int)<=if p1 < (↑aH:Int)then p1 else(↑aH:Int))/\(if p1 < (↑aH:Int)then p1 else
 (↑aH:Int))<=(↑aM:Int))/\∃(I:IT),(∃(ac:Nat),I [int i64 n,int i64 0] [] [] ae ac)/\∀(n ac:Int)(m':Mem)(a3:Nat),Mem.le ae m'->I [int i64 n,int i64 ac] [] [] m' a3->br (decide (ac <
 (↑(Int.toNat (if p1 < (↑aH:Int)then p1 else(↑aH:Int)) - 0):Int))) (∃(ai:Nat),∃(o:Nat),ZdZ aL 0 aM 2=some (Addr.mk ai o none)/\Zai ac (Int.toNat (if p1 < (↑aH:Int)then p1 else
 (↑aH:Int)) - 0)/\∃(v:Value),∃(aa:Value),Mem.reads m' ai (o+Int.toNat ac*2) [v,aa]/\∀(aj:Nat),chk (Value.oneCell' v&&(Value.oneCell' aa&&true)) (chk (Zeh v) (chk (ZbM aa) (∃(ak:IT),(∃
 (ad:Nat),ak [int i64 (IntKind.wrap i64 (n+(↑(ByteArray.size (Zbx v)):Int))),int i64 0] [] [] m' ad)/\∀(n ad:Int)(ag:Mem)(a4:Nat),Mem.le m' ag->ak [int i64 n,int i64 ad] [] [] ag a4->br (decide
 (ad < (↑(slN aa):Int))) (chk (ZbM aa) (∃(a5:Nat),∃(o:Nat),slA aa=some (Addr.mk a5 o none)/\Zai ad (slN aa)/\∃(ab:Value),∃(af:Value),∃(al:Value),∃(am:Value),∃(an:Value),∃(ao:
 Value),∃(ap:Value),∃(aq:Value),∃(ar:Value),∃(au:Value),∃(av:Value),∃(aw:Value),∃(ax:Value),∃(ay:Value),∃(az:Value),∃(a0:Value),Mem.reads ag a5 (o+Int.toNat ad*16) [ab,af,
 al,am,an,ao,ap,aq,ar,au,av,aw,ax,ay,az,a0]/\∀(a6:Nat),chk (Value.oneCell' ab&&(Value.oneCell' af&&(Value.oneCell' al&&(Value.oneCell' am&&(Value.oneCell' an&&(Value.oneCell' ao &&
 (Value.oneCell' ap&&(Value.oneCell' aq&&(Value.oneCell' ar&&(Value.oneCell' au&&(Value.oneCell' av&&(Value.oneCell' aw&&(Value.oneCell' ax&&(Value.oneCell' ay&&(Value.oneCell' az&&(Value.oneCell' a0 &&
 true)))))))))))))))) (∃(R_1:RT),True/\CX Tryz.prog 20 (Array.mk [agg (Array.mk [ab,af,al,am,an,ao,ap,aq,ar,au,av,aw,ax,ay,az,a0]),int i64 p1]) ag [] R_1/\Zal (Shape.int i64) R_1/\∀(a1:Int) (m'
 : Mem),Mem.le ag m'->R_1 (int i64 a1) m' []->br (decide (IntKind.wrap i64 (n+a1) > p1)) (∃(m'':Mem),Mem.le m m''/\Mem.le m'' m'/\R (bool false) m'' []) ([some (Box.mk aj [v,aa] 70 2 false true),some (Box.mk
 b [int i64 aA,slice aI aE aJ,slice aL aH aM] 27 3 true true)]=[some (Box.mk aj [v,aa] 70 2 false true),some (Box.mk b [int i64 aA,slice aI aE aJ,slice aL aH aM] 27 3 true
 true)]/\∃(n':Nat),n' < a4/\ak [int i64 (IntKind.wrap i64 (n+a1)),int i64 (IntKind.wrap i64 (ad+(1:Int)))] [] [] m' n')))) ([some (Box.mk b [int i64 aA,slice aI aE aJ,slice aL aH aM] 27
 3 true true)]=[some (Box.mk b [int i64 aA,slice aI aE aJ,slice aL aH aM] 27 3 true true)]/\∃(n':Nat),n' < a3/\I [int i64 n,int i64 (IntKind.wrap i64 (ac+(1:Int)))] [] [] ag n'))))) (∃
 (m'':Mem),Mem.le m m''/\Mem.le m'' m'/\R (bool (decide (n<=p1))) m'' []))
theorem Zm0(aA:Int)(aI:Option Addr)(aE aJ:Nat)(aL:Option Addr)(aH aM:Nat)(p1:Int)(m:Mem)(R:RT)(h:Zie aA aI aE aJ aL aH aM p1 m R):CX Tryz.prog 7 #[.agg #[.int .i64 aA,.slice aI aE aJ,.slice aL aH aM],.int .i64 p1] m [] R:=
 Zad (E:=ZoN) Zaj mix Tryz.func7 [.v (.agg #[.int .i64 aA,.slice aI aE aJ,.slice aL aH aM]),.v (.int .i64 p1)] [] (by kernel_rfl) (Eq.mp (by kernel_rfl) h)
end Go.Proofs.YtiadlgdcbpnmkaaGreatDoor