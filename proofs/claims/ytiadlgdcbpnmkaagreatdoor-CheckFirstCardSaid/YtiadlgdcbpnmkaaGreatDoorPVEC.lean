/- Part of the proof: conditions and contracts of functions of this program. No condition of its own. -/
import Derived.Test.YtiadlgdcbpnmkaaGreatDoorPEnv
set_option linter.unusedVariables false
set_option linter.unusedSimpArgs false
set_option linter.unusedSectionVars false
namespace Go.Proofs.YtiadlgdcbpnmkaaGreatDoor
open Go Go.Eng Go.Proofs Go.RowKit
open Go.Value (int slice agg bool string tuple func)
open Go.IntKind (u8 u64 i64)
set_option maxRecDepth 100000
noncomputable def Ze9:Env:={ EB with
 loops:=(λi=>bif Nat.beq i 8 then⟨[(25,.int .i64)],[],[],false⟩ else bif Nat.beq i 15 then⟨[(7,.int .i64),(59,.int .i64)],[],[],false⟩ else⟨[],[],[],false⟩)
 joins:=(λi=>bif Nat.beq i 25 then some [(2,.bool)]else none)
 dr:=(λi=>bif Nat.beq i 10 then[⟨0,[6],[],none,[],[]⟩,⟨1,[6],[],none,[0],[]⟩,⟨2,[],[],none,[0,1],[]⟩,⟨3,[],[],none,[0,1,2],[]⟩,⟨4,[],[],none,[0,1,2,3],[]⟩,⟨5,[6],[],none,[0,1,2,3],[]⟩,⟨6,[6],[],none,[0,1,2,3,5],[]⟩,⟨7,[],[],none,[0,1,2,3,4,5,6],[]⟩,⟨8,[],[],none,[0,1,2,3,4,5,6,7],[]⟩,⟨9,[],[],none,[0,1,2,3,4,5,6,7,8],[]⟩,⟨10,[],[],none,[0,1,2,3,4,5,6,7,8,9],[]⟩,⟨11,[],[],none,[0,1,2,3,4,5,6,7,8,9,10],[]⟩,⟨12,[],[],none,rg 0 12,[]⟩,⟨13,[],[],none,rg 0 13,[]⟩,⟨14,[],[],none,rg 0 14,[]⟩,⟨15,[],[],none,rg 0 14,[]⟩,⟨16,[],[],none,rg 0 14++[15],[]⟩,⟨17,[],[],none,rg 0 17,[]⟩,⟨18,[],[],none,rg 0 18,[]⟩,⟨19,[],[],none,rg 0 19,[7]⟩,⟨20,[6],[],none,rg 0 14,[]⟩,⟨21,[6],[],none,rg 0 14++[20],[7]⟩,⟨22,[],[],none,rg 0 22,[7]⟩,⟨23,[],[],none,rg 0 23,[]⟩,⟨24,[],[],none,rg 0 24,[]⟩,⟨25,[],[],none,rg 0 25,[]⟩]else bif Nat.beq i 18 then[⟨0,[],[],none,[],[]⟩,⟨1,[],[],none,[0],[]⟩,⟨2,[],[],none,[0,1],[]⟩,⟨3,[],[],none,[0,1,2],[]⟩,⟨4,[],[],none,[0,1,2,3],[]⟩,⟨5,[],[],none,[0,1,2],[]⟩,⟨6,[],[],none,[0,1,2],[]⟩,⟨7,[],[],none,[0,1,2,6],[]⟩,⟨8,[],[],none,[0,1,2,5,6,7],[]⟩,⟨9,[],[],none,[0,1,2,5,6,7,8],[]⟩,⟨10,[],[],none,[0,1,2,5,6,7,8,9],[]⟩,⟨11,[],[],none,[0,1,2,5,6,7,8,9],[]⟩,⟨12,[],[],none,[0,1,2,5,6,7,8,9,10,11],[]⟩,⟨13,[],[],none,[0,1,2,5,6,7,8,9,10,11,12],[]⟩,⟨14,[],[],none,[0,1,2]++rg 5 9,[]⟩,⟨15,[9],[],none,[0,1,2,5,6,7,8,9],[]⟩,⟨16,[],[],none,[0,1,2]++rg 5 11,[]⟩,⟨17,[],[],none,[0,1,2]++rg 5 12,[]⟩,⟨18,[],[],none,rg 0 18,[]⟩,⟨19,[],[],none,rg 0 19,[]⟩,⟨20,[],[],none,rg 0 20,[]⟩,⟨21,[],[],none,rg 0 21,[]⟩,⟨22,[],[],none,rg 0 22,[]⟩,⟨23,[],[],none,rg 0 23,[]⟩,⟨24,[],[],none,rg 0 24,[]⟩,⟨25,[],[],none,rg 0 24,[]⟩,⟨26,[],[],none,rg 0 26,[]⟩,⟨27,[],[],none,rg 0 27,[]⟩,⟨28,[],[],none,rg 0 28,[]⟩,⟨29,[],[],none,rg 0 24,[]⟩,⟨30,[],[],none,rg 0 30,[]⟩,⟨31,[],[],none,rg 0 31,[]⟩,⟨32,[],[],none,rg 0 32,[]⟩]else bif Nat.beq i 26 then[⟨0,[],[],none,[],[]⟩,⟨1,[],[],none,[],[]⟩,⟨2,[],[],none,[1],[]⟩,⟨3,[],[],none,[0,1,2],[]⟩,⟨4,[],[],none,[0,1,2,3],[]⟩,⟨5,[12],[],none,[0,1,2,3,4],[]⟩,⟨6,[],[],none,[0,1,2,3,4],[]⟩,⟨7,[],[],none,[0,1,2,3,4,6],[]⟩,⟨8,[],[],none,[0,1,2,3,4,6,7],[]⟩,⟨9,[],[],none,[0,1,2,3,4,6,7,8],[]⟩,⟨10,[],[],none,[0,1,2,3,4,5,6,7,8,9],[]⟩,⟨11,[],[],none,[0,1,2,3,4,5,6,7,8,9,10],[]⟩,⟨12,[],[],none,rg 0 12,[]⟩,⟨13,[],[],none,rg 0 13,[]⟩,⟨14,[],[],none,rg 0 13,[]⟩,⟨15,[],[],none,rg 0 13++[14],[]⟩,⟨16,[],[],none,rg 0 13++[14,15],[]⟩,⟨17,[],[],none,rg 0 13++[14,15,16],[]⟩,⟨18,[],[],none,rg 0 18,[]⟩,⟨19,[],[],none,rg 0 19,[]⟩,⟨20,[],[],none,rg 0 20,[]⟩,⟨21,[1],[],none,rg 0 21,[]⟩,⟨22,[],[],none,rg 0 22,[]⟩,⟨23,[],[],none,rg 0 23,[]⟩,⟨24,[],[],none,rg 0 24,[]⟩,⟨25,[],[],none,rg 0 25,[]⟩]else[])
 frzNew:=[1]
 gb:=true }
def ZcL(aA:Int)(aI:Option Addr)(aE aJ:Nat)(aL:Option Addr)(aH aM:Nat)(m:Mem)(R:RT):Prop:=
 ∀(b:Nat)(m':Mem),Mem.le m m'->Mem.reads m' b 0 [int i64 aA,slice aI aE aJ,slice aL aH aM]->∃(R_1:RT),True/\CX Tryz.prog 6 (Array.mk []) m' [] R_1/\Zal Shape.bool R_1/\∀(a8:Bool)
 (az:Mem),Mem.le m' az->R_1 (bool a8) az []->br (!a8) (∃(m'':Mem),Mem.le m m''/\Mem.le m'' az/\R (bool false) m'' []) (∃(R_2:RT),True/\CX Tryz.prog 7 (Array.mk [agg (Array.mk [int i64 aA,slice aI
 aE aJ,slice aL aH aM]),int i64 800]) az [] R_2/\Zal Shape.bool R_2/\∀(a9:Bool)(m':Mem),Mem.le az m'->R_2 (bool a9) m' []->br (!a9) (∃(m'':Mem),Mem.le m m''/\Mem.le m'' m'/\R (bool
 true) m'' []) (∃(R_3:RT),True/\CX Tryz.prog 8 (Array.mk [agg (Array.mk [int i64 aA,slice aI aE aJ,slice aL aH aM])]) m' [] R_3/\Zal Shape.slice R_3/\∀(a:Option Addr)(n c:Nat) (a3:
 Mem),Mem.le m' a3->R_3 (slice a n c) a3 []->∃(R_4:RT),True/\CX Tryz.prog 9 (Array.mk [agg (Array.mk [int i64 aA,slice aI aE aJ,slice aL aH aM])]) a3 [] R_4/\Zal Shape.slice R_4/\∀(a4:
 Option Addr) (a0 c:Nat) (m':Mem),Mem.le a3 m'->R_4 (slice a4 a0 c) m' []->∃(I:IT),(∃(n:Nat),I [int i64 0] [] [] m' n)/\∀(ak:Int)(ad:Mem)(a5:Nat),Mem.le m' ad->I [int i64 ak] [] [] ad a5->br
 (decide (ak < (↑n:Int))) (∃(aj:Nat),∃(o:Nat),a=some (Addr.mk aj o none)/\Zai ak n/\∃(v:Value),∃(ae:Value),∃(af:Value),∃(ag:Value),∃(ah:Value),∃(ao:Value),Mem.reads ad aj (o +
 Int.toNat ak*6) [v,ae,af,ag,ah,ao]/\∀(a1:Nat),chk (Value.oneCell' v&&(Value.oneCell' ae&&(Value.oneCell' af&&(Value.oneCell' ag&&(Value.oneCell' ah&&(Value.oneCell' ao&&true)))))) (∃(f:Fx),
 chk (Za3 i64 ao&&decide (i64=i64)) (br (RowKit.intOf ao == (0:Int)) (∀(M:Mem),Mem.le ad M->Mem.le ad M->Mem.le ad M->∃(m'':Mem),Mem.le m m''/\Mem.le m'' M/\R (bool false) m'' []) (∃(R_5:RT),R_5
 = f 7 [slice a4 a0 c,agg (Array.mk [v,ae,af,ag,ah])] ad/\CX Tryz.prog 10 (Array.mk [slice a4 a0 c,agg (Array.mk [v,ae,af,ag,ah])]) ad [] R_5/\Zal Shape.bool R_5/\∀(am:Bool)(m':Mem),Mem.le ad m'->
 R_5 (bool am) m' []->br (!am) (∀(M:Mem),Mem.le ad M->Mem.le m' M->Mem.le m' M->∃(m'':Mem),Mem.le m m''/\Mem.le m'' M/\R (bool false) m'' []) (br (decide (ak > (0:Int))) (∃(an:Nat),∃(o:Nat),a =
 some (Addr.mk an o none)/\Zai (IntKind.wrap i64 (ak - (1:Int))) n/\∃(ap:Value),∃(aq:Value),∃(ar:Value),∃(au:Value),∃(a6:Value),Mem.reads m' an (o+Int.toNat (IntKind.wrap i64 (ak - (1:
 Int)))*6+0) [ap,aq,ar,au,a6]/\∃(R_6:RT),R_6=f 22 [agg (Array.mk [ap,aq,ar,au,a6]),agg (Array.mk [v,ae,af,ag,ah])] m'/\CX Tryz.prog 11 (Array.mk [agg (Array.mk [ap,aq,ar,au,a6]),agg
 (Array.mk [v,ae,af,ag,ah])]) m' [] R_6/\Zal Shape.bool R_6/\∀(a2:Bool)(aa:Mem),Mem.le m' aa->R_6 (bool a2) aa []->∀(M:Mem),Mem.le ad M->Mem.le m' M->Mem.le aa M->br (!a2) (∃(m'':Mem),Mem.le m
 m''/\Mem.le m'' M/\R (bool false) m'' []) ([some (Box.mk b [int i64 aA,slice aI aE aJ,slice aL aH aM] 27 3 true true)]=[some (Box.mk b [int i64 aA,slice aI aE aJ,slice aL aH
 aM] 27 3 true true)]/\∃(n':Nat),n' < a5/\I [int i64 (IntKind.wrap i64 (ak+(1:Int)))] [] [] M n')) (∀(M:Mem),Mem.le ad M->Mem.le m' M->Mem.le m' M->[some (Box.mk b [int i64 aA,slice aI aE
 aJ,slice aL aH aM] 27 3 true true)]=[some (Box.mk b [int i64 aA,slice aI aE aJ,slice aL aH aM] 27 3 true true)]/\∃(n':Nat),n' < a5/\I [int i64 (IntKind.wrap i64 (ak+(1:
 Int)))] [] [] M n')))))) (∃(I:IT),(∃(n:Nat),I [int i64 0,int i64 0] [] [] ad n)/\∀(ac ai:Int)(m':Mem)(al:Nat),Mem.le ad m'->I [int i64 ac,int i64 ai] [] [] m' al->br (decide (ai < (↑a0:Int))) (∃
 (aj:Nat),∃(o:Nat),a4=some (Addr.mk aj o none)/\Zai ai a0/\∃(v:Value),∃(ae:Value),∃(af:Value),∃(ag:Value),∃(ah:Value),Mem.reads m' aj (o+Int.toNat ai*5) [v,ae,af,ag,ah]/\∀(a1
 : Nat),chk (Value.oneCell' v&&(Value.oneCell' ae&&(Value.oneCell' af&&(Value.oneCell' ag&&(Value.oneCell' ah&&true))))) (∃(R_5:RT),True/\CX Tryz.prog 12 (Array.mk [agg (Array.mk [int i64 aA,slice
 aI aE aJ,slice aL aH aM]),agg (Array.mk [v,ae,af,ag,ah])]) m' [] R_5/\Zal (Shape.tup [Shape.int i64,Shape.bool]) R_5/\∀(ab:Int)(am:Bool)(aa:Mem),Mem.le m' aa->R_5 (tuple (Array.mk
 [int i64 ab,bool am])) aa []->br (!am) (∃(m'':Mem),Mem.le m m''/\Mem.le m'' aa/\R (bool false) m'' []) (br (decide (ac < (↑n:Int))) (∃(an:Nat),∃(o:Nat),a=some (Addr.mk an o none)/\Zai ac n/\∃
 (ao:Value),∃(ap:Value),∃(aq:Value),∃(ar:Value),∃(au:Value),Mem.reads aa an (o+Int.toNat ac*6+0) [ao,ap,aq,ar,au]/\∃(a2:Bool),EqIs Tryz.prog 34 (agg (Array.mk [ao,ap,aq,ar,au])) (agg
 (Array.mk [v,ae,af,ag,ah])) a2/\br (!(!ab == (0:Int)) == a2) (∃(m'':Mem),Mem.le m m''/\Mem.le m'' aa/\R (bool false) m'' []) (br (!ab == (0:Int)) (∃(ba:Nat),∃(o:Nat),a=some (Addr.mk ba o none)/\
 Zai ac n/\∃(v:Value),aa ba (o+Int.toNat ac*6+5)=some v/\chk (Za3 i64 v&&decide (i64=i64)) (br (!RowKit.intOf v == ab) (∃(m'':Mem),Mem.le m m''/\Mem.le m'' aa/\R (bool false) m'' []) (br
 (!ab == (0:Int)) ([some (Box.mk b [int i64 aA,slice aI aE aJ,slice aL aH aM] 27 3 true true)]=[some (Box.mk b [int i64 aA,slice aI aE aJ,slice aL aH aM] 27 3 true true)]/\
 ∃(n':Nat),n' < al/\I [int i64 (IntKind.wrap i64 (ac+(1:Int))),int i64 (IntKind.wrap i64 (ai+(1:Int)))] [] [] aa n') ([some (Box.mk b [int i64 aA,slice aI aE aJ,slice aL aH aM] 27 3
 true true)]=[some (Box.mk b [int i64 aA,slice aI aE aJ,slice aL aH aM] 27 3 true true)]/\∃(n':Nat),n' < al/\I [int i64 ac,int i64 (IntKind.wrap i64 (ai+(1:Int)))] [] [] aa n')))) (br
 (!ab == (0:Int)) ([some (Box.mk b [int i64 aA,slice aI aE aJ,slice aL aH aM] 27 3 true true)]=[some (Box.mk b [int i64 aA,slice aI aE aJ,slice aL aH aM] 27 3 true true)]/\
 ∃(n':Nat),n' < al/\I [int i64 (IntKind.wrap i64 (ac+(1:Int))),int i64 (IntKind.wrap i64 (ai+(1:Int)))] [] [] aa n') ([some (Box.mk b [int i64 aA,slice aI aE aJ,slice aL aH aM] 27 3
 true true)]=[some (Box.mk b [int i64 aA,slice aI aE aJ,slice aL aH aM] 27 3 true true)]/\∃(n':Nat),n' < al/\I [int i64 ac,int i64 (IntKind.wrap i64 (ai+(1:Int)))] [] [] aa n')))) (br
 (!(!ab == (0:Int)) == false) (∃(m'':Mem),Mem.le m m''/\Mem.le m'' aa/\R (bool false) m'' []) (br (!ab == (0:Int)) (∃(an:Nat),∃(o:Nat),a=some (Addr.mk an o none)/\Zai ac n/\∃(v:Value),aa an
 (o+Int.toNat ac*6+5)=some v/\chk (Za3 i64 v&&decide (i64=i64)) (br (!RowKit.intOf v == ab) (∃(m'':Mem),Mem.le m m''/\Mem.le m'' aa/\R (bool false) m'' []) (br (!ab == (0:Int)) ([some (Box.mk b
 [int i64 aA,slice aI aE aJ,slice aL aH aM] 27 3 true true)]=[some (Box.mk b [int i64 aA,slice aI aE aJ,slice aL aH aM] 27 3 true true)]/\∃(n':Nat),n' < al/\I [int i64
 (IntKind.wrap i64 (ac+(1:Int))),int i64 (IntKind.wrap i64 (ai+(1:Int)))] [] [] aa n') ([some (Box.mk b [int i64 aA,slice aI aE aJ,slice aL aH aM] 27 3 true true)]=[some (Box.mk b [int
 i64 aA,slice aI aE aJ,slice aL aH aM] 27 3 true true)]/\∃(n':Nat),n' < al/\I [int i64 ac,int i64 (IntKind.wrap i64 (ai+(1:Int)))] [] [] aa n')))) (br (!ab == (0:Int)) ([some (Box.mk b
 [int i64 aA,slice aI aE aJ,slice aL aH aM] 27 3 true true)]=[some (Box.mk b [int i64 aA,slice aI aE aJ,slice aL aH aM] 27 3 true true)]/\∃(n':Nat),n' < al/\I [int i64
 (IntKind.wrap i64 (ac+(1:Int))),int i64 (IntKind.wrap i64 (ai+(1:Int)))] [] [] aa n') ([some (Box.mk b [int i64 aA,slice aI aE aJ,slice aL aH aM] 27 3 true true)]=[some (Box.mk b [int
 i64 aA,slice aI aE aJ,slice aL aH aM] 27 3 true true)]/\∃(n':Nat),n' < al/\I [int i64 ac,int i64 (IntKind.wrap i64 (ai+(1:Int)))] [] [] aa n'))))))) (∃(R_5:RT),True/\CX Tryz.prog 13
 (Array.mk [agg (Array.mk [int i64 aA,slice aI aE aJ,slice aL aH aM])]) m' [] R_5/\Zal (Shape.tup [Shape.agg [Shape.int i64,Shape.int i64,Shape.int i64,Shape.int i64,Shape.int i64],Shape.int
 i64]) R_5/\∀(ab av aw ax ay a7:Int)(aa:Mem),Mem.le m' aa->R_5 (tuple (Array.mk [agg (Array.mk [int i64 ab,int i64 av,int i64 aw,int i64 ax,int i64 ay]),int i64 a7])) aa []->∀(aj:Nat),br ((↑n:Int) ==
 (0:Int)) (∃(a1:Bool),br (a7 == (0:Int)) (∃(R:RT),True/\CX Tryz.prog 14 (Array.mk [agg (Array.mk [int i64 aA,slice aI aE aJ,slice aL aH aM])]) aa [] R/\Zal Shape.bool R/\∀(am:
 Bool) (m':Mem),Mem.le aa m'->R (bool am) m' []->[some (Box.mk aj [int i64 ab,int i64 av,int i64 aw,int i64 ax,int i64 ay] 34 5 false true),some (Box.mk b [int i64 aA,slice aI aE aJ,slice aL
 aH aM] 27 3 true true)]=[some (Box.mk aj [int i64 ab,int i64 av,int i64 aw,int i64 ax,int i64 ay] 34 5 false true),some (Box.mk b [int i64 aA,slice aI aE aJ,slice aL aH aM] 27 3 true
 true)]/\[bool am]=[bool a1]) ([some (Box.mk aj [int i64 ab,int i64 av,int i64 aw,int i64 ax,int i64 ay] 34 5 false true),some (Box.mk b [int i64 aA,slice aI aE aJ,slice aL aH aM] 27 3 true
 true)]=[some (Box.mk aj [int i64 ab,int i64 av,int i64 aw,int i64 ax,int i64 ay] 34 5 false true),some (Box.mk b [int i64 aA,slice aI aE aJ,slice aL aH aM] 27 3 true true)]/\[bool false] =
 [bool a1])/\∃(m'':Mem),Mem.le m m''/\Mem.le m'' aa/\R (bool a1) m'' []) (∃(f:Fx),br (ac == (↑n:Int)) (∃(b:Nat),∃(o:Nat),a=some (Addr.mk b o none)/\Zai (0:Int) n/\∃(v:Value),∃(ae:
 Value),∃(af:Value),∃(ag:Value),∃(ah:Value),Mem.reads aa b (o+0+0) [v,ae,af,ag,ah]/\∃(b:Bool),EqIs Tryz.prog 34 (agg (Array.mk [int i64 ab,int i64 av,int i64 aw,int i64 ax,int i64 ay])) (agg
 (Array.mk [v,ae,af,ag,ah])) b/\br b (∃(b:Nat),∃(o:Nat),a=some (Addr.mk b o none)/\Zai (0:Int) n/\∃(v:Value),aa b (o+0+5)=some v/\chk (Za3 i64 v) (br (a7 == RowKit.intOf v) (∃(R_6:
 RT),R_6=f 22 [agg (Array.mk [int i64 aA,slice aI aE aJ,slice aL aH aM])] aa/\CX Tryz.prog 14 (Array.mk [agg (Array.mk [int i64 aA,slice aI aE aJ,slice aL aH aM])]) aa []
 R_6/\Zal Shape.bool R_6/\∀(b:Bool)(m':Mem),Mem.le aa m'->R_6 (bool b) m' []->∀(M:Mem),Mem.le aa M->Mem.le m' M->∃(m'':Mem),Mem.le m m''/\Mem.le m'' M/\R (bool !b) m'' []) (∀(M:Mem),Mem.le aa
 M->Mem.le aa M->∃(m'':Mem),Mem.le m m''/\Mem.le m'' M/\R (bool false) m'' []))) (∀(M:Mem),Mem.le aa M->Mem.le aa M->∃(m'':Mem),Mem.le m m''/\Mem.le m'' M/\R (bool false) m'' [])) (∀(M:Mem),Mem.le
 aa M->Mem.le aa M->∃(m'':Mem),Mem.le m m''/\Mem.le m'' M/\R (bool false) m'' []))))))
theorem Zev(aA:Int)(aI:Option Addr)(aE aJ:Nat)(aL:Option Addr)(aH aM:Nat)(m:Mem)(R:RT)(h:ZcL aA aI aE aJ aL aH aM m R):CX Tryz.prog 4 #[.agg #[.int .i64 aA,.slice aI aE aJ,.slice aL aH aM]] m [] R:=
 Zad (E:=Ze9) Zaj mix Tryz.func4 [.v (.agg #[.int .i64 aA,.slice aI aE aJ,.slice aL aH aM])] [] (by kernel_rfl) (Eq.mp (by kernel_rfl) h)
noncomputable def Zk0:Env:=EB
def ZdD(p0:Int)(m:Mem)(R:RT):Prop:=
 ∀(b b:Nat),(64:Int)≠(0:Int)/\(64:Int)≠(0:Int)/\(0:Int)<=Int.tmod p0 (64:Int)/\Zai (IntKind.wrap u8 (Int.tdiv p0 (64:Int))) 4/\chk (Nat.ble (1+Int.toNat (IntKind.wrap u8 (Int.tdiv p0 (64
 : Int)))*1) (nat_lit 7)) (chk (Nat.beq (List.length (ZaZ [int u8 2,int u64 0,int u64 0,int u64 0,int u64 0,int i64 0,int i64 0,slice none 0 0] (1+Int.toNat (IntKind.wrap u8 (Int.tdiv p0 (64:Int)))*1)
 [int u64 (IntKind.wrap u64 ((1:Int)*(2:Int) ^ min (Int.toNat (Int.tmod p0 (64:Int))) 64))])) 8&&Zhh (ZaZ [int u8 2,int u64 0,int u64 0,int u64 0,int u64 0,int i64 0,int i64 0,slice none 0 0] (1 +
 Int.toNat (IntKind.wrap u8 (Int.tdiv p0 (64:Int)))*1) [int u64 (IntKind.wrap u64 ((1:Int)*(2:Int) ^ min (Int.toNat (Int.tmod p0 (64:Int))) 64))])) (∃(m'':Mem),Mem.le m m''/\Mem.le m'' m/\R (agg
 (Array.mk (ZaZ [int u8 2,int u64 0,int u64 0,int u64 0,int u64 0,int i64 0,int i64 0,slice none 0 0] (1+Int.toNat (IntKind.wrap u8 (Int.tdiv p0 (64:Int)))*1) [int u64 (IntKind.wrap u64 ((1:Int)*(2:
 Int) ^ min (Int.toNat (Int.tmod p0 (64:Int))) 64))]))) m'' []))
theorem Zfn(p0:Int)(m:Mem)(R:RT)(h:ZdD p0 m R):CX Tryz.prog 29 #[.int .u8 p0] m [] R:=
 Zad (E:=Zk0) Zaj mix Tryz.func29 [.v (.int .u8 p0)] [] (by kernel_rfl) (Eq.mp (by kernel_rfl) h)
noncomputable def Zk1:Env:=EB
def Zfo  (m:Mem)(R:RT):Prop:=
 ∀(b:Nat),∃(R_1:RT),True/\CX Tryz.prog 29 (Array.mk [int u8 120]) m [] R_1/\Zal (shT) R_1/\∀(n n_1 n_2 n_3 n_4 n_5 n_6:Int)(a:Option Addr)(n_7 c:Nat)(m':Mem),Mem.le m m'->R_1 (agg (Array.mk [int
 u8 n,int u64 n_1,int u64 n_2,int u64 n_3,int u64 n_4,int i64 n_5,int i64 n_6,slice a n_7 c])) m' []->∀(b:Nat),Mem.free m' b->∃(R_2:RT),True/\CX Tryz.prog 29 (Array.mk [int u8 121]) (Mem.add m' b [int
 u8 n,int u64 n_1,int u64 n_2,int u64 n_3,int u64 n_4,int i64 n_5,int i64 n_6,slice a n_7 c]) [] R_2/\Zal (shT) R_2/\∀(n_8 n_9 n_10 n_11 n_12 n_13 n_14:Int)(a_4:Option Addr)(n_15 c_1:Nat)(m'_1:Mem),
 Mem.le (Mem.add m' b [int u8 n,int u64 n_1,int u64 n_2,int u64 n_3,int u64 n_4,int i64 n_5,int i64 n_6,slice a n_7 c]) m'_1->R_2 (agg (Array.mk [int u8 n_8,int u64 n_9,int u64 n_10,int u64 n_11,int u64 n_12,
 int i64 n_13,int i64 n_14,slice a_4 n_15 c_1])) m'_1 []->∀(b_1:Nat),Mem.free m'_1 b_1->∃(m'':Mem),Mem.le m m''/\Mem.le m'' (Mem.add m'_1 b_1 [int u8 6,int u64 0,int u64 0,int u64 0,int u64 0,int i64 0,
 int i64 0,slice (some (Addr.mk b 0 none)) 1 1,int u8 n_8,int u64 n_9,int u64 n_10,int u64 n_11,int u64 n_12,int i64 n_13,int i64 n_14,slice a_4 n_15 c_1])/\R (agg (Array.mk [bool false,bool false,int u8 3,
 int u64 0,int u64 0,int u64 0,int u64 0,int i64 0,int i64 0,slice (some (Addr.mk b_1 0 none)) 2 2])) m'' []
theorem Zjc  (m:Mem)(R:RT)(h:Zfo  m R):CX Tryz.prog 18 #[] m [] R:=
 Zad (E:=Zk1) Zaj mix Tryz.func18 [] [] (by kernel_rfl) (Eq.mp (by kernel_rfl) h)
noncomputable def ZoG:Env:={ EB with
 frzNew:=[1] }
def ZhR(aA:Int)(aC aB:Bool)(aD aQ aG aP bR bS bZ:Int)(aZ:Option Addr)(bA bB:Nat)(bI:ByteArray)(bJ:Int)(bD:Option Addr)(bC bE:Nat)(bM:ByteArray)(bN:Int)(m:Mem)(R:RT):Prop:=
 ∀(b:Nat)(m':Mem),Mem.le m m'->Mem.reads m' b 0 [int u8 aA,bool aC,bool aB,int u8 aD,int u64 aQ,int u64 aG,int u64 aP,int u64 bR,int i64 bS,int i64 bZ,slice aZ bA bB,
 string bI,int i64 bJ,slice bD bC bE,string bM,int i64 bN]->∀(b b:Nat),Mem.free m' b->∀(b_1:Nat),Mem.free (Mem.add m' b [string (ByteArray.mk (Array.mk [(110:UInt8)])),bool true,
 string (ByteArray.mk (Array.mk [])),Value.float FloatKind.f64 0,string (ByteArray.mk (Array.mk [(116:UInt8)])),bool false,string (ByteArray.mk (Array.mk [])),Value.float FloatKind.f64 0]) b_1->∀(b_2:Nat),
 Mem.free (Mem.add (Mem.add m' b [string (ByteArray.mk (Array.mk [(110:UInt8)])),bool true,string (ByteArray.mk (Array.mk [])),Value.float FloatKind.f64 0,string (ByteArray.mk (Array.mk [(116:UInt8)])),bool
 false,string (ByteArray.mk (Array.mk [])),Value.float FloatKind.f64 0]) b_1 [int u8 aA,bool aC,bool aB,int u8 aD,int u64 aQ,int u64 aG,int u64 aP,int u64 bR,int i64 bS,int i64 bZ,slice
 aZ bA bB,string bI,int i64 bJ,slice bD bC bE,string bM,int i64 bN]) b_2->∃(m'':Mem),Mem.le m m''/\Mem.le m'' (Mem.add (Mem.add (Mem.add m' b [string (ByteArray.mk (Array.mk
 [(110:UInt8)])),bool true,string (ByteArray.mk (Array.mk [])),Value.float FloatKind.f64 0,string (ByteArray.mk (Array.mk [(116:UInt8)])),bool false,string (ByteArray.mk (Array.mk [])),Value.float
 FloatKind.f64 0]) b_1 [int u8 aA,bool aC,bool aB,int u8 aD,int u64 aQ,int u64 aG,int u64 aP,int u64 bR,int i64 bS,int i64 bZ,slice aZ bA bB,string bI,int i64 bJ,slice
 bD bC bE,string bM,int i64 bN]) b_2 [string (ByteArray.mk (Array.mk [(97:UInt8)])),slice (some (Addr.mk b_1 0 none)) 1 1])/\R (agg (Array.mk [int i64 9,slice (some (Addr.mk b 0 none)) 2 2,slice
 (some (Addr.mk b_2 0 none)) 1 1])) m'' []
theorem ZmM(aA:Int)(aC aB:Bool)(aD aQ aG aP bR bS bZ:Int)(aZ:Option Addr)(bA bB:Nat)(bI:ByteArray)(bJ:Int)(bD:Option Addr)(bC bE:Nat)(bM:ByteArray)(bN:Int)(m:Mem)(R:RT)(h:ZhR aA aC aB aD aQ aG aP bR bS bZ aZ bA bB bI bJ bD bC bE bM bN m R):CX Tryz.prog 17 #[.agg #[.int .u8 aA,.bool aC,.bool aB,.int .u8 aD,.int .u64 aQ,.int .u64 aG,.int .u64 aP,.int .u64 bR,.int .i64 bS,.int .i64 bZ,.slice aZ bA bB,.string bI,.int .i64 bJ,.slice bD bC bE,.string bM,.int .i64 bN]] m [] R:=
 Zad (E:=ZoG) Zaj mix Tryz.func17 [.v (.agg #[.int .u8 aA,.bool aC,.bool aB,.int .u8 aD,.int .u64 aQ,.int .u64 aG,.int .u64 aP,.int .u64 bR,.int .i64 bS,.int .i64 bZ,.slice aZ bA bB,.string bI,.int .i64 bJ,.slice bD bC bE,.string bM,.int .i64 bN])] [] (by kernel_rfl) (Eq.mp (by kernel_rfl) h)
noncomputable def ZmN:Env:={ EB with
 loops:=(λi=>bif Nat.beq i 3 then⟨[(9,.int .i64)],[3],[(18,8)],false⟩ else⟨[],[],[],false⟩)
 tokOf:=(λi=>bif Nat.beq i 18 then 18 else 0) }
def ZgD(p0a:Option Addr)(p0n p0c:Nat)(m:Mem)(R:RT):Prop:=
 ∀(b:Nat),∃(I:IT),(∃(n:Nat),I [int i64 0] [[int u8 1,string (ByteArray.mk (Array.mk [])),slice none 0 0,int u8 0,Value.float FloatKind.f64 0,string (ByteArray.mk (Array.mk [])),int i64 0,slice none 0
 0]] [slice none 0 0] m n)/\∀(n:Int)(cs:List Value)(a:Option Addr)(ad c:Nat)(m':Mem)(ae:Nat),Mem.le m m'->I [int i64 n] [cs] [slice a ad c] m' ae->br (decide (n < (↑p0n:Int))) (∃(af:Nat),∃(o
 : Nat),p0a=some (Addr.mk af o none)/\Zai n p0n/\∃(v:Value),m' af (o+Int.toNat n*1)=some v/\Eng.ZsZ cs 2 λ(aa:Value)=>chk (Nat.beq (List.length (Array.toList (Value.cells v))) 1&&true) (chk
 (Nat.beq (List.length (List.append (Array.toList (Value.cells v)) (List.drop (2+List.length (Array.toList (Value.cells v))) [int u8 3,string (ByteArray.mk (Array.mk [])),int i64 0,int u8 0,Value.float
 FloatKind.f64 0,string (ByteArray.mk (Array.mk [])),int i64 0,slice none 0 0]))) (nat_lit 6)&&true) (∀(ab:Nat),Mem.free m' ab->chk (ZbM aa&&true) ((Tok.mk (slice a ad c) 8=Tok.mk aa 8\/aa=slice none 0
 0\/slC aa < slN aa+1)/\∃(xs:List Value),∃(ys:List Value),List.length xs=slN aa*8/\List.length ys=1*8/\rowRd (Mem.add m' ab (int u8 3::string (ByteArray.mk (Array.mk []))::List.append
 (List.append (Array.toList (Value.cells v)) (List.drop (2+List.length (Array.toList (Value.cells v))) [int u8 3,string (ByteArray.mk (Array.mk [])),int i64 0,int u8 0,Value.float FloatKind.f64 0,string
 (ByteArray.mk (Array.mk [])),int i64 0,slice none 0 0])) [])) (slA aa) xs/\rowRd (Mem.add m' ab (int u8 3::string (ByteArray.mk (Array.mk []))::List.append (List.append (Array.toList (Value.cells v)) (List.drop
 (2+List.length (Array.toList (Value.cells v))) [int u8 3,string (ByteArray.mk (Array.mk [])),int i64 0,int u8 0,Value.float FloatKind.f64 0,string (ByteArray.mk (Array.mk [])),int i64 0,slice none 0 0])) []))
 (some (Addr.mk ab 0 none)) ys/\(∀(u:Value),u∈ys->Value.oneCell' u=true)/\(slN aa+1)*96<=140737488355328/\slN aa+1<=9223372036854775807/\∀(a':Option Addr)(c':Nat)(ac:Mem),Mem.le (Mem.add m'
 ab (int u8 3::string (ByteArray.mk (Array.mk []))::List.append (List.append (Array.toList (Value.cells v)) (List.drop (2+List.length (Array.toList (Value.cells v))) [int u8 3,string (ByteArray.mk (Array.mk [])),
 int i64 0,int u8 0,Value.float FloatKind.f64 0,string (ByteArray.mk (Array.mk [])),int i64 0,slice none 0 0])) [])) ac->rowRd ac a' (List.append xs ys)->chk (Nat.ble 3 (List.length cs)) ([some (Box.mk b [] 53 8
 false true)]=[some (Box.mk b [] 53 8 false true)]/\∃(n':Nat),n' < ae/\I [int i64 (IntKind.wrap i64 (n+(1:Int)))] [ZaZ cs 2 [slice a' (slN aa+1) c']] [slice a' (slN aa+1) c'] ac n'))))) (chk (Nat.beq
 (List.length cs) 8&&true) (∀(b:Nat),Mem.free m' b->∃(m'':Mem),Mem.le m m''/\Mem.le m'' (Mem.add m' b (List.append cs []))/\R (slice (some (Addr.mk b 0 none)) 1 1) m'' []))
theorem Zk2(p0a:Option Addr)(p0n p0c:Nat)(m:Mem)(R:RT)(h:ZgD p0a p0n p0c m R):CX Tryz.prog 19 #[.slice p0a p0n p0c] m [] R:=
 Zad (E:=ZmN) Zaj mix Tryz.func19 [.v (.slice p0a p0n p0c)] [] (by kernel_rfl) (Eq.mp (by kernel_rfl) h)
noncomputable def ZhS:Env:=EB
def ZdS(p0 p1 p2 p3:Int)(m:Mem)(R:RT):Prop:=
 ∀(b:Nat),∃(m'':Mem),Mem.le m m''/\Mem.le m'' m/\R (agg (Array.mk [int i64 (-1:Int),int i64 p0,int i64 p1,int i64 p2,int i64 p3])) m'' []
theorem Zg1(p0 p1 p2 p3:Int)(m:Mem)(R:RT)(h:ZdS p0 p1 p2 p3 m R):CX Tryz.prog 16 #[.int .i64 p0,.int .i64 p1,.int .i64 p2,.int .i64 p3] m [] R:=
 Zad (E:=ZhS) Zaj mix Tryz.func16 [.v (.int .i64 p0),.v (.int .i64 p1),.v (.int .i64 p2),.v (.int .i64 p3)] [] (by kernel_rfl) (Eq.mp (by kernel_rfl) h)
noncomputable def Zk3:Env:={ EB with
 loops:=(λi=>bif Nat.beq i 7 then⟨[(85,.int .i64)],[],[],false⟩ else⟨[],[],[],false⟩)
 joins:=(λi=>bif Nat.beq i 10 then some [(112,.bool)]else none)
 dr:=(λi=>bif Nat.beq i 6 then[⟨0,[],[],none,[],[]⟩,⟨1,[25],[25],none,[],[]⟩,⟨2,[25],[25],none,[0,1],[0,1]⟩,⟨3,[],[],none,[0,1,2],[]⟩,⟨4,[],[],none,[0,1,2,3],[2]⟩,⟨5,[],[],none,[],[]⟩,⟨6,[],[],none,[0,1,2,3,4,5],[4]⟩,⟨7,[],[],none,[0,1,2,3,4,5,6],[]⟩,⟨8,[],[],none,[0,1,2,3,4,5,6],[6]⟩,⟨9,[33],[33],none,[],[]⟩,⟨10,[33],[33],none,[0,1,2,3,4,5,6,8,9],[8,9]⟩,⟨11,[],[],none,[0,1,2,3,4,5,6,8,9,10],[]⟩,⟨12,[],[],none,[0,1,2,3,4,5,6,8,9,10,11],[10]⟩,⟨13,[],[],none,[],[]⟩,⟨14,[],[],none,rg 0 7++rg 8 6,[12]⟩,⟨15,[],[],none,rg 0 7++rg 8 7,[]⟩,⟨16,[40],[40],none,[],[]⟩,⟨17,[40],[40],none,rg 0 7++rg 8 7++[16],[14,16]⟩,⟨18,[],[],none,rg 0 7++rg 8 7++[16,17],[]⟩,⟨19,[],[],none,rg 0 7++rg 8 7++[16,17,18],[17]⟩,⟨20,[],[],none,[],[]⟩,⟨21,[],[],none,rg 0 7++rg 8 7++rg 16 5,[19]⟩,⟨22,[],[],none,rg 0 7++rg 8 7++rg 16 6,[]⟩,⟨23,[],[],none,[],[]⟩,⟨24,[],[],none,rg 0 7++rg 8 7++rg 16 6++[23],[21]⟩,⟨25,[],[],none,[],[]⟩,⟨26,[],[],none,rg 0 7++rg 8 7++rg 16 6++[23,24,25],[24]⟩,⟨27,[],[],none,rg 0 7++rg 8 7++rg 16 6++rg 23 4,[]⟩,⟨28,[11],[],none,[],[]⟩,⟨29,[11],[],none,[28],[]⟩,⟨30,[],[],none,rg 0 7++rg 8 7++rg 16 6++rg 23 4++[28,29],[26]⟩,⟨31,[],[],none,[],[]⟩,⟨32,[],[],none,rg 0 7++rg 8 7++rg 16 6++rg 23 4++rg 28 4,[30]⟩,⟨33,[],[],none,rg 0 7++rg 8 7++rg 16 6++rg 23 4++rg 28 5,[]⟩,⟨34,[15],[],none,[],[]⟩,⟨35,[15],[],none,[34],[]⟩,⟨36,[],[],none,rg 0 7++rg 8 7++rg 16 6++rg 23 4++rg 28 5++[34,35],[32]⟩,⟨37,[],[],none,[],[]⟩,⟨38,[],[],none,rg 0 7++rg 8 7++rg 16 6++rg 23 4++rg 28 5++rg 34 4,[36]⟩,⟨39,[],[],none,rg 0 7++rg 8 7++rg 16 6++rg 23 4++rg 28 5++rg 34 5,[]⟩,⟨40,[4],[],none,[],[]⟩,⟨41,[],[],none,[],[]⟩,⟨42,[],[],none,rg 0 7++rg 8 7++rg 16 6++rg 23 4++rg 28 5++rg 34 5++[41],[38]⟩,⟨43,[],[],none,rg 0 7++rg 8 7++rg 16 6++rg 23 4++rg 28 5++rg 34 5++[40,41,42],[]⟩,⟨44,[],[],none,[],[]⟩,⟨45,[],[],none,[],[]⟩,⟨46,[],[],none,rg 0 7++rg 8 7++rg 16 6++rg 23 4++rg 28 5++rg 34 5++[41,42,45],[42]⟩,⟨47,[],[],none,rg 0 7++rg 8 7++rg 16 6++rg 23 4++rg 28 5++rg 34 5++[41,42,44,45,46],[]⟩,⟨48,[],[],none,[],[]⟩,⟨49,[],[],none,[],[]⟩,⟨50,[],[],none,rg 0 7++rg 8 7++rg 16 6++rg 23 4++rg 28 5++rg 34 5++[41,42,45,46,49],[46]⟩,⟨51,[],[],none,rg 0 7++rg 8 7++rg 16 6++rg 23 4++rg 28 5++rg 34 5++[41,42,45,46,48,49,50],[]⟩,⟨52,[76],[76],none,[],[]⟩,⟨53,[76],[76],none,rg 0 7++rg 8 7++rg 16 6++rg 23 4++rg 28 5++rg 34 5++[41,42,45,46,49,50,52],[50,52]⟩,⟨54,[],[],none,rg 0 7++rg 8 7++rg 16 6++rg 23 4++rg 28 5++rg 34 5++[41,42,45,46,49,50,52,53],[]⟩,⟨55,[],[],none,rg 0 7++rg 8 7++rg 16 6++rg 23 4++rg 28 5++rg 34 5++[41,42,45,46,49,50,52,53,54],[53]⟩,⟨56,[],[],none,[],[]⟩,⟨57,[],[],none,rg 0 7++rg 8 7++rg 16 6++rg 23 4++rg 28 5++rg 34 5++[41,42,45,46,49,50]++rg 52 5,[55]⟩,⟨58,[],[],none,rg 0 7++rg 8 7++rg 16 6++rg 23 4++rg 28 5++rg 34 5++[41,42,45,46,49,50]++rg 52 6,[]⟩,⟨59,[83],[83],none,rg 0 59,[57]⟩,⟨60,[83],[],none,rg 0 60,[]⟩,⟨61,[],[],none,[],[]⟩]else[])
 tokOf:=(λi=>bif Nat.beq i 22 then 22 else 0)
 capF:=true }
abbrev Zjd:List Value:=[int u8 3,bool false,bool false,int u8 0,int u64 0,int u64 0,int u64 0,int u64 0,int i64 0,int i64 0,slice none 0 0,string (ByteArray.mk (Array.mk [])),int i64 0,slice
 none 0 0,string (ByteArray.mk (Array.mk [])),int i64 0]
abbrev Zcz:Bool->Bool->Int->Int->Int->Int->Int->Int->Int->Option Addr->Nat->Nat->Option Addr->Nat->Nat->List Value:=λ(b cf:Bool)(n ab aa ch ci cr cs:Int)(a:Option Addr) (ct c:
 Nat) (cp:Option Addr) (cu cq:Nat)=>[int u8 1,bool b,bool cf,int u8 n,int u64 ab,int u64 aa,int u64 ch,int u64 ci,int i64 cr,int i64 cs,slice a ct c,string (ByteArray.mk (Array.mk [])),int i64 0,slice
 cp cu cq,string (ByteArray.mk (Array.mk [(97:UInt8)])),int i64 0]
abbrev Zfp:Option Addr->Nat->Nat->List Value:=λ(a:Option Addr)(n c:Nat)=>[int u8 2,bool false,bool false,int u8 0,int u64 0,int u64 0,int u64 0,int u64 0,int i64 0,int i64 0,slice
 none 0 0,string (ByteArray.mk (Array.mk [(97:UInt8),(98:UInt8)])),int i64 0,slice a n c,string (ByteArray.mk (Array.mk [])),int i64 256]
abbrev Zfq:List Value:=[int u8 4,bool false,bool false,int u8 0,int u64 0,int u64 0,int u64 0,int u64 0,int i64 0,int i64 0,slice none 0 0,string (ByteArray.mk (Array.mk [])),int i64 0,slice
 none 0 0,string (ByteArray.mk (Array.mk [])),int i64 0]
abbrev ZcA:Nat->List Value:=λ(b:Nat)=>[int u8 3,bool false,bool false,int u8 0,int u64 0,int u64 0,int u64 0,int u64 0,int i64 0,int i64 0,slice none 0 0,string (ByteArray.mk (Array.mk
 [])),int i64 0,slice (some (Addr.mk b 0 none)) 1 1,string (ByteArray.mk (Array.mk [])),int i64 0]
abbrev Zfr:Option Addr->Nat->Nat->List Value:=λ(a:Option Addr)(n c:Nat)=>[int u8 3,bool false,bool false,int u8 0,int u64 0,int u64 0,int u64 0,int u64 0,int i64 0,int i64 0,slice
 none 0 0,string (ByteArray.mk (Array.mk [])),int i64 0,slice a n c,string (ByteArray.mk (Array.mk [])),int i64 0]
abbrev ZaA(n:Int)(a:Option Addr)(ab c aa:Nat)(a':Option Addr)(c':Nat)(ch:Int)(cp:Option Addr)(ci cq:Nat)(es:Option Addr)(cr d7:Nat)(cs ct cu d4 d6 d8:Int)(et:Option Addr)
 (ac d9:Nat) (eu:Option Addr) (ad ae:Nat) (af ah ai aj ak al:Int) (ev:Option Addr) (ea ag:Nat) (ew:Option Addr) (eb ei:Nat) (ec ed ee ef eg eh:Int) (ex:Option Addr) (ej ek:Nat) (d5:Option Addr)
 (am ao:Nat) (an ap ar au av aw:Int) (ey:Option Addr) (ax aq:Nat) (ez:Option Addr) (el em:Nat) (ay az a1 a3 a4 a5:Int) (e0:Option Addr) (a6 a0:Nat) (e1:Option Addr) (a7 a2:Nat) (a8 a9 bb bd be bf bg
 bh bi bj bk bl bm bn bo bp bq bs bt bu bv:Int) (e2:Option Addr) (bw ba:Nat) (e3:Option Addr) (bx bc:Nat) (bz ca cb cc cd:Int):List Value:=[int i64 ch,slice cp ci cq,slice es cr d7,int i64 cs,int i64
 ct,int i64 cu,int i64 d4,int i64 d6,int i64 309,int i64 d8,slice et ac d9,slice eu ad ae,int i64 af,int i64 ah,int i64 ai,int i64 aj,int i64 ak,int i64 0,int i64 al,slice ev ea ag,slice ew eb ei,int i64
 ec,int i64 ed,int i64 ee,int i64 ef,int i64 eg,int i64 306,int i64 eh,slice ex ej ek,slice d5 am ao,int i64 an,int i64 ap,int i64 ar,int i64 au,int i64 av,int i64 304,int i64 aw,slice ey ax aq,slice ez
 el em,int i64 ay,int i64 az,int i64 a1,int i64 a3,int i64 a4,int i64 308,int i64 a5,slice e0 a6 a0,slice e1 a7 a2,int i64 a8,int i64 a9,int i64 bb,int i64 bd,int i64 be,int i64 308,int i64 n,slice a ab
 c,slice a' (aa+1) c',int i64 bf,int i64 bg,int i64 bh,int i64 bi,int i64 bj,int i64 303,int i64 9,slice none 0 0,slice none 0 0,int i64 bk,int i64 bl,int i64 bm,int i64 bn,int i64 bo,int i64 302,int
 i64 1,slice none 0 0,slice none 0 0,int i64 bp,int i64 bq,int i64 bs,int i64 bt,int i64 bu,int i64 300,int i64 bv,slice e2 bw ba,slice e3 bx bc,int i64 bz,int i64 ca,int i64 cb,int i64 cc,int i64 cd,int
 i64 309]
abbrev Zje:Int->Int->Int->Int->Int->Nat->Option Box:=λ(n ab aa ch ci:Int)(b:Nat)=>some (Box.mk b [int i64 n,int i64 ab,int i64 aa,int i64 ch,int i64 ci] 34 5 false true)
abbrev Zjf(n:Int)(a:Option Addr)(ab c aa:Nat)(a':Option Addr)(c':Nat)(ch:Int)(cp:Option Addr)(ci cq:Nat)(es:Option Addr)(cr d7:Nat)(cs ct cu d4 d6 d8:Int)(et:Option Addr)
 (ac d9:Nat) (eu:Option Addr) (ad ae:Nat) (af ah ai aj ak al:Int) (ev:Option Addr) (ea ag:Nat) (ew:Option Addr) (eb ei:Nat) (ec ed ee ef eg eh:Int) (ex:Option Addr) (ej ek:Nat) (d5:Option Addr)
 (am ao:Nat) (an ap ar au av aw:Int) (ey:Option Addr) (ax aq:Nat) (ez:Option Addr) (el em:Nat) (ay az a1 a3 a4 a5:Int) (e0:Option Addr) (a6 a0:Nat) (e1:Option Addr) (a7 a2:Nat) (a8 a9 bb bd be bf bg
 bh bi bj bk bl bm bn bo bp bq bs bt bu bv:Int) (e2:Option Addr) (bw ba:Nat) (e3:Option Addr) (bx bc:Nat) (bz ca cb cc cd cg:Int) (b:Nat):Option Box:=some (Box.mk b (List.take 9 (List.drop (Int.toNat cg
 * 9) (ZaA n a ab c aa a' c' ch cp ci cq es cr d7 cs ct cu d4 d6 d8 et ac d9 eu ad ae af ah ai aj ak al ev ea ag ew eb ei ec ed ee ef eg eh ex ej ek d5 am ao an ap ar au av aw ey ax aq ez el em ay az a1 a3 a4
 a5 e0 a6 a0 e1 a7 a2 a8 a9 bb bd be bf bg bh bi bj bk bl bm bn bo bp bq bs bt bu bv e2 bw ba e3 bx bc bz ca cb cc cd))) 73 9 false true)
abbrev Zfs:Int->Option Addr->Nat->Nat->Nat->Option Addr->Nat->Int->Option Addr->Nat->Nat->Option Addr->Nat->Nat->Int->Int->Int->Int->Int->Int->Option Addr->Nat->Nat->Option Addr->Nat
 -> Nat->Int->Int->Int->Int->Int->Int->Option Addr->Nat->Nat->Option Addr->Nat->Nat->Int->Int->Int->Int->Int->Int->Option Addr->Nat->Nat->Option Addr->Nat->Nat->Int->Int->Int->Int->Int->Int->
 Option Addr->Nat->Nat->Option Addr->Nat->Nat->Int->Int->Int->Int->Int->Int->Option Addr->Nat->Nat->Option Addr->Nat->Nat->Int->Int->Int->Int->Int->Int->Int->Int->Int->Int->Int->Int->Int->
 Int->Int->Int->Int->Int->Int->Int->Int->Option Addr->Nat->Nat->Option Addr->Nat->Nat->Int->Int->Int->Int->Int->Nat->Option Box:=λ(n:Int)(a:Option Addr)(ab c aa:Nat)(a':Option Addr)
 (c':Nat) (ch:Int) (cp:Option Addr) (ci cq:Nat) (es:Option Addr) (cr d7:Nat) (cs ct cu d4 d6 d8:Int) (et:Option Addr) (ac d9:Nat) (eu:Option Addr) (ad ae:Nat) (af ah ai aj ak al:Int) (ev:Option
 Addr) (ea ag:Nat) (ew:Option Addr) (eb ei:Nat) (ec ed ee ef eg eh:Int) (ex:Option Addr) (ej ek:Nat) (d5:Option Addr) (am ao:Nat) (an ap ar au av aw:Int) (ey:Option Addr) (ax aq:Nat) (ez:Option
 Addr) (el em:Nat) (ay az a1 a3 a4 a5:Int) (e0:Option Addr) (a6 a0:Nat) (e1:Option Addr) (a7 a2:Nat) (a8 a9 bb bd be bf bg bh bi bj bk bl bm bn bo bp bq bs bt bu bv:Int) (e2:Option Addr) (bw ba:Nat) (e3
 : Option Addr) (bx bc:Nat) (bz ca cb cc cd:Int) (b:Nat)=>some (Box.mk b (ZaA n a ab c aa a' c' ch cp ci cq es cr d7 cs ct cu d4 d6 d8 et ac d9 eu ad ae af ah ai aj ak al ev ea ag ew eb ei ec ed ee ef
 eg eh ex ej ek d5 am ao an ap ar au av aw ey ax aq ez el em ay az a1 a3 a4 a5 e0 a6 a0 e1 a7 a2 a8 a9 bb bd be bf bg bh bi bj bk bl bm bn bo bp bq bs bt bu bv e2 bw ba e3 bx bc bz ca cb cc cd) 73 90 true true)
abbrev Zew:Nat->Nat->Option Box:=λ(b cf:Nat)=>some (Box.mk cf [int u8 2,string (ByteArray.mk (Array.mk [(110:UInt8)])),slice (some (Addr.mk b 0 none)) 1 1,int u8 0,Value.float
 FloatKind.f64 0,string (ByteArray.mk (Array.mk [])),int i64 0,slice none 0 0] 53 8 true true)
abbrev Zex:Nat->Option Box:=λ(b:Nat)=>some (Box.mk b [int u8 1,string (ByteArray.mk (Array.mk [(120:UInt8)])),int i64 0,int u8 0,Value.float FloatKind.f64 0,string (ByteArray.mk (Array.mk
 [])),int i64 0,slice none 0 0] 56 8 true true)
abbrev Zey:Nat->Option Box:=λ(b:Nat)=>some (Box.mk b [int u8 3,string (ByteArray.mk (Array.mk [(110:UInt8)])),slice none 0 0,int u8 9,Value.float FloatKind.f64 0,string (ByteArray.mk
 (Array.mk [(109:UInt8)])),int i64 0,slice none 0 0] 53 8 true true)
abbrev Zc9(b cf en:Nat)(n:Int)(a:Option Addr)(ab c aa e8 eo:Nat)(a':Option Addr)(c' e4:Nat)(ch:Int)(cp:Option Addr)(ci cq:Nat)(es:Option Addr)(cr d7:Nat)(cs ct cu d4 d6:
 Int) (e5:Nat) (d8:Int) (et:Option Addr) (ac d9:Nat) (eu:Option Addr) (ad ae:Nat) (af ah ai aj ak:Int) (cv:Nat) (al:Int) (ev:Option Addr) (ea ag:Nat) (ew:Option Addr) (eb ei:Nat) (ec ed ee ef eg
 eh:Int) (ex:Option Addr) (ej ek:Nat) (d5:Option Addr) (am ao:Nat) (an ap ar au av aw:Int) (ey:Option Addr) (ax aq:Nat) (ez:Option Addr) (el em:Nat) (ay az a1 a3 a4 a5:Int) (e0:Option Addr) (a6 a0
 : Nat) (e1:Option Addr) (a7 a2:Nat) (a8 a9 bb bd be bf bg bh bi bj bk bl bm bn bo bp bq bs bt bu:Int) (e6:Nat) (bv:Int) (e2:Option Addr) (bw ba:Nat) (e3:Option Addr) (bx bc:Nat) (bz ca cb cc cd:Int)
 (e9:Nat) (cg:Int) (ep:Nat) (cj ck cl cm cn:Int) (eq:Nat):List (Option Box):=[Zje cj ck cl cm cn eq,Zjf n a ab c aa a' c' ch cp ci cq es cr d7 cs ct cu d4 d6 d8 et ac d9 eu ad ae af
 ah ai aj ak al ev ea ag ew eb ei ec ed ee ef eg eh ex ej ek d5 am ao an ap ar au av aw ey ax aq ez el em ay az a1 a3 a4 a5 e0 a6 a0 e1 a7 a2 a8 a9 bb bd be bf bg bh bi bj bk bl bm bn bo bp bq bs bt bu bv e2 bw ba e3 bx
 bc bz ca cb cc cd cg ep,some (Box.mk e4 [int i64 1,int i64 2] 3 2 true true),some (Box.mk e4 [int i64 1,int i64 2] 3 2 true true),some (Box.mk e5 [int i64 1,int i64 0] 3 2 true true),some (Box.mk e5 [int i64 1,
 int i64 0] 3 2 true true),some (Box.mk cv [int i64 0] 3 1 true true),some (Box.mk cv [int i64 0] 3 1 true true),some (Box.mk e6 [int i64 0] 3 1 true true),some (Box.mk e6 [int i64 0] 3 1 true true),Zfs n
 a ab c aa a' c' ch cp ci cq es cr d7 cs ct cu d4 d6 d8 et ac d9 eu ad ae af ah ai aj ak al ev ea ag ew eb ei ec ed ee ef eg eh ex ej ek d5 am ao an ap ar au av aw ey ax aq ez el em ay az a1 a3 a4 a5 e0 a6 a0 e1 a7 a2 a8
 a9 bb bd be bf bg bh bi bj bk bl bm bn bo bp bq bs bt bu bv e2 bw ba e3 bx bc bz ca cb cc cd e9,some (Box.mk eo [string (ByteArray.mk (Array.mk [(97:UInt8)])),slice none 0 0] 70 2 true true),some (Box.mk e8 [int
 i64 n,slice a ab c,slice a' (aa+1) c'] 27 3 false true),Zew cf en,Zex cf,Zey b]
abbrev ZhT(b cf en:Nat)(n:Int)(a:Option Addr)(ab c aa e8 eo:Nat)(a':Option Addr)(c' e4:Nat)(ch:Int)(cp:Option Addr)(ci cq:Nat)(es:Option Addr)(cr d7:Nat)(cs ct cu d4 d6:
 Int) (e5:Nat) (d8:Int) (et:Option Addr) (ac d9:Nat) (eu:Option Addr) (ad ae:Nat) (af ah ai aj ak:Int) (cv:Nat) (al:Int) (ev:Option Addr) (ea ag:Nat) (ew:Option Addr) (eb ei:Nat) (ec ed ee ef eg
 eh:Int) (ex:Option Addr) (ej ek:Nat) (d5:Option Addr) (am ao:Nat) (an ap ar au av aw:Int) (ey:Option Addr) (ax aq:Nat) (ez:Option Addr) (el em:Nat) (ay az a1 a3 a4 a5:Int) (e0:Option Addr) (a6 a0
 : Nat) (e1:Option Addr) (a7 a2:Nat) (a8 a9 bb bd be bf bg bh bi bj bk bl bm bn bo bp bq bs bt bu:Int) (e6:Nat) (bv:Int) (e2:Option Addr) (bw ba:Nat) (e3:Option Addr) (bx bc:Nat) (bz ca cb cc cd:Int)
 (e9:Nat):List (Option Box):=[some (Box.mk e4 [int i64 1,int i64 2] 3 2 true true),some (Box.mk e4 [int i64 1,int i64 2] 3 2 true true),some (Box.mk e5 [int i64 1,int i64 0] 3 2 true true),some (Box.mk e5
 [int i64 1,int i64 0] 3 2 true true),some (Box.mk cv [int i64 0] 3 1 true true),some (Box.mk cv [int i64 0] 3 1 true true),some (Box.mk e6 [int i64 0] 3 1 true true),some (Box.mk e6 [int i64 0] 3 1 true true),
 Zfs n a ab c aa a' c' ch cp ci cq es cr d7 cs ct cu d4 d6 d8 et ac d9 eu ad ae af ah ai aj ak al ev ea ag ew eb ei ec ed ee ef eg eh ex ej ek d5 am ao an ap ar au av aw ey ax aq ez el em ay az a1 a3 a4 a5 e0
 a6 a0 e1 a7 a2 a8 a9 bb bd be bf bg bh bi bj bk bl bm bn bo bp bq bs bt bu bv e2 bw ba e3 bx bc bz ca cb cc cd e9,some (Box.mk eo [string (ByteArray.mk (Array.mk [(97:UInt8)])),slice none 0 0] 70 2 true true),some
 (Box.mk e8 [int i64 n,slice a ab c,slice a' (aa+1) c'] 27 3 false true),Zew cf en,Zex cf,Zey b]
def Zft  (m:Mem)(R:RT):Prop:=
 ∀(b:Nat),Mem.free m b->∀(cf:Nat),Mem.free (Mem.add m b [int u8 3,string (ByteArray.mk (Array.mk [(110:UInt8)])),slice none 0 0,int u8 9,Value.float FloatKind.f64 0,string (ByteArray.mk (Array.mk [(109:
 UInt8)])),int i64 0,slice none 0 0]) cf->∀(en:Nat),Mem.free (Mem.add (Mem.add m b [int u8 3,string (ByteArray.mk (Array.mk [(110:UInt8)])),slice none 0 0,int u8 9,Value.float FloatKind.f64 0,string
 (ByteArray.mk (Array.mk [(109:UInt8)])),int i64 0,slice none 0 0]) cf [int u8 1,string (ByteArray.mk (Array.mk [(120:UInt8)])),int i64 0,int u8 0,Value.float FloatKind.f64 0,string (ByteArray.mk (Array.mk
 [])),int i64 0,slice none 0 0]) en->∃(R_1:RT),True/\CX Tryz.prog 17 (Array.mk [agg (Array.mk Zjd)]) (Mem.add (Mem.add (Mem.add m b [int u8 3,string (ByteArray.mk (Array.mk [(110:UInt8)])),slice
 none 0 0,int u8 9,Value.float FloatKind.f64 0,string (ByteArray.mk (Array.mk [(109:UInt8)])),int i64 0,slice none 0 0]) cf [int u8 1,string (ByteArray.mk (Array.mk [(120:UInt8)])),int i64 0,int u8 0,
 Value.float FloatKind.f64 0,string (ByteArray.mk (Array.mk [])),int i64 0,slice none 0 0]) en [int u8 2,string (ByteArray.mk (Array.mk [(110:UInt8)])),slice (some (Addr.mk cf 0 none)) 1 1,int u8 0,Value.float
 FloatKind.f64 0,string (ByteArray.mk (Array.mk [])),int i64 0,slice none 0 0]) [] R_1/\Zal (Shape.agg [Shape.int i64,Shape.slice,Shape.slice]) R_1/\∀(n:Int)(a:Option Addr)(ab c:Nat)(cp:Option Addr)
 (aa cq:Nat) (m':Mem),Mem.le (Mem.add (Mem.add (Mem.add m b [int u8 3,string (ByteArray.mk (Array.mk [(110:UInt8)])),slice none 0 0,int u8 9,Value.float FloatKind.f64 0,string (ByteArray.mk (Array.mk [(109:
 UInt8)])),int i64 0,slice none 0 0]) cf [int u8 1,string (ByteArray.mk (Array.mk [(120:UInt8)])),int i64 0,int u8 0,Value.float FloatKind.f64 0,string (ByteArray.mk (Array.mk [])),int i64 0,slice none 0 0])
 en [int u8 2,string (ByteArray.mk (Array.mk [(110:UInt8)])),slice (some (Addr.mk cf 0 none)) 1 1,int u8 0,Value.float FloatKind.f64 0,string (ByteArray.mk (Array.mk [])),int i64 0,slice none 0 0]) m'->R_1 (agg
 (Array.mk [int i64 n,slice a ab c,slice cp aa cq])) m' []->∀(e8 eo:Nat),Mem.free m' eo->(slice cp aa cq=slice none 0 0\/cq < aa+1)/\∃(xs:List Value),∃(ys:List Value),List.length xs=aa*2/\
 List.length ys=1*2/\rowRd (Mem.add m' eo [string (ByteArray.mk (Array.mk [(97:UInt8)])),slice none 0 0]) cp xs/\rowRd (Mem.add m' eo [string (ByteArray.mk (Array.mk [(97:UInt8)])),slice none 0 0]) (some
 (Addr.mk eo 0 none)) ys/\(∀(u:Value),u∈ys->Value.oneCell' u=true)/\(aa+1)*40<=140737488355328/\aa+1<=9223372036854775807/\∀(a':Option Addr)(c':Nat)(ce:Mem),Mem.le (Mem.add m' eo [string
 (ByteArray.mk (Array.mk [(97:UInt8)])),slice none 0 0]) ce->rowRd ce a' (List.append xs ys)->aa+1<=c'->∃(f:Fx),∃(R_2:RT),R_2=f 0 [] ce/\CX Tryz.prog 18 (Array.mk []) ce [] R_2/\Zal (Shape.agg
 [Shape.bool,Shape.bool,Shape.int u8,Shape.int u64,Shape.int u64,Shape.int u64,Shape.int u64,Shape.int i64,Shape.int i64,Shape.slice]) R_2/\∀(e4 e5:Bool)(ch ci cr cs ct cu d4:Int)(d5:Option Addr) (d6
 d7:Nat) (m':Mem),Mem.le ce m'->R_2 (agg (Array.mk [bool e4,bool e5,int u8 ch,int u64 ci,int u64 cr,int u64 cs,int u64 ct,int i64 cu,int i64 d4,slice d5 d6 d7])) m' []->∀(cv:Nat),Mem.free ce cv->∀(V
 : Mem),Mem.le ce V->Mem.le m' V->Mem.le (Mem.add ce cv [int i64 1,int i64 2]) V->∃(R_3:RT),R_3=f 2 [slice (some (Addr.mk cv 0 none)) 2 2] V/\CX Tryz.prog 19 (Array.mk [slice (some (Addr.mk cv 0 none)) 2 2])
 V [] R_3/\Zal Shape.slice R_3/\∀(f3:Option Addr)(d8 d9:Nat)(fa:Mem),Mem.le V fa->R_3 (slice f3 d8 d9) fa []->∃(R_4:RT),R_4=f 4 [agg (Array.mk (Zcz e4 e5 ch ci cr cs ct cu d4 d5 d6 d7 f3
 d8 d9))] fa/\CX Tryz.prog 17 (Array.mk [agg (Array.mk (Zcz e4 e5 ch ci cr cs ct cu d4 d5 d6 d7 f3 d8 d9))]) fa [] R_4/\Zal (Shape.agg [Shape.int i64,Shape.slice,Shape.slice]) R_4/\∀(ac:Int) (cw:
 Option Addr) (ad ae:Nat) (cx:Option Addr) (af ag:Nat) (fb:Mem),Mem.le fa fb->R_4 (agg (Array.mk [int i64 ac,slice cw ad ae,slice cx af ag])) fb []->∃(R_5:RT),R_5=f 6 [int i64 0,int i64 0,int i64 0,
 int i64 1] fb/\CX Tryz.prog 16 (Array.mk [int i64 0,int i64 0,int i64 0,int i64 1]) fb [] R_5/\Zal (Shape.agg [Shape.int i64,Shape.int i64,Shape.int i64,Shape.int i64,Shape.int i64]) R_5/\∀(ah ai aj ak al:
 Int) (fc:Mem),Mem.le fb fc->R_5 (agg (Array.mk [int i64 ah,int i64 ai,int i64 aj,int i64 ak,int i64 al])) fc []->∃(R_6:RT),R_6=f 8 [] fc/\CX Tryz.prog 18 (Array.mk []) fc [] R_6/\Zal (Shape.agg
 [Shape.bool,Shape.bool,Shape.int u8,Shape.int u64,Shape.int u64,Shape.int u64,Shape.int u64,Shape.int i64,Shape.int i64,Shape.slice]) R_6/\∀(e6 e9:Bool)(ea eb ec ed ee ef eg:Int)(f4:Option Addr) (eh
 ei:Nat) (fz:Mem),Mem.le fc fz->R_6 (agg (Array.mk [bool e6,bool e9,int u8 ea,int u64 eb,int u64 ec,int u64 ed,int u64 ee,int i64 ef,int i64 eg,slice f4 eh ei])) fz []->∀(ep:Nat),Mem.free ce ep->∀(V
 : Mem),Mem.le ce V->Mem.le fz V->Mem.le (Mem.add ce ep [int i64 1,int i64 0]) V->∃(R_7:RT),R_7=f 10 [slice (some (Addr.mk ep 0 none)) 2 2] V/\CX Tryz.prog 19 (Array.mk [slice (some (Addr.mk ep 0 none)) 2 2])
 V [] R_7/\Zal Shape.slice R_7/\∀(f5:Option Addr)(ej ek:Nat)(fd:Mem),Mem.le V fd->R_7 (slice f5 ej ek) fd []->∃(R_8:RT),R_8=f 12 [agg (Array.mk (Zcz e6 e9 ea eb ec ed ee ef eg f4 eh ei f5
 ej ek))] fd/\CX Tryz.prog 17 (Array.mk [agg (Array.mk (Zcz e6 e9 ea eb ec ed ee ef eg f4 eh ei f5 ej ek))]) fd [] R_8/\Zal (Shape.agg [Shape.int i64,Shape.slice,Shape.slice]) R_8/\∀(am:Int) (cy:
 Option Addr) (an ao:Nat) (cz:Option Addr) (ap aq:Nat) (fe:Mem),Mem.le fd fe->R_8 (agg (Array.mk [int i64 am,slice cy an ao,slice cz ap aq])) fe []->∃(R_9:RT),R_9=f 14 [int i64 (-1:Int),int i64 (-1
 : Int),int i64 (-1:Int),int i64 (-1:Int)] fe/\CX Tryz.prog 16 (Array.mk [int i64 (-1:Int),int i64 (-1:Int),int i64 (-1:Int),int i64 (-1:Int)]) fe [] R_9/\Zal (Shape.agg [Shape.int i64,Shape.int i64,
 Shape.int i64,Shape.int i64,Shape.int i64]) R_9/\∀(ar au av aw ax:Int)(f0:Mem),Mem.le fe f0->R_9 (agg (Array.mk [int i64 ar,int i64 au,int i64 av,int i64 aw,int i64 ax])) f0 []->∀(eq:Nat),Mem.free ce
 eq->∀(V:Mem),Mem.le ce V->Mem.le f0 V->Mem.le (Mem.add ce eq [int i64 0]) V->∃(R_10:RT),R_10=f 17 [slice (some (Addr.mk eq 0 none)) 1 1] V/\CX Tryz.prog 19 (Array.mk [slice (some (Addr.mk eq 0 none)) 1
 1]) V [] R_10/\Zal Shape.slice R_10/\∀(f6:Option Addr)(el em:Nat)(ff:Mem),Mem.le V ff->R_10 (slice f6 el em) ff []->∃(R_11:RT),R_11=f 19 [agg (Array.mk (Zfp f6 el em))] ff/\CX Tryz.prog
 17 (Array.mk [agg (Array.mk (Zfp f6 el em))]) ff [] R_11/\Zal (Shape.agg [Shape.int i64,Shape.slice,Shape.slice]) R_11/\∀(ay:Int)(da:Option Addr)(az a0:Nat)(db:Option Addr)(a1 a2:Nat) (fg
 : Mem),Mem.le ff fg->R_11 (agg (Array.mk [int i64 ay,slice da az a0,slice db a1 a2])) fg []->∃(R_12:RT),R_12=f 21 [int i64 0,int i64 0,int i64 (-1:Int),int i64 (-1:Int)] fg/\CX Tryz.prog 16 (Array.mk
 [int i64 0,int i64 0,int i64 (-1:Int),int i64 (-1:Int)]) fg [] R_12/\Zal (Shape.agg [Shape.int i64,Shape.int i64,Shape.int i64,Shape.int i64,Shape.int i64]) R_12/\∀(a3 a4 a5 a6 a7:Int)(fh:Mem),
 Mem.le fg fh->R_12 (agg (Array.mk [int i64 a3,int i64 a4,int i64 a5,int i64 a6,int i64 a7])) fh []->∃(R_13:RT),R_13=f 24 [agg (Array.mk Zfq)] fh/\CX Tryz.prog 17 (Array.mk [agg (Array.mk
 Zfq)]) fh [] R_13/\Zal (Shape.agg [Shape.int i64,Shape.slice,Shape.slice]) R_13/\∀(a8:Int)(dc:Option Addr)(a9 ba:Nat)(dd:Option Addr)(bb bc:Nat)(fi:Mem),Mem.le fh fi->R_13 (agg
 (Array.mk [int i64 a8,slice dc a9 ba,slice dd bb bc])) fi []->∃(R_14:RT),R_14=f 26 [int i64 0,int i64 0,int i64 (-1:Int),int i64 (-1:Int)] fi/\CX Tryz.prog 16 (Array.mk [int i64 0,int i64 0,int i64
 (-1:Int),int i64 (-1:Int)]) fi [] R_14/\Zal (Shape.agg [Shape.int i64,Shape.int i64,Shape.int i64,Shape.int i64,Shape.int i64]) R_14/\∀(bd be bf bg bh:Int)(fj:Mem),Mem.le fi fj->R_14 (agg (Array.mk
 [int i64 bd,int i64 be,int i64 bf,int i64 bg,int i64 bh])) fj []->∃(R_15:RT),R_15=f 30 [agg (Array.mk (ZcA b))] fj/\CX Tryz.prog 17 (Array.mk [agg (Array.mk (ZcA b))]) fj [] R_15/\Zal
 (Shape.agg [Shape.int i64,Shape.slice,Shape.slice]) R_15/\∀(bi:Int)(de:Option Addr)(bj df:Nat)(dg:Option Addr)(bk dh:Nat)(fk:Mem),Mem.le fj fk->R_15 (agg (Array.mk [int i64 bi,slice de bj df,
 slice dg bk dh])) fk []->∃(R_16:RT),R_16=f 32 [int i64 0,int i64 0,int i64 0,int i64 (-1:Int)] fk/\CX Tryz.prog 16 (Array.mk [int i64 0,int i64 0,int i64 0,int i64 (-1:Int)]) fk [] R_16/\Zal
 (Shape.agg [Shape.int i64,Shape.int i64,Shape.int i64,Shape.int i64,Shape.int i64]) R_16/\∀(bl bm bn bo bp:Int)(fl:Mem),Mem.le fk fl->R_16 (agg (Array.mk [int i64 bl,int i64 bm,int i64 bn,int i64 bo,int
 i64 bp])) fl []->∃(R_17:RT),R_17=f 36 [agg (Array.mk (ZcA en))] fl/\CX Tryz.prog 17 (Array.mk [agg (Array.mk (ZcA en))]) fl [] R_17/\Zal (Shape.agg [Shape.int i64,Shape.slice,
 Shape.slice]) R_17/\∀(bq:Int)(di:Option Addr)(bs dj:Nat)(dk:Option Addr)(bt dl:Nat)(fm:Mem),Mem.le fl fm->R_17 (agg (Array.mk [int i64 bq,slice di bs dj,slice dk bt dl])) fm []->∃(R_18:RT),
 R_18=f 38 [int i64 0,int i64 0,int i64 0,int i64 (-1:Int)] fm/\CX Tryz.prog 16 (Array.mk [int i64 0,int i64 0,int i64 0,int i64 (-1:Int)]) fm [] R_18/\Zal (Shape.agg [Shape.int i64,Shape.int i64,
 Shape.int i64,Shape.int i64,Shape.int i64]) R_18/\∀(bu bv bw bx bz:Int)(fn:Mem),Mem.le fm fn->R_18 (agg (Array.mk [int i64 bu,int i64 bv,int i64 bw,int i64 bx,int i64 bz])) fn []->∃(R_19:RT),R_19=f
 42 [int i64 1,int i64 (-1:Int),int i64 (-1:Int),int i64 (-1:Int)] fn/\CX Tryz.prog 16 (Array.mk [int i64 1,int i64 (-1:Int),int i64 (-1:Int),int i64 (-1:Int)]) fn [] R_19/\Zal (Shape.agg [Shape.int
 i64,Shape.int i64,Shape.int i64,Shape.int i64,Shape.int i64]) R_19/\∀(ca cb cc cd cg:Int)(fo:Mem),Mem.le fn fo->R_19 (agg (Array.mk [int i64 ca,int i64 cb,int i64 cc,int i64 cd,int i64 cg])) fo []->∃
 (R_20:RT),R_20=f 46 [int i64 (-1:Int),int i64 (-1:Int),int i64 (-1:Int),int i64 (-1:Int)] fo/\CX Tryz.prog 16 (Array.mk [int i64 (-1:Int),int i64 (-1:Int),int i64 (-1:Int),int i64 (-1:Int)])
 fo [] R_20/\Zal (Shape.agg [Shape.int i64,Shape.int i64,Shape.int i64,Shape.int i64,Shape.int i64]) R_20/\∀(cj ck cl cm cn:Int)(fp:Mem),Mem.le fo fp->R_20 (agg (Array.mk [int i64 cj,int i64 ck,int i64
 cl,int i64 cm,int i64 cn])) fp []->∃(R_21:RT),R_21=f 50 [int i64 (-1:Int),int i64 (-1:Int),int i64 (-1:Int),int i64 (-1:Int)] fp/\CX Tryz.prog 16 (Array.mk [int i64 (-1:Int),int i64 (-1:Int),
 int i64 (-1:Int),int i64 (-1:Int)]) fp [] R_21/\Zal (Shape.agg [Shape.int i64,Shape.int i64,Shape.int i64,Shape.int i64,Shape.int i64]) R_21/\∀(dm dn dp dq dr:Int)(f1:Mem),Mem.le fp f1->R_21 (agg
 (Array.mk [int i64 dm,int i64 dn,int i64 dp,int i64 dq,int i64 dr])) f1 []->∀(e7:Nat),Mem.free ce e7->∀(V:Mem),Mem.le ce V->Mem.le f1 V->Mem.le (Mem.add ce e7 [int i64 0]) V->∃(R_22:RT),R_22=f 53
 [slice (some (Addr.mk e7 0 none)) 1 1] V/\CX Tryz.prog 19 (Array.mk [slice (some (Addr.mk e7 0 none)) 1 1]) V [] R_22/\Zal Shape.slice R_22/\∀(f7:Option Addr)(f8 f9:Nat)(fq:Mem),Mem.le V fq->R_22 (slice
 f7 f8 f9) fq []->∃(R_23:RT),R_23=f 55 [agg (Array.mk (Zfr f7 f8 f9))] fq/\CX Tryz.prog 17 (Array.mk [agg (Array.mk (Zfr f7 f8 f9))]) fq [] R_23/\Zal (Shape.agg [Shape.int i64,
 Shape.slice,Shape.slice]) R_23/\∀(ds:Int)(dt:Option Addr)(du dv:Nat)(dw:Option Addr)(dx dy:Nat)(fr:Mem),Mem.le fq fr->R_23 (agg (Array.mk [int i64 ds,slice dt du dv,slice dw dx dy])) fr []->∃
 (R_24:RT),R_24=f 57 [int i64 0,int i64 0,int i64 0,int i64 0] fr/\CX Tryz.prog 16 (Array.mk [int i64 0,int i64 0,int i64 0,int i64 0]) fr [] R_24/\Zal (Shape.agg [Shape.int i64,Shape.int i64,Shape.int
 i64,Shape.int i64,Shape.int i64]) R_24/\∀(dz d0 d1 d2 d3:Int)(ft:Mem),Mem.le fr ft->R_24 (agg (Array.mk [int i64 dz,int i64 d0,int i64 d1,int i64 d2,int i64 d3])) ft []->∀(fs:Nat),Mem.free ft fs->∀
 (M:Mem),Mem.le ce M->Mem.le m' M->Mem.le (Mem.add ce cv [int i64 1,int i64 2]) M->Mem.le fa M->Mem.le fb M->Mem.le fc M->Mem.le fz M->Mem.le (Mem.add ce ep [int i64 1,int i64 0]) M->Mem.le fd M->Mem.le fe
 M->Mem.le f0 M->Mem.le (Mem.add ce eq [int i64 0]) M->Mem.le ff M->Mem.le fg M->Mem.le fh M->Mem.le fi M->Mem.le fj M->Mem.le fk M->Mem.le fl M->Mem.le fm M->Mem.le fn M->Mem.le fo M->Mem.le fp M->Mem.le
 f1 M->Mem.le (Mem.add ce e7 [int i64 0]) M->Mem.le fq M->Mem.le fr M->Mem.le ft M->Mem.le (Mem.add ft fs (ZaA n a ab c aa a' c' ac cw ad ae cx af ag ah ai aj ak al am cy an ao cz ap aq ar au av aw ax ay
 da az a0 db a1 a2 a3 a4 a5 a6 a7 a8 dc a9 ba dd bb bc bd be bf bg bh bi de bj df dg bk dh bl bm bn bo bp bq di bs dj dk bt dl bu bv bw bx bz ca cb cc cd cg cj ck cl cm cn dm dn dp dq dr ds dt du dv dw dx dy dz d0 d1 d2
 d3)) M->∃(I:IT),(∃(n:Nat),I [int i64 0] [] [] M n)/\∀(co:Int)(m':Mem)(gd:Nat),Mem.le M m'->I [int i64 co] [] [] m' gd->br (decide (co < (↑(10:Nat):Int))) (Zai co 10/\chk (Nat.ble
 (Int.toNat co*9) (2+1+1+1+1+1+1+1+1+1+1+1+1+1+1+1+1+1+1+1+1+1+1+1+1+1+1+1+1+1+1+1+1+1+1+1+1+1+1+1+1+1+1+1+1+1+1+1+1+1 +
 1+1+1+1+1+1+1+1+1+1+1+1+1+1+1+1+1+1+1+1+1+1+1+1+1+1+1+1+1+1)) (∀(ga:Nat),chk (Nat.beq (List.length (List.take 9 (List.drop (Int.toNat co*9) (ZaA
 n a ab c aa a' c' ac cw ad ae cx af ag ah ai aj ak al am cy an ao cz ap aq ar au av aw ax ay da az a0 db a1 a2 a3 a4 a5 a6 a7 a8 dc a9 ba dd bb bc bd be bf bg bh bi de bj df dg bk dh bl bm bn bo bp bq di bs dj dk bt dl
 bu bv bw bx bz ca cb cc cd cg cj ck cl cm cn dm dn dp dq dr ds dt du dv dw dx dy dz d0 d1 d2 d3)))) 9&&Zhh (List.take 9 (List.drop (Int.toNat co*9) (ZaA n a ab c aa a' c' ac cw ad ae cx af ag ah ai aj
 ak al am cy an ao cz ap aq ar au av aw ax ay da az a0 db a1 a2 a3 a4 a5 a6 a7 a8 dc a9 ba dd bb bc bd be bf bg bh bi de bj df dg bk dh bl bm bn bo bp bq di bs dj dk bt dl bu bv bw bx bz ca cb cc cd cg cj ck cl cm cn dm
 dn dp dq dr ds dt du dv dw dx dy dz d0 d1 d2 d3)))) (chk (Nat.ble 3 (List.length (List.take 9 (List.drop (Int.toNat co*9) (ZaA n a ab c aa a' c' ac cw ad ae cx af ag ah ai aj ak al am cy an ao cz ap aq ar
 au av aw ax ay da az a0 db a1 a2 a3 a4 a5 a6 a7 a8 dc a9 ba dd bb bc bd be bf bg bh bi de bj df dg bk dh bl bm bn bo bp bq di bs dj dk bt dl bu bv bw bx bz ca cb cc cd cg cj ck cl cm cn dm dn dp dq dr ds dt du dv dw dx
 dy dz d0 d1 d2 d3))))) (∃(R_25:RT),True/\CX Tryz.prog 13 (Array.mk [agg (Array.mk (List.take 3 (List.take 9 (List.drop (Int.toNat co*9) (ZaA n a ab c aa a' c' ac cw ad ae cx af ag ah ai aj ak al am cy
 an ao cz ap aq ar au av aw ax ay da az a0 db a1 a2 a3 a4 a5 a6 a7 a8 dc a9 ba dd bb bc bd be bf bg bh bi de bj df dg bk dh bl bm bn bo bp bq di bs dj dk bt dl bu bv bw bx bz ca cb cc cd cg cj ck cl cm cn dm dn dp dq dr
 ds dt du dv dw dx dy dz d0 d1 d2 d3)))))]) m' [] R_25/\Zal (Shape.tup [Shape.agg [Shape.int i64,Shape.int i64,Shape.int i64,Shape.int i64,Shape.int i64],Shape.int i64]) R_25/\∀(fu fv fw fx fy gb:Int) (er:
 Mem),Mem.le m' er->R_25 (tuple (Array.mk [agg (Array.mk [int i64 fu,int i64 fv,int i64 fw,int i64 fx,int i64 fy]),int i64 gb])) er []->∀(gc:Nat),∃(f2:Bool),chk (Nat.ble 8 (List.length (List.take 9
 (List.drop (Int.toNat co*9) (ZaA n a ab c aa a' c' ac cw ad ae cx af ag ah ai aj ak al am cy an ao cz ap aq ar au av aw ax ay da az a0 db a1 a2 a3 a4 a5 a6 a7 a8 dc a9 ba dd bb bc bd be bf bg bh bi de bj df
 dg bk dh bl bm bn bo bp bq di bs dj dk bt dl bu bv bw bx bz ca cb cc cd cg cj ck cl cm cn dm dn dp dq dr ds dt du dv dw dx dy dz d0 d1 d2 d3))))) (∃(ge:Bool),EqIs Tryz.prog 34 (agg (Array.mk [int i64 fu,int i64 fv,
 int i64 fw,int i64 fx,int i64 fy])) (agg (Array.mk (List.take 5 (List.drop 3 (List.take 9 (List.drop (Int.toNat co*9) (ZaA n a ab c aa a' c' ac cw ad ae cx af ag ah ai aj ak al am cy an ao cz ap aq ar au
 av aw ax ay da az a0 db a1 a2 a3 a4 a5 a6 a7 a8 dc a9 ba dd bb bc bd be bf bg bh bi de bj df dg bk dh bl bm bn bo bp bq di bs dj dk bt dl bu bv bw bx bz ca cb cc cd cg cj ck cl cm cn dm dn dp dq dr ds dt du dv dw dx dy
 dz d0 d1 d2 d3))))))) ge/\br (!ge) (Zsf (Zc9 b cf en n a ab c aa e8 eo a' c' cv ac cw ad ae cx af ag ah ai aj ak al ep am cy an ao cz ap aq ar au av aw ax eq ay da az a0 db a1 a2 a3 a4 a5 a6 a7 a8 dc a9
 ba dd bb bc bd be bf bg bh bi de bj df dg bk dh bl bm bn bo bp bq di bs dj dk bt dl bu bv bw bx bz ca cb cc cd cg cj ck cl cm cn dm dn dp dq dr e7 ds dt du dv dw dx dy dz d0 d1 d2 d3 fs co ga fu fv fw fx fy gc)/\[some
 (Tok.mk (slice a' (aa+1) c') 2)]=[some (Tok.mk (slice a' (aa+1) c') 2)]/\[bool true]=[bool f2]) (Eng.ZsZ (List.take 9 (List.drop (Int.toNat co*9) (ZaA n a ab c aa a' c' ac cw ad ae cx af ag ah ai
 aj ak al am cy an ao cz ap aq ar au av aw ax ay da az a0 db a1 a2 a3 a4 a5 a6 a7 a8 dc a9 ba dd bb bc bd be bf bg bh bi de bj df dg bk dh bl bm bn bo bp bq di bs dj dk bt dl bu bv bw bx bz ca cb cc cd cg cj ck cl cm cn
 dm dn dp dq dr ds dt du dv dw dx dy dz d0 d1 d2 d3))) 8 λ(v:Value)=>chk (Za3 i64 v) (br (!gb == RowKit.intOf v) (Zsf (Zc9 b cf en n a ab c aa e8 eo a' c' cv ac cw ad ae cx af ag ah ai aj ak al ep
 am cy an ao cz ap aq ar au av aw ax eq ay da az a0 db a1 a2 a3 a4 a5 a6 a7 a8 dc a9 ba dd bb bc bd be bf bg bh bi de bj df dg bk dh bl bm bn bo bp bq di bs dj dk bt dl bu bv bw bx bz ca cb cc cd cg cj ck cl cm cn dm dn
 dp dq dr e7 ds dt du dv dw dx dy dz d0 d1 d2 d3 fs co ga fu fv fw fx fy gc)/\[some (Tok.mk (slice a' (aa+1) c') 2)]=[some (Tok.mk (slice a' (aa+1) c') 2)]/\[bool true]=[bool f2]) (chk (Nat.ble 3 (List.length
 (List.take 9 (List.drop (Int.toNat co*9) (ZaA n a ab c aa a' c' ac cw ad ae cx af ag ah ai aj ak al am cy an ao cz ap aq ar au av aw ax ay da az a0 db a1 a2 a3 a4 a5 a6 a7 a8 dc a9 ba dd bb bc bd be bf bg
 bh bi de bj df dg bk dh bl bm bn bo bp bq di bs dj dk bt dl bu bv bw bx bz ca cb cc cd cg cj ck cl cm cn dm dn dp dq dr ds dt du dv dw dx dy dz d0 d1 d2 d3))))) (∃(R:RT),True/\CX Tryz.prog 14 (Array.mk [agg
 (Array.mk (List.take 3 (List.take 9 (List.drop (Int.toNat co*9) (ZaA n a ab c aa a' c' ac cw ad ae cx af ag ah ai aj ak al am cy an ao cz ap aq ar au av aw ax ay da az a0 db a1 a2 a3 a4 a5 a6 a7 a8 dc a9 ba
 dd bb bc bd be bf bg bh bi de bj df dg bk dh bl bm bn bo bp bq di bs dj dk bt dl bu bv bw bx bz ca cb cc cd cg cj ck cl cm cn dm dn dp dq dr ds dt du dv dw dx dy dz d0 d1 d2 d3)))))]) er [] R/\Zal Shape.bool R/\∀(gf
 : Bool) (m':Mem),Mem.le er m'->R (bool gf) m' []->Zsf (Zc9 b cf en n a ab c aa e8 eo a' c' cv ac cw ad ae cx af ag ah ai aj ak al ep am cy an ao cz ap aq ar au av aw ax eq ay da az a0 db a1 a2 a3 a4
 a5 a6 a7 a8 dc a9 ba dd bb bc bd be bf bg bh bi de bj df dg bk dh bl bm bn bo bp bq di bs dj dk bt dl bu bv bw bx bz ca cb cc cd cg cj ck cl cm cn dm dn dp dq dr e7 ds dt du dv dw dx dy dz d0 d1 d2 d3 fs co ga fu fv fw
 fx fy gc)/\[some (Tok.mk (slice a' (aa+1) c') 2)]=[some (Tok.mk (slice a' (aa+1) c') 2)]/\[bool !gf == (gb == (0:Int))]=[bool f2])))))/\br f2 (∃(m'':Mem),Mem.le m m''/\Mem.le m'' er/\R (bool false)
 m'' []) (Zsf (ZhT b cf en n a ab c aa e8 eo a' c' cv ac cw ad ae cx af ag ah ai aj ak al ep am cy an ao cz ap aq ar au av aw ax eq ay da az a0 db a1 a2 a3 a4 a5 a6 a7 a8 dc a9 ba dd bb bc bd be bf bg bh
 bi de bj df dg bk dh bl bm bn bo bp bq di bs dj dk bt dl bu bv bw bx bz ca cb cc cd cg cj ck cl cm cn dm dn dp dq dr e7 ds dt du dv dw dx dy dz d0 d1 d2 d3 fs)/\[some (Tok.mk (slice a' (aa+1) c') 2)]=[some (Tok.mk
 (slice a' (aa+1) c') 2)]/\∃(n':Nat),n' < gd/\I [int i64 (IntKind.wrap i64 (co+(1:Int)))] [] [] er n'))))) (∃(R_25:RT),True/\CX Tryz.prog 15 (Array.mk [int i64 306]) m' [] R_25/\Zal Shape.str R_25/\∀
 (s:ByteArray) (er:Mem),Mem.le m' er->R_25 (string s) er []->∃(m'':Mem),Mem.le m m''/\Mem.le m'' er/\R (bool (ByteArray.toList s == ByteArray.toList (ByteArray.mk (Array.mk [(101:UInt8),(110:UInt8),
 (100:UInt8)])))) m'' [])
theorem Zjg  (m:Mem)(R:RT)(h:Zft  m R):CX Tryz.prog 6 #[] m [] R:=
 Zad (E:=Zk3) Zaj mix Tryz.func6 [] [] (by kernel_rfl) (Eq.mp (by kernel_rfl) h)
end Go.Proofs.YtiadlgdcbpnmkaaGreatDoor