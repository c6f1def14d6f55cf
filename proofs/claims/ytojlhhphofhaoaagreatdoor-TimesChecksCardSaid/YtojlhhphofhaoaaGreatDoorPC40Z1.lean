/- Part of the proof: functions of the program. No condition. -/
import Derived.Test.YtojlhhphofhaoaaGreatDoorPEnv
import Derived.Test.YtojlhhphofhaoaaGreatDoorPC40C
import Derived.Test.YtojlhhphofhaoaaGreatDoorMc
import Derived.Test.YtojlhhphofhaoaaGreatDoorRows
import Derived.Test.YtojlhhphofhaoaaGreatDoorPC25MD
import Derived.Deep.Slices
import Derived.Laws.IdiomArrays
import Derived.SizedLaws
import Derived.Test.YtojlhhphofhaoaaGreatDoorCards
import Derived.Test.YtojlhhphofhaoaaGreatDoorTie
import Derived.LaidMore
import Derived.Lay
import Derived.SevenTiedAt
import Derived.OpenShut
import Derived.ProofKit
import Derived.Carry
set_option linter.unusedVariables false
set_option linter.unusedSimpArgs false
set_option linter.unusedSectionVars false
namespace Go.Proofs.YtojlhhphofhaoaaGreatDoor
open Go Go.Eng Go.Proofs Go.RowKit
open Go.Value (int slice agg bool string tuple func)
open Go.IntKind (u8 u64 i64)
set_option maxRecDepth 100000
noncomputable def ZeC:Env:={ EB with
 loops:=(λi=>bif Nat.beq i 9 then⟨[(10,.slice),(40,.int .i64)],[],[(60,2)],false⟩ else bif Nat.beq i 18 then⟨[(77,.int .i64)],[],[],false⟩ else bif Nat.beq i 21 then⟨[(85,.int .i64)],[],[],false⟩ else bif Nat.beq i 33 then⟨[(139,.int .i64)],[],[],false⟩ else⟨[],[],[],false⟩)
 joins:=(λi=>bif Nat.beq i 11 then some [(56,.bool)]else bif Nat.beq i 15 then some [(73,.bool)]else bif Nat.beq i 25 then some [(106,.bool)]else bif Nat.beq i 28 then some [(119,.bool)]else bif Nat.beq i 36 then some [(154,.bool)]else none)
 tokOf:=(λi=>bif Nat.beq i 60 then 60 else 0)
 frzNew:=[3] }
abbrev Zcu:Int->Option Addr->Nat->Nat->Option Addr->Nat->Nat->Nat->Int->Option Addr->Nat->Nat->Option Addr->Nat->Nat->Nat->Value->Value->Nat->List (Option Box):=λ(aA:Int)
 (aH:Option Addr) (aG aI:Nat) (aJ:Option Addr) (aE aK b:Nat) (n:Int) (a:Option Addr) (ab c:Nat) (ac:Option Addr) (aa ad al:Nat) (v aj:Value) (ah:Nat)=>[some (Box.mk ah [v,aj] 37
 2 false true),some (Box.mk al [int i64 n,slice a ab c,slice ac aa ad] 30 3 false true),some (Box.mk b [int u8 aA,slice aH aG aI,slice aJ aE aK] 25 3 true true)]
abbrev ZaX:Int->Option Addr->Nat->Nat->Option Addr->Nat->Nat->Nat->Int->Option Addr->Nat->Nat->Option Addr->Nat->Nat->Nat->List (Option Box):=λ(aA:Int)(aH:Option Addr)
 (aG aI:Nat) (aJ:Option Addr) (aE aK b:Nat) (n:Int) (a:Option Addr) (ab c:Nat) (ac:Option Addr) (aa ad al:Nat)=>[some (Box.mk al [int i64 n,slice a ab c,slice ac aa ad] 30 3 false
 true),some (Box.mk b [int u8 aA,slice aH aG aI,slice aJ aE aK] 25 3 true true)]
abbrev Zcv:Int->Option Addr->Nat->Nat->Option Addr->Nat->Nat->Nat->Int->Option Addr->Nat->Nat->Option Addr->Nat->Nat->Nat->Int->Value->Value->Nat->Int->Nat->Nat->List (Option
 Box):=λ(aA:Int)(aH:Option Addr)(aG aI:Nat)(aJ:Option Addr)(aE aK b:Nat)(n:Int)(a:Option Addr)(ab c:Nat)(ac:Option Addr)(aa ad al:Nat)(ao:Int)(v aj:Value) (ah:
 Nat) (ax:Int) (au aq:Nat)=>[some (Box.mk aq [int i64 ao,int i64 ax] 37 2 true true),some (Box.mk au [int i64 ao,int i64 ax] 37 2 false true),some (Box.mk ah [v,aj] 42 2 false true),some (Box.mk al [int i64
 n,slice a ab c,slice ac aa ad] 30 3 false true),some (Box.mk b [int u8 aA,slice aH aG aI,slice aJ aE aK] 25 3 true true)]
abbrev ZdX:Int->Int->Nat->Option Box:=λ(n ab:Int)(b:Nat)=>some (Box.mk b [int i64 n,int i64 ab,int i64 n,int i64 ab] 37 4 true true)
abbrev Zcw:Int->Option Addr->Nat->Nat->Option Addr->Nat->Nat->Nat->Int->Option Addr->Nat->Nat->Option Addr->Nat->Nat->Nat->Int->Value->Value->Nat->Int->Nat->Nat->Nat->List
 (Option Box):=λ(aA:Int)(aH:Option Addr)(aG aI:Nat)(aJ:Option Addr)(aE aK b:Nat)(n:Int)(a:Option Addr)(ab c:Nat)(ac:Option Addr)(aa ad al:Nat)(ao:Int) (v aj:
 Value) (ah:Nat) (ax:Int) (au aq an:Nat)=>[ZdX ao ax an,some (Box.mk aq [int i64 ao,int i64 ax] 37 2 true true),some (Box.mk au [int i64 ao,int i64 ax] 37 2 false true),some (Box.mk ah [v,
 aj] 42 2 false true),some (Box.mk al [int i64 n,slice a ab c,slice ac aa ad] 30 3 false true),some (Box.mk b [int u8 aA,slice aH aG aI,slice aJ aE aK] 25 3 true true)]
abbrev ZdY:Int->Option Addr->Nat->Nat->Option Addr->Nat->Nat->Nat->Int->Option Addr->Nat->Nat->Option Addr->Nat->Nat->Nat->Value->Value->Nat->List (Option Box):=λ(aA:Int)
 (aH:Option Addr) (aG aI:Nat) (aJ:Option Addr) (aE aK b:Nat) (n:Int) (a:Option Addr) (ab c:Nat) (ac:Option Addr) (aa ad al:Nat) (v aj:Value) (ah:Nat)=>[some (Box.mk ah [v,aj] 42
 2 false true),some (Box.mk al [int i64 n,slice a ab c,slice ac aa ad] 30 3 false true),some (Box.mk b [int u8 aA,slice aH aG aI,slice aJ aE aK] 25 3 true true)]
abbrev ZdZ:Int->Nat->Int->Nat->Option Box:=λ(p2:Int)(n:Nat)(ab:Int)(b:Nat)=>some (Box.mk b (List.append (List.take 2 (List.drop (Int.toNat ab*2) [int i64 (if(-1:Int) < p2
 then(-1:Int)else p2),int i64 0,int i64 (if(↑n:Int) > p2 then(↑n:Int)else p2),int i64 0,int i64 0,int i64 (if(-1:Int) < p2 then(-1:Int)else p2),int i64 0,int i64 (if(20:Int) > p2 then(20:
 Int)else p2)])) []) 37 2 true true)
abbrev Zd0:Int->Nat->Int->Nat->Option Box:=λ(p2:Int)(n:Nat)(ab:Int)(b:Nat)=>some (Box.mk b (List.take 2 (List.drop (Int.toNat ab*2) [int i64 (if(-1:Int) < p2 then(-1:Int)
 else p2),int i64 0,int i64 (if(↑n:Int) > p2 then(↑n:Int)else p2),int i64 0,int i64 0,int i64 (if(-1:Int) < p2 then(-1:Int)else p2),int i64 0,int i64 (if(20:Int) > p2 then(20:Int)else p2)]))
 37 2 false true)
abbrev Zcx:Int->Nat->Nat->Option Box:=λ(p2:Int)(n b:Nat)=>some (Box.mk b [int i64 (if(-1:Int) < p2 then(-1:Int)else p2),int i64 0,int i64 (if(↑n:Int) > p2 then(↑n:Int)
 else p2),int i64 0,int i64 0,int i64 (if(-1:Int) < p2 then(-1:Int)else p2),int i64 0,int i64 (if(20:Int) > p2 then(20:Int)else p2)] 37 8 true true)
abbrev Zcy:Int->Option Addr->Nat->Nat->Option Addr->Nat->Nat->Int->Nat->Int->Option Addr->Nat->Nat->Option Addr->Nat->Nat->Nat->Nat->Int->Nat->Nat->List (Option Box):=λ(aA
 : Int) (aH:Option Addr) (aG aI:Nat) (aJ:Option Addr) (aE aK:Nat) (p2:Int) (b:Nat) (n:Int) (a:Option Addr) (ab c:Nat) (ac:Option Addr) (aa ad al ah:Nat) (ao:Int) (au aq:Nat)=>
 [ZdZ p2 aa ao aq,Zd0 p2 aa ao au,Zcx p2 aa ah,some (Box.mk al [int i64 n,slice a ab c,slice ac aa ad] 30 3 false true),some (Box.mk b [int u8 aA,slice aH
 aG aI,slice aJ aE aK] 25 3 true true)]
abbrev ZdK:Int->Option Addr->Nat->Nat->Option Addr->Nat->Nat->Int->Nat->Int->Option Addr->Nat->Nat->Option Addr->Nat->Nat->Nat->Nat->List (Option Box):=λ(aA:Int) (aH:
 Option Addr) (aG aI:Nat) (aJ:Option Addr) (aE aK:Nat) (p2:Int) (b:Nat) (n:Int) (a:Option Addr) (ab c:Nat) (ac:Option Addr) (aa ad al ah:Nat)=>[Zcx p2 aa ah,some
 (Box.mk al [int i64 n,slice a ab c,slice ac aa ad] 30 3 false true),some (Box.mk b [int u8 aA,slice aH aG aI,slice aJ aE aK] 25 3 true true)]
theorem Zd1(aA:Int)(aH:Option Addr)(aG aI:Nat)(aJ:Option Addr)(aE aK:Nat)(p1a:Option Addr)(p1n p1c:Nat)(p2:Int)(m:Mem)(R:RT)(h:
 ∀(b:Nat)(m':Mem),Mem.le m m'->Mem.reads m' b 0 [int u8 aA,slice aH aG aI,slice aJ aE aK]->∃(R_1:RT),True/\CX Tryz.prog 8 (Array.mk []) m' [] R_1/\Zap Shape.bool R_1/\∀(al:Bool)
 (a5:Mem),Mem.le m' a5->R_1 (bool al) a5 []->br (!al) (∃(m'':Mem),Mem.le m m''/\Mem.le m'' a5/\R (bool false) m'' []) (∃(R_2:RT),True/\CX Tryz.prog 9 (Array.mk [agg (Array.mk [int u8 aA,slice aH
 aG aI,slice aJ aE aK])]) a5 [] R_2/\Zap (Shape.agg [Shape.int i64,Shape.slice,Shape.slice]) R_2/\∀(n:Int)(a:Option Addr)(ab c:Nat)(ac:Option Addr)(aa ad:Nat)(m':Mem),Mem.le a5 m'
 -> R_2 (agg (Array.mk [int i64 n,slice a ab c,slice ac aa ad])) m' []->∀(ah:Nat),∃(R_3:RT),True/\CX Tryz.prog 10 (Array.mk [agg (Array.mk [int i64 n,slice a ab c,slice ac aa ad])]) m' [] R_3/\Zap
 (Shape.tup [Shape.slice,Shape.int i64]) R_3/\∀(a9:Option Addr)(ao bf:Nat)(ax:Int)(a6:Mem),Mem.le m' a6->R_3 (tuple (Array.mk [slice a9 ao bf,int i64 ax])) a6 []->br (!ax == (0:Int)) (∃(m'':Mem),
 Mem.le m m''/\Mem.le m'' a6/\R (bool false) m'' []) (∃(I:IT),(∃(n:Nat),I [slice none 0 0,int i64 0] [] [slice none 0 0] a6 n)/\∀(a2:Option Addr)(ar a3:Nat)(ay:Int)(ae:Option Addr)(af ag:Nat)
 (m':Mem) (ba:Nat),Mem.le a6 m'->I [slice a2 ar a3,int i64 ay] [] [slice ae af ag] m' ba->br (decide (ay < (↑ao:Int))) (∃(au:Nat),∃(o:Nat),a9=some (Addr.mk au o none)/\Zaf ay ao/\∃(v:Value),
 ∃(aj:Value),Mem.reads m' au (o+Int.toNat ay*2) [v,aj]/\∀(aq:Nat),chk (Value.oneCell' v&&(Value.oneCell' aj&&true)) (∃(an:Bool),br (decide (ay ≥ (↑p1n:Int))) (Zax (Zcu aA
 aH aG aI aJ aE aK b n a ab c ac aa ad ah v aj aq)/\[some (Tok.mk (slice ae af ag) 2)]=[some (Tok.mk (slice ae af ag) 2)]/\[bool true]=[bool an]) (∃(ak:Nat),∃(o:Nat),p1a=some (Addr.mk ak
 o none)/\Zaf ay p1n/\∃(bb:Value),m' ak (o+Int.toNat ay*1)=some bb/\chk (ZaS u8 bb&&decide (u8=u8)) ((2:Int)≠(0:Int)/\Zax (Zcu aA aH aG aI aJ aE aK b
 n a ab c ac aa ad ah v aj aq)/\[some (Tok.mk (slice ae af ag) 2)]=[some (Tok.mk (slice ae af ag) 2)]/\[bool (Int.tmod (RowKit.intOf bb) (2:Int) == (0:Int))]=[bool an]))/\br an (∀(ak:Nat),Mem.free m' ak->
 (Tok.mk (slice ae af ag) 2=Tok.mk (slice a2 ar a3) 2\/slice a2 ar a3=slice none 0 0\/a3 < ar+1)/\∃(xs:List Value),∃(ys:List Value),List.length xs=ar*2/\List.length ys=1*2/\rowRd (Mem.add m' ak
 [v,aj]) a2 xs/\rowRd (Mem.add m' ak [v,aj]) (some (Addr.mk ak 0 none)) ys/\(∀(u:Value),u∈ys->Value.oneCell' u=true)/\(ar+1)*16<=140737488355328/\ar+1<=9223372036854775807/\∀(a':Option Addr)
 (c':Nat) (az:Mem),Mem.le (Mem.add m' ak [v,aj]) az->rowRd az a' (List.append xs ys)->Zax (ZaX aA aH aG aI aJ aE aK b n a ab c ac aa ad ah)/\∃(n':Nat),n' < ba/\I
 [slice a' (ar+1) c',int i64 (IntKind.wrap i64 (ay+(1:Int)))] [] [slice a' (ar+1) c'] az n') (Zax (ZaX aA aH aG aI aJ aE aK b n a ab c ac aa ad ah)/\∃(n':Nat),n' < ba
 /\ I [slice a2 ar a3,int i64 (IntKind.wrap i64 (ay+(1:Int)))] [] [slice ae af ag] m' n'))) (∃(R_4:RT),True/\CX Tryz.prog 11 (Array.mk [agg (Array.mk [int i64 n,slice a ab c,slice ac aa ad]),slice a2 ar a3])
 m' [] R_4/\Zap (Shape.tup [Shape.bool,Shape.int i64]) R_4/\∀(au:Bool)(bg:Int)(az:Mem),Mem.le m' az->R_4 (tuple (Array.mk [bool au,int i64 bg])) az []->∃(aq:Bool),br (!au) (Zax
 (ZaX aA aH aG aI aJ aE aK b n a ab c ac aa ad ah)/\[some (Tok.mk (slice ae af ag) 2)]=[some (Tok.mk (slice ae af ag) 2)]/\[bool true]=[bool aq]) (Zax (ZaX
 aA aH aG aI aJ aE aK b n a ab c ac aa ad ah)/\[some (Tok.mk (slice ae af ag) 2)]=[some (Tok.mk (slice ae af ag) 2)]/\[bool !bg == (0:Int)]=[bool aq])/\br aq (∃(m'':Mem),Mem.le m m''/\
 Mem.le m'' az/\R (bool false) m'' []) (∃(I:IT),(∃(n:Nat),I [int i64 0] [] [] az n)/\∀(am:Int)(m':Mem)(bh:Nat),Mem.le az m'->I [int i64 am] [] [] m' bh->br (decide (am < (↑aa:Int))) (∃(an:Nat),
 ∃(o:Nat),ac=some (Addr.mk an o none)/\Zaf am aa/\∃(v:Value),∃(aj:Value),Mem.reads m' an (o+Int.toNat am*2) [v,aj]/\∀(ak:Nat),chk (Value.oneCell' v&&(Value.oneCell' aj&&true)) (chk (Zbl
 aj) (∃(bc:IT),(∃(n:Nat),bc [int i64 0] [] [] m' n)/\∀(ai:Int)(ap:Mem)(a7:Nat),Mem.le m' ap->bc [int i64 ai] [] [] ap a7->br (decide (ai < (↑(slN aj):Int))) (∀(av aw:Nat),Mem.free ap aw->∃
 (R_5:RT),True/\CX Tryz.prog 11 (Array.mk [agg (Array.mk [int i64 n,slice a ab c,slice ac aa ad]),slice (some (Addr.mk aw 0 none)) 1 1]) (Mem.add ap aw [int i64 am,int i64 ai]) [] R_5/\Zap (Shape.tup
 [Shape.bool,Shape.int i64]) R_5/\∀(a4:Bool)(a8:Int)(m':Mem),Mem.le (Mem.add ap aw [int i64 am,int i64 ai]) m'->R_5 (tuple (Array.mk [bool a4,int i64 a8])) m' []->∃(bd:Bool),(∃(R:RT),True/\CX
 Tryz.prog 12 (Array.mk [slice a9 ao bf,agg (Array.mk [int i64 am,int i64 ai])]) m' [] R/\Zap Shape.bool R/\∀(a0:Bool)(a1:Mem),Mem.le m' a1->R (bool a0) a1 []->br (!a4 == a0) (Zax (Zcv
 aA aH aG aI aJ aE aK b n a ab c ac aa ad ah am v aj ak ai av aw)/\[some (Tok.mk (slice ae af ag) 2)]=[some (Tok.mk (slice ae af ag) 2)]/\[bool true]=[bool bd]) (Zax (Zcv
 aA aH aG aI aJ aE aK b n a ab c ac aa ad ah am v aj ak ai av aw)/\[some (Tok.mk (slice ae af ag) 2)]=[some (Tok.mk (slice ae af ag) 2)]/\[bool !a8 == (0:Int)]=[bool bd]))/\br bd (∃(m'':
 Mem),Mem.le m m''/\Mem.le m'' m'/\R (bool false) m'' []) (∀(a0:Nat),Mem.free m' a0->∃(R_6:RT),True/\CX Tryz.prog 11 (Array.mk [agg (Array.mk [int i64 n,slice a ab c,slice ac aa ad]),slice (some (Addr.mk
 a0 0 none)) 2 2]) (Mem.add m' a0 [int i64 am,int i64 ai,int i64 am,int i64 ai]) [] R_6/\Zap (Shape.tup [Shape.bool,Shape.int i64]) R_6/\∀(bi:Bool)(bj:Int)(a1:Mem),Mem.le (Mem.add m' a0 [int i64 am,int
 i64 ai,int i64 am,int i64 ai]) a1->R_6 (tuple (Array.mk [bool bi,int i64 bj])) a1 []->∃(be:Bool),br bi (Zax (Zcw aA aH aG aI aJ aE aK b n a ab c ac aa ad ah am v aj ak ai
 av aw a0)/\[some (Tok.mk (slice ae af ag) 2)]=[some (Tok.mk (slice ae af ag) 2)]/\[bool true]=[bool be]) (Zax (Zcw aA aH aG aI aJ aE aK b n a ab c ac aa ad ah am v aj ak ai
 av aw a0)/\[some (Tok.mk (slice ae af ag) 2)]=[some (Tok.mk (slice ae af ag) 2)]/\[bool !bj == (0:Int)]=[bool be])/\br be (∃(m'':Mem),Mem.le m m''/\Mem.le m'' a1/\R (bool false) m'' []) (Zax
 (ZdY aA aH aG aI aJ aE aK b n a ab c ac aa ad ah v aj ak)/\[some (Tok.mk (slice ae af ag) 2)]=[some (Tok.mk (slice ae af ag) 2)]/\∃(n':Nat),n' < a7/\bc [int i64
 (IntKind.wrap i64 (ai+(1:Int)))] [] [] a1 n'))) (Zax (ZaX aA aH aG aI aJ aE aK b n a ab c ac aa ad ah)/\[some (Tok.mk (slice ae af ag) 2)]=[some (Tok.mk (slice ae af ag)
 2)]/\∃(n':Nat),n' < bh/\I [int i64 (IntKind.wrap i64 (am+(1:Int)))] [] [] ap n')))) (∀(an:Nat),Mem.free m' an->∃(I:IT),(∃(n:Nat),I [int i64 0] [] [] (Mem.add m' an [int i64 (if(-1:Int) < p2
 then(-1:Int)else p2),int i64 0,int i64 (if(↑aa:Int) > p2 then(↑aa:Int)else p2),int i64 0,int i64 0,int i64 (if(-1:Int) < p2 then(-1:Int)else p2),int i64 0,int i64 (if(20:Int) > p2 then(20:
 Int)else p2)]) n)/\∀(ai:Int)(ap:Mem)(a7:Nat),Mem.le (Mem.add m' an [int i64 (if(-1:Int) < p2 then(-1:Int)else p2),int i64 0,int i64 (if(↑aa:Int) > p2 then(↑aa:Int)else p2),int i64 0,int i64
 0,int i64 (if(-1:Int) < p2 then(-1:Int)else p2),int i64 0,int i64 (if(20:Int) > p2 then(20:Int)else p2)]) ap->I [int i64 ai] [] [] ap a7->br (decide (ai < (↑(4:Nat):Int))) (Zaf ai 4/\chk
 (Nat.ble (Int.toNat ai*2) (1+1+1+1+1+1)) (∀(ak:Nat),chk (Nat.beq (List.length (List.take 2 (List.drop (Int.toNat ai*2) [int i64 (if(-1:Int) < p2 then(-1:Int)else p2),int i64 0,int i64 (if(↑aa
 : Int) > p2 then(↑aa:Int)else p2),int i64 0,int i64 0,int i64 (if(-1:Int) < p2 then(-1:Int)else p2),int i64 0,int i64 (if(20:Int) > p2 then(20:Int)else p2)]))) 2&&ZdA (List.take 2 (List.drop
 (Int.toNat ai*2) [int i64 (if(-1:Int) < p2 then(-1:Int)else p2),int i64 0,int i64 (if(↑aa:Int) > p2 then(↑aa:Int)else p2),int i64 0,int i64 0,int i64 (if(-1:Int) < p2 then(-1:Int)else p2),
 int i64 0,int i64 (if(20:Int) > p2 then(20:Int)else p2)]))) (chk (Nat.beq (List.length (List.take 2 (List.drop (Int.toNat ai*2) [int i64 (if(-1:Int) < p2 then(-1:Int)else p2),int i64 0,int i64 (if
 (↑aa:Int) > p2 then(↑aa:Int)else p2),int i64 0,int i64 0,int i64 (if(-1:Int) < p2 then(-1:Int)else p2),int i64 0,int i64 (if(20:Int) > p2 then(20:Int)else p2)]))) 2&&true) (∀(av:Nat),
 Mem.free ap av->∃(R_5:RT),True/\CX Tryz.prog 11 (Array.mk [agg (Array.mk [int i64 n,slice a ab c,slice ac aa ad]),slice (some (Addr.mk av 0 none)) 1 1]) (Mem.add ap av (List.append (List.take 2 (List.drop
 (Int.toNat ai*2) [int i64 (if(-1:Int) < p2 then(-1:Int)else p2),int i64 0,int i64 (if(↑aa:Int) > p2 then(↑aa:Int)else p2),int i64 0,int i64 0,int i64 (if(-1:Int) < p2 then(-1:Int)else p2),
 int i64 0,int i64 (if(20:Int) > p2 then(20:Int)else p2)])) [])) [] R_5/\Zap (Shape.tup [Shape.bool,Shape.int i64]) R_5/\∀(aw:Bool)(a8:Int)(m':Mem),Mem.le (Mem.add ap av (List.append (List.take 2
 (List.drop (Int.toNat ai*2) [int i64 (if(-1:Int) < p2 then(-1:Int)else p2),int i64 0,int i64 (if(↑aa:Int) > p2 then(↑aa:Int)else p2),int i64 0,int i64 0,int i64 (if(-1:Int) < p2 then(-1:Int)
 else p2),int i64 0,int i64 (if(20:Int) > p2 then(20:Int)else p2)])) [])) m'->R_5 (tuple (Array.mk [bool aw,int i64 a8])) m' []->∃(a4:Bool),br aw (Zax (Zcy aA aH aG aI aJ
 aE aK p2 b n a ab c ac aa ad ah an ai ak av)/\[some (Tok.mk (slice ae af ag) 2)]=[some (Tok.mk (slice ae af ag) 2)]/\[bool true]=[bool a4]) (Zax (Zcy aA aH aG aI aJ aE
 aK p2 b n a ab c ac aa ad ah an ai ak av)/\[some (Tok.mk (slice ae af ag) 2)]=[some (Tok.mk (slice ae af ag) 2)]/\[bool !a8 == (0:Int)]=[bool a4])/\br a4 (∃(m'':Mem),Mem.le m m''/\Mem.le m'' m'/\R
 (bool false) m'' []) (Zax (ZdK aA aH aG aI aJ aE aK p2 b n a ab c ac aa ad ah an)/\[some (Tok.mk (slice ae af ag) 2)]=[some (Tok.mk (slice ae af ag) 2)]/\∃(n':Nat),n' <
 a7/\I [int i64 (IntKind.wrap i64 (ai+(1:Int)))] [] [] m' n'))))) (∃(m'':Mem),Mem.le m m''/\Mem.le m'' ap/\R (bool true) m'' []))))))):CX Tryz.prog 3 #[.agg #[.int .u8 aA,.slice aH aG aI,.slice aJ aE aK],.slice p1a p1n p1c,.int .i64 p2] m [] R:=
 Zad (E:=ZeC) Zak mix Tryz.func3 [.v (.agg #[.int .u8 aA,.slice aH aG aI,.slice aJ aE aK]),.v (.slice p1a p1n p1c),.v (.int .i64 p2)] [] (by kernel_rfl) (Eq.mp (by kernel_rfl) h)
end Go.Proofs.YtojlhhphofhaoaaGreatDoor
namespace Go.Proofs.YtojlhhphofhaoaaGreatDoor
open Go Go.Eng Go.Rx Go.Proofs Go.RowKit
set_option maxRecDepth 100000
theorem Zyc{s:Sc}(h:MkC s):okS s=true:=by unfold okS;rw[h.check];rfl
theorem Zpz{s:Sc}(h:MkC s){d:Dd}(hd:d∈ZbH s):0<=d.1/\d.1 < s.states.length/\0<=d.2/\d.2 < 20:=by
 obtain⟨i,x,j,r,h1,h2,_,rfl⟩:=ZuL.1 hd
 have h3:=(List.getElem?_eq_some_iff.1 h1).1
 have h4:=(List.getElem?_eq_some_iff.1 h2).1
 have h5:=(h.all i x h1).len
 show 0<=(i:Int)/\(i:Int) < _/\0<=(j:Int)/\(j:Int) < 20
 omega
theorem ZzU{s:Sc}(h:MkC s)(p:Int)(i:Nat)(hi:i < 4):∃d:Dd,d ∉ ZbH s/\List.take 2 (List.drop (i*2) [Value.int .i64 (if(-1:Int) < p then(-1:Int)else p),.int .i64 0,.int .i64 (if(s.states.length:Int) > p then(s.states.length:Int)else p),.int .i64 0,.int .i64 0,.int .i64 (if(-1:Int) < p then(-1:Int)else p),.int .i64 0,.int .i64 (if(20:Int) > p then(20:Int)else p)])=dC d:=by
 have:i=0\/i=1\/i=2\/i=3:=by omega
 rcases this with rfl|rfl|rfl|rfl
 ·refine⟨(if(-1:Int) < p then(-1:Int)else p,0),λhd=>?_,rfl⟩
  have:=(Zpz h hd).1
  have:0<=(if(-1:Int) < p then(-1:Int)else p):=this
  split at this <;> omega
 ·refine⟨(if(s.states.length:Int) > p then(s.states.length:Int)else p,0),λhd=>?_,rfl⟩
  have:(if(s.states.length:Int) > p then(s.states.length:Int)else p) < s.states.length:=(Zpz h hd).2.1
  split at this <;> omega
 ·refine⟨(0,if(-1:Int) < p then(-1:Int)else p),λhd=>?_,rfl⟩
  have:0<=(if(-1:Int) < p then(-1:Int)else p):=(Zpz h hd).2.2.1
  split at this <;> omega
 ·refine⟨(0,if(20:Int) > p then(20:Int)else p),λhd=>?_,rfl⟩
  have:(if(20:Int) > p then(20:Int)else p) < 20:=(Zpz h hd).2.2.2
  split at this <;> omega
theorem Zvt{s:Sc}(h:MkC s)(n:Nat):(ZcY s n).length<=n*5:=by
 induction n with
 | zero=>simp[ZcY]
 | succ n ih=>
  rw[ZcY,List.length_append,Nat.succ_mul]
  refine Nat.add_le_add ih ?_
  split
  ·rename_i x hx
   exact Nat.le_trans (Zkq n x x.rules.length) (h.all n x hx).len
  ·simp
theorem Zvu{s:Sc}(h:MkC s):(ZbH s).length<=20:=Nat.le_trans (Zvt h s.states.length) (by have:=h.len;omega)
set_option maxHeartbeats 1000000 in
theorem Zjb(x:SScr)(pa:Option Addr)(pl:List Nat)(pc:Nat)(p:Int)(m:Mem)(hx:RepSC m x)(hp:BytU m pa pl):CX Tryz.prog 3 #[.agg x.cs.toArray,.slice pa pl.length pc,.int .i64 p] m [] (Ret (.bool true)):=by
 apply Zd1
 intro b m1 aV _
 refine Zag (ZqQ m1) λm2 bA=>Ze8 rfl ?_
 have eW:=mLt aV bA
 refine Zaj (Zw1 x m2 (hx.mono eW)) ZwZ ?_
 rintro n a n1 c a1 n2 c1 m3 bS ⟨s,hv,hr,hk⟩
 simp only[Sc.v,Value.agg.injEq,Array.mk.injEq,List.cons.injEq,Value.int.injEq,Value.slice.injEq,true_and,and_true]at hv
 obtain⟨rfl,⟨rfl,rfl,rfl⟩,rfl,rfl,rfl⟩:=hv
 have eX:=mLt eW bS
 have cW:=Zyc hk
 have bT:=Zvu hk
 have eG:=Zqv s
 have hK:=λ(l:List Dd)(a:Option Addr)(c:Nat)(M:Mem)(h:m3.le M)(hl:l.length<=1000000000000000) (hr':rowRd M a (l.map dC).flatten)=>Zpw s l a c M (hr.mono h) hl hr'
 rw[cW]at hK
 intro b2
 refine Zaj (ZnG s m3 hr) Zic λa4 n3 c2 n4 m4 cR hv=>?_
 have hv:=Zlk hv
 rw[cW]at hv
 obtain⟨rfl,rfl,tH,js⟩:=hv
 have jG:=mLt eX cR
 refine Ze8 rfl ⟨λxs _ tvs m' q=>∃(P:List Dd)(a:Option Addr)(c i:Nat),i<=(ZbH s).length/\xs=[.slice a P.length c,.int .i64 i]/\tvs=[.slice a P.length c]/\P.Sublist ((ZbH s).take i)/\rowRd m' a (P.map dC).flatten/\q=(ZbH s).length - i,⟨(ZbH s).length,[],none,0,0,by omega,rfl,rfl,by simp,.inl rfl,rfl⟩,?_⟩
 rintro a7 n5 c3 n6 a8 n7 c4 m5 q dX ⟨P,a',c',i,hi,eI,fl,dA,kL,rfl⟩
 simp only[List.cons.injEq,Value.slice.injEq,Value.int.injEq,true_and,and_true]at eI fl
 obtain⟨⟨rfl,rfl,rfl⟩,rfl⟩:=eI
 obtain⟨rfl,rfl,rfl⟩:=fl
 have nI:=mLt jG dX
 have tR:=mLt cR dX
 have wG:P.length<=20:=by
  have:=dA.length_le
  rw[List.length_take]at this;omega
 refine Zau (λbB=>?_) (λdF=>?_)
 ·obtain⟨d,hd⟩:=Zdb (show i < (ZbH s).length by omega)
  obtain⟨b3,o3,f4,oV⟩:=Zam Zlj (js.mono dX) hd (by omega)
  have hw:IntKind.i64.wrap ((i:Int)+1)=((i+1:Nat):Int):=by rw[Zal (by omega) (by omega)];rfl
  have fm:(ZbH s).take (i+1)=(ZbH s).take i++[d]:=by rw[List.take_add_one,hd];rfl
  refine⟨b3,o3,f4,⟨by omega,bB⟩,_,_,oV,λb4=>Zaa rfl ?_⟩
  refine⟨decide (i ≥ pl.length)||(pl.getD i 0 % 2 == 0),Zau (λh=>⟨rfl,rfl,Zae ?_⟩) (λh=>?_),Zab (λ_=>λb6 gY=>?_) (λ_=>⟨rfl,(ZbH s).length - (i+1),by omega,P,a8,c4,i+1,by omega,by rw[hw],rfl,?_,kL,rfl⟩)⟩
  ·rw[decide_eq_true (show i ≥ pl.length by omega)];rfl
  ·obtain⟨z,hz⟩:=Zdb (l:=pl) (n:=i) (by omega)
   obtain⟨_,b7,o7,rX,vV⟩:=(hp.mono nI).get hz
   refine⟨b7,o7,rX,⟨by omega,by omega⟩,_,vV,Zaa rfl ⟨by omega,rfl,rfl,Zae ?_⟩⟩
   rw[decide_eq_false (show ¬i ≥ pl.length by omega),List.getD_eq_getElem?_getD,hz,Bool.false_or]
   show(Int.tmod ((z:Nat):Int) 2 == 0)=(z % 2 == 0)
   rw[show Int.tmod ((z:Nat):Int) 2=((z % 2:Nat):Int) from rfl,Bool.eq_iff_iff]
   simp;omega
  ·refine Zgg Zlj Zw8 gY d kL 16 (by omega) (by omega) (.inl rfl) λa9 c9 m9 kJ pN=>⟨rfl,(ZbH s).length - (i+1),by omega,P++[d],a9,c9,i+1,by omega,by rw[hw,List.length_append];rfl,by rw[List.length_append];rfl,?_,pN,rfl⟩
   rw[fm]
   exact dA.append (List.Sublist.refl _)
  ·rw[fm];exact dA.trans (List.sublist_append_left _ _)
 have vW:i=(ZbH s).length:=by omega
 have pO:ZpD (ZbH s) P=true:=Zt4 (by rw[vW,List.take_length]at dA;exact dA)
 have e0:=hK P a8 c4 m5 tR (by omega) kL
 rw[pO]at e0
 refine Zaj e0 ZdJ λb3 e3 m6 gX lX=>?_
 obtain⟨rfl,rfl⟩:=Ze0 lX
 have vX:=mLt tR gX
 have jD:=mLt nI gX
 have fT:=hk.len
 refine⟨false,Ze8 rfl ⟨rfl,rfl,rfl⟩,Ze8 rfl ⟨λxs _ _ m' q=>∃k:Nat,k<=s.states.length/\xs=[.int .i64 k]/\q=s.states.length - k,⟨s.states.length,0,by omega,rfl,rfl⟩,?_⟩⟩
 rintro z m7 q iY ⟨k,hU,hz,rfl⟩
 obtain rfl:z=k:=by simpa using hz
 have sD:=mLt vX iY
 have po:=mLt jD iY
 have qD:IntKind.i64.wrap ((k:Int)+1)=((k+1:Nat):Int):=by rw[Zal (by omega) (by omega)];rfl
 refine Zau (λbB=>?_) (λfM=>?_)
 ·obtain⟨y,hy⟩:=Zdb (show k < s.states.length by omega)
  obtain⟨b5,o5,kV,gS⟩:=Zam Sta.len (hr.mono sD).row hy (by omega)
  have gv:=(hk.all k y hy).len
  refine⟨b5,o5,kV,⟨by omega,bB⟩,_,_,gS,λb6=>Zaa rfl (Zaa rfl ⟨λxs _ _ m' q=>∃j:Nat,j<=y.rules.length/\xs=[.int .i64 j]/\q=y.rules.length - j,⟨y.rules.length,0,by omega,rfl,rfl⟩,?_⟩)⟩
  rintro z2 m8 q2 ge ⟨j,hj,jN,rfl⟩
  obtain rfl:z2=j:=by simpa using jN
  have qE:=mLt sD ge
  have pG:IntKind.i64.wrap ((j:Int)+1)=((j+1:Nat):Int):=by rw[Zal (by omega) (by omega)];rfl
  refine Zau (λeL=>?_) (λjE=>?_)
  ·have eL:(j:Int) < (y.rules.length:Nat):=eL
   intro b7 b8 r6
   have hA:=Mem.le_add r6 (([((k:Int),(j:Int))]:List Dd).map dC).flatten
   have e1:=hK [((k:Int),(j:Int))] (some ⟨b8,0,none⟩) 1 _ (mLt qE hA) (by simp) Zbk
   rw[ZnB]at e1
   refine Zaj e1 ZdJ λb9 n14 m9 kJ nL=>?_
   obtain⟨rfl,rfl⟩:=Ze0 nL
   have vY:=mLt qE (mLt hA kJ)
   refine⟨false,Zag (Zvr (ZbH s) a4 c2 ((k:Int),(j:Int)) m9 (by omega) (js.mono ?_)) λm10 mY=>Ze8 (by simp) ⟨rfl,rfl,rfl⟩,Ze8 rfl λb11 mX=>?_⟩
   ·exact mLt dX (mLt gX (mLt iY (mLt ge (mLt hA kJ))))
   have hB:=Mem.le_add mX (([((k:Int),(j:Int)),((k:Int),(j:Int))]:List Dd).map dC).flatten
   have e2:=hK [((k:Int),(j:Int)),((k:Int),(j:Int))] (some ⟨b11,0,none⟩) 2 _ (mLt vY hB) (by simp) Zbk
   rw[ZuM eG]at e2
   refine Zaj e2 ZdJ λb12 n15 m11 nh sE=>?_
   obtain⟨rfl,rfl⟩:=Ze0 sE
   exact⟨false,Ze8 rfl ⟨rfl,rfl,rfl⟩,Ze8 rfl ⟨rfl,rfl,y.rules.length - (j+1),by omega,j+1,by omega,by rw[pG],rfl⟩⟩
  ·exact⟨rfl,rfl,s.states.length - (k+1),by omega,k+1,by omega,by rw[qD],rfl⟩
 ·intro b5 iE
  refine⟨λxs _ _ m' q=>∃j:Nat,j<=4/\xs=[.int .i64 j]/\q=4 - j,⟨4,0,by omega,rfl,rfl⟩,?_⟩
  rintro z2 m8 q2 ge ⟨j,hj,jN,rfl⟩
  obtain rfl:z2=j:=by simpa using jN
  have qE:=mLt sD (mLt (Mem.le_add iE _) ge)
  have nJ:=mLt po (mLt (Mem.le_add iE _) ge)
  have pG:IntKind.i64.wrap ((j:Int)+1)=((j+1:Nat):Int):=by rw[Zal (by omega) (by omega)];rfl
  refine Zau (λeL=>?_) (λjE=>Zac nJ rfl)
  have eL:(j:Int) < ((4:Nat):Int):=eL
  obtain⟨d,hd,dJ⟩:=ZzU hk p j (by omega)
  simp only[Int.toNat_natCast]
  rw[dJ]
  refine⟨⟨by omega,by omega⟩,?_⟩
  refine Zaa (Nat.ble_eq_true_of_le (by omega)) ?_
  intro b6
  refine Zaa rfl (Zaa rfl ?_)
  intro b7 nb
  have hA:=Mem.le_add nb (dC d)
  have e1:=hK [d] (some ⟨b7,0,none⟩) 1 (m8.add b7 (dC d)) (mLt qE hA) (by simp) (by rw[show([d]:List Dd).map dC=[dC d] from rfl,show[dC d].flatten=dC d by simp];exact Zbk)
  rw[ZnB,decide_eq_false hd]at e1
  have dD:List.append (dC d) []=dC d:=List.append_nil _
  rw[dD]
  refine Zaj e1 ZdJ λb9 n14 m9 kJ nL=>?_
  obtain⟨rfl,rfl⟩:=Ze0 nL
  exact⟨false,Ze8 rfl ⟨trivial,trivial,rfl⟩,Ze8 rfl ⟨trivial,trivial,4 - (j+1),by omega,j+1,by omega,by rw[pG],rfl⟩⟩
end Go.Proofs.YtojlhhphofhaoaaGreatDoor
namespace Go.Proofs.YtojlhhphofhaoaaGreatDoor
open Go Go.Eng Go.Rx Go.Proofs Go.RowKit Go.ChangeShapes Go.WideShapes Go.ChangeAt
set_option maxRecDepth 100000
theorem Zuk{α:Type}{ZgJ:α->List Value}{k:Nat}(hk:∀z,(ZgJ z).length=k){m:Mem}{b:Nat}:∀{L:List α} {o:Nat},(∀i z,L[i]?=some z->m.reads b (o+i*k) (ZgJ z))->m.reads b o (L.map ZgJ).flatten
 | [],o,h=>λj v hj=>by simp at hj
 | x::L,o,h=>λj v hj=>by
  rw[List.map_cons,List.flatten_cons]at hj
  by_cases bB:j < k
  ·rw[List.getElem?_append_left (by rw[hk];exact bB)]at hj
   have:=h 0 x rfl j v hj
   rwa [Nat.zero_mul,Nat.add_zero]at this
  ·rw[List.getElem?_append_right (by rw[hk];omega),hk]at hj
   have:=Zuk hk (L:=L) (o:=o+k) (λi z hz=>by
    have:=h (i+1) z (by simpa using hz)
    rwa [show o+(i+1)*k=o+k+i*k by rw[Nat.succ_mul];omega]at this) (j - k) v hj
   rwa [show o+k+(j - k)=o+j by omega]at this
theorem Zul{α:Type}{p:Nat->α->Prop}:∀n,(∀i,i < n->∃z,p i z)->∃L:List α,L.length=n/\∀i z,L[i]?=some z->p i z
 | 0,_=>⟨[],rfl,λi z h=>by simp at h⟩
 | n+1,h=>by
  obtain⟨L,hL,hp⟩:=Zul n λi hi=>h i (by omega)
  obtain⟨z,hz⟩:=h n (by omega)
  refine⟨L++[z],by rw[List.length_append,hL];rfl,λi y hy=>?_⟩
  by_cases hi:i < n
  ·rw[List.getElem?_append_left (by omega)]at hy;exact hp i y hy
  ·have bB:=(List.getElem?_eq_some_iff.1 hy).1
   rw[List.length_append,hL]at bB
   have bB:i < n+1:=bB
   obtain rfl:i=n:=by omega
   rw[List.getElem?_append_right (by omega),hL,Nat.sub_self]at hy
   obtain rfl:z=y:=by simpa using hy
   exact hz
theorem Zzj{w:World}{a:Addr}{v:Value}(h:w.cell? (a.add 0)=some v):∃b o,a=⟨b,o,none⟩:=by
 obtain⟨b,o,sp⟩:=a
 cases sp with
 | none=>exact⟨b,o,rfl⟩
 | some s=>
  exfalso
  have e:(Addr.add ⟨b,o,some s⟩ 0)=⟨b,o,some s⟩:=rfl
  rw[e]at h
  unfold World.cell? at h
  split at h
  ·simp at h
  ·cases h
section
variable {H:Type} {enc:TypeId×Value->H} {W:World} {dW:Bool}
theorem ZrM{P:Program}{e:TypeId}:∀{l:List (DataW H)} {d:DataW H},d∈l->∀n∈d.weights P e,n∈DataW.weightsAll P e l
 | x::l,d,hd,n,hn=>by
  simp only[DataW.weightsAll,List.mem_append]
  rcases List.mem_cons.1 hd with rfl|hd
  ·exact .inl hn
  ·exact .inr (ZrM hd n hn)
theorem Zdc{α:Type}{ZgJ:α->List Value}{Q:α->Prop}{t e:TypeId}{k:Nat}(ht:Tryz.prog.underlying t=some (.slice e))(hc:Tryz.prog.cellsOf e=k)(hk:∀z,(ZgJ z).length=k)(h0:0 < k)(hb:1<=Tryz.prog.bytesOf e){n:Nat}{cs:List Value}{x:DataW H×List MemPlace}
  (h:DataW.trod enc Tryz.prog W 0 (λ_=>true) dW n t cs=some x) (hw:∀w∈x.1.weights Tryz.prog t,w<=reachBytes)
  (ih:∀n',n' < n->∀(cs':List Value)(y:DataW H×List MemPlace),DataW.trod enc Tryz.prog W 0 (λ_=>true) dW n' e cs'=some y->(∀w∈y.1.weights Tryz.prog e,w<=reachBytes)->∃z,cs'=ZgJ z/\Q z):
  ∃(L:List α)(a:Option Addr)(cap:Nat),cs=[.slice a L.length cap]/\L.length<=cap/\L.length<=1000000000000000/\rowRd (Zno W) a (L.map ZgJ).flatten/\∀z∈L,Q z:=by
 rcases DataW.trod_slice ht h with⟨q4,_⟩|⟨a,len,cap,elems,rest,n',hn',q4,hx,_,hl,hm,wH,lp,_⟩
 ·exact⟨[],none,0,q4,by simp,by simp,.inl rfl,by simp⟩
 rw[hx]at hw
 simp only[DataW.weights,ht,List.length_map]at hw
 have cE:=hw _ (List.mem_cons_self)
 have bT:len<=1000000000000000:=by
  have h2:=reachBytes_lt
  have h3:(elems.length+rest.length)*1<=(elems.length+rest.length)*Tryz.prog.bytesOf e:=Nat.mul_le_mul_left _ hb
  omega
 rw[hc]at lp
 obtain⟨L,hL,hp⟩:=Zul (p:=λi z=>(∀j v,(ZgJ z)[j]?=some v->W.cell? ((a.add (i*k)).add j)=some v)/\Q z) len (λi hi=>by
  have h1:=lp i hi
  rw[List.getElem?_eq_getElem (by omega)]at h1
  obtain⟨cs',h2,h3⟩:=Option.bind_eq_some_iff.1 h1
  obtain⟨_,pP,vZ⟩:=World.cells?_some h2
  obtain⟨z,rfl,hz⟩:=ih n' (by omega) _ _ h3 (λw iS=>hw w (List.mem_cons_of_mem _ (List.mem_append_left _ (ZrM (List.mem_map.2 ⟨_,List.getElem_mem _,rfl⟩) w iS))))
  refine⟨z,λj v hj=>?_,hz⟩
  have bB:=(List.getElem?_eq_some_iff.1 hj).1
  rw[vZ j (by rw[pP]at bB;exact bB)];exact hj)
 refine⟨L,some a,cap,by rw[q4,hL],by omega,by omega,?_,λz hz=>?_⟩
 ·by_cases pZ:len=0
  ·left
   obtain rfl:L=[]:=List.eq_nil_of_length_eq_zero (by omega)
   rfl
  ·right
   obtain⟨z,hz⟩:=Zbd (show 0 < L.length by omega)
   have h1:=(hp 0 z hz).1
   obtain⟨u,hu⟩:=Zbd (show 0 < (ZgJ z).length by rw[hk];exact h0)
   have h2:=h1 0 u hu
   rw[Nat.zero_mul]at h2
   have e0:∀b:Addr,(b.add 0).add 0=b.add 0:=λb=>by
    obtain⟨x1,x2,x3⟩:=b
    cases x3 <;> rfl
   rw[e0]at h2
   obtain⟨b,o,rfl⟩:=Zzj h2
   refine⟨b,o,rfl,Zuk hk λi z hz j v hj=>?_⟩
   have:=(hp i z hz).1 j v hj
   rw[ZbN,ZbN]at this
   exact this
 ·obtain⟨i,hi⟩:=List.getElem?_of_mem hz
  exact(hp i z hi).2
end
theorem wu8{n:Int}(h:(Lit.int .u8 n).wf=true):0<=n/\n < 256:=by
 have:0<=n/\n<=255:=by simpa[Lit.wf,IntKind.min,IntKind.max,IntKind.signed,IntKind.bits]using h
 omega
theorem ZzV{n:Int}(h:(Lit.int .u64 n).wf=true):0<=n/\n < 18446744073709551616:=by
 have:0<=n/\n<=18446744073709551615:=by simpa[Lit.wf,IntKind.min,IntKind.max,IntKind.signed,IntKind.bits]using h
 omega
theorem Zzk{n:Int}(h:(Lit.int .i64 n).wf=true) : -9223372036854775808<=n/\n<=9223372036854775807:=by
 simpa[Lit.wf,IntKind.min,IntKind.max,IntKind.signed,IntKind.bits]using h
def s5C(s:Nat×Nat×Nat):List Value:=[.int .u8 s.1,.int .u8 s.2.1,.int .u64 s.2.2]
def s8C(s:Nat×Nat×Nat):List Value:=[.int .u8 s.1,.int .u8 s.2.1,.int .u8 s.2.2]
theorem Zyd{m:Mem}{a:Option Addr}{l:List (Nat×Nat×Nat)}(hl:l.length<=1000000000000000)(h:rowRd m a (l.map s5C).flatten)(hb:∀s∈l,s.1 < 256/\s.2.1 < 256/\s.2.2 < 18446744073709551616):SmE m a l:=⟨by omega,hb,λi s hi=>Zam (cs:=s5C) (n:=3) (λ_=>rfl) h hi (by omega)⟩
theorem Zzl{m:Mem}{a:Option Addr}{l:List (Nat×Nat×Nat)}(hl:l.length<=1000000000000000)(h:rowRd m a (l.map s8C).flatten)(hb:∀s∈l,s.1 < 256/\s.2.1 < 256/\s.2.2 < 256):Sm m a l:=⟨by omega,hb,λi s hi=>Zam (cs:=s8C) (n:=3) (λ_=>rfl) h hi (by omega)⟩
section
variable {H:Type} {enc:TypeId×Value->H} {W:World} {dW:Bool}
theorem ZrN(n:Nat)(cs:List Value)(x:DataW H×List MemPlace)(h:DataW.trod enc Tryz.prog W 0 (λ_=>true) dW n 5 cs=some x):∃z:Nat,cs=[.int .u8 z]/\z < 256:=by
 obtain⟨k,q,_,w⟩:=DataW.trod_int Tryz.underlying5 h
 have b:=wu8 w
 obtain⟨z,rfl⟩:∃z:Nat,k=z:=⟨k.toNat,by omega⟩
 exact⟨z,q,by omega⟩
theorem ZyL:Tryz.prog.underlying 204=some (.struct #[⟨ "Kind",5,0,false, "", "",0⟩,⟨ "N",5,1,false, "", "",1⟩,⟨ "Bits",47,2,false, "", "",8⟩]):=by kernel_rfl
theorem Zxc(n:Nat)(cs:List Value)(x:DataW H×List MemPlace)(h:DataW.trod enc Tryz.prog W 0 (λ_=>true) dW n 204 cs=some x)(hw:∀w∈x.1.weights Tryz.prog 204,w<=reachBytes):∃s:Nat×Nat×Nat,cs=s5C s/\s.1 < 256/\s.2.1 < 256/\s.2.2 < 18446744073709551616:=by
 obtain⟨xs,k,hk,eI,bT,fB,hx⟩:=DataW.trod_struct ZyL h
 have hc:Tryz.prog.cellsOf 204=3:=by kernel_rfl
 rw[hc]at bT
 obtain⟨c0,c1,c2,rfl⟩:∃c0 c1 c2,cs=[c0,c1,c2]:=by
  match cs,bT with
  | [c0,c1,c2],_=>exact⟨c0,c1,c2,rfl⟩
 obtain⟨z0,z1,z2,rfl⟩:∃z0 z1 z2,xs=[z0,z1,z2]:=by
  match xs,fB with
  | [z0,z1,z2],_=>exact⟨z0,z1,z2,rfl⟩
 rw[eI]at hw
 simp only[DataW.weights,ZyL]at hw
 have g0:DataW.trod enc Tryz.prog W 0 (λ_=>true) dW k 5 (List.take (Tryz.prog.cellsOf 5) (List.drop 0 [c0,c1,c2]))=some z0:=hx 0 _ rfl
 rw[show Tryz.prog.cellsOf 5=1 by kernel_rfl]at g0
 obtain⟨kk0,q0,_,w0⟩:=DataW.trod_int Tryz.underlying5 g0
 have b0:=wu8 w0
 obtain⟨kk,rfl⟩:∃z:Nat,kk0=z:=⟨kk0.toNat,by omega⟩
 have g1:DataW.trod enc Tryz.prog W 0 (λ_=>true) dW k 5 (List.take (Tryz.prog.cellsOf 5) (List.drop 1 [c0,c1,c2]))=some z1:=hx 1 _ rfl
 rw[show Tryz.prog.cellsOf 5=1 by kernel_rfl]at g1
 obtain⟨nn0,q1,_,w1⟩:=DataW.trod_int Tryz.underlying5 g1
 have b1:=wu8 w1
 obtain⟨nn,rfl⟩:∃z:Nat,nn0=z:=⟨nn0.toNat,by omega⟩
 have g2:DataW.trod enc Tryz.prog W 0 (λ_=>true) dW k 47 (List.take (Tryz.prog.cellsOf 47) (List.drop 2 [c0,c1,c2]))=some z2:=hx 2 _ rfl
 rw[show Tryz.prog.cellsOf 47=1 by kernel_rfl]at g2
 obtain⟨bb0,q2,_,w2⟩:=DataW.trod_int Tryz.underlying47 g2
 have b2:=ZzV w2
 obtain⟨bb,rfl⟩:∃z:Nat,bb0=z:=⟨bb0.toNat,by omega⟩
 simp only[List.drop,List.take,List.cons.injEq,and_true]at q0 q1 q2
 subst q0
 subst q1
 subst q2
 exact⟨(kk,nn,bb),rfl,by show kk < 256;omega,by show nn < 256;omega,by show bb < 18446744073709551616;omega⟩
theorem ZyM:Tryz.prog.underlying 183=some (.struct #[⟨ "Kind",5,0,false, "", "",0⟩,⟨ "N",5,1,false, "", "",1⟩,⟨ "M",5,2,false, "", "",2⟩]):=by kernel_rfl
theorem Zxd(n:Nat)(cs:List Value)(x:DataW H×List MemPlace)(h:DataW.trod enc Tryz.prog W 0 (λ_=>true) dW n 183 cs=some x)(hw:∀w∈x.1.weights Tryz.prog 183,w<=reachBytes):∃s:Nat×Nat×Nat,cs=s8C s/\s.1 < 256/\s.2.1 < 256/\s.2.2 < 256:=by
 obtain⟨xs,k,hk,eI,bT,fB,hx⟩:=DataW.trod_struct ZyM h
 have hc:Tryz.prog.cellsOf 183=3:=by kernel_rfl
 rw[hc]at bT
 obtain⟨c0,c1,c2,rfl⟩:∃c0 c1 c2,cs=[c0,c1,c2]:=by
  match cs,bT with
  | [c0,c1,c2],_=>exact⟨c0,c1,c2,rfl⟩
 obtain⟨z0,z1,z2,rfl⟩:∃z0 z1 z2,xs=[z0,z1,z2]:=by
  match xs,fB with
  | [z0,z1,z2],_=>exact⟨z0,z1,z2,rfl⟩
 rw[eI]at hw
 simp only[DataW.weights,ZyM]at hw
 have g0:DataW.trod enc Tryz.prog W 0 (λ_=>true) dW k 5 (List.take (Tryz.prog.cellsOf 5) (List.drop 0 [c0,c1,c2]))=some z0:=hx 0 _ rfl
 rw[show Tryz.prog.cellsOf 5=1 by kernel_rfl]at g0
 obtain⟨kk0,q0,_,w0⟩:=DataW.trod_int Tryz.underlying5 g0
 have b0:=wu8 w0
 obtain⟨kk,rfl⟩:∃z:Nat,kk0=z:=⟨kk0.toNat,by omega⟩
 have g1:DataW.trod enc Tryz.prog W 0 (λ_=>true) dW k 5 (List.take (Tryz.prog.cellsOf 5) (List.drop 1 [c0,c1,c2]))=some z1:=hx 1 _ rfl
 rw[show Tryz.prog.cellsOf 5=1 by kernel_rfl]at g1
 obtain⟨nn0,q1,_,w1⟩:=DataW.trod_int Tryz.underlying5 g1
 have b1:=wu8 w1
 obtain⟨nn,rfl⟩:∃z:Nat,nn0=z:=⟨nn0.toNat,by omega⟩
 have g2:DataW.trod enc Tryz.prog W 0 (λ_=>true) dW k 5 (List.take (Tryz.prog.cellsOf 5) (List.drop 2 [c0,c1,c2]))=some z2:=hx 2 _ rfl
 rw[show Tryz.prog.cellsOf 5=1 by kernel_rfl]at g2
 obtain⟨bb0,q2,_,w2⟩:=DataW.trod_int Tryz.underlying5 g2
 have b2:=wu8 w2
 obtain⟨bb,rfl⟩:∃z:Nat,bb0=z:=⟨bb0.toNat,by omega⟩
 simp only[List.drop,List.take,List.cons.injEq,and_true]at q0 q1 q2
 subst q0
 subst q1
 subst q2
 exact⟨(kk,nn,bb),rfl,by show kk < 256;omega,by show nn < 256;omega,by show bb < 256;omega⟩
theorem Zum:Tryz.prog.underlying 147=some (.struct #[⟨ "Kind",5,0,false, "", "",0⟩,⟨ "N",5,1,false, "", "",1⟩,⟨ "Parts",22,2,false, "", "",8⟩,⟨ "Expr",145,3,false, "", "",32⟩]):=by kernel_rfl
theorem Ztv(n:Nat)(cs:List Value)(x:DataW H×List MemPlace)(h:DataW.trod enc Tryz.prog W 0 (λ_=>true) dW n 147 cs=some x)(hw:∀w∈x.1.weights Tryz.prog 147,w<=reachBytes):∃s:SAct,cs=s.cs/\RepSA (Zno W) s:=by
 obtain⟨xs,k,hk,eI,bT,fB,hx⟩:=DataW.trod_struct Zum h
 have hc:Tryz.prog.cellsOf 147=4:=by kernel_rfl
 rw[hc]at bT
 obtain⟨c0,c1,c2,c3,rfl⟩:∃c0 c1 c2 c3,cs=[c0,c1,c2,c3]:=by
  match cs,bT with
  | [c0,c1,c2,c3],_=>exact⟨c0,c1,c2,c3,rfl⟩
 obtain⟨z0,z1,z2,z3,rfl⟩:∃z0 z1 z2 z3,xs=[z0,z1,z2,z3]:=by
  match xs,fB with
  | [z0,z1,z2,z3],_=>exact⟨z0,z1,z2,z3,rfl⟩
 rw[eI]at hw
 simp only[DataW.weights,Zum]at hw
 have g0:DataW.trod enc Tryz.prog W 0 (λ_=>true) dW k 5 (List.take (Tryz.prog.cellsOf 5) (List.drop 0 [c0,c1,c2,c3]))=some z0:=hx 0 _ rfl
 rw[show Tryz.prog.cellsOf 5=1 by kernel_rfl]at g0
 obtain⟨kk0,q0,_,w0⟩:=DataW.trod_int Tryz.underlying5 g0
 have b0:=wu8 w0
 obtain⟨kk,rfl⟩:∃z:Nat,kk0=z:=⟨kk0.toNat,by omega⟩
 have g1:DataW.trod enc Tryz.prog W 0 (λ_=>true) dW k 5 (List.take (Tryz.prog.cellsOf 5) (List.drop 1 [c0,c1,c2,c3]))=some z1:=hx 1 _ rfl
 rw[show Tryz.prog.cellsOf 5=1 by kernel_rfl]at g1
 obtain⟨nn0,q1,_,w1⟩:=DataW.trod_int Tryz.underlying5 g1
 have b1:=wu8 w1
 obtain⟨nn,rfl⟩:∃z:Nat,nn0=z:=⟨nn0.toNat,by omega⟩
 have g2:DataW.trod enc Tryz.prog W 0 (λ_=>true) dW k 22 (List.take (Tryz.prog.cellsOf 22) (List.drop 2 [c0,c1,c2,c3]))=some z2:=hx 2 _ rfl
 rw[show Tryz.prog.cellsOf 22=1 by kernel_rfl]at g2
 obtain⟨L2,a2,cap2,q2,ni,nj,kM,kN⟩:=Zdc (ZgJ:=(λn:Nat=>[Value.int .u8 n])) (Q:=(λn:Nat=>n < 256)) (k:=1) (by kernel_rfl) (by kernel_rfl) (λ_=>rfl) (by decide) (of_decide_eq_true (by kernel_rfl)) g2 (λw iS=>hw w (DataW.weights_mem_each (j:=2) (t:=22) rfl rfl w iS)) λn' _ cs' y hy jR=>ZrN n' cs' y hy
 have g3:DataW.trod enc Tryz.prog W 0 (λ_=>true) dW k 145 (List.take (Tryz.prog.cellsOf 145) (List.drop 3 [c0,c1,c2,c3]))=some z3:=hx 3 _ rfl
 rw[show Tryz.prog.cellsOf 145=1 by kernel_rfl]at g3
 obtain⟨L3,a3,cap3,q3,sF,sG,pQ,pR⟩:=Zdc (ZgJ:=s5C) (Q:=(λs:Nat×Nat×Nat=>s.1 < 256/\s.2.1 < 256/\s.2.2 < 18446744073709551616)) (k:=3) (by kernel_rfl) (by kernel_rfl) (λ_=>rfl) (by decide) (of_decide_eq_true (by kernel_rfl)) g3 (λw iS=>hw w (DataW.weights_mem_each (j:=3) (t:=145) rfl rfl w iS)) λn' _ cs' y hy jR=>Zxc n' cs' y hy jR
 simp only[List.drop,List.take,List.cons.injEq,and_true]at q0 q1 q2 q3
 subst q0
 subst q1
 subst q2
 subst q3
 exact⟨⟨kk,nn,a2,L2,cap2,a3,L3,cap3⟩,rfl,⟨by show kk < 256;omega,by show nn < 256;omega,⟨kN,kM⟩,nj,ni,Zyd sG pQ pR,sF⟩⟩
theorem Zun:Tryz.prog.underlying 96=some (.struct #[⟨ "Kind",5,0,false, "", "",0⟩,⟨ "N",5,1,false, "", "",1⟩,⟨ "Ticks",5,2,false, "", "",2⟩,⟨ "Goto",5,3,false, "", "",3⟩,⟨ "Regex",93,4,false, "", "",8⟩,⟨ "Acts",94,5,false, "", "",32⟩]):=by kernel_rfl
theorem Ztw(n:Nat)(cs:List Value)(x:DataW H×List MemPlace)(h:DataW.trod enc Tryz.prog W 0 (λ_=>true) dW n 96 cs=some x)(hw:∀w∈x.1.weights Tryz.prog 96,w<=reachBytes):∃s:SRul,cs=s.cs/\RepSR (Zno W) s:=by
 obtain⟨xs,k,hk,eI,bT,fB,hx⟩:=DataW.trod_struct Zun h
 have hc:Tryz.prog.cellsOf 96=6:=by kernel_rfl
 rw[hc]at bT
 obtain⟨c0,c1,c2,c3,c4,c5,rfl⟩:∃c0 c1 c2 c3 c4 c5,cs=[c0,c1,c2,c3,c4,c5]:=by
  match cs,bT with
  | [c0,c1,c2,c3,c4,c5],_=>exact⟨c0,c1,c2,c3,c4,c5,rfl⟩
 obtain⟨z0,z1,z2,z3,z4,z5,rfl⟩:∃z0 z1 z2 z3 z4 z5,xs=[z0,z1,z2,z3,z4,z5]:=by
  match xs,fB with
  | [z0,z1,z2,z3,z4,z5],_=>exact⟨z0,z1,z2,z3,z4,z5,rfl⟩
 rw[eI]at hw
 simp only[DataW.weights,Zun]at hw
 have g0:DataW.trod enc Tryz.prog W 0 (λ_=>true) dW k 5 (List.take (Tryz.prog.cellsOf 5) (List.drop 0 [c0,c1,c2,c3,c4,c5]))=some z0:=hx 0 _ rfl
 rw[show Tryz.prog.cellsOf 5=1 by kernel_rfl]at g0
 obtain⟨kk0,q0,_,w0⟩:=DataW.trod_int Tryz.underlying5 g0
 have b0:=wu8 w0
 obtain⟨kk,rfl⟩:∃z:Nat,kk0=z:=⟨kk0.toNat,by omega⟩
 have g1:DataW.trod enc Tryz.prog W 0 (λ_=>true) dW k 5 (List.take (Tryz.prog.cellsOf 5) (List.drop 1 [c0,c1,c2,c3,c4,c5]))=some z1:=hx 1 _ rfl
 rw[show Tryz.prog.cellsOf 5=1 by kernel_rfl]at g1
 obtain⟨nn0,q1,_,w1⟩:=DataW.trod_int Tryz.underlying5 g1
 have b1:=wu8 w1
 obtain⟨nn,rfl⟩:∃z:Nat,nn0=z:=⟨nn0.toNat,by omega⟩
 have g2:DataW.trod enc Tryz.prog W 0 (λ_=>true) dW k 5 (List.take (Tryz.prog.cellsOf 5) (List.drop 2 [c0,c1,c2,c3,c4,c5]))=some z2:=hx 2 _ rfl
 rw[show Tryz.prog.cellsOf 5=1 by kernel_rfl]at g2
 obtain⟨tt0,q2,_,w2⟩:=DataW.trod_int Tryz.underlying5 g2
 have b2:=wu8 w2
 obtain⟨tt,rfl⟩:∃z:Nat,tt0=z:=⟨tt0.toNat,by omega⟩
 have g3:DataW.trod enc Tryz.prog W 0 (λ_=>true) dW k 5 (List.take (Tryz.prog.cellsOf 5) (List.drop 3 [c0,c1,c2,c3,c4,c5]))=some z3:=hx 3 _ rfl
 rw[show Tryz.prog.cellsOf 5=1 by kernel_rfl]at g3
 obtain⟨gg0,q3,_,w3⟩:=DataW.trod_int Tryz.underlying5 g3
 have b3:=wu8 w3
 obtain⟨gg,rfl⟩:∃z:Nat,gg0=z:=⟨gg0.toNat,by omega⟩
 have g4:DataW.trod enc Tryz.prog W 0 (λ_=>true) dW k 93 (List.take (Tryz.prog.cellsOf 93) (List.drop 4 [c0,c1,c2,c3,c4,c5]))=some z4:=hx 4 _ rfl
 rw[show Tryz.prog.cellsOf 93=1 by kernel_rfl]at g4
 obtain⟨L4,a4,cap4,q4,sH,sI,dZ,pS⟩:=Zdc (ZgJ:=s8C) (Q:=(λs:Nat×Nat×Nat=>s.1 < 256/\s.2.1 < 256/\s.2.2 < 256)) (k:=3) (by kernel_rfl) (by kernel_rfl) (λ_=>rfl) (by decide) (of_decide_eq_true (by kernel_rfl)) g4 (λw iS=>hw w (DataW.weights_mem_each (j:=4) (t:=93) rfl rfl w iS)) λn' _ cs' y hy jR=>Zxd n' cs' y hy jR
 have g5:DataW.trod enc Tryz.prog W 0 (λ_=>true) dW k 94 (List.take (Tryz.prog.cellsOf 94) (List.drop 5 [c0,c1,c2,c3,c4,c5]))=some z5:=hx 5 _ rfl
 rw[show Tryz.prog.cellsOf 94=1 by kernel_rfl]at g5
 obtain⟨L5,a5,cap5,q5,sJ,sK,eB,pT⟩:=Zdc (ZgJ:=SAct.cs) (Q:=RepSA (Zno W)) (k:=4) (by kernel_rfl) (by kernel_rfl) (λ_=>rfl) (by decide) (of_decide_eq_true (by kernel_rfl)) g5 (λw iS=>hw w (DataW.weights_mem_each (j:=5) (t:=94) rfl rfl w iS)) λn' _ cs' y hy jR=>Ztv n' cs' y hy jR
 simp only[List.drop,List.take,List.cons.injEq,and_true]at q0 q1 q2 q3 q4 q5
 subst q0
 subst q1
 subst q2
 subst q3
 subst q4
 subst q5
 exact⟨⟨kk,nn,tt,gg,a4,L4,cap4,a5,L5,cap5⟩,rfl,⟨by show kk < 256;omega,by show nn < 256;omega,by show tt < 256;omega,by show gg < 256;omega,Zzl sI dZ pS,sH,sK,sJ,eB,pT⟩⟩
theorem Ztx(n:Nat)(cs:List Value)(x:DataW H×List MemPlace)(h:DataW.trod enc Tryz.prog W 0 (λ_=>true) dW n 92 cs=some x)(hw:∀w∈x.1.weights Tryz.prog 92,w<=reachBytes):∃s:SSta,cs=s.cs/\RepSS (Zno W) s:=by
 obtain⟨L,a,cap,q,tS,oe,bF,cN⟩:=Zdc (ZgJ:=SRul.cs) (Q:=RepSR (Zno W)) (k:=6) (by kernel_rfl) (by kernel_rfl) (λ_=>rfl) (by decide) (of_decide_eq_true (by kernel_rfl)) h hw λn' _ cs' y hy jR=>Ztw n' cs' y hy jR
 exact⟨⟨a,L,cap⟩,q,⟨oe,tS,bF,cN⟩⟩
theorem ZrO:Tryz.prog.underlying 25=some (.struct #[⟨ "Buffer",5,0,false, "", "",0⟩,⟨ "Values",22,1,false, "", "",8⟩,⟨ "States",23,2,false, "", "",32⟩]):=by kernel_rfl
theorem Zty(n:Nat)(cs:List Value)(x:DataW H×List MemPlace)(h:DataW.trod enc Tryz.prog W 0 (λ_=>true) dW n 25 cs=some x)(hw:∀w∈x.1.weights Tryz.prog 25,w<=reachBytes):∃s:SScr,cs=s.cs/\RepSC (Zno W) s:=by
 obtain⟨xs,k,hk,eI,bT,fB,hx⟩:=DataW.trod_struct ZrO h
 have hc:Tryz.prog.cellsOf 25=3:=by kernel_rfl
 rw[hc]at bT
 obtain⟨c0,c1,c2,rfl⟩:∃c0 c1 c2,cs=[c0,c1,c2]:=by
  match cs,bT with
  | [c0,c1,c2],_=>exact⟨c0,c1,c2,rfl⟩
 obtain⟨z0,z1,z2,rfl⟩:∃z0 z1 z2,xs=[z0,z1,z2]:=by
  match xs,fB with
  | [z0,z1,z2],_=>exact⟨z0,z1,z2,rfl⟩
 rw[eI]at hw
 simp only[DataW.weights,ZrO]at hw
 have g0:DataW.trod enc Tryz.prog W 0 (λ_=>true) dW k 5 (List.take (Tryz.prog.cellsOf 5) (List.drop 0 [c0,c1,c2]))=some z0:=hx 0 _ rfl
 rw[show Tryz.prog.cellsOf 5=1 by kernel_rfl]at g0
 obtain⟨kk0,q0,_,w0⟩:=DataW.trod_int Tryz.underlying5 g0
 have b0:=wu8 w0
 obtain⟨kk,rfl⟩:∃z:Nat,kk0=z:=⟨kk0.toNat,by omega⟩
 have g1:DataW.trod enc Tryz.prog W 0 (λ_=>true) dW k 22 (List.take (Tryz.prog.cellsOf 22) (List.drop 1 [c0,c1,c2]))=some z1:=hx 1 _ rfl
 rw[show Tryz.prog.cellsOf 22=1 by kernel_rfl]at g1
 obtain⟨L1,a1,cap1,q1,v3,sL,pU,pV⟩:=Zdc (ZgJ:=(λn:Nat=>[Value.int .u8 n])) (Q:=(λn:Nat=>n < 256)) (k:=1) (by kernel_rfl) (by kernel_rfl) (λ_=>rfl) (by decide) (of_decide_eq_true (by kernel_rfl)) g1 (λw iS=>hw w (DataW.weights_mem_each (j:=1) (t:=22) rfl rfl w iS)) λn' _ cs' y hy jR=>ZrN n' cs' y hy
 have g2:DataW.trod enc Tryz.prog W 0 (λ_=>true) dW k 23 (List.take (Tryz.prog.cellsOf 23) (List.drop 2 [c0,c1,c2]))=some z2:=hx 2 _ rfl
 rw[show Tryz.prog.cellsOf 23=1 by kernel_rfl]at g2
 obtain⟨L2,a2,cap2,q2,ni,nj,kM,kN⟩:=Zdc (ZgJ:=SSta.cs) (Q:=RepSS (Zno W)) (k:=1) (by kernel_rfl) (by kernel_rfl) (λ_=>rfl) (by decide) (of_decide_eq_true (by kernel_rfl)) g2 (λw iS=>hw w (DataW.weights_mem_each (j:=2) (t:=23) rfl rfl w iS)) λn' _ cs' y hy jR=>Ztx n' cs' y hy jR
 simp only[List.drop,List.take,List.cons.injEq,and_true]at q0 q1 q2
 subst q0
 subst q1
 subst q2
 exact⟨⟨kk,a1,L1,cap1,a2,L2,cap2⟩,rfl,⟨by show kk < 256;omega,⟨pV,pU⟩,sL,nj,ni,kM,kN⟩⟩
theorem ZpA(a:Option Addr)(n c:Nat):(Value.slice a n c).cells.toList=[.slice a n c]:=rfl
theorem Zvv(n:Nat)(cs:List Value)(x:DataW H×List MemPlace)(h:DataW.trod enc Tryz.prog W 0 (λ_=>true) dW n 22 cs=some x)(hw:∀w∈x.1.weights Tryz.prog 22,w<=reachBytes):∃(l:List Nat)(a:Option Addr)(c:Nat),cs=[.slice a l.length c]/\BytU (Zno W) a l:=by
 obtain⟨L,a,cap,q,tS,oe,bF,cN⟩:=Zdc (ZgJ:=λn:Nat=>[Value.int .u8 n]) (Q:=λn:Nat=>n < 256) (k:=1) (by kernel_rfl) (by kernel_rfl) (λ_=>rfl) (by decide) (of_decide_eq_true (by kernel_rfl)) h hw λn' _ cs' y hy jR=>ZrN n' cs' y hy
 exact⟨L,a,cap,q,⟨cN,bF⟩⟩
end
theorem Zye:ownKnob Tryz.prog.godebug=none:=by kernel_rfl
theorem Zxe:laidOutB Tryz.prog=true:=by kernel_rfl
set_option maxHeartbeats 4000000 in
theorem ZgF(H:Type)(enc:TypeId×Value->H)(W:World)(base:Nat)(args:Array Value)(ds gs:List (DataW H))(before:List MemPlace)
  (jK:∀(j:Nat) t v,Tryz.f3.params[j]?=some t->args[j]?=some v->Value.okWide Tryz.prog W .any base t v)
  (hW:DataW.Whole enc Tryz.prog Tryz.f3.params.toList Rows.timesChecksSpec.vars false W args.toList ds gs before) (cE:(DataW.weightsEach Tryz.prog (Tryz.f3.params.toList++Rows.timesChecksSpec.plain.varTypes Tryz.prog) (ds++gs)).all (λn=>decide (n<=reachBytes))=true):
  Calls Tryz.prog 3 args W λe W'=>∃v,e=.returned v/\Rows.timesChecksSpec.post enc Tryz.prog Tryz.f3 false true false false W args v W':=by
 have hW':=hW
 obtain⟨p,q,wa,hV,rfl,jt,eG⟩:=hW
 have hA:DataW.TrodAll enc Tryz.prog W 0 (λ_=>true) true Tryz.f3.params.toList args.toList ds p:=wa
 rw[Tryz.params3]at hA jK
 obtain⟨v0,vs0,d0,ds0,p0,q0,a0,rfl,rfl,h0,r0⟩:=trodAll_cons hA
 obtain⟨v1,vs1,d1,ds1,p1,q1,rfl,rfl,rfl,h1,r1⟩:=trodAll_cons r0
 obtain⟨v2,vs2,d2,ds2,p2,q2,rfl,rfl,rfl,h2,r2⟩:=trodAll_cons r1
 obtain⟨rfl,rfl,rfl⟩:=trodAll_nil r2
 obtain rfl:args=#[v0,v1,v2]:=by cases args;simp_all
 obtain⟨rfl,rfl⟩:=trodVars_none hV
 obtain⟨f0,g0⟩:=h0
 obtain⟨cs0,rfl,-⟩:=okWide_struct ZrO (jK 0 _ v0 rfl rfl)
 obtain⟨Lc0,rfl⟩:∃L:List Value,cs0=L.toArray:=⟨cs0.toList,by simp⟩
 obtain⟨x,jJ,pW⟩:=Zty f0 _ _ g0 (λw iS=>by
  have:=List.all_eq_true.1 cE w (DataW.weights_mem_each (j:=0) (t:=25) (d:=d0) (by rw[Tryz.params3];rfl) rfl w iS)
  simpa using this)
 replace jJ:Lc0=x.cs:=jJ
 subst jJ
 obtain⟨f1,g1⟩:=h1
 obtain⟨ax1,ay1,az1,rfl⟩:=okWide_slice Tryz.underlying22 (jK 1 _ v1 rfl rfl)
 rw[ZpA]at g1
 obtain⟨l,a,c,pX,pY⟩:=Zvv f1 _ _ g1 (λw iS=>by
  have:=List.all_eq_true.1 cE w (DataW.weights_mem_each (j:=1) (t:=22) (d:=d1) (by rw[Tryz.params3];rfl) rfl w iS)
  simpa using this)
 simp only[List.cons.injEq,Value.slice.injEq,and_true]at pX
 obtain⟨rfl,rfl,rfl⟩:=pX
 obtain⟨n0,rfl,rfl,rfl,w2⟩:=open_int Tryz.underlying3 (jK 2 _ v2 rfl rfl) h2
 have b2:=Zzk w2
 obtain⟨n,rfl⟩:∃z:Int,n0=z:=⟨_,rfl⟩
 exact ZsA (tb:=4) Zxe (by rw[Tryz.params3];intro t ht;simp at ht;rcases ht with rfl|rfl|rfl <;> exact⟨by kernel_rfl,of_decide_eq_true (by kernel_rfl)⟩) hW' rfl rfl rfl rfl rfl Tryz.underlying4 (Zjb x _ l _ _ (Zno W) pW pY)
theorem Zjc(os:Os)(started:os.Started)(H:Type)(enc:TypeId×Value->H):
  ReturnsInHanded {} Tryz.checked os 3 .any (λw args=>(Rows.timesChecksSpec.pre enc Tryz.prog Tryz.f3 Rows.timesChecksRow.domain false w args/\laidMetH Tryz.prog Rows.timesChecksRow.laid w)/\sizedMet enc Tryz.prog Tryz.f3 (OpenSpec.ofChange Rows.timesChecksSpec) false w args)
   (Rows.timesChecksSpec.post enc Tryz.prog Tryz.f3 false true false false):=by
 refine returnsInHanded_of_change_and (C:=Tryz.checked) (X:=λw _=>laidMetH Tryz.prog Rows.timesChecksRow.laid w) (λ_ _ _ hh h=>h.of_heap hh) Zye started (by kernel_rfl) Tryz.func3
  (ChangeSpec.witness_shaped (enc:=enc) (C:=Tryz.checked) (os:=os) (X:=λw _=>laidMetH Tryz.prog Rows.timesChecksRow.laid w) false (World.laidAll Tryz.prog os Rows.timesChecksRow.laid) #[.agg #[.int .u8 0,.slice none 0 0,.slice none 0 0],.slice none 0 0,.int .i64 0] 8 (World.laidAll_os _ _ _)
   (World.shaped_of_ZipB (by kernel_rfl) (by kernel_rfl)) (by kernel_rfl) (by kernel_rfl) (by kernel_rfl)
   (by rw[MakeChecks.laidMetH_plain _ _ _ (by kernel_rfl)];exact laidMet_laidAll _ (by kernel_rfl) (by kernel_rfl))) ?_
 intro W base args ds gs before jK hW _ cE _ _
 exact ZgF H enc W base args ds gs before jK hW cE
theorem ZpB:Rows.TimesChecksSaid:=
 OpenClaim.holds_of_wide 3 Tryz.f3 rfl rfl rfl rfl rfl rfl rfl ⟨rfl,rfl,rfl,rfl,rfl⟩ rfl rfl rfl rfl rfl (by kernel_rfl) Tryz.func3 (by kernel_rfl)
  (of_decide_eq_true (by kernel_rfl)) (by unfold Func.isWrapper;first|(rw[if_pos (by decide +kernel)];kernel_rfl)|(rw[if_neg (by decide +kernel)];exact⟨rfl,rfl⟩))
  (λos started H enc _=>Zjc os started H enc)
theorem tchecks_holds:Rows.TimesChecksCardSaid:=
 Claim7.holds_tied_plain_at .later [] [.data,.pinned] true (true, "05205a6e7e1b52455f10cd97634c44fee2cb8ace980db511814d9064acc160a4") false ZpB (λ_ h=>by cases h) (by kernel_rfl) (λ_ h=>by cases h) timesChecks_row_tie rfl ⟨rfl,rfl⟩ (by kernel_rfl) rfl
  (λf fn hf kQ=>by
   obtain rfl:f=3:=Option.some.inj ((show Tryz.prog.funcNamed "repartee/reparteelaw40.TimesChecks" = some 3 by kernel_rfl).symm.trans hf) |>.symm
   obtain rfl:fn=Tryz.f3:=(Option.some.inj (Tryz.func3.symm.trans kQ)).symm
   exact⟨by kernel_rfl,λj t ht=>by
    rw[Tryz.params3]at ht
    have hm:t∈[25,22,3]:=by simpa using Array.mem_of_getElem? ht
    have cN:([25,22,3].all λu=>!Tryz.prog.wantsStandIn u)=true:=by kernel_rfl
    exact(show Tryz.prog.wantsStandIn t=false by simpa using List.all_eq_true.1 cN t hm)⟩)
  (by kernel_rfl)
#print axioms tchecks_holds
end Go.Proofs.YtojlhhphofhaoaaGreatDoor