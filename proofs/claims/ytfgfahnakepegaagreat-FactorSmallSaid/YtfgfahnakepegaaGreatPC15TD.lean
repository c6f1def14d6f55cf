/- Part of the proof: conditions and contracts of functions of this program. No condition of its own. -/
import Derived.Test.YtfgfahnakepegaaGreatPEnv
import Derived.Test.YtfgfahnakepegaaGreatPC15TB
set_option linter.unusedVariables false
set_option linter.unusedSimpArgs false
set_option linter.unusedSectionVars false
noncomputable section
namespace Go.Proofs.YtfgfahnakepegaaGreat
open Go Go.Eng Go.Proofs Go.RowKit
open Go.Value (int slice agg bool string tuple func)
open Go.IntKind (u8 u64 i64)
set_option maxRecDepth 100000
def Zn1:Env:={ EB with
 loops:=swI nLa [(4,⟨[(5,.slice),(8,.int .i64)],[],[(33,260)],false⟩),(9,⟨[(6,.slice),(9,.bool),(10,.int .i64)],[],[(64,260)],false⟩)]
 joins:=swI none [(12,some [(54,.bool)]),(13,some [(9,.bool)])]
 dr:=swI [] [(11,[dO 0 [],dO 1 [],dO 2 [0,1],dO 3 [0,1,2],⟨4,[3],[],none,[],[]⟩,⟨5,[3],[],none,[4],[]⟩,dO 6 [0,1,2,3,4,5],⟨7,[11],[11],none,[],[]⟩,⟨8,[11],[11],none,[0,1,2,3,4,5,6,7],[]⟩]),(17,[dO 0 [],⟨1,[12],[],none,[],[]⟩,⟨2,[79],[79],none,[1],[]⟩,⟨3,[79],[],some 76,[0,1,2],[2]⟩,dO 4 [],⟨5,[3],[],none,[],[]⟩,⟨6,[3],[],none,[5],[]⟩,dO 7 [4,5,6],⟨8,[],[],some 76,[0,1,2,3,4,5,6,7],[3]⟩,dO 9 [0,1,2,3,4,5,6,7,8]])]
 tokOf:=swI 0 [(33,33),(64,64),(69,33),(76,76),(80,76),(85,76)]
 frzNew:=[3]
 tails:=true
 capF:=true }
abbrev ZcU:List Value:=[int i64 2,int i64 0,int i64 0,int i64 0,int i64 0,int i64 0,int i64 0,int i64 0,int i64 0,int i64 0,int i64 0,int i64 0,int i64 0,int i64 0,int i64 0,int i64 0,int
 i64 0,int i64 0,int i64 0,int i64 0,int i64 0,int i64 0,int i64 0,int i64 0,int i64 0,int i64 0,int i64 0,int i64 0,int i64 0,int i64 0,int i64 0,int i64 0,int i64 0,int i64 0,int i64 0,int i64 0,int
 i64 0,int i64 0,int i64 0,int i64 0,int i64 0,int i64 0,int i64 0,int i64 0,int i64 0,int i64 0,int i64 0,int i64 0,int i64 0,int i64 0,int i64 0,int i64 0,int i64 0,int i64 0,int i64 0,int i64 0,int
 i64 0,int i64 0,int i64 0,int i64 0,int i64 0,int i64 0,int i64 0,int i64 0,int i64 0,int i64 0,int i64 0,int i64 0,int i64 0,int i64 0,int i64 0,int i64 0,int i64 0,int i64 0,int i64 0,int i64 0,int
 i64 0,int i64 0,int i64 0,int i64 0,int i64 0,int i64 0,int i64 0,int i64 0,int i64 0,int i64 0,int i64 0,int i64 0,int i64 0,int i64 0,int i64 0,int i64 0,int i64 0,int i64 0,int i64 0,int i64 0,int
 i64 0,int i64 0,int i64 0,int i64 0,int i64 0,int i64 0,int i64 0,int i64 0,int i64 0,int i64 0,int i64 0,int i64 0,int i64 0,int i64 0,int i64 0,int i64 0,int i64 0,int i64 0,int i64 0,int i64 0,int
 i64 0,int i64 0,int i64 0,int i64 0,int i64 0,int i64 0,int i64 0,int i64 0,int i64 0,int i64 0,int i64 0,int i64 0,int i64 0,int i64 0,int i64 0,int i64 0,int i64 0,int i64 0,int i64 0,int i64 0,int
 i64 0,int i64 0,int i64 0,int i64 0,int i64 0,int i64 0,int i64 0,int i64 0,int i64 0,int i64 0,int i64 0,int i64 0,int i64 0,int i64 0,int i64 0,int i64 0,int i64 0,int i64 0,int i64 0,int i64 0,int
 i64 0,int i64 0,int i64 0,int i64 0,int i64 0,int i64 0,int i64 0,int i64 0,int i64 0,int i64 0,int i64 0,int i64 0,int i64 0,int i64 0,int i64 0,int i64 0,int i64 0,int i64 0,int i64 0,int i64 0,int
 i64 0,int i64 0,int i64 0,int i64 0,int i64 0,int i64 0,int i64 0,int i64 0,int i64 0,int i64 0,int i64 0,int i64 0,int i64 0,int i64 0,int i64 0,int i64 0,int i64 0,int i64 0,int i64 0,int i64 0,int
 i64 0,int i64 0,int i64 0,int i64 0,int i64 0,int i64 0,int i64 0,int i64 0,int i64 0,int i64 0,int i64 0,int i64 0,int i64 0,int i64 0,int i64 0,int i64 0,int i64 0,int i64 0,int i64 0,int i64 0,int
 i64 0,int i64 0,int i64 0,int i64 0,int i64 0,int i64 0,int i64 0,int i64 0,int i64 0,int i64 0,int i64 0,int i64 0,int i64 0,int i64 0,int i64 0,int i64 0,int i64 0,int i64 0,int i64 0,int i64 0,int
 i64 0,int i64 0,int i64 0,int i64 0,int i64 0,int i64 0,int i64 0,int i64 0,int i64 0,int i64 0,int i64 0,int i64 0,int i64 0,int i64 0,int i64 0,int i64 0,int i64 0,int i64 0,int i64 0,int i64 0,int
 i64 0,int i64 0,int i64 0,slice none 0 0]
abbrev ZgW:Int->Int->Int->Int->Nat->Option Box:=λaR aL aM aQ b=>some (Box.mk b [int i64 aR,int i64 aL,int i64 aM,int i64 aQ] 79 4 true true)
abbrev Zex:Int->Int->Int->Int->Nat->List (Option Box):=λaR aL aM aQ b=>[ZgW aR aL aM aQ b]
abbrev ZgX:List Value->Nat->Option Box:=λcs b=>some (Box.mk b cs 67 260 false true)
abbrev ZdC:Int->Int->Int->Int->Nat->List Value->Nat->List (Option Box):=λaR aL aM aQ b cs ap=>[ZgX cs ap,ZgX cs ap,ZgW aR aL aM aQ b]
theorem ZlZ(p0a:Option Addr)(p0n p0c:Nat)(aR aL aM aQ:Int)(m:Mem)(R:RT)(h:
 ∀(b:Nat) m',m.le m'->m'.reads b 0 [int i64 aR,int i64 aL,int i64 aM,int i64 aQ]->∃(ap:Nat),∃(o:Nat),p0a=some (Addr.mk ap o none)/\Zaf aL p0n/\∃(vs:List Value),vs.length=260/\m'.reads ap (o
 + Int.toNat aL*260) vs/\∃R_1,True/\CX pG 45 (.mk [agg (.mk vs)]) m' [] R_1/\ZbT .slice R_1/\∀a n c au,m'.le au->R_1 (slice a n c) au []->∃(I:IT),(∃(n:Nat),I [slice none 0 0,int i64 0] [] [slice none 0 0] au
 n)/\∀al ab c aq ad ae af m' (a2:Nat),au.le m'->I [slice al ab c,int i64 aq] [] [slice ad ae af] m' a2->br (decide (aq < aQ)) (∃(am:Nat),∃(o:Nat),a=some (Addr.mk am o none)/\Zaf aq n/\∃(vs:List Value),
 vs.length=256/\m'.reads am (o+Int.toNat aq*256) vs/\chk (Nat.beq (vs.length) 256&&true) (chk (Nat.beq (List.length (List.append vs (List.drop (1+vs.length) ZcU))) (nat_lit 259)&&true) (∀ac,m'.free ac->
 ((∃a,∃n,∃ak,∃(k:Nat),Tok.mk (slice ad ae af) 260=Tok.mk (slice a n ak) 260/\k<=n/\slice al ab c=slice (ZaG a k ak 260) (n - k) (ak - k))\/slice al ab c=slice none 0 0\/c < ab+1)/\∃(xs:List Value),∃
 (ys:List Value),xs.length=ab*260/\ys.length=1*260/\rowRd (m'.add ac (int i64 2::List.append (List.append vs (List.drop (1+vs.length) ZcU)) [])) al xs/\rowRd (m'.add ac (int i64 2::List.append
 (List.append vs (List.drop (1+vs.length) ZcU)) [])) (some (Addr.mk ac 0 none)) ys/\(∀(u:Value),u∈ys->u.oneCell'=true)/\(ab+1)*2096<=140737488355328/\ab+1<=9223372036854775807/\∀(a':Option Addr)
 (c':Nat) (ag:Mem),Mem.le (m'.add ac (int i64 2::List.append (List.append vs (List.drop (1+vs.length) ZcU)) [])) ag->rowRd ag a' (List.append xs ys)->ab+1<=c'->Zab (Zex aR aL aM aQ b)/\
 ∃(n':Nat),n' < a2/\I [slice a' (ab+1) c',int i64 (i64.wrap (aq+1))] [] [slice a' (ab+1) c'] ag n'))) (∃(I:IT),(∃(n:Nat),I [slice none 0 0,bool false,int i64 aL] [] [slice none 0 0] m' n)/\∀a n ak (am:
 Bool) ao ah ai aj ag (ax:Nat),m'.le ag->I [slice a n ak,bool am,int i64 ao] [] [slice ah ai aj] ag ax->br (decide (ao < aM)) (∃(f:Fx),∃(ac:Nat),∃(o:Nat),p0a=some (Addr.mk ac o none)/\Zaf ao p0n/\∃(vs
 : List Value),vs.length=260/\ag.reads ac (o+Int.toNat ao*260) vs/\∃R,R=f 6 [agg (.mk vs),int i64 aQ] ag/\CX pG 125 (.mk [agg (.mk vs),int i64 aQ]) ag [] R/\ZbT .cells R/\∀(cs:List Value) m',ag.le m'->R
 (agg (.mk cs)) m' []->∀(av:Nat),chk (Nat.beq (cs.length) 260&&Zbi cs) (∀M,ag.le M->m'.le M->∃(ay:Bool),(Eng.ZuZ cs 0 λv=>chk (ZaE i64 v&&decide (i64=i64)) (br (RowKit.intOf v == 1) (Zab
 (ZdC aR aL aM aQ b cs av)/\[some (Tok.mk (slice ah ai aj) 260),some (Tok.mk (slice ad ae af) 260)]=[some (Tok.mk (slice ah ai aj) 260),some (Tok.mk (slice ad ae af) 260)]/\[bool am]=[bool ay]) (Zab
 (ZdC aR aL aM aQ b cs av)/\[some (Tok.mk (slice ah ai aj) 260),some (Tok.mk (slice ad ae af) 260)]=[some (Tok.mk (slice ah ai aj) 260),some (Tok.mk (slice ad ae af) 260)]/\[bool false]=[bool ay])))/\br
 ay (Zab (Zex aR aL aM aQ b)/\[some (Tok.mk (slice ad ae af) 260)]=[some (Tok.mk (slice ad ae af) 260)]/\∃(n':Nat),n' < ax/\I [slice a n ak,bool am,int i64 (i64.wrap (ao+1))] [] [slice ah ai aj] M
 n') (∃(az:Bool),br am (Zab (ZdC aR aL aM aQ b cs av)/\[some (Tok.mk (slice ah ai aj) 260),some (Tok.mk (slice ad ae af) 260)]=[some (Tok.mk (slice ah ai aj) 260),some (Tok.mk (slice ad ae af) 260)]/\
 [bool true]=[bool az]) (Eng.ZuZ cs 0 λv=>chk (ZaE i64 v&&decide (i64=i64)) (Zab (ZdC aR aL aM aQ b cs av)/\[some (Tok.mk (slice ah ai aj) 260),some (Tok.mk (slice ad ae af) 260)]=[some
 (Tok.mk (slice ah ai aj) 260),some (Tok.mk (slice ad ae af) 260)]/\[bool (RowKit.intOf v == 1)]=[bool az]))/\chk (Nat.beq (cs.length) 260&&true) (∀ar,M.free ar->((∃a3,∃a0,∃c,∃(k:Nat),Tok.mk (slice ah ai aj) 260
 = Tok.mk (slice a3 a0 c) 260/\k<=a0/\slice a n ak=slice (ZaG a3 k c 260) (a0 - k) (c - k))\/slice a n ak=slice none 0 0\/ak < n+1)/\∃(xs:List Value),∃(ys:List Value),xs.length=n*260/\ys.length=1*260
 /\ rowRd (M.add ar (List.append cs [])) a xs/\rowRd (M.add ar (List.append cs [])) (some (Addr.mk ar 0 none)) ys/\(∀(u:Value),u∈ys->u.oneCell'=true)/\(n+1)*2096<=140737488355328/\n+1<=9223372036854775807/\∀
 (a':Option Addr) (c':Nat) (m':Mem),Mem.le (M.add ar (List.append cs [])) m'->rowRd m' a' (List.append xs ys)->n+1<=c'->Zab (Zex aR aL aM aQ b)/\[some (Tok.mk (slice ad ae af) 260)]=[some
 (Tok.mk (slice ad ae af) 260)]/\∃(n':Nat),n' < ax/\I [slice a' (n+1) c',bool az,int i64 (i64.wrap (ao+1))] [] [slice a' (n+1) c'] m' n')))) (∃R_2,True/\CX pG 122 (.mk [slice a n ak]) ag [] R_2/\ZbT .cells R_2/\
 ∀(cs:List Value) m',ag.le m'->R_2 (agg (.mk cs)) m' []->chk (Nat.beq (cs.length) 260&&true) (∀b,m'.free b->((∃a,∃n,∃a1,∃(k:Nat),Tok.mk (slice ad ae af) 260=Tok.mk (slice a n a1) 260/\k<=n/\slice al ab c =
 slice (ZaG a k a1 260) (n - k) (a1 - k))\/slice al ab c=slice none 0 0\/c < ab+1)/\∃(xs:List Value),∃(ys:List Value),xs.length=ab*260/\ys.length=1*260/\rowRd (m'.add b (List.append cs [])) al xs/\rowRd
 (m'.add b (List.append cs [])) (some (Addr.mk b 0 none)) ys/\(∀(u:Value),u∈ys->u.oneCell'=true)/\(ab+1)*2096<=140737488355328/\ab+1<=9223372036854775807/\∀(a':Option Addr)(c':Nat)(aw:Mem),Mem.le
 (m'.add b (List.append cs [])) aw->rowRd aw a' (List.append xs ys)->ab+1<=c'->∃R_3,True/\CX pG 121 (.mk [slice a' (ab+1) c']) aw [] R_3/\ZbT .cells R_3/\∀(cs:List Value) m',aw.le m'->R_3 (agg (.mk cs)) m' []->∀
 (b:Nat),chk (Nat.beq (cs.length) 260&&Zbi cs) (∀b,m'.free b->((0:Int)<=aL/\aL<=(↑p0c:Int))/\br (Nat.beq (Int.toNat aL - 0) 0) (chk (Nat.beq (cs.length) 260&&true) (∀(ac:Nat),Mem.free (m'.add b []) ac
 -> (slice (some (Addr.mk b 0 none)) 0 0=slice none 0 0\/0 < 0+1)/\∃(xs:List Value),∃(ys:List Value),xs.length=0*260/\ys.length=1*260/\rowRd (Mem.add (m'.add b []) ac (List.append cs [])) (some (Addr.mk b 0
 none)) xs/\rowRd (Mem.add (m'.add b []) ac (List.append cs [])) (some (Addr.mk ac 0 none)) ys/\(∀(u:Value),u∈ys->u.oneCell'=true)/\(0+1)*2096<=140737488355328/\0+1<=9223372036854775807/\∀(a':Option Addr)
 (c':Nat) (aa:Mem),Mem.le (Mem.add (m'.add b []) ac (List.append cs [])) aa->rowRd aa a' (List.append xs ys)->0+1<=c'->((0:Int)<=aM/\aM<=(↑p0n:Int))/\br (Nat.beq (p0n - Int.toNat aM) 0) (chk (Nat.ble 1 c')
 (∀(M:Mem),Mem.le (m'.add b []) M->Mem.le (Mem.add (m'.add b []) ac (List.append cs [])) M->aa.le M->aa.le M->∃m'',m.le m''/\m''.le M/\R (slice a' 1 c') m'' [])) (((∃a,∃n,∃c,∃(k:Nat),Tok.mk (slice a' 1 c') 260
 = Tok.mk (slice a n c) 260/\k<=n/\slice a' 1 c'=slice (ZaG a k c 260) (n - k) (c - k))\/slice a' 1 c'=slice none 0 0\/c' < 1+(p0n - Int.toNat aM))/\∃(xs:List Value),∃(ys:List Value),xs.length=1*260/\
 ys.length=(p0n - Int.toNat aM)*260/\rowRd aa a' xs/\rowRd aa (ZaG p0a (Int.toNat aM) p0c 260) ys/\(∀(u:Value),u∈ys->u.oneCell'=true)/\(1+(p0n - Int.toNat aM))*2096<=140737488355328/\1+(p0n -
 Int.toNat aM)<=9223372036854775807/\∀(a':Option Addr)(c':Nat) an,aa.le an->rowRd an a' (List.append xs ys)->1+(p0n - Int.toNat aM)<=c'->∀(M:Mem),Mem.le (m'.add b []) M->Mem.le (Mem.add (m'.add b []) ac
 (List.append cs [])) M->aa.le M->an.le M->∃m'',m.le m''/\m''.le M/\R (slice a' (1+(p0n - Int.toNat aM)) c') m'' []))) ((slice (some (Addr.mk b 0 none)) 0 0=slice none 0 0\/0 < 0+(Int.toNat aL - 0))/\∃(xs:List
 Value),∃(ys:List Value),xs.length=0*260/\ys.length=(Int.toNat aL - 0)*260/\rowRd (m'.add b []) (some (Addr.mk b 0 none)) xs/\rowRd (m'.add b []) (ZaG p0a 0 p0c 260) ys/\(∀(u:Value),u∈ys->u.oneCell' =
 true)/\(0+(Int.toNat aL - 0))*2096<=140737488355328/\0+(Int.toNat aL - 0)<=9223372036854775807/\∀(a':Option Addr)(c':Nat)(aa:Mem),Mem.le (m'.add b []) aa->rowRd aa a' (List.append xs ys)->0+(Int.toNat
 aL - 0)<=c'->chk (Nat.beq (cs.length) 260&&true) (∀b,aa.free b->((∃a,∃n,∃c,∃(k:Nat),Tok.mk (slice a' (0+(Int.toNat aL - 0)) c') 260=Tok.mk (slice a n c) 260/\k<=n/\slice a' (0+(Int.toNat aL - 0)) c'
 = slice (ZaG a k c 260) (n - k) (c - k))\/slice a' (0+(Int.toNat aL - 0)) c'=slice none 0 0\/c' < 0+(Int.toNat aL - 0)+1)/\∃(xs:List Value),∃(ys:List Value),xs.length=(0+(Int.toNat aL - 0))*260/\
 ys.length=1*260/\rowRd (aa.add b (List.append cs [])) a' xs/\rowRd (aa.add b (List.append cs [])) (some (Addr.mk b 0 none)) ys/\(∀(u:Value),u∈ys->u.oneCell'=true)/\(0+(Int.toNat aL - 0)+1)*2096 <=
 140737488355328/\0+(Int.toNat aL - 0)+1<=9223372036854775807/\∀(a':Option Addr)(c':Nat)(m':Mem),Mem.le (aa.add b (List.append cs [])) m'->rowRd m' a' (List.append xs ys)->0+(Int.toNat aL - 0)+1<=c'->
 ((0:Int)<=aM/\aM<=(↑p0n:Int))/\br (Nat.beq (p0n - Int.toNat aM) 0) (chk (Nat.ble (0+(Int.toNat aL - 0)+1) c') (∀M,aa.le M->Mem.le (aa.add b (List.append cs [])) M->m'.le M->m'.le M->∃m'',m.le m''/\
 m''.le M/\R (slice a' (0+(Int.toNat aL - 0)+1) c') m'' [])) (((∃a,∃n,∃c,∃(k:Nat),Tok.mk (slice a' (0+(Int.toNat aL - 0)+1) c') 260=Tok.mk (slice a n c) 260/\k<=n/\slice a' (0+(Int.toNat aL - 0)+1)
 c'=slice (ZaG a k c 260) (n - k) (c - k))\/slice a' (0+(Int.toNat aL - 0)+1) c'=slice none 0 0\/c' < 0+(Int.toNat aL - 0)+1+(p0n - Int.toNat aM))/\∃(xs:List Value),∃(ys:List Value),xs.length=(0
 + (Int.toNat aL - 0)+1)*260/\ys.length=(p0n - Int.toNat aM)*260/\rowRd m' a' xs/\rowRd m' (ZaG p0a (Int.toNat aM) p0c 260) ys/\(∀(u:Value),u∈ys->u.oneCell'=true)/\(0+(Int.toNat aL - 0)+1+(p0n
 - Int.toNat aM))*2096<=140737488355328/\0+(Int.toNat aL - 0)+1+(p0n - Int.toNat aM)<=9223372036854775807/\∀(a':Option Addr)(c':Nat) an,m'.le an->rowRd an a' (List.append xs ys)->0+(Int.toNat aL - 0)
 + 1+(p0n - Int.toNat aM)<=c'->∀M,aa.le M->Mem.le (aa.add b (List.append cs [])) M->m'.le M->an.le M->∃m'',m.le m''/\m''.le M/\R (slice a' (0+(Int.toNat aL - 0)+1+(p0n - Int.toNat aM)) c') m'' [])))))))):CX Tryz.prog 107 #[.slice p0a p0n p0c,.agg #[.int .i64 aR,.int .i64 aL,.int .i64 aM,.int .i64 aQ]] m [] R:=
 Zad (E:=Zn1) Zay mix Tryz.func107 [.v (.slice p0a p0n p0c),.v (.agg #[.int .i64 aR,.int .i64 aL,.int .i64 aM,.int .i64 aQ])] [] (by kernel_rfl) (Eq.mp (by kernel_rfl) h)
def Zhh:Env:={ EB with
 dr:=swI [] [(7,[dO 0 [],dO 1 [0],dO 2 [0,1],⟨3,[2],[],none,[],[]⟩,⟨4,[2],[],none,[3],[]⟩,⟨5,[2],[],none,[],[]⟩,⟨6,[2],[],none,[5],[]⟩,dO 7 [0,1,2,3,4,5,6],⟨8,[4],[4],none,[0,1,2,3,4,5,6,7],[]⟩])]
 frzNew:=[2] }
theorem Zf8(p0:List Value)(p1a:Option Addr)(p1n p1c:Nat)(m:Mem)(R:RT)(h:
 chk (Nat.beq (p0.length) 260) (∀(b:Nat) m',m.le m'->m'.reads b 0 p0->∀(b:Nat),Eng.ZuZ p0 0 λv=>chk (ZaE i64 v&&decide (i64=i64)) (br (RowKit.intOf v == 3) (∃R_1,True/\CX pG 121 (.mk [slice p1a p1n p1c]) m'
 [] R_1/\ZbT .cells R_1/\∀(cs:List Value) m'_1,m'.le m'_1->R_1 (agg (.mk cs)) m'_1 []->chk (Nat.beq (cs.length) 260&&Zbi cs) (∃m'',m.le m''/\m''.le m'_1/\R (agg (.mk cs)) m'' [])) (chk (ZaE i64 v&&decide (i64 =
 i64)) (br (RowKit.intOf v == 4) (∃R_1,True/\CX pG 122 (.mk [slice p1a p1n p1c]) m' [] R_1/\ZbT .cells R_1/\∀(cs:List Value) m'_1,m'.le m'_1->R_1 (agg (.mk cs)) m'_1 []->chk (Nat.beq (cs.length) 260&&Zbi cs) (∃m'',
 m.le m''/\m''.le m'_1/\R (agg (.mk cs)) m'' [])) (chk (ZaE i64 v&&decide (i64=i64)) (br (RowKit.intOf v == 5) (∃(f:Fx),∃(b:Nat),∃(o:Nat),p1a=some (Addr.mk b o none)/\Zaf (0:Int) p1n/\∃(vs:List
 Value),vs.length=260/\m'.reads b (o+0) vs/\Eng.ZuZ p0 257 λv=>Eng.ZuZ p0 258 λv_1=>∃R_1,R_1=f 7 [agg (.mk vs),v,v_1] m'/\CX pG 123 (.mk [agg (.mk vs),v,v_1]) m' [] R_1/\ZbT .cells R_1/\∀(cs:List
 Value) m'_1,m'.le m'_1->R_1 (agg (.mk cs)) m'_1 []->chk (Nat.beq (cs.length) 260&&Zbi cs) (∀M,m'.le M->m'_1.le M->∃m'',m.le m''/\m''.le M/\R (agg (.mk cs)) m'' [])) (chk (ZaE i64 v&&decide (i64=i64)) (br
 (RowKit.intOf v == 6) (∃(b:Nat),∃(o:Nat),p1a=some (Addr.mk b o none)/\Zaf (0:Int) p1n/\∃(vs:List Value),vs.length=260/\m'.reads b (o+0) vs/\∃R_1,True/\CX pG 124 (.mk [agg (.mk vs)]) m' [] R_1/\ZbT
 .cells R_1/\∀(cs:List Value) m'_1,m'.le m'_1->R_1 (agg (.mk cs)) m'_1 []->chk (Nat.beq (cs.length) 260&&Zbi cs) (∃m'',m.le m''/\m''.le m'_1/\R (agg (.mk cs)) m'' [])) (chk (Nat.beq (p0.length) 260&&Zbi p0) (∃
 m'',m.le m''/\m''.le m'/\R (agg (.mk p0)) m'' []))))))))))):CX Tryz.prog 106 #[.agg p0.toArray,.slice p1a p1n p1c] m [] R:=
 Zad (E:=Zhh) Zay mix Tryz.func106 [.v (.agg p0.toArray),.v (.slice p1a p1n p1c)] [] (by kernel_rfl) (Eq.mp (by kernel_rfl) h)
def Zn2:Env:={ EB with
 loops:=swI nLa [(7,⟨[(2,.int .i64),(7,.slice),(8,.int .i64)],[],[(66,260)],false⟩)]
 joins:=swI none [(1,some [(18,.bool)]),(10,some [(55,.bool)])]
 dr:=swI [] [(2,[⟨0,[3],[],none,[],[]⟩,⟨1,[3],[],none,[],[]⟩,⟨2,[3],[],none,[1],[]⟩,⟨3,[4],[],none,[],[]⟩,dO 4 [1,2,3],⟨5,[],[],none,[0,1,2,3,4],[4]⟩,⟨6,[6],[6],none,[0,1,2,3,4,5],[]⟩]),(11,[dO 0 [],⟨1,[3],[],none,[],[]⟩,⟨2,[3],[],none,[1],[]⟩,dO 3 [],dO 4 [1,2,3],dO 5 [1,2,3,4],⟨6,[4],[],none,[],[]⟩,dO 7 [],dO 8 [1,2,3,4,5,6,7],⟨9,[65],[65],none,[1,2,3,4,5,6,7,8],[8]⟩,⟨10,[65],[],some 66,[0,1,2,3,4,5,6,7,8,9],[9]⟩,dO 11 [0,1,2,3,4,5,6,7,8,9,10]])]
 tokOf:=swI 0 [(66,66),(74,66)]
 frzNew:=[3,4] }
abbrev Zl0:List Value:=[int i64 0,int i64 0,int i64 0,int i64 0,int i64 0,int i64 0,int i64 0,int i64 0,int i64 0,int i64 0,int i64 0,int i64 0,int i64 0,int i64 0,int i64 0,int i64 0,int
 i64 0,int i64 0,int i64 0,int i64 0,int i64 0,int i64 0,int i64 0,int i64 0,int i64 0,int i64 0,int i64 0,int i64 0,int i64 0,int i64 0,int i64 0,int i64 0,int i64 0,int i64 0,int i64 0,int i64 0,int
 i64 0,int i64 0,int i64 0,int i64 0,int i64 0,int i64 0,int i64 0,int i64 0,int i64 0,int i64 0,int i64 0,int i64 0,int i64 0,int i64 0,int i64 0,int i64 0,int i64 0,int i64 0,int i64 0,int i64 0,int
 i64 0,int i64 0,int i64 0,int i64 0,int i64 0,int i64 0,int i64 0,int i64 0,int i64 0,int i64 0,int i64 0,int i64 0,int i64 0,int i64 0,int i64 0,int i64 0,int i64 0,int i64 0,int i64 0,int i64 0,int
 i64 0,int i64 0,int i64 0,int i64 0,int i64 0,int i64 0,int i64 0,int i64 0,int i64 0,int i64 0,int i64 0,int i64 0,int i64 0,int i64 0,int i64 0,int i64 0,int i64 0,int i64 0,int i64 0,int i64 0,int
 i64 0,int i64 0,int i64 0,int i64 0,int i64 0,int i64 0,int i64 0,int i64 0,int i64 0,int i64 0,int i64 0,int i64 0,int i64 0,int i64 0,int i64 0,int i64 0,int i64 0,int i64 0,int i64 0,int i64 0,int
 i64 0,int i64 0,int i64 0,int i64 0,int i64 0,int i64 0,int i64 0,int i64 0,int i64 0,int i64 0,int i64 0,int i64 0,int i64 0,int i64 0,int i64 0,int i64 0,int i64 0,int i64 0,int i64 0,int i64 0,int
 i64 0,int i64 0,int i64 0,int i64 0,int i64 0,int i64 0,int i64 0,int i64 0,int i64 0,int i64 0,int i64 0,int i64 0,int i64 0,int i64 0,int i64 0,int i64 0,int i64 0,int i64 0,int i64 0,int i64 0,int
 i64 0,int i64 0,int i64 0,int i64 0,int i64 0,int i64 0,int i64 0,int i64 0,int i64 0,int i64 0,int i64 0,int i64 0,int i64 0,int i64 0,int i64 0,int i64 0,int i64 0,int i64 0,int i64 0,int i64 0,int
 i64 0,int i64 0,int i64 0,int i64 0,int i64 0,int i64 0,int i64 0,int i64 0,int i64 0,int i64 0,int i64 0,int i64 0,int i64 0,int i64 0,int i64 0,int i64 0,int i64 0,int i64 0,int i64 0,int i64 0,int
 i64 0,int i64 0,int i64 0,int i64 0,int i64 0,int i64 0,int i64 0,int i64 0,int i64 0,int i64 0,int i64 0,int i64 0,int i64 0,int i64 0,int i64 0,int i64 0,int i64 0,int i64 0,int i64 0,int i64 0,int
 i64 0,int i64 0,int i64 0,int i64 0,int i64 0,int i64 0,int i64 0,int i64 0,int i64 0,int i64 0,int i64 0,int i64 0,int i64 0,int i64 0,int i64 0,int i64 0,int i64 0,int i64 0,int i64 0,int i64 0,int
 i64 0,int i64 0,int i64 0,int i64 0,int i64 0,int i64 0,int i64 0,int i64 0,int i64 0,int i64 0,int i64 0,int i64 0,int i64 0,int i64 0,int i64 0,int i64 0,int i64 0,int i64 0,int i64 0,int i64 0,int
 i64 0,int i64 0,int i64 0,slice none 0 0]
abbrev Zl1:Nat->Option Box:=λb=>some (Box.mk b Zl0 67 260 false true)
abbrev Zl2:Int->Int->Int->Int->Nat->Option Box:=λaR aL aM aQ b=>some (Box.mk b [int i64 aR,int i64 aL,int i64 aM,int i64 aQ] 79 4 true true)
abbrev Zl3:List Value->Nat->Option Box:=λp0 b=>some (Box.mk b p0 67 260 true true)
abbrev Zbh:List Value->Int->Int->Int->Int->Nat->Nat->Nat->List (Option Box):=λp0 aR aL aM aQ b ah ai=>[Zl1 ai,Zl2 aR aL aM aQ ah,Zl3 p0 b]
theorem Zl4(p0:List Value)(aR aL aM aQ p2:Int)(m:Mem)(R:RT)(h:
 chk (Nat.beq (p0.length) 260) (∀(b:Nat) m',m.le m'->m'.reads b 0 p0->∀(ah:Nat) ak,m'.le ak->ak.reads ah 0 [int i64 aR,int i64 aL,int i64 aM,int i64 aQ]->∀(ai:Nat),∃(aq:Bool),(Eng.ZuZ p0 0 λv=>
 chk (ZaE i64 v&&decide (i64=i64)) (br (RowKit.intOf v == 4) (Zab (Zbh p0 aR aL aM aQ b ah ai)/\[bool (p2 == aR)]=[bool aq]) (Zab (Zbh p0 aR aL aM aQ b ah ai)/\[bool false] =
 [bool aq])))/\br aq (∃(f:Fx),Eng.ZuZ p0 259 λv=>∃R_1,R_1=f 4 [v,agg (.mk [int i64 aR,int i64 aL,int i64 aM,int i64 aQ])] ak/\CX pG 107 (.mk [v,agg (.mk [int i64 aR,int i64 aL,int i64 aM,int
 i64 aQ])]) ak [] R_1/\ZbT .slice R_1/\∀a n c m',ak.le m'->R_1 (slice a n c) m' []->∃R_2,R_2=f 5 [agg (.mk p0),slice a n c] m'/\CX pG 106 (.mk [agg (.mk p0),slice a n c]) m' [] R_2/\ZbT .cells R_2/\∀(cs:List
 Value) aa,m'.le aa->R_2 (agg (.mk cs)) aa []->chk (Nat.beq (cs.length) 260&&Zbi cs) (∀M,ak.le M->m'.le M->aa.le M->∃m'',m.le m''/\m''.le M/\R (agg (.mk cs)) m'' [])) (Eng.ZuZ p0 0 λv=>chk (ZaE i64 v &&
 decide (i64=i64)) (br (RowKit.intOf v == 4) (∃(I:IT),(∃(n:Nat),I [int i64 (i64.wrap (p2+1)),slice none 0 0,int i64 0] [] [slice none 0 0] ak n)/\∀n a ab c ad ae af ag m' (am:Nat),ak.le m'->I [int i64 n,slice a
 ab c,int i64 ad] [] [slice ae af ag] m' am->Eng.ZuZ p0 259 λv=>chk (Zck v) (br (decide (ad < (↑(slN v):Int))) (Eng.ZuZ p0 259 λv=>chk (Zck v) (∃(ap:Nat),∃(o:Nat),slA v=some (Addr.mk ap o none)/\Zaf
 ad (slN v)/\∃(vs:List Value),vs.length=260/\m'.reads ap (o+Int.toNat ad*260) vs/\∃R,True/\CX pG 81 (.mk [agg (.mk vs)]) m' [] R/\ZbT .slice R/\∀ar al au aa,m'.le aa->R (slice ar al au) aa []->∃(an:Bool),
 br (decide (aR ≥ n)) (Zab (Zbh p0 aR aL aM aQ b ah ai)/\[some (Tok.mk (slice ae af ag) 260)]=[some (Tok.mk (slice ae af ag) 260)]/\[bool (decide (aR < i64.wrap (n+(↑al:Int))))]=[bool an]) (Zab
 (Zbh p0 aR aL aM aQ b ah ai)/\[some (Tok.mk (slice ae af ag) 260)]=[some (Tok.mk (slice ae af ag) 260)]/\[bool false]=[bool an])/\br an (∃(f:Fx),Eng.ZuZ p0 259 λv=>chk (Zck v) (∃(aj:Nat),∃
 (o:Nat),slA v=some (Addr.mk aj o none)/\Zaf ad (slN v)/\∃(vs:List Value),vs.length=260/\aa.reads aj (o+Int.toNat ad*260) vs/\∃R,R=f 8 [agg (.mk vs),agg (.mk [int i64 aR,int i64 aL,int i64 aM,
 int i64 aQ]),int i64 n] aa/\CX pG 76 (.mk [agg (.mk vs),agg (.mk [int i64 aR,int i64 aL,int i64 aM,int i64 aQ]),int i64 n]) aa [] R/\ZbT .cells R/\∀(cs:List Value) m',aa.le m'->R (agg (.mk cs)) m' []->chk
 (Nat.beq (cs.length) 260&&true) (∀ac,m'.free ac->(Tok.mk (slice ae af ag) 260=Tok.mk (slice a ab c) 260\/slice a ab c=slice none 0 0\/c < ab+1)/\∃(xs:List Value),∃(ys:List Value),xs.length=ab*260/\
 ys.length=1*260/\rowRd (m'.add ac (List.append cs [])) a xs/\rowRd (m'.add ac (List.append cs [])) (some (Addr.mk ac 0 none)) ys/\(∀(u:Value),u∈ys->u.oneCell'=true)/\(ab+1)*2096<=140737488355328/\ab+1 <=
 9223372036854775807/\∀(a':Option Addr)(c':Nat)(ao:Mem),Mem.le (m'.add ac (List.append cs [])) ao->rowRd ao a' (List.append xs ys)->∀M,aa.le M->m'.le M->Mem.le (m'.add ac (List.append cs [])) M->ao.le M->Zab
 (Zbh p0 aR aL aM aQ b ah ai)/\∃(n':Nat),n' < am/\I [int i64 (i64.wrap (n+(↑al:Int))),slice a' (ab+1) c',int i64 (i64.wrap (ad+1))] [] [slice a' (ab+1) c'] M n'))) (Eng.ZuZ p0 259 λv=>chk
 (Zck v) (∃(aj:Nat),∃(o:Nat),slA v=some (Addr.mk aj o none)/\Zaf ad (slN v)/\∃(vs:List Value),vs.length=260/\aa.reads aj (o+Int.toNat ad*260) vs/\chk (Nat.beq (vs.length) 260&&true) (∀ac,aa.free ac
 -> (Tok.mk (slice ae af ag) 260=Tok.mk (slice a ab c) 260\/slice a ab c=slice none 0 0\/c < ab+1)/\∃(xs:List Value),∃(ys:List Value),xs.length=ab*260/\ys.length=1*260/\rowRd (aa.add ac (List.append vs
 [])) a xs/\rowRd (aa.add ac (List.append vs [])) (some (Addr.mk ac 0 none)) ys/\(∀(u:Value),u∈ys->u.oneCell'=true)/\(ab+1)*2096<=140737488355328/\ab+1<=9223372036854775807/\∀(a':Option Addr)(c':Nat) (m'
 : Mem),Mem.le (aa.add ac (List.append vs [])) m'->rowRd m' a' (List.append xs ys)->Zab (Zbh p0 aR aL aM aQ b ah ai)/\∃(n':Nat),n' < am/\I [int i64 (i64.wrap (n+(↑al:Int))),slice a' (ab+1) c',
 int i64 (i64.wrap (ad+1))] [] [slice a' (ab+1) c'] m' n'))))) (∃R_1,True/\CX pG 106 (.mk [agg (.mk p0),slice a ab c]) m' [] R_1/\ZbT .cells R_1/\∀(cs:List Value) aa,m'.le aa->R_1 (agg (.mk cs)) aa []->chk (Nat.beq
 (cs.length) 260&&Zbi cs) (∃m'',m.le m''/\m''.le aa/\R (agg (.mk cs)) m'' [])))) (∃(I:IT),(∃(n:Nat),I [int i64 p2,slice none 0 0,int i64 0] [] [slice none 0 0] ak n)/\∀n a ab c ad ae af ag m' (am:Nat),ak.le
 m'->I [int i64 n,slice a ab c,int i64 ad] [] [slice ae af ag] m' am->Eng.ZuZ p0 259 λv=>chk (Zck v) (br (decide (ad < (↑(slN v):Int))) (Eng.ZuZ p0 259 λv=>chk (Zck v) (∃(ap:Nat),∃(o:Nat),slA v=some
 (Addr.mk ap o none)/\Zaf ad (slN v)/\∃(vs:List Value),vs.length=260/\m'.reads ap (o+Int.toNat ad*260) vs/\∃R,True/\CX pG 81 (.mk [agg (.mk vs)]) m' [] R/\ZbT .slice R/\∀ar al au aa,m'.le aa->R (slice ar
 al au) aa []->∃(an:Bool),br (decide (aR ≥ n)) (Zab (Zbh p0 aR aL aM aQ b ah ai)/\[some (Tok.mk (slice ae af ag) 260)]=[some (Tok.mk (slice ae af ag) 260)]/\[bool (decide (aR < i64.wrap (n+(↑al:
 Int))))]=[bool an]) (Zab (Zbh p0 aR aL aM aQ b ah ai)/\[some (Tok.mk (slice ae af ag) 260)]=[some (Tok.mk (slice ae af ag) 260)]/\[bool false]=[bool an])/\br an (∃(f:Fx),Eng.ZuZ p0 259 λv=>
 chk (Zck v) (∃(aj:Nat),∃(o:Nat),slA v=some (Addr.mk aj o none)/\Zaf ad (slN v)/\∃(vs:List Value),vs.length=260/\aa.reads aj (o+Int.toNat ad*260) vs/\∃R,R=f 8 [agg (.mk vs),agg (.mk [int i64 aR,
 int i64 aL,int i64 aM,int i64 aQ]),int i64 n] aa/\CX pG 76 (.mk [agg (.mk vs),agg (.mk [int i64 aR,int i64 aL,int i64 aM,int i64 aQ]),int i64 n]) aa [] R/\ZbT .cells R/\∀(cs:List Value) m',aa.le m'->
 R (agg (.mk cs)) m' []->chk (Nat.beq (cs.length) 260&&true) (∀ac,m'.free ac->(Tok.mk (slice ae af ag) 260=Tok.mk (slice a ab c) 260\/slice a ab c=slice none 0 0\/c < ab+1)/\∃(xs:List Value),∃(ys:List Value),
 xs.length=ab*260/\ys.length=1*260/\rowRd (m'.add ac (List.append cs [])) a xs/\rowRd (m'.add ac (List.append cs [])) (some (Addr.mk ac 0 none)) ys/\(∀(u:Value),u∈ys->u.oneCell'=true)/\(ab+1)*2096 <=
 140737488355328/\ab+1<=9223372036854775807/\∀(a':Option Addr)(c':Nat)(ao:Mem),Mem.le (m'.add ac (List.append cs [])) ao->rowRd ao a' (List.append xs ys)->∀M,aa.le M->m'.le M->Mem.le (m'.add ac (List.append cs
 [])) M->ao.le M->Zab (Zbh p0 aR aL aM aQ b ah ai)/\∃(n':Nat),n' < am/\I [int i64 (i64.wrap (n+(↑al:Int))),slice a' (ab+1) c',int i64 (i64.wrap (ad+1))] [] [slice a' (ab+1) c'] M n')))
 (Eng.ZuZ p0 259 λv=>chk (Zck v) (∃(aj:Nat),∃(o:Nat),slA v=some (Addr.mk aj o none)/\Zaf ad (slN v)/\∃(vs:List Value),vs.length=260/\aa.reads aj (o+Int.toNat ad*260) vs/\chk (Nat.beq (vs.length)
 260&&true) (∀ac,aa.free ac->(Tok.mk (slice ae af ag) 260=Tok.mk (slice a ab c) 260\/slice a ab c=slice none 0 0\/c < ab+1)/\∃(xs:List Value),∃(ys:List Value),xs.length=ab*260/\ys.length=1*260/\rowRd
 (aa.add ac (List.append vs [])) a xs/\rowRd (aa.add ac (List.append vs [])) (some (Addr.mk ac 0 none)) ys/\(∀(u:Value),u∈ys->u.oneCell'=true)/\(ab+1)*2096<=140737488355328/\ab+1<=9223372036854775807/\∀(a':
 Option Addr) (c':Nat) (m':Mem),Mem.le (aa.add ac (List.append vs [])) m'->rowRd m' a' (List.append xs ys)->Zab (Zbh p0 aR aL aM aQ b ah ai)/\∃(n':Nat),n' < am/\I [int i64 (i64.wrap (n+(↑al:
 Int))),slice a' (ab+1) c',int i64 (i64.wrap (ad+1))] [] [slice a' (ab+1) c'] m' n'))))) (∃R_1,True/\CX pG 106 (.mk [agg (.mk p0),slice a ab c]) m' [] R_1/\ZbT .cells R_1/\∀(cs:List Value) aa,m'.le aa->R_1 (agg
 (.mk cs)) aa []->chk (Nat.beq (cs.length) 260&&Zbi cs) (∃m'',m.le m''/\m''.le aa/\R (agg (.mk cs)) m'' [])))))))):CX Tryz.prog 76 #[.agg p0.toArray,.agg #[.int .i64 aR,.int .i64 aL,.int .i64 aM,.int .i64 aQ],.int .i64 p2] m [] R:=
 Zad (E:=Zn2) Zay mix Tryz.func76 [.v (.agg p0.toArray),.v (.agg #[.int .i64 aR,.int .i64 aL,.int .i64 aM,.int .i64 aQ]),.v (.int .i64 p2)] [] (by kernel_rfl) (Eq.mp (by kernel_rfl) h)
def Zl5:Env:={ EB with
 joins:=swI none [(1,some [(2,.bool)])]
 frzNew:=[1] }
theorem ZjN(p0:List Value)(m:Mem)(R:RT)(h:
 chk (Nat.beq (p0.length) 260) (fzM m p0 λb m'=>∃(b_1:Bool),lE [some (Box.mk b p0 67 260 true true)] λxL=>(kB pG 75 [agg (.mk p0)] m' λb m'=>br b (kI pG 51 [agg (.mk p0)] m' λn m'=>Zab xL/\[bool (decide
 (n<=120))]=[bool b_1]) (Zab xL/\[bool false]=[bool b_1]))/\rtM m m' R (bool b_1))):CX Tryz.prog 38 #[.agg p0.toArray] m [] R:=
 Zad (E:=Zl5) Zay mix Tryz.func38 [.v (.agg p0.toArray)] [] (by kernel_rfl) (Eq.mp (by kernel_rfl) h)
def Zn3:Env:={ EB with
 loops:=swI nLa [(5,⟨[(5,.int .i64),(7,.int .i64)],[4],[],false⟩)]
 joins:=swI none [(9,some [(61,.bool)])]
 dr:=swI [] [(8,[⟨0,[1],[],none,[],[]⟩,dO 1 [0],⟨2,[1],[],none,[],[]⟩,⟨3,[8],[],none,[],[]⟩,⟨4,[],[],none,[0,1,2,3],[1]⟩,⟨5,[],[],none,[0,1,2,3,4],[4]⟩,dO 6 [0,1,2,3,4,5],dO 7 [0,1,2,3,4,5,6]])]
 frzNew:=[1] }
abbrev Zl6:Value->Value->Value->Value->Nat->Option Box:=λv aa ab ac b=>some (Box.mk b [v,aa,ab,ac] 79 4 false true)
abbrev Zl7:Nat->List Value->Option Box:=λb cs=>some (Box.mk b cs 79 4 false true)
abbrev ZgY:Nat->Option Box:=λb=>some (Box.mk b [int i64 0,int i64 0,int i64 0,int i64 0] 79 4 false true)
abbrev ZgZ:List Value->Nat->Option Box:=λp0 b=>some (Box.mk b p0 67 260 true true)
abbrev Zcj:List Value->Nat->Nat->Nat->List Value->Value->Value->Value->Value->Nat->List (Option Box):=λp0 b ad ae cs v aa ab ac an=>[Zl6 v aa ab ac an,Zl7 ae cs,
 ZgY ad,ZgZ p0 b]
abbrev Zg0:List Value->Nat->Nat->Nat->List (Option Box):=λp0 b ad ae=>[some (Box.mk ae [] 79 4 false true),ZgY ad,ZgZ p0 b]
theorem Zl8(p0:List Value)(m:Mem)(R:RT)(h:
 chk (Nat.beq (p0.length) 260) (∀(b:Nat) m',m.le m'->m'.reads b 0 p0->∀(ad ae:Nat),∃R_1,True/\CX pG 43 (.mk [agg (.mk p0)]) m' [] R_1/\ZbT .slice R_1/\∀a n c am,m'.le am->R_1 (slice a n c) am []->∃(I:IT),(∃
 (n:Nat),I [int i64 0,int i64 0] [[int i64 0,int i64 0,int i64 0,int i64 0]] [] am n)/\∀ak ag (cs:List Value) m' (ao:Nat),am.le m'->I [int i64 ak,int i64 ag] [cs] [] m' ao->br (decide (ag < (↑n:Int))) (∃(an:
 Nat),∃(o:Nat),a=some (Addr.mk an o none)/\Zaf ag n/\∃v aa ab ac:Value,m'.reads an (o+Int.toNat ag*4) [v,aa,ab,ac]/\∀(ah:Nat),chk (v.oneCell'&&(aa.oneCell'&&(ab.oneCell'&&(ac.oneCell'&&true))))
 (∃(f:Fx),∃R,R=f 1 [agg (.mk p0)] m'/\CX pG 51 (.mk [agg (.mk p0)]) m' [] R/\ZbT (.int i64) R/\∀n ai,m'.le ai->R (int i64 n) ai []->∃R,R=f 4 [agg (.mk p0),agg (.mk [v,aa,ab,ac]),int i64 0] ai/\CX pG 76
 (.mk [agg (.mk p0),agg (.mk [v,aa,ab,ac]),int i64 0]) ai [] R/\ZbT .cells R/\∀(ap:List Value) aj,ai.le aj->R (agg (.mk ap)) aj []->∃R,R=f 5 [agg (.mk ap)] aj/\CX pG 51 (.mk [agg (.mk ap)]) aj [] R/\ZbT (.int
 i64) R/\∀al aq,aj.le aq->R (int i64 al) aq []->∀M,m'.le M->ai.le M->aj.le M->aq.le M->∃(af:Bool),br (decide (i64.wrap (n - al) > ak)) (Zab (Zcj p0 b ad ae cs v aa ab ac ah)/\[bool true]=[bool af])
 (br (decide (i64.wrap (n - al) > 0)) (br (i64.wrap (n - al) == ak) (Eng.ZuZ cs 0 λar=>chk (ZaE i64 v&&ZaE i64 ar) (br (RowKit.intOf v == RowKit.intOf ar) (Eng.ZuZ cs 1 λau=>chk (ZaE i64 aa&&ZaE i64 au) (br
 (RowKit.intOf aa == RowKit.intOf au) (Eng.ZuZ cs 2 λav=>chk (ZaE i64 ab&&ZaE i64 av) (Zab (Zcj p0 b ad ae cs v aa ab ac ah)/\[bool (decide (RowKit.intOf ab > RowKit.intOf av))]=[bool af])) (Zab
 (Zcj p0 b ad ae cs v aa ab ac ah)/\[bool false]=[bool af]))) (Zab (Zcj p0 b ad ae cs v aa ab ac ah)/\[bool false]=[bool af]))) (Zab (Zcj p0 b ad ae cs v aa ab ac ah)/\[bool false]=[bool
 af])) (Zab (Zcj p0 b ad ae cs v aa ab ac ah)/\[bool false]=[bool af]))/\br af (chk (v.oneCell'&&(aa.oneCell'&&(ab.oneCell'&&(ac.oneCell'&&true)))) (Zab (Zg0 p0 b ad ae)/\∃(n':Nat),n' < ao
 /\ I [int i64 (i64.wrap (n - al)),int i64 (i64.wrap (ag+1))] [[v,aa,ab,ac]] [] M n')) (Zab (Zg0 p0 b ad ae)/\∃(n':Nat),n' < ao/\I [int i64 ak,int i64 (i64.wrap (ag+1))] [cs] [] M n'))) (chk (Nat.beq
 (cs.length) 4&&Zbi cs) (∃m'',m.le m''/\m''.le m'/\R (tuple (.mk [agg (.mk cs),int i64 ak])) m'' [])))):CX Tryz.prog 40 #[.agg p0.toArray] m [] R:=
 Zad (E:=Zn3) Zay mix Tryz.func40 [.v (.agg p0.toArray)] [] (by kernel_rfl) (Eq.mp (by kernel_rfl) h)
def Zl9:Env:={ EB with
 loops:=swI nLa [(2,⟨[(4,.slice)],[1,3],[(19,4)],false⟩)]
 dr:=swI [] [(4,[dO 0 [],⟨1,[1],[],none,[],[]⟩,dO 2 [0],⟨3,[3],[3],none,[0,1,2],[]⟩])]
 tokOf:=swI 0 [(19,19)] }
abbrev ZjO:List Value:=[int i64 0,int i64 0,int i64 0,int i64 0,int i64 0,int i64 0,int i64 0,int i64 0,int i64 0,int i64 0,int i64 0,int i64 0,int i64 0,int i64 0,int i64 0,int i64 0,int
 i64 0,int i64 0,int i64 0,int i64 0,int i64 0,int i64 0,int i64 0,int i64 0,int i64 0,int i64 0,int i64 0,int i64 0,int i64 0,int i64 0,int i64 0,int i64 0,int i64 0,int i64 0,int i64 0,int i64 0,int
 i64 0,int i64 0,int i64 0,int i64 0,int i64 0,int i64 0,int i64 0,int i64 0,int i64 0,int i64 0,int i64 0,int i64 0,int i64 0,int i64 0,int i64 0,int i64 0,int i64 0,int i64 0,int i64 0,int i64 0,int
 i64 0,int i64 0,int i64 0,int i64 0,int i64 0,int i64 0,int i64 0,int i64 0,int i64 0,int i64 0,int i64 0,int i64 0,int i64 0,int i64 0,int i64 0,int i64 0,int i64 0,int i64 0,int i64 0,int i64 0,int
 i64 0,int i64 0,int i64 0,int i64 0,int i64 0,int i64 0,int i64 0,int i64 0,int i64 0,int i64 0,int i64 0,int i64 0,int i64 0,int i64 0,int i64 0,int i64 0,int i64 0,int i64 0,int i64 0,int i64 0,int
 i64 0,int i64 0,int i64 0,int i64 0,int i64 0,int i64 0,int i64 0,int i64 0,int i64 0,int i64 0,int i64 0,int i64 0,int i64 0,int i64 0,int i64 0,int i64 0,int i64 0,int i64 0,int i64 0,int i64 0,int
 i64 0,int i64 0,int i64 0,int i64 0,int i64 0,int i64 0,int i64 0,int i64 0,int i64 0,int i64 0,int i64 0,int i64 0,int i64 0,int i64 0,int i64 0,int i64 0,int i64 0,int i64 0,int i64 0,int i64 0,int
 i64 0,int i64 0,int i64 0,int i64 0,int i64 0,int i64 0,int i64 0,int i64 0,int i64 0,int i64 0,int i64 0,int i64 0,int i64 0,int i64 0,int i64 0,int i64 0,int i64 0,int i64 0,int i64 0,int i64 0,int
 i64 0,int i64 0,int i64 0,int i64 0,int i64 0,int i64 0,int i64 0,int i64 0,int i64 0,int i64 0,int i64 0,int i64 0,int i64 0,int i64 0,int i64 0,int i64 0,int i64 0,int i64 0,int i64 0,int i64 0,int
 i64 0,int i64 0,int i64 0,int i64 0,int i64 0,int i64 0,int i64 0,int i64 0,int i64 0,int i64 0,int i64 0,int i64 0,int i64 0,int i64 0,int i64 0,int i64 0,int i64 0,int i64 0,int i64 0,int i64 0,int
 i64 0,int i64 0,int i64 0,int i64 0,int i64 0,int i64 0,int i64 0,int i64 0,int i64 0,int i64 0,int i64 0,int i64 0,int i64 0,int i64 0,int i64 0,int i64 0,int i64 0,int i64 0,int i64 0,int i64 0,int
 i64 0,int i64 0,int i64 0,int i64 0,int i64 0,int i64 0,int i64 0,int i64 0,int i64 0,int i64 0,int i64 0,int i64 0,int i64 0,int i64 0,int i64 0,int i64 0,int i64 0,int i64 0,int i64 0,int i64 0,int
 i64 0,int i64 0,int i64 0,int i64 0,int i64 0,int i64 0,int i64 0,int i64 0,int i64 0,int i64 0,int i64 0,int i64 0,int i64 0,int i64 0,int i64 0,int i64 0,int i64 0,int i64 0,int i64 0,int i64 0,int
 i64 0,int i64 0,int i64 0,slice none 0 0]
abbrev ZjP:Nat->Nat->List (Option Box):=λb b_1=>[some (Box.mk b_1 [] 67 260 false true),some (Box.mk b [] 67 260 false true)]
theorem ZjQ(p0:List Value)(m:Mem)(R:RT)(h:
 chk (Nat.beq (p0.length) 260) (∀(b b_1:Nat),∃(I:IT),(∃(n:Nat),I [slice none 0 0] [p0,ZjO] [slice none 0 0] m n)/\∀a n c (cs cs_1:List Value) a_1 n_1 c_1 m' (n_2:Nat),m.le m'->I [slice a n c] [cs,
 cs_1] [slice a_1 n_1 c_1] m' n_2->∃R_1,True/\CX pG 40 (.mk [agg (.mk cs)]) m' [] R_1/\ZbT (.tup [.agg [.int i64,.int i64,.int i64,.int i64],.int i64]) R_1/\∀n_3 n_4 n_5 n_6 n_7 m'_1,m'.le m'_1->R_1 (tuple (.mk [agg
 (.mk [int i64 n_3,int i64 n_4,int i64 n_5,int i64 n_6]),int i64 n_7])) m'_1 []->∀(b_2:Nat),br (n_7 == 0) (chk (Nat.beq (cs.length) 260&&Zbi cs) (∃m'',m.le m''/\m''.le m'_1/\R (tuple (.mk [slice a n c,agg (.mk
 cs)])) m'' [])) (∀b_3,m'_1.free b_3->(Tok.mk (slice a_1 n_1 c_1) 4=Tok.mk (slice a n c) 4\/slice a n c=slice none 0 0\/c < n+1)/\∃(xs:List Value),∃(ys:List Value),xs.length=n*4/\ys.length=1*4/\rowRd
 (m'_1.add b_3 [int i64 n_3,int i64 n_4,int i64 n_5,int i64 n_6]) a xs/\rowRd (m'_1.add b_3 [int i64 n_3,int i64 n_4,int i64 n_5,int i64 n_6]) (some (Addr.mk b_3 0 none)) ys/\(∀(u:Value),u∈ys->u.oneCell'=true)/\(n
 + 1)*32<=140737488355328/\n+1<=9223372036854775807/\∀(a':Option Addr)(c':Nat)(m':Mem),Mem.le (m'_1.add b_3 [int i64 n_3,int i64 n_4,int i64 n_5,int i64 n_6]) m'->rowRd m' a' (List.append xs ys)->∃R,True/\
 CX pG 76 (.mk [agg (.mk cs),agg (.mk [int i64 n_3,int i64 n_4,int i64 n_5,int i64 n_6]),int i64 0]) m' [] R/\ZbT .cells R/\∀(cs:List Value) m'_2,m'.le m'_2->R (agg (.mk cs)) m'_2 []->chk (Nat.beq (cs.length) 260 &&
 Zbi cs) (Zab (ZjP b b_1)/\∃(n':Nat),n' < n_2/\I [slice a' (n+1) c'] [cs,cs_1] [slice a' (n+1) c'] m'_2 n')))):CX Tryz.prog 39 #[.agg p0.toArray] m [] R:=
 Zad (E:=Zl9) Zay mix Tryz.func39 [.v (.agg p0.toArray)] [] (by kernel_rfl) (Eq.mp (by kernel_rfl) h)
def Zqf:Env:={ EB with
 loops:=swI nLa [(3,⟨[(7,.int .i64)],[4],[],false⟩)]
 dr:=swI [] [(5,[dO 0 [],dO 1 [],dO 2 [0,1],dO 3 [0,1,2],⟨4,[3],[],none,[],[]⟩,dO 5 [0,1,2,3,4]])]
 frzNew:=[2,3] }
abbrev Zfi:List Value:=[int i64 0,int i64 0,int i64 0,int i64 0,int i64 0,int i64 0,int i64 0,int i64 0,int i64 0,int i64 0,int i64 0,int i64 0,int i64 0,int i64 0,int i64 0,int i64 0,int
 i64 0,int i64 0,int i64 0,int i64 0,int i64 0,int i64 0,int i64 0,int i64 0,int i64 0,int i64 0,int i64 0,int i64 0,int i64 0,int i64 0,int i64 0,int i64 0,int i64 0,int i64 0,int i64 0,int i64 0,int
 i64 0,int i64 0,int i64 0,int i64 0,int i64 0,int i64 0,int i64 0,int i64 0,int i64 0,int i64 0,int i64 0,int i64 0,int i64 0,int i64 0,int i64 0,int i64 0,int i64 0,int i64 0,int i64 0,int i64 0,int
 i64 0,int i64 0,int i64 0,int i64 0,int i64 0,int i64 0,int i64 0,int i64 0,int i64 0,int i64 0,int i64 0,int i64 0,int i64 0,int i64 0,int i64 0,int i64 0,int i64 0,int i64 0,int i64 0,int i64 0,int
 i64 0,int i64 0,int i64 0,int i64 0,int i64 0,int i64 0,int i64 0,int i64 0,int i64 0,int i64 0,int i64 0,int i64 0,int i64 0,int i64 0,int i64 0,int i64 0,int i64 0,int i64 0,int i64 0,int i64 0,int
 i64 0,int i64 0,int i64 0,int i64 0,int i64 0,int i64 0,int i64 0,int i64 0,int i64 0,int i64 0,int i64 0,int i64 0,int i64 0,int i64 0,int i64 0,int i64 0,int i64 0,int i64 0,int i64 0,int i64 0,int
 i64 0,int i64 0,int i64 0,int i64 0,int i64 0,int i64 0,int i64 0,int i64 0,int i64 0,int i64 0,int i64 0,int i64 0,int i64 0,int i64 0,int i64 0,int i64 0,int i64 0,int i64 0,int i64 0,int i64 0,int
 i64 0,int i64 0,int i64 0,int i64 0,int i64 0,int i64 0,int i64 0,int i64 0,int i64 0,int i64 0,int i64 0,int i64 0,int i64 0,int i64 0,int i64 0,int i64 0,int i64 0,int i64 0,int i64 0,int i64 0,int
 i64 0,int i64 0,int i64 0,int i64 0,int i64 0,int i64 0,int i64 0,int i64 0,int i64 0,int i64 0,int i64 0,int i64 0,int i64 0,int i64 0,int i64 0,int i64 0,int i64 0,int i64 0,int i64 0,int i64 0,int
 i64 0,int i64 0,int i64 0,int i64 0,int i64 0,int i64 0,int i64 0,int i64 0,int i64 0,int i64 0,int i64 0,int i64 0,int i64 0,int i64 0,int i64 0,int i64 0,int i64 0,int i64 0,int i64 0,int i64 0,int
 i64 0,int i64 0,int i64 0,int i64 0,int i64 0,int i64 0,int i64 0,int i64 0,int i64 0,int i64 0,int i64 0,int i64 0,int i64 0,int i64 0,int i64 0,int i64 0,int i64 0,int i64 0,int i64 0,int i64 0,int
 i64 0,int i64 0,int i64 0,int i64 0,int i64 0,int i64 0,int i64 0,int i64 0,int i64 0,int i64 0,int i64 0,int i64 0,int i64 0,int i64 0,int i64 0,int i64 0,int i64 0,int i64 0,int i64 0,int i64 0,int
 i64 0,int i64 0,int i64 0,int i64 0,int i64 0,int i64 0,int i64 0,int i64 0,int i64 0,int i64 0,int i64 0,int i64 0,int i64 0,int i64 0,int i64 0,int i64 0,int i64 0,int i64 0,int i64 0,int i64 0,int
 i64 0,int i64 0,int i64 0,slice none 0 0]
abbrev Zn4:Int->Int->Int->Int->Nat->Option Box:=λaR aL aM aQ b=>some (Box.mk b [int i64 aR,int i64 aL,int i64 aM,int i64 aQ] 79 4 true true)
abbrev Zn5:List Value->Nat->Option Box:=λp0 b=>some (Box.mk b p0 67 260 true true)
abbrev Zn6:List Value->Int->Int->Int->Int->Nat->Nat->Nat->List (Option Box):=λp0 aR aL aM aQ b b_1 b_2=>[some (Box.mk b_2 [] 67 260 false true),Zn4 aR aL aM aQ b_1,
 Zn5 p0 b]
theorem Zn7(p0:List Value)(aR aL aM aQ:Int)(m:Mem)(R:RT)(h:
 chk (Nat.beq (p0.length) 260) (∀(b:Nat) m',m.le m'->m'.reads b 0 p0->∀(b_1:Nat) m'_1,m'.le m'_1->m'_1.reads b_1 0 [int i64 aR,int i64 aL,int i64 aM,int i64 aQ]->∀(b_2:Nat),∃R_1,True/\CX pG 43 (.mk
 [agg (.mk p0)]) m'_1 [] R_1/\ZbT .slice R_1/\∀a n c m',m'_1.le m'->R_1 (slice a n c) m' []->∃(I:IT),(∃(n:Nat),I [int i64 0] [Zfi] [] m' n)/\∀n_1 (cs:List Value) m'_2 (n_2:Nat),m'.le m'_2->I [int i64
 n_1] [cs] [] m'_2 n_2->br (decide (n_1 < (↑n:Int))) (∃(b_3:Nat),∃(o:Nat),a=some (Addr.mk b_3 o none)/\Zaf n_1 n/\∃v v_1 v_2 v_3:Value,m'_2.reads b_3 (o+Int.toNat n_1*4) [v,v_1,v_2,v_3]/\∃(b_4:
 Bool),EqIs pG 79 (agg (.mk [v,v_1,v_2,v_3])) (agg (.mk [int i64 aR,int i64 aL,int i64 aM,int i64 aQ])) b_4/\br b_4 (∃R_2,True/\CX pG 76 (.mk [agg (.mk p0),agg (.mk [int i64 aR,int i64 aL,int i64 aM,int
 i64 aQ]),int i64 0]) m'_2 [] R_2/\ZbT .cells R_2/\∀(cs:List Value) m',m'_2.le m'->R_2 (agg (.mk cs)) m' []->chk (Nat.beq (cs.length) 260&&Zbi cs) (∃m'',m.le m''/\m''.le m'/\R (tuple (.mk [agg (.mk cs),int i64
 0])) m'' [])) (Zab (Zn6 p0 aR aL aM aQ b b_1 b_2)/\∃(n':Nat),n' < n_2/\I [int i64 (i64.wrap (n_1+1))] [cs] [] m'_2 n')) (∃m'',m.le m''/\m''.le m'_2/\R (tuple (.mk [agg (.mk Zfi),int i64
 150])) m'' []))):CX Tryz.prog 50 #[.agg p0.toArray,.agg #[.int .i64 aR,.int .i64 aL,.int .i64 aM,.int .i64 aQ]] m [] R:=
 Zad (E:=Zqf) Zay mix Tryz.func50 [.v (.agg p0.toArray),.v (.agg #[.int .i64 aR,.int .i64 aL,.int .i64 aM,.int .i64 aQ])] [] (by kernel_rfl) (Eq.mp (by kernel_rfl) h)
end Go.Proofs.YtfgfahnakepegaaGreat
namespace Go.Proofs.YtfgfahnakepegaaGreat
open Go Go.Eng Go.Rx Go.Proofs Go.RowKit
set_option maxRecDepth 100000
theorem Zf9{L:List C4}:∀(v:Value)(m':Mem) (css:List (List Value)),Zz9 L v m' css->Shape.fits .slice v=true:=λv _ _ ⟨_,_,h,_⟩=>by rw[h];rfl
theorem Zi5{m:Mem}{b:Nat}{cs:List Value}:rowRd (m.add b cs) (some ⟨b,0,none⟩) cs:=.inr ⟨b,0,rfl,λj u hj=>by rw[Nat.zero_add,Mem.add_same];exact hj⟩
theorem Zma(t:T)(cs:List Value)(m:Mem)(hr:RefT m t cs):CX Tryz.prog 38 #[.agg cs.toArray] m [] (Ret (.bool (T.rgt t))):=by
 apply ZjN
 refine hr.chk λb m1 aK _=>⟨T.rgt t,Zai (Zf7 t cs m1 (hr.mono aK)) λm2 aO=>Zac (λh=>Zdx (Zi3 t cs m2 (hr.mono (mLt aK aO))) λm3 aX=>⟨by trivial,?_⟩) (λh=>⟨by trivial,?_⟩),Zah aK rfl⟩
 ·unfold T.rgt;rw[h];rfl
 ·unfold T.rgt;rw[h];rfl
theorem Zi6{t:T}(hz:t.nodes.length<=300):t.cuts.length<=90000:=by
 have h:=Zwi (t:=t) (n:=299) (by omega)
 omega
set_option maxHeartbeats 1600000 in
theorem Zga(t:T)(cs:List Value)(m:Mem)(hr:RefT m t cs)(hz:t.nodes.length<=300):CX Tryz.prog 43 #[.agg cs.toArray] m [] (Zz9 t.cuts):=by
 apply ZlX
 have bK:=Zi6 hz
 have iP:=Zsz t
 refine hr.chk λb m1 aK _=>Zae (Ztc t cs m1 (hr.mono aK) (by omega)) ZdU ?_
 rintro a n c m2 aO ⟨aa,ca,ass,hv,xv,yf⟩
 simp only[Value.slice.injEq]at hv
 obtain⟨rfl,rfl,rfl⟩:=hv
 have bR:=mLt aK aO
 refine⟨λxs _ tvs m' q=>∃(j:Nat)(P:List C4)(a1:Option Addr)(c1:Nat),j<=t.alts.length/\xs=[.slice a1 P.length c1,.int .i64 j]/\tvs=[.slice a1 P.length c1]/\rowRd m' a1 (ZaI P)/\P++ZeU j (t.alts.drop j)=t.cuts/\q=t.alts.length - j,⟨_,0,[],none,0,Nat.zero_le _,rfl,rfl,.inl rfl,rfl,rfl⟩,?_⟩
 rintro a1 n1 c1 z a2 n2 c2 m3 q aX ⟨j,P,a3,c3,hj,aZ,bY,aP,hP,hq⟩
 simp only[List.cons.injEq,Value.slice.injEq,Value.int.injEq,true_and,and_true]at aZ bY
 obtain⟨⟨rfl,rfl,rfl⟩,rfl⟩:=aZ
 obtain⟨rfl,rfl,rfl⟩:=bY
 subst hq
 have bQ:=mLt bR aX
 refine Za4 (λaS=>?_) (λbI=>?_)
 ·have aN:j < t.alts.length:=by omega
  obtain⟨al,rV⟩:=ZaQ aN
  obtain⟨b0,o0,csa,rfl,bA,kJ⟩:=ZbZ xv yf rV
  have cU:Zaf (j:Int) t.alts.length:=⟨by omega,by omega⟩
  obtain⟨_,_,sa,sc,sss,rfl,BT,yg,uQ⟩:=ZaX.1 kJ
  have BU:IntKind.i64.wrap ((j:Int)+1)=((j+1:Nat):Int):=by rw[Zas (by omega) (by omega)];rfl
  simp only[BU,zA8]
  rw[Zri rV]at hP
  have zB:=Zlh t
  have Dm:=Zue (zA2 rV)
  have bH:al.subs.length<=300:=by omega
  refine⟨b0,o0,rfl,cU,_,Zfh (bA.mono aX) (ZpD _ _ _ _ _ _ _),λxs _ tvs m' q=>∃(f:Nat)(P:List C4)(a1:Option Addr)(c1:Nat),f<=al.subs.length/\xs=[.slice a1 P.length c1,.int .i64 f]/\tvs=[.slice a1 P.length c1]/\rowRd m' a1 (ZaI P)/\P++(Zev j f (al.subs.drop f)++ZeU (j+1) (t.alts.drop (j+1)))=t.cuts/\q=al.subs.length - f,⟨_,0,P,_,_,Nat.zero_le _,rfl,rfl,aP,hP,rfl⟩,?_⟩
  clear hP aP
  rintro a4 n4 c4 z a5 n5 c5 m4 q bB ⟨f,P2,a6,c6,hf,aZ,bY,aP,hP,hq⟩
  simp only[List.cons.injEq,Value.slice.injEq,Value.int.injEq,true_and,and_true]at aZ bY
  obtain⟨⟨rfl,rfl,rfl⟩,rfl⟩:=aZ
  obtain⟨rfl,rfl,rfl⟩:=bY
  subst hq
  have fH:=mLt bQ bB
  have BV:IntKind.i64.wrap ((f:Int)+1)=((f+1:Nat):Int):=by rw[Zas (by omega) (by omega)];rfl
  have yh:IntKind.i64.wrap ((f:Int)+2)=((f+1+1:Nat):Int):=by rw[Zas (by omega) (by omega)];omega
  simp only[BV,yh]
  refine Zaa rfl (Za4 (λeN=>?_) (λmF=>?_))
  ·have iW:f < al.subs.length:=by simp only[slN]at eN;omega
   obtain⟨x,hx⟩:=ZaQ iW
   rw[Zrh hx,List.append_assoc]at hP
   refine⟨λxs _ tvs m' q=>∃(to:Nat)(P:List C4)(a1:Option Addr)(c1:Nat),f+1<=to/\to<=al.subs.length/\xs=[.slice a1 P.length c1,.int .i64 (to+1:Nat)]/\tvs=[.slice a1 P.length c1]/\rowRd m' a1 (ZaI P)/\P++(runE j f ((Zao x).take (Zmn (seg al.subs f to))) (to+1) (al.subs.drop to)++(Zev j (f+1) (al.subs.drop (f+1))++ZeU (j+1) (t.alts.drop (j+1))))=t.cuts/\q=al.subs.length - to,⟨_,f+1,P2,_,_,Nat.le_refl _,iW,rfl,rfl,aP,hP,rfl⟩,?_⟩
   clear hP aP
   rintro a7 n7 c7 z a8 n8 c8 m5 q cC ⟨to,P3,a9,c9,w9,xy,aZ,bY,aP,hP,hq⟩
   simp only[List.cons.injEq,Value.slice.injEq,Value.int.injEq,true_and,and_true]at aZ bY
   obtain⟨⟨rfl,rfl,rfl⟩,rfl⟩:=aZ
   obtain⟨rfl,rfl,rfl⟩:=bY
   subst hq
   have Dn:=mLt fH cC
   have BW:IntKind.i64.wrap (((to+1:Nat):Int)+1)=((to+1+1:Nat):Int):=by rw[Zas (by omega) (by omega)];omega
   simp only[BW]
   refine Zaa rfl (Za4 (λuR=>?_) (λuS=>?_))
   ·have uT:to < al.subs.length:=by simp only[slN]at uR;omega
    obtain⟨y,hy⟩:=ZaQ uT
    rw[Zwl hx w9 hy]at hP
    have yi:=Zqd (BT.mono (mLt aX (mLt bB cC))) (yg.mono (mLt aX (mLt bB cC))) (i:=f) (n:=to+1) (c:=sc) (by omega) (by omega) uQ
    rw[ZgL (by omega) hx]at yi hP
    have eA:(x::seg al.subs (f+1) (to+1)).length=to+1 - f:=by rw[<-ZgL (by omega) hx,Zvq (by omega)]
    have aU:=ZrR x (seg al.subs (f+1) (to+1)) _ _ (sc - f) m5 yi.1 yi.2 (by omega)
    rw[eA]at aU
    refine Zaa rfl ⟨⟨by omega,by simp only[slC];omega⟩,⟨by omega,by omega⟩,?_⟩
    simp only[zA8]
    refine Zdx aU λm6 cI=>Za4 (λgJ=>λb6 gP=>?_) (λgJ=>?_)
    ·rw[if_pos (by omega)]at hP
     have Aa:P3.length+1<=t.cuts.length:=by
      rw[<-hP]
      simp only[zA1,List.length_cons,List.length_nil];omega
     refine⟨.inl trivial,ZaI P3,Zcd ⟨j,f,to+1,Zmn (x::seg al.subs (f+1) (to+1))⟩,ZcT _,rfl,(aP.mono cI).mono (Mem.le_add gP _),Zi5,ZrB _,by omega,by omega,λa10 c10 m7 cB eP=>⟨by trivial,by trivial,al.subs.length - (to+1),by omega,to+1,P3++[⟨j,f,to+1,Zmn (x::seg al.subs (f+1) (to+1))⟩],a10,c10,by omega,by omega,?_,?_,?_,?_,rfl⟩⟩
     ·rw[zA1];rfl
     ·rw[zA1];rfl
     ·rw[ZcW];exact eP
     ·rw[<-hP,ZgL (by omega) hx,List.append_assoc,List.append_assoc]
    ·rw[if_neg (by omega),List.nil_append]at hP
     exact⟨by trivial,by trivial,al.subs.length - (to+1),by omega,to+1,P3,_,_,by omega,by omega,rfl,rfl,aP.mono cI,by rw[ZgL (by omega) hx];exact hP,rfl⟩
   ·have:to=al.subs.length:=by simp only[slN]at uS;omega
    subst this
    rw[Zx1 (Nat.le_refl _),List.nil_append]at hP
    exact⟨by trivial,by trivial,al.subs.length - (f+1),by omega,f+1,P3,_,_,iW,rfl,rfl,aP,hP,rfl⟩
  ·have:f=al.subs.length:=by simp only[slN]at mF;omega
   subst this
   rw[List.drop_length,show Zev j al.subs.length []=[] from rfl,List.nil_append]at hP
   exact⟨by trivial,t.alts.length - (j+1),by omega,j+1,P2,_,_,aN,rfl,rfl,aP,hP,rfl⟩
 ·have:j=t.alts.length:=by omega
  subst this
  rw[List.drop_length,show ZeU t.alts.length []=[] from rfl,List.append_nil]at hP
  subst hP
  exact⟨m3,bQ,Mem.le_refl _,_,_,rfl,aP⟩
theorem ZwH{m:Mem}{x:T}{cs:List Value}(h:RefT m x cs):∀u∈Zao x,OkN u.k u.s0 u.s1 u.s2 u.s3 u.mn u.mx:=by
 obtain⟨bD,_,a,c,css,_,_,bO,_⟩:=ZaX.1 h
 intro u hu
 unfold Zao at hu
 split at hu
 ·simp at hu;subst hu;exact bD
 ·split at hu
  ·exact(bO.reps u ((List.takeWhile_sublist _).mem hu)).1
  ·simp at hu
theorem ZwI(q:QS):List.drop (1+(ZaB q).length) ZcU=[.int .i64 0,.int .i64 0,.slice none 0 0]:=by rw[Zal];rfl
theorem ZuO{m m':Mem}{x u:T}{cs:List Value}(h:RefT m x cs)(hu:u∈Zao x)(hg:x.good=true):RefT m' u (rcs 2 u.q 0 0 none 0 0):=by
 have h1:=ZdR hg u hu
 have h2:=ZiR h1.1 h1.2
 have h3:=(Zan h1.1).1
 have eS:u.mn=0/\u.mx=0:=by
  unfold T.right at h3
  simp only[h1.2]at h3
  simp at h3
  exact h3.1.1
 refine ZaX.2 ⟨ZwH h u hu,by rw[h2.1];simp,none,0,[],?_,.inl rfl,?_,?_⟩
 ·rw[h1.2,eS.1,eS.2,h2.1];rfl
 ·rw[h2.1];simp[RefAt]
 ·rw[h2.1];simp
theorem Zi7{L:List T}{k:C4}(hf:Fit L k)(hg:∀x∈L,x.good=true){i:Nat}{x:T}(h1:k.f<=i)(h2:i < k.t)(hx:L[i]?=some x):x.good=true/\k.n<=(Zao x).length:=⟨hg x (zA2 hx),hf.head i x h1 h2 hx⟩
theorem ib(k:Int)(b:Bool){K:List Value}:(k == 1)=b->([Value.bool (intOf (.int .i64 k) == 1)]=[Value.bool b]):=λh=>by show[Value.bool (k == 1)]=_;rw[h]
theorem ZA8{x y:Nat}{A B:Prop}(ht:x=y->A)(hf:¬x=y->B):br (Nat.beq x y) A B:=Zac (λh=>ht (Nat.eq_of_beq_eq_true h)) (λh=>hf λe=>by rw[e]at h;simp at h)
def Zda(L:List T)(k:C4)(i:Nat):List T:=(seg L k.f i).map (Zbp k.n)
theorem Zm8{L:List T}{k:C4}{i:Nat}{x:T}(h:k.f<=i)(hx:L[i]?=some x):Zda L k (i+1)=Zda L k i++[Zbp k.n x]:=by
 unfold Zda
 rw[ZsQ h hx,List.map_append];rfl
theorem Zmb:∀(e:Bool)(l:List T),(Zcp e l).length<=l.length
 | _,[]=>Nat.le_refl _
 | e,x::l=>by
  rw[Zcp]
  split
  ·have:=Zmb (e||x.k == 1) l
   simp only[List.length_cons];omega
  ·have:=Zmb (e||x.k == 1) l
   simp only[List.length_cons];omega
set_option maxHeartbeats 4000000 in
theorem ZwJ(L:List T)(css:List (List Value))(a:Option Addr)(c:Nat)(k:C4)(m:Mem)(hr:rowRd m a css.flatten)(bO:RefAt m L css)(bL:L.length<=c)(hg:∀x∈L,x.good=true)(bE:szL L<=300)(hf:Fit L k):
  CX Tryz.prog 107 #[.slice a L.length c,k.v] m [] (ZrQ (Zg7 L k)):=by
 apply ZlZ
 have tl:∀(v:Value),Zck v=true->TokTail ⟨v,260⟩ v 260:=λv h=>TokTail.refl v 260 h
 have fS:=Zbo L
 have h2:=hf.two
 have bC:=hf.le
 have gJ:=hf.pos
 obtain⟨x0,gR⟩:=ZaQ (l:=L) (k:=k.f) (by omega)
 obtain⟨nE,nA⟩:=Zi7 hf hg (Nat.le_refl _) (by omega) gR
 obtain⟨b0,o0,cs0,rfl,dW,rT⟩:=ZbZ hr bO gR
 have s4:=ZhO (l:=(Zao x0).take k.n) λx hx=>ZdR nE x (List.mem_of_mem_take hx)
 have BX:=Zbq (zA2 gR)
 have xW:=ZfT x0
 intro b m1 aK _
 have yj:Zaf (k.f:Nat) L.length:=⟨by omega,by omega⟩
 simp only[zA8]
 refine⟨b0,o0,rfl,yj,cs0,rT.len,dW.mono aK,Zae (Zi4 x0 cs0 m1 (rT.mono aK)) ZeI ?_⟩
 rintro a3 n3 c3 m2 aO ⟨ah,ch,hv,zY⟩
 simp only[Value.slice.injEq]at hv
 obtain⟨rfl,rfl,rfl⟩:=hv
 have bR:=mLt aK aO
 refine⟨λxs _ tvs m' q=>∃(i:Nat)(a1:Option Addr)(c1:Nat) (R:List (List Value)),i<=k.n/\xs=[.slice a1 i c1,.int .i64 i]/\tvs=[.slice a1 i c1]/\rowRd m' a1 R.flatten/\RefAt m' ((Zao x0).take i) R/\q=k.n - i,⟨_,0,none,0,[],Nat.zero_le _,rfl,rfl,.inl rfl,by simp[RefAt],rfl⟩,?_⟩
 rintro a4 n4 c4 z a5 n5 c5 m3 q aX ⟨i,a6,c6,R,hi,aZ,bY,aP,hR,hq⟩
 simp only[List.cons.injEq,Value.slice.injEq,Value.int.injEq,true_and,and_true]at aZ bY
 obtain⟨⟨rfl,rfl,rfl⟩,rfl⟩:=aZ
 obtain⟨rfl,rfl,rfl⟩:=bY
 subst hq
 have bQ:=mLt bR aX
 have jA:=hR.len
 rw[List.length_take,Nat.min_eq_left (by omega)]at jA
 have fY:=ZbO hR.all
 refine Za4 (λaS=>?_) (λbI=>?_)
 ·have aN:n5 < k.n:=by omega
  obtain⟨u,hu⟩:=ZaQ (l:=Zao x0) (k:=n5) (by omega)
  have BY:=zA2 hu
  obtain⟨b7,o7,rfl,ym⟩:=Zin (zY.mono aX) hu
  have hw:IntKind.i64.wrap ((n5:Int)+1)=((n5+1:Nat):Int):=by rw[Zas (by omega) (by omega)];rfl
  simp only[hw,zA8]
  refine⟨b7,o7,rfl,⟨by omega,by omega⟩,ZaB u.q,Zal _,ym,Zaa (by rw[Zal];rfl) ?_⟩
  rw[ZwI]
  have fW:RefT m3 u (rcs 2 u.q 0 0 none 0 0):=ZuO (rT.mono bQ) BY nE
  refine Zaa (by simp[Zal]) λb8 mU=>⟨.inl (tl _ rfl),R.flatten,rcs 2 u.q 0 0 none 0 0,by rw[fY,jA],by rw[ZeW],aP.mono (Mem.le_add mU _),(Zc9:rowRd (m3.add b8 (List.append (rcs 2 u.q 0 0 none 0 0) [])) _ _),ZpE _ _ _ _ _ _ _,by omega,by omega,λa9 c9 m4 bB kP _=>⟨by trivial,k.n - (n5+1),by omega,n5+1,a9,c9,R++[rcs 2 u.q 0 0 none 0 0],by omega,rfl,rfl,ZdB kP,?_,rfl⟩⟩
  have e:(Zao x0).take (n5+1)=(Zao x0).take n5++[u]:=by rw[List.take_add_one,hu];rfl
  rw[e]
  have lD:=mLt (Mem.le_add mU _) bB
  exact(hR.mono lD).append (RefAt.one (fW.mono lD))
 have mV:n5=k.n:=by omega
 subst mV
 have hG:∀x∈seg L k.f k.t,x.good=true/\k.n<=(Zao x).length:=λx hx=>by
  obtain⟨i,h1,h2,h3⟩:=ZsB hx
  exact Zi7 hf hg h1 h2 h3
 have s9:=ZfS hf.pos hG
 have rI:szL (seg L k.f k.t)<=szL L:=by
  have h1:=Zcu (L.take k.t) k.f
  have h2:=Zcu L k.t
  unfold seg
  omega
 refine⟨λxs _ tvs m' q=>∃(i:Nat)(a1:Option Addr)(c1:Nat) (Q:List (List Value)),k.f<=i/\i<=k.t/\xs=[.slice a1 (Zcp false (Zda L k i)).length c1,.bool ((Zda L k i).any λy=>y.k == 1),.int .i64 i]/\tvs=[.slice a1 (Zcp false (Zda L k i)).length c1]/\rowRd m' a1 Q.flatten/\RefAt m' (Zcp false (Zda L k i)) Q/\q=k.t - i,⟨_,k.f,none,0,[],Nat.le_refl _,by omega,?_,?_,.inl rfl,?_,rfl⟩,?_⟩
 ·have:Zda L k k.f=[]:=by unfold Zda seg;rw[List.drop_eq_nil_of_le (by rw[List.length_take];omega)];rfl
  rw[this];rfl
 ·have:Zda L k k.f=[]:=by unfold Zda seg;rw[List.drop_eq_nil_of_le (by rw[List.length_take];omega)];rfl
  rw[this];rfl
 ·have:Zda L k k.f=[]:=by unfold Zda seg;rw[List.drop_eq_nil_of_le (by rw[List.length_take];omega)];rfl
  rw[this];simp[Zcp,RefAt]
 rintro a7 n7 c7 bb z a8 n8 c8 m4 q bB ⟨i,a9,c9,Q,fI,gH,aZ,bY,dV,hQ,hq⟩
 simp only[List.cons.injEq,Value.slice.injEq,Value.int.injEq,Value.bool.injEq,true_and,and_true]at aZ bY
 obtain⟨⟨rfl,rfl,rfl⟩,rfl,rfl⟩:=aZ
 obtain⟨rfl,rfl,rfl⟩:=bY
 subst hq
 have fH:=mLt bQ bB
 have Ab:=hQ.len
 have BZ:=ZbO hQ.all
 have Bb:=Zmb false (Zda L k i)
 have B0:(Zda L k i).length=i - k.f:=by unfold Zda;rw[List.length_map,Zvq (by omega)]
 refine Za4 (λaS=>?_) (λbI=>?_)
 ·have aN:i < k.t:=by omega
  obtain⟨y,hy⟩:=ZaQ (l:=L) (k:=i) (by omega)
  obtain⟨B1,B2⟩:=Zi7 hf hg fI aN hy
  obtain⟨by',oy,csy,e0,yn,jV⟩:=ZbZ hr bO hy
  cases e0
  have nU:=Zbq (zA2 hy)
  have hw:IntKind.i64.wrap ((i:Int)+1)=((i+1:Nat):Int):=by rw[Zas (by omega) (by omega)];rfl
  simp only[hw,zA8]
  refine⟨λ_ _ _=>ZrM (Zbp k.n y),b0,o0,rfl,⟨by omega,by omega⟩,csy,jV.len,yn.mono fH,_,rfl,ZwG y csy k.n m4 (jV.mono fH) B1 (by omega) B2,Za5,Ze4 λcsl m5 cC hl b5=>hl.chk1 λM jH tg=>?_⟩
  have B3:=hl.mono tg
  have pN:=ZiU (Zbp k.n y) false (Zda L k i)
  rw[<-Zm8 fI hy]at pN
  have eT:(Zda L k (i+1)).any (λy=>y.k == 1)=((Zda L k i).any (λy=>y.k == 1)||(Zbp k.n y).k == 1):=by
   rw[Zm8 fI hy,List.any_append];simp
  generalize hA:(Zda L k i).any (λy=>y.k == 1)=A at *
  refine⟨(Zbp k.n y).k == 1&&A,Zap hl.at0 (Zaa rfl (Zdl (λh1=>⟨by trivial,by trivial,?_⟩) (λh1=>⟨by trivial,by trivial,?_⟩))),Zac (λhb=>?_) (λhb=>?_)⟩
  ·have h1:(Zbp k.n y).k=1:=h1
   rw[h1];simp
  ·have h1:¬(Zbp k.n y).k=1:=h1
   have:((Zbp k.n y).k == 1)=false:=by simpa using h1
   rw[this];rfl
  ·simp only[zA7]at hb
   rw[if_neg (by
    have h1:(Zbp k.n y).k=1:=by simpa using hb.1
    rw[h1,hb.2];simp),List.append_nil]at pN
   rw[hb.2]at eT
   exact⟨by trivial,by trivial,k.t - (i+1),by omega,i+1,_,_,Q,by omega,by omega,by rw[pN,eT,hb.2];rfl,by rw[pN],dV.mono jH,by rw[pN];exact hQ.mono jH,rfl⟩
  ·rw[if_pos (by
    rcases Bool.and_eq_false_iff.1 hb with h1|h1
    ·left;simpa using h1
    ·right;rw[h1];rfl)]at pN
   have kH:=congrArg List.length pN
   simp only[zA1,List.length_cons,List.length_nil]at kH
   refine⟨A||(Zbp k.n y).k == 1,Zac (λh1=>⟨by trivial,by trivial,by rw[h1];rfl⟩) (λh1=>Zap hl.at0 (Zaa rfl ⟨by trivial,by trivial,by rw[h1];rfl⟩)),hl.chk2 λb6 gP=>⟨.inl (tl _ rfl),Q.flatten,csl,by rw[BZ,Ab],by rw[hl.len],(dV.mono jH).mono (Mem.le_add gP _),Zc9,hl.one,by omega,by omega,λa10 c10 m6 cI uU _=>⟨by trivial,by trivial,k.t - (i+1),by omega,i+1,a10,c10,Q++[csl],by omega,by omega,?_,?_,ZdB uU,?_,rfl⟩⟩⟩
   ·rw[kH,eT]
   ·rw[kH]
   ·rw[pN]
    have ti:=mLt (Mem.le_add gP _) cI
    exact(hQ.mono (mLt jH ti)).append (RefAt.one (B3.mono ti))
 have tj:i=k.t:=by omega
 subst tj
 have fF:=Zk7 (e:=false) (l:=Zda L k k.t) λx hx=>(s9.1 x hx).1
 have mW:∀y∈Zcp false (Zda L k k.t),y.good=true:=λy hy=>(s9.1 y (ZfR hy)).1
 have bN:Zcp false (Zda L k k.t)≠[]:=by
  obtain⟨y,l,gD⟩:∃y l,Zda L k k.t=y::l:=by
   unfold Zda
   rw[ZgL (by omega) gR]
   exact⟨_,_,rfl⟩
  rw[gD]
  exact Zsy rfl
 have B4:szL (Zda L k k.t)<=szL (seg L k.f k.t):=s9.2.1
 have kE:=Zyt (Zcp false (Zda L k k.t)) Q a8 c8 m4 dV hQ mW (by have:=fF.2;omega) bN
 have ha:=Zea mW
 have has:=ha.sz
 have fD:=fF.2
 refine Zae kE Za5 (Ze4 λcso m5 cC ho=>ho.chk2 λb5 oN=>⟨.inl (tl _ rfl),R.flatten,cso,by rw[fY,jA],by rw[ho.len],(aP.mono (mLt bB cC)).mono (Mem.le_add oN _),Zc9,ho.one,by omega,by omega,λa10 c10 m6 cI uU _=>?_⟩)
 have ti:=mLt (Mem.le_add oN _) cI
 have dA:∀x∈(Zao x0).take k.n,x.good=true:=λx hx=>(ZdR nE x (List.mem_of_mem_take hx)).1
 have aV:∀x∈(Zao x0).take k.n++[Zd9 (Zcp false (Zda L k k.t))],x.good=true:=λx hx=>by
  rcases List.mem_append.1 hx with hx|hx
  ·exact dA x hx
  ·rw[List.mem_singleton]at hx;subst hx;exact ha.good
 have rW:RefAt m6 ((Zao x0).take k.n++[Zd9 (Zcp false (Zda L k k.t))]) (R++[cso]):=(hR.mono (mLt bB (mLt cC ti))).append (RefAt.one (ho.mono ti))
 have iX:=Zs9 _ _ a10 c10 m6 (ZdB uU) rW aV (by
  rw[ZbG,Zci]
  have:=s4.1
  rw[List.length_take]at this
  omega)
 have dJ:Zje ((Zao x0).take k.n++[Zd9 (Zcp false (Zda L k k.t))])=Zvl L k:=by
  unfold Zvl
  rw[gR];rfl
 rw[dJ,zA1,List.length_take,Nat.min_eq_left nA,List.length_cons,List.length_nil,Nat.zero_add]at iX
 refine Zae iX Za5 (Ze4 λcsn m7 cB hn b6=>hn.chk1 λb7 fK=>⟨⟨by omega,by omega⟩,?_⟩)
 have mN:m.le m7:=mLt fH (mLt cC (mLt ti cB))
 have qV:=bO.take k.f
 have yo:=bO.drop k.t
 have Ac:=bO.len
 have fC:(css.take k.f).flatten.length=k.f*260:=by rw[ZbO λcs cE=>bO.all cs (List.mem_of_mem_take cE),List.length_take,Nat.min_eq_left (by omega)]
 have qU:(css.drop k.t).flatten.length=(L.length - k.t)*260:=by rw[ZbO λcs cE=>bO.all cs (List.mem_of_mem_drop cE),List.length_drop,Ac]
 have oP:=Zqd (hr.mono mN) (bO.mono mN) (i:=0) (n:=k.f) (c:=c) (by omega) (by omega) bL
 rw[List.drop_zero]at oP
 have rX:=Zqd (hr.mono mN) (bO.mono mN) (i:=k.t) (n:=L.length) (c:=c) (by omega) (Nat.le_refl _) bL
 rw[show css.take L.length=css from by rw[<-Ac,List.take_length]]at rX
 have fin:∀(M:Mem)(aa:Option Addr)(n cc:Nat),m7.le M->n=(Zg7 L k).length->rowRd M aa ((css.take k.f++[csn])++css.drop k.t).flatten->∃m'',m.le m''/\m''.le M/\ZrQ (Zg7 L k) (.slice aa n cc) m'' []:=λM aa n cc hM hn' mT=>by
  subst hn'
  refine⟨M,mLt mN hM,Mem.le_refl _,aa,cc,_,rfl,mT,?_⟩
  have e:Zg7 L k=(L.take k.f++[Zvl L k])++L.drop k.t:=by unfold Zg7;simp
  rw[e]
  exact((qV.mono (mLt mN hM)).append (RefAt.one (hn.mono hM))).append (yo.mono (mLt mN hM))
 have B5:(Zg7 L k).length=k.f+1+(L.length - k.t):=by unfold Zg7;simp;omega
 refine ZA8 (λvV=>?_) (λvV=>?_)
 ·have vV:k.f=0:=by omega
  refine hn.chk2 λb8 mU=>⟨.inr (by omega),[],csn,rfl,by rw[hn.len],.inl rfl,Zc9,hn.one,by omega,by omega,λa11 c11 m8 dT pO Ad=>⟨⟨by omega,by omega⟩,ZA8 (λhd=>Zaa (by simpa using Ad) λM cM cS dM _=>?_) (λhd=>⟨.inl (tl _ rfl),csn,(css.drop k.t).flatten,by rw[hn.len],qU,pO,?_,?_,by omega,by omega,λa12 c12 m9 kK pP Ae M cM cS dM jH=>?_⟩)⟩⟩
  ·refine fin M a11 1 c11 (mLt (Mem.le_add fK _) cM) (by omega) ?_
   have e1:css.drop k.t=[]:=List.drop_eq_nil_of_le (by omega)
   rw[vV,e1]
   simpa using pO.mono dM
  ·exact rX.1.mono (mLt (Mem.le_add fK _) (mLt (Mem.le_add mU _) dT))
  ·exact λu hu=>Zfd yo u hu
  ·refine fin M a12 _ c12 (mLt (Mem.le_add fK _) cM) (by omega) ?_
   rw[vV]
   have:=pP.mono jH
   simpa using this
 ·refine⟨.inr (by omega),[],(css.take k.f).flatten,by simp,by simpa using fC,.inl rfl,oP.1.mono (Mem.le_add fK _),Zfd qV,by omega,by omega,λa11 c11 m8 dT pO Ad=>hn.chk2 λb8 mU=>⟨.inl (tl _ rfl),(css.take k.f).flatten,csn,by simpa using fC,by rw[hn.len],pO.mono (Mem.le_add mU _),Zc9,hn.one,by omega,by omega,λa12 c12 m9 kK pP Ae=>⟨⟨by omega,by omega⟩,ZA8 (λhd=>Zaa (by simpa using Ae) λM cM cS dM _=>?_) (λhd=>⟨.inl (tl _ rfl),(css.take k.f).flatten++csn,(css.drop k.t).flatten,by rw[zA1,fC,hn.len];omega,qU,pP,?_,?_,by omega,by omega,λa13 c13 m10 dY mX B6 M cM cS dM jH=>?_⟩)⟩⟩⟩
  ·refine fin M a12 _ c12 (mLt (Mem.le_add fK _) (mLt dT cM)) (by omega) ?_
   have e1:css.drop k.t=[]:=List.drop_eq_nil_of_le (by omega)
   rw[e1,List.append_nil]
   exact ZdB (pP.mono dM)
  ·exact rX.1.mono (mLt (Mem.le_add fK _) (mLt dT (mLt (Mem.le_add mU _) kK)))
  ·exact λu hu=>Zfd yo u hu
  ·refine fin M a13 _ c13 (mLt (Mem.le_add fK _) (mLt dT cM)) (by omega) ?_
   rw[List.flatten_append,List.flatten_append,List.flatten_singleton]
   exact mX.mono jH
end Go.Proofs.YtfgfahnakepegaaGreat
end
