/- Part of the proof: conditions and contracts of functions of this program. No condition of its own. -/
import Derived.Test.YtfgfahnakepegaaGreatPEnv
import Derived.Test.YtfgfahnakepegaaGreatPC13P
import Derived.Shelf.Spec.SlicesGrow
import Derived.Test.YtfgfahnakepegaaGreatPC15B
set_option linter.unusedVariables false
set_option linter.unusedSimpArgs false
set_option linter.unusedSectionVars false
noncomputable section
namespace Go.Proofs.YtfgfahnakepegaaGreat
open Go Go.Eng Go.Proofs Go.RowKit
open Go.Value (int slice agg bool string tuple func)
open Go.IntKind (u8 u64 i64)
set_option maxRecDepth 100000
def Zcc:Env:={ EB with
 loops:=swI nLa [(3,⟨[(3,.int .i64),(11,.int .i64)],[],[],false⟩),(11,⟨[(6,.slice),(27,.int .i64)],[],[(33,8)],false⟩)]
 tokOf:=swI 0 [(33,33)]
 tokC:=swI none [(24,some (33,8))] }
theorem Zb1(p0a:Option Addr)(p0n p0c:Nat)(m:Mem)(R:RT)(h:
 ∃I,inI I [int i64 0,int i64 0] [] [] m/\∀n n_1 m' (n_2:Nat),m.le m'->I [int i64 n,int i64 n_1] [] [] m' n_2->br (decide (n_1 < (↑p0n:Int))) (atA p0a λb o=>Zaf n_1 p0n/\∃(v:Value),lE (i64.wrap (n+(↑(slN
 v):Int))) λyL=>m' b (o+Int.toNat n_1*1)=some v/\chk (Zck v) (br (decide (yL < 0)) False (nxI n_2 I [int i64 yL,int i64 (i64.wrap (n_1+1))] [] [] m'))) (∃R_1,CXT pG 126 (.mk [slice none 0 0,int i64 n]) m' 8 R_1
 /\ ZbT .slice R_1/\∀a n c m'_1,lX (slice a n c) λyL=>m'.le m'_1->R_1 yL m'_1 []->∃I,inI I [yL,int i64 0] [] [yL] m'_1/\∀a n c n_3 a_1 n_4 c_1 m' (n_5:Nat),lX (slice a n c) λyL=>m'_1.le m'->I [yL,int i64
 n_3] [] [slice a_1 n_4 c_1] m' n_5->br (decide (n_3 < (↑p0n:Int))) (atA p0a λb o=>Zaf n_3 p0n/\∃(v:Value),lE (n+slN v) λyL_1=>m' b (o+Int.toNat n_3*1)=some v/\chk (Zck v&&true) ((Tok.mk (slice a_1
 n_4 c_1) 8=Tok.mk yL 8\/yL=slice none 0 0\/c < yL_1)/\∃(xs:List Value),∃(ys:List Value),xs.length=n*8/\ys.length=slN v*8/\rowRd m' a xs/\rowRd m' (slA v) ys/\(∀(u:Value),u∈ys->u.oneCell'=true)/\
 yL_1*80<=140737488355328/\yL_1<=9223372036854775807/\∀(a':Option Addr) c' m'_2,m'.le m'_2->rowRd m'_2 a' (List.append xs ys)->([none]:List (Option Tok))=[none]/\nxI n_5 I [slice a' yL_1 c',int i64 (i64.wrap (n_3
 + 1))] [] [slice a' yL_1 c'] m'_2)) (rtM m m' R yL))):CX Tryz.prog 113 #[.slice p0a p0n p0c] m [] R:=
 Zad (E:=Zcc) Zay mix Tryz.func113 [.v (.slice p0a p0n p0c)] [] (by kernel_rfl) (Eq.mp (by kernel_rfl) h)
def ZnL:Env:={ EB with
 loops:=swI nLa [(4,⟨[(5,.slice),(6,.bool),(19,.int .i64)],[],[(37,8)],false⟩)]
 joins:=swI none [(7,some [(33,.bool)]),(9,some [(6,.bool)])]
 dr:=swI [] [(11,[dO 0 [],⟨1,[3],[],none,[],[]⟩,⟨2,[3],[],none,[1],[]⟩,dO 3 [0,1,2],dO 4 [0,1,2,3],dO 5 [0,1,2,3,4],⟨6,[3],[],none,[],[]⟩,⟨7,[3],[],none,[6],[]⟩,dO 8 [0,1,2,3,4,5,6,7]]),(13,[dO 0 [],⟨1,[3],[],none,[],[]⟩,⟨2,[3],[],none,[1],[]⟩,dO 3 [0,1,2],⟨4,[11],[],none,[],[]⟩,⟨5,[66],[66],none,[4],[]⟩,dO 6 [],⟨7,[3],[],none,[],[]⟩,⟨8,[3],[],none,[7],[]⟩,dO 9 [6,7,8],⟨10,[66,71],[71],none,[0,1,2,3,4,5,6,7,8,9],[5]⟩,⟨11,[71],[71],none,[0,1,2,3,4,5,6,7,8,9,10],[10]⟩,dO 12 (rg 0 12)])]
 tokOf:=swI 0 [(37,37),(59,59)]
 frzNew:=[3]
 last:=swI false [(11,true)]
 lastK:=swI 1 [(11,2)]
 tokC:=swI none [(54,some (59,8))] }
theorem Zlu(p0a:Option Addr)(p0n p0c:Nat)(aR aL aM aQ:Int)(m:Mem)(R:RT)(h:
 lE (Int.toNat aL) λyL=>lE (Int.toNat aM) λaf=>lX (slice (ZaG p0a 0 p0c 8) (yL - 0) (p0c - 0)) λa9=>lV [slice (ZaG p0a af p0c 8) (p0n - af) (p0c - af)] λxL=>lV [int i64 aR,int i64 aL,int i64
 aM,int i64 aQ] λa7=>fzM m a7 λb m'=>lE [some (Box.mk b a7 37 4 true true)] λav=>((0:Int)<=aM/\aM<=(↑p0c:Int))/\((0:Int)<=aL/\aL<=(↑af:Int))/\∃I,inI I [slice none 0 0,bool false,int
 i64 0] [] [slice none 0 0] m'/\∀a n c (b:Bool) (ah:Int) ba bb bc ad (aw:Nat),lV [int i64 (i64.wrap (ah+1))] λa8=>lX (slice ba bb bc) λaj=>lX (slice a n c) λai=>lE (n+1) λak=>lE [some (Tok.mk aj 8)]
 λab=>m'.le ad->I [ai,bool b,int i64 ah] [] [aj] ad aw->br (decide (ah < (↑(af - yL):Int))) (atA (ZaG p0a yL p0c 8) λbd o=>Zaf ah (af - yL)/\∃v al am an ao ap aq ar:Value,lV [v,al,am,an,ao,ap,aq,
 ar] λxL=>ad.reads bd (o+Int.toNat ah*8) xL/\∀be,lE (some (Box.mk be xL 27 8 false true)::av) λau=>chk (v.oneCell'&&(al.oneCell'&&(am.oneCell'&&(an.oneCell'&&(ao.oneCell'&&(ap.oneCell'&&(aq.oneCell'
 && (ar.oneCell'&&true)))))))) (kN pG 112 [agg (.mk xL),int i64 aQ] ad λag ax ay az a0 a1 a2 bf a3 a4 m'=>∀bg,∃(a5:Bool),lV [int u8 ag,int u64 ax,int u64 ay,int u64 az,int u64 a0,int i64 a1,int i64 a2,slice
 bf a3 a4] λxL=>lE (some (Box.mk bg xL 27 8 false true)::au) λae=>br (!ag == 1) (Zab ae/\ab=ab/\[bool true]=[bool a5]) (Zab ae/\ab=ab/\[bool !b]=[bool a5])/\br a5 (∀ac,lM (m'.add ac xL) λmL=>lE
 (some (Box.mk ac xL 27 8 true true)::ae) λxL=>m'.free ac->(Tok.mk aj 8=Tok.mk ai 8\/ai=slice none 0 0\/c < ak)/\∃(xs:List Value),∃(ys:List Value),xs.length=n*8/\ys.length=1*8/\rowRd mL a xs/\rowRd
 mL (some (Addr.mk ac 0 none)) ys/\(∀(u:Value),u∈ys->u.oneCell'=true)/\ak*80<=140737488355328/\ak<=9223372036854775807/\∀a' c' m',lX (slice a' ak c') λyL=>lE (some (Tok.mk yL 8)) λaa=>mL.le m'->rowRd
 m' a' (List.append xs ys)->∃(a6:Bool),br b (Zab xL/\[aa,aa]=[aa,aa]/\[bool true]=[bool a6]) (Zab xL/\[aa,aa]=[aa,aa]/\[bool (ag == 1)]=[bool a6])/\Zab av/\nxI aw I (yL::bool a6::a8) [] [yL] m')
 (∃(ac:Bool),br b (Zab ae/\ab=ab/\[bool true]=[bool ac]) (Zab ae/\ab=ab/\[bool (ag == 1)]=[bool ac])/\Zab av/\nxI aw I (ai::bool ac::a8) [] [aj] m'))) (∃(f:Fx),atA p0a λb o=>Zaf aL p0n
 /\ ∃v al am an ao ap aq ar:Value,lV [v,al,am,an,ao,ap,aq,ar] λau=>ad.reads b (o+yL*8) au/\dS f 5 pG 74 [agg (.mk au)] ad λa n c m'=>((0:Int)<=aQ/\aQ<=(↑c:Int))/\∀M,ad.le M->m'.le M->∃R_1,
 CXT pG 14 (.mk [slice (ZaG a 0 c 8) (Int.toNat aQ - 0) (c - 0)]) M 8 R_1/\ZbT .slice R_1/\∀a (n:Nat) c m',lE (n+1) λyL=>lX (slice a n c) λaa=>M.le m'->R_1 aa m' []->kN pG 7 [ai] m' λag ax ay az a0 a1
 a2 bh a3 a4 m'=>∀b,lM (m'.add b [int u8 ag,int u64 ax,int u64 ay,int u64 az,int u64 a0,int i64 a1,int i64 a2,slice bh a3 a4]) λmL=>m'.free b->(Tok.mk aa 8=Tok.mk aa 8\/aa=slice none 0 0\/c < yL)/\∃(xs:
 List Value),∃(ys:List Value),xs.length=n*8/\ys.length=1*8/\rowRd mL a xs/\rowRd mL (some (Addr.mk b 0 none)) ys/\(∀(u:Value),u∈ys->u.oneCell'=true)/\yL*80<=140737488355328/\yL<=9223372036854775807/\
 ∀(a':Option Addr) c' m',mL.le m'->rowRd m' a' (List.append xs ys)->kN pG 6 [slice a' yL c'] m' λn bi bj bk bl bm bn a bo c m'=>∀(b:Nat),∃(f:Fx),lV [int u8 n,int u64 bi,int u64 bj,int u64 bk,int u64 bl,int
 i64 bm,int i64 bn,slice a bo c] λae=>((0:Int)<=aL/\aL<=(↑p0c:Int))/\∀b,lM (m'.add b ae) λmL=>lV (a9::slice (some (Addr.mk b 0 none)) 1 1::xL) λxL=>m'.free b->((0:Int)<=aM/\aM<=(↑p0n:
 Int))/\∀b,mL.free b->dS f 11 pG 113 [slice (some (Addr.mk b 0 none)) 3 3] (mL.add b xL) λa n c bp=>∀M,m'.le M->mL.le M->Mem.le (mL.add b xL) M->bp.le M->rtM m M R (slice a n c))):CX Tryz.prog 92 #[.slice p0a p0n p0c,.agg #[.int .i64 aR,.int .i64 aL,.int .i64 aM,.int .i64 aQ]] m [] R:=
 Zad (E:=ZnL) Zay mix Tryz.func92 [.v (.slice p0a p0n p0c),.v (.agg #[.int .i64 aR,.int .i64 aL,.int .i64 aM,.int .i64 aQ])] [] (by kernel_rfl) (Eq.mp (by kernel_rfl) h)
def Zh3:Env:={ EB with
 loops:=swI nLa [(8,⟨[(7,.slice),(29,.int .i64)],[100000],[(38,8)],false⟩)]
 dr:=swI [] [(18,[dO 0 [],dO 1 [0],dO 2 [0,1],⟨3,[4],[],none,[],[]⟩,⟨4,[4],[],none,[3],[]⟩,⟨5,[4],[],none,[],[]⟩,⟨6,[4],[],none,[5],[]⟩,dO 7 [0,1,2,3,4,5,6],⟨8,[5],[5],none,[0,1,2,3,4,5,6,7],[]⟩])]
 tokOf:=swI 0 [(38,38)]
 borrow:=swI [] [(36,[100000])]
 frzNew:=[4]
 tokC:=swI none [(26,some (38,8))]
 cuts:=swI none [(6,some ⟨[(6,.slice)],[100000],[],false⟩)]
 ldF:=swI none [(34,some (some false))] }
theorem Zhd(aD aE aF aG aJ aH aI:Int)(aB:Option Addr)(aA aC c0b:Nat)(c0_0:Int)(c1b c1o c2b c2o:Nat)(m:Mem)(R:RT)(h:
 lE [[int i64 (i64.wrap (c0_0+1))]] λxL=>lX (slice aB aA aC) λyL=>lE [some (Box.mk c0b [] 3 1 false true)] λa5=>lE (Box.mk c0b [int i64 c0_0] 3 1 false true) λah=>lV [int u8 aD,int u64 aE,int
 u64 aF,int u64 aG,int u64 aJ,int i64 aH,int i64 aI,yL] λaz=>fzM m az λb m'=>∀a6,∃(J:JT),lE (some (Box.mk a6 [int u8 0,int u64 0,int u64 0,int u64 0,int u64 0,int i64 0,int i64 0,slice none 0
 0] 27 8 false true)::some (Box.mk b az 27 8 true true)::a5) λaw=>br (aD == 4) (∃(v:Value),m' c1b (c1o+0)=some v/\chk (ZaE i64 v) (br (c0_0 == RowKit.intOf v) (∃v ai aj ak:Value,m'.reads c1b c1o [v,ai,
 aj,ak]/\kS pG 92 [yL,agg (.mk [v,ai,aj,ak])] m' λa n c m'=>Zab aw/\J [slice a n c] xL [] m') (Zab aw/\J [yL] xL [] m'))) (Zab aw/\J [yL] [[int i64 c0_0]] [] m')/\∀a (n:Nat) c (cs:List Value) ax,lE (↑n
 : Int) λyL=>m'.le ax->J [slice a n c] [cs] [] ax->((0:Int)=(0:Int)/\(0:Int)<=yL/\yL*(↑(80:Nat):Int)<=281474976710656/\yL<=9223372036854775807)/\∀(b:Nat),∃I,lX (slice (some (Addr.mk b 0 none)) 0
 (Int.toNat yL)) λa0=>inI I [a0,int i64 0] [cs] [a0] ax/\∀ay (aq:Nat) c ar (cs:List Value) a1 a2 a3 m' (a4:Nat),lE (aq+1) λau=>lX (slice ay aq c) λav=>ax.le m'->I [av,int i64 ar] [cs] [slice a1 a2 a3]
 m' a4->br (decide (ar < yL)) (atA a λb o=>Zaf ar n/\∃v ai aj ak al am an ao:Value,lV [v,ai,aj,ak,al,am,an,ao] λxL=>m'.reads b (o+Int.toNat ar*8) xL/\∀(b:Nat),chk (v.oneCell'&&(ai.oneCell' &&
 (aj.oneCell'&&(ak.oneCell'&&(al.oneCell'&&(am.oneCell'&&(an.oneCell'&&(ao.oneCell'&&true)))))))) (∃(v:Value),m' c2b c2o=some v/\∃(g:Nat),∃(fi:List Value),∃(ca:List Value),v=func (Fn.func g)
 (Array.mk fi) (Array.mk ca)/\∃R,True/\CX pG g (Array.mk (List.append (List.append fi [agg (.mk xL)]) ca)) m' [Box.mk c0b cs 3 1 false true] R/\ZbT (shT) R/\∀n aa ab ac ad ae af a ag a7 ap,lV [int u8 n,int u64 aa,int u64
 ab,int u64 ac,int u64 ad,int i64 ae,int i64 af,slice a ag a7] λxL=>m'.le ap->∀(cs:List Value),R (agg (.mk xL)) ap [cs]->∀b,lM (ap.add b xL) λmL=>ap.free b->(Tok.mk (slice a1 a2 a3) 8=Tok.mk av 8\/av =
 slice none 0 0\/c < au)/\∃(xs:List Value),∃(ys:List Value),xs.length=aq*8/\ys.length=1*8/\rowRd mL ay xs/\rowRd mL (some (Addr.mk b 0 none)) ys/\(∀(u:Value),u∈ys->u.oneCell'=true)/\au*80 <=
 140737488355328/\au<=9223372036854775807/\∀(a':Option Addr) c' m',mL.le m'->rowRd m' a' (List.append xs ys)->Zab aw/\([none]:List (Option Tok))=[none]/\nxI a4 I [slice a' au c',int i64 (i64.wrap (ar+1))] [cs]
 [slice a' au c'] m')) (br (aD == 3) (kN pG 6 [av] m' λn aa ab ac ad ae af a ag c m'=>ah=ah/\∃m'',m.le m''/\m''.le m'/\R (agg (.mk [int u8 n,int u64 aa,int u64 ab,int u64 ac,int u64 ad,int i64 ae,int i64 af,
 slice a ag c])) m'' [cs]) (br (aD == 4) (kN pG 7 [av] m' λn aa ab ac ad ae af a ag c m'=>ah=ah/\∃m'',m.le m''/\m''.le m'/\R (agg (.mk [int u8 n,int u64 aa,int u64 ab,int u64 ac,int u64 ad,int i64 ae,int i64 af,
 slice a ag c])) m'' [cs]) (br (aD == 5) (∃(f:Fx),atA ay λb o=>Zaf (0:Int) aq/\∃v ai aj ak al am an ao:Value,lV [v,ai,aj,ak,al,am,an,ao] λxL=>m'.reads b (o+0) xL/\dN f 7 pG 8 [agg (.mk xL),int
 i64 aH,int i64 aI] m' λn aa ab ac ad ae af a ag c ap=>∀M,m'.le M->ap.le M->ah=ah/\∃m'',m.le m''/\m''.le M/\R (agg (.mk [int u8 n,int u64 aa,int u64 ab,int u64 ac,int u64 ad,int i64 ae,int i64 af,slice a
 ag c])) m'' [cs]) (br (aD == 6) (atA ay λb o=>Zaf (0:Int) aq/\∃v ai aj ak al am an ao:Value,lV [v,ai,aj,ak,al,am,an,ao] λxL=>m'.reads b (o+0) xL/\kN pG 9 [agg (.mk xL)] m' λn aa ab ac ad ae af a
 ag c m'=>ah=ah/\∃m'',m.le m''/\m''.le m'/\R (agg (.mk [int u8 n,int u64 aa,int u64 ab,int u64 ac,int u64 ad,int i64 ae,int i64 af,slice a ag c])) m'' [cs]) (kN pG 59 [agg (.mk az)] m' λn aa ab ac ad ae af a ag c
 m'=>ah=ah/\∃m'',m.le m''/\m''.le m'/\R (agg (.mk [int u8 n,int u64 aa,int u64 ab,int u64 ac,int u64 ad,int i64 ae,int i64 af,slice a ag c])) m'' [cs])))))):CX Tryz.prog 91 #[.agg #[.int .u8 aD,.int .u64 aE,.int .u64 aF,.int .u64 aG,.int .u64 aJ,.int .i64 aH,.int .i64 aI,.slice aB aA aC],.pointer (some ⟨c0b,0,none⟩),.pointer (some ⟨c1b,c1o,none⟩),.pointer (some ⟨c2b,c2o,none⟩)] m [⟨c0b,[.int .i64 c0_0],3,1,false,true⟩] R:=
 Zad (E:=Zh3) Zay mix Tryz.func91 [.v (.agg #[.int .u8 aD,.int .u64 aE,.int .u64 aF,.int .u64 aG,.int .u64 aJ,.int .i64 aH,.int .i64 aI,.slice aB aA aC]),.loc 100000 0,.v (.pointer (some ⟨c1b,c1o,none⟩)),.v (.pointer (some ⟨c2b,c2o,none⟩))] [⟨c0b,[.int .i64 c0_0],3,1,false,true⟩] (by kernel_rfl) (Eq.mp (by kernel_rfl) h)
def Zlv:Env:={ EB with
 borrow:=swI [] [(10,[5])]
 frzNew:=[2,3]
 frzAt:=swI [] [(10,[6,3])] }
theorem Zjt(aD aE aF aG aJ aH aI:Int)(aB:Option Addr)(aA aC:Nat)(aR aL aM aQ:Int)(m:Mem)(R:RT)(h:
 lV [int i64 aR,int i64 aL,int i64 aM,int i64 aQ] λxL=>lV [int u8 aD,int u64 aE,int u64 aF,int u64 aG,int u64 aJ,int i64 aH,int i64 aI,slice aB aA aC] λxL_1=>fzM m xL_1 λb m'=>
 fzM m' xL λb m'=>∀(b_1 b_2 b_3:Nat) m'_1,lV [Value.pointer (some (Addr.mk b_2 0 none)),Value.pointer (some (Addr.mk b 0 none)),Value.pointer (some (Addr.mk b_3 0 none))] λxL_2=>m'.le m'_1->m'_1.reads b_3 0 [func
 (Fn.func 91) (Array.mk []) (Array.mk xL_2)]->m'_1.reads b 0 xL->∃R_1,True/\CX pG 91 (.mk (agg (.mk xL_1)::xL_2)) m'_1 [Box.mk b_2 [int i64 0] 3 1 false true] R_1/\ZbT (shT) R_1/\∀n n_1 n_2 n_3 n_4 n_5 n_6 a n_7 c m',lX
 (agg (.mk [int u8 n,int u64 n_1,int u64 n_2,int u64 n_3,int u64 n_4,int i64 n_5,int i64 n_6,slice a n_7 c])) λyL=>m'_1.le m'->∀(cs:List Value),R_1 yL m' [cs]->rtM m m' R yL):CX Tryz.prog 62 #[.agg #[.int .u8 aD,.int .u64 aE,.int .u64 aF,.int .u64 aG,.int .u64 aJ,.int .i64 aH,.int .i64 aI,.slice aB aA aC],.agg #[.int .i64 aR,.int .i64 aL,.int .i64 aM,.int .i64 aQ]] m [] R:=
 Zad (E:=Zlv) Zay mix Tryz.func62 [.v (.agg #[.int .u8 aD,.int .u64 aE,.int .u64 aF,.int .u64 aG,.int .u64 aJ,.int .i64 aH,.int .i64 aI,.slice aB aA aC]),.v (.agg #[.int .i64 aR,.int .i64 aL,.int .i64 aM,.int .i64 aQ])] [] (by kernel_rfl) (Eq.mp (by kernel_rfl) h)
def Zuy:Env:={ EB with
 frzNew:=[1] }
theorem Zrx(aD aE aF aG aJ aH aI:Int)(aB:Option Addr)(aA aC:Nat)(m:Mem)(R:RT)(h:
 lV [int u8 aD,int u64 aE,int u64 aF,int u64 aG,int u64 aJ,int i64 aH,int i64 aI,slice aB aA aC] λxL=>fzM m xL λb m'=>∀(b:Nat),kB pG 69 [agg (.mk xL)] m' λb m'=>br (!b) (rtM m m' R
 (agg (.mk [int u8 0,int u64 0,int u64 0,int u64 0,int u64 0,int i64 0,int i64 0,slice none 0 0]))) (kN pG 31 [agg (.mk xL)] m' λn n_1 n_2 n_3 n_4 n_5 n_6 a n_7 c m'=>rtM m m' R (agg (.mk [int u8 n,int u64 n_1,int u64
 n_2,int u64 n_3,int u64 n_4,int i64 n_5,int i64 n_6,slice a n_7 c])))):CX Tryz.prog 59 #[.agg #[.int .u8 aD,.int .u64 aE,.int .u64 aF,.int .u64 aG,.int .u64 aJ,.int .i64 aH,.int .i64 aI,.slice aB aA aC]] m [] R:=
 Zad (E:=Zuy) Zay mix Tryz.func59 [.v (.agg #[.int .u8 aD,.int .u64 aE,.int .u64 aF,.int .u64 aG,.int .u64 aJ,.int .i64 aH,.int .i64 aI,.slice aB aA aC])] [] (by kernel_rfl) (Eq.mp (by kernel_rfl) h)
end Go.Proofs.YtfgfahnakepegaaGreat
namespace Go.Proofs.YtfgfahnakepegaaGreat
open Go Go.Eng Go.Rx Go.Proofs Go.RowKit Go.Shelf
set_option maxRecDepth 100000
def ZgN(g s e:Nat):Ren:=⟨fun|4=>g|n=>n,fun|0=>0|3=>3|4=>4|9=>9|20=>20|22=>s|25=>e|n=>n,λn=>n⟩
theorem Zzp:Lays8.n4 Tryz.prog (ZgN 126 25 27):=
 {mixed:=mix,f4:=⟨Tryz.f126.name,by kernel_rfl,by kernel_rfl⟩
  t0:=by kernel_rfl,a0:=Tryz.isAgg0,z0:=Tryz.sizeOf0,v0:=Tryz.zeroValue0
  t3:=Tryz.underlying3,a3:=Tryz.isAgg3,z3:=Tryz.sizeOf3,v3:=Tryz.zeroValue3
  t4:=Tryz.underlying4,a4:=Tryz.isAgg4,z4:=Tryz.sizeOf4,v4:=Tryz.zeroValue4
  t9:=Tryz.underlying9,a9:=Tryz.isAgg9,z9:=Tryz.sizeOf9,v9:=Tryz.zeroValue9
  t20:=Tryz.underlying20,a20:=Tryz.isAgg20,z20:=Tryz.sizeOf20,v20:=Tryz.zeroValue20
  t22:=Tryz.underlying25,a22:=Tryz.isAgg25,z22:=Tryz.sizeOf25,v22:=Tryz.zeroValue25 }
theorem ZnM{P:Program}{g s e esz by':Nat}{fn:Func}(L:Lays8.n4 P (ZgN g s e))(lR:ZfC P g)(hi:(P.info? e).map (λi=>(i.size,i.bytes))=some (esz,by'))(hz:((P.info? e).bind (·.zero)).map (·.cells.size)=some esz)(gJ:0 < esz)(n:Nat)(m:Mem)(hn:n*by'<=140737488355328)(oU:n<=4611686018427387904):
  CXT P g #[.slice none 0 0,.int .i64 n] m esz (λv _ _=>∃a c,v=.slice a 0 c):=by
 refine⟨lR,λw hs=>?_⟩
 obtain⟨i0,h0,zM⟩:=Option.map_eq_some_iff.1 hi
 obtain⟨z,qI,pC⟩:=Option.map_eq_some_iff.1 hz
 rw[h0]at qI
 simp only[Option.bind_some]at qI
 have e1:i0.size=esz:=congrArg Prod.fst zM
 have e2:i0.bytes=by':=congrArg Prod.snd zM
 by_cases nA:n=0
 ·subst nA
  refine(Any8.slices_Grow_room L none 0 0 0 w (by omega) (by omega) (by omega) (by omega)).mono ?_
  rintro e w' ⟨rfl,rfl⟩
  exact⟨_,m,rfl,Mem.le_refl _,hs,λb o v h=>.inl h,Keep.refl _ _ _,.inl rfl,λb hb=>by simp[Tok.blk]at hb,none,0,rfl⟩
 ·refine(Any8.slices_Grow_grow L i0 z h0 qI (by omega) none 0 0 n [] w (by omega) (by omega) (by rw[e2,Nat.zero_add];exact hn) (by omega) (by simp) (λ_=>rfl) (λa h=>by cases h)).mono ?_
  rintro e w' ⟨rfl,hw'⟩
  have bM:w'.heap=w.heap.push (.cells (#[]++Builtin.zeroCells z.cells (0+n - 0)++Builtin.zeroCells z.cells (grownCap w (0+n) 0 ((ZgN g s e).t 25) - (0+n))) ((ZgN g s e).t 25) (0,0)):=by rw[hw'];rfl
  have hb:w'.heap[w.heap.size]?=some (.cells (#[]++Builtin.zeroCells z.cells (0+n - 0)++Builtin.zeroCells z.cells (grownCap w (0+n) 0 ((ZgN g s e).t 25) - (0+n))) ((ZgN g s e).t 25) (0,0)):=by
   rw[bM,Array.getElem?_push_size]
  have hk:Keep w.heap.size [] w w':=by
   rw[hw']
   exact(Keep.drew w).trans (Keep.alloc (B:=w.heap.size) (w:=w.drew) (show w.heap.size<=w.drew.heap.size from Nat.le_refl _) (Zjh _ _))
  have bI:=grownCap_ge w (0+n) 0 ((ZgN g s e).t 25)
  refine⟨_,m,rfl,Mem.le_refl _,λb o v hv=>?_,λb o v h=>.inl h,hk,.inr ⟨w.heap.size,0,0,_,_,_,_,rfl,by omega,hb,?_,?_,?_⟩,?_,_,_,rfl⟩
  ·have aS:=hs.lt hv
   rw[ZbM (hk.block b aS (by simp))];exact hs b o v hv
  ·generalize grownCap w (0+n) 0 ((ZgN g s e).t 25)=G at *
   simp only[Array.size_append,size_zeroCells,pC]
   have:G*esz=(0+n - 0)*esz+(G - (0+n))*esz:=by rw[<-Nat.add_mul];congr 1;omega
   simp only[List.size_toArray,List.length_nil]
   omega
  ·intro o _
   simp
  ·intro o _ _
   cases hm:m w.heap.size o with
   | none=>rfl
   | some v=>have:=hs.lt hm;omega
  ·intro b hb'
   simp[Tok.blk]at hb'
   omega
theorem Zp1(n:Nat)(m:Mem)(hn:n<=1000000):CXT Tryz.prog 126 #[.slice none 0 0,.int .i64 n] m 8 (λv _ _=>∃a c,v=.slice a 0 c):=
 ZnM (by':=80) (fn:=Tryz.f126) Zzp (Go.Eng.ZfD Tryz.func126 (by kernel_rfl) (by kernel_rfl)) (by kernel_rfl) (by kernel_rfl) (by decide) n m (by omega) (by omega)
structure Part where
 a:Option Addr
 n:Nat
 c:Nat
 xs:List Value
def ZnN(L:List Part):Nat:=(L.map Part.n).sum
def Zxe(L:List Part):List Value:=(L.map Part.xs).flatten
theorem Zf5(L:List Part)(q:Part):ZnN (L++[q])=ZnN L+q.n:=by simp[ZnN]
theorem Zuz(L:List Part)(q:Part):Zxe (L++[q])=Zxe L++q.xs:=by simp[Zxe]
theorem Zlw(L:List Part)(k:Nat):ZnN (L.take k)<=ZnN L:=by
 have e:L=L.take k++L.drop k:=(List.take_append_drop k L).symm
 have:ZnN L=ZnN (L.take k)+ZnN (L.drop k):=by
  have e2:=congrArg ZnN e
  simp only[ZnN,List.map_append,List.sum_append]at e2 ⊢
  exact e2
 omega
structure Lies (m:Mem)(pa:Option Addr)(esz:Nat)(L:List Part):Prop where
 at':∀i q,L[i]?=some q->∃b o,pa=some ⟨b,o,none⟩/\m b (o+i)=some (.slice q.a q.n q.c)
 row:∀q∈L,rowRd m q.a q.xs/\q.xs.length=q.n*esz/\∀u∈q.xs,u.oneCell'=true
theorem Lies.len{m:Mem}{pa:Option Addr}{esz:Nat}:∀{L:List Part},(∀q∈L,q.xs.length=q.n*esz)->(Zxe L).length=ZnN L*esz
 | [],_=>by simp[Zxe,ZnN]
 | q::L,h=>by
  have:=Lies.len (m:=m) (pa:=pa) (L:=L) λx hx=>h x (by simp[hx])
  simp only[Zxe,ZnN,List.map_cons,List.flatten_cons,zA1,List.sum_cons,h q (by simp),Nat.add_mul]at *
  omega
theorem ZnO(L:List Part)(pa:Option Addr)(pc:Nat)(m:Mem)(h:Lies m pa 8 L)(uw:ZnN L<=100000)(hL:L.length<=1000):CX Tryz.prog 113 #[.slice pa L.length pc] m [] (λv m' _=>∃a c,v=.slice a (ZnN L) c/\rowRd m' a (Zxe L)):=by
 apply Zb1
 refine⟨λxs css tvs m' q=>∃k:Nat,k<=L.length/\xs=[.int .i64 (ZnN (L.take k):Nat),.int .i64 k]/\q=L.length - k,⟨L.length,0,by omega,rfl,rfl⟩,?_⟩
 rintro z1 z2 m1 q aK ⟨k,hk,aZ,hq⟩
 obtain⟨rfl,rfl⟩:z1=(ZnN (L.take k):Nat)/\z2=k:=by simpa using aZ
 have eD:=Zlw L k
 refine Zac (λaS=>?_) (λbI=>?_)
 ·have aN:k < L.length:=by have:=zA6 aS;omega
  obtain⟨p,hp⟩:=ZbU aN
  obtain⟨b,o,ha,hv⟩:=h.at' k p hp
  have rG:=Zlw L (k+1)
  rw[ZbR hp,Zf5]at rG
  have hw:IntKind.i64.wrap ((k:Int)+1)=((k+1:Nat):Int):=by rw[Zas (by omega) (by omega)];rfl
  have fN:IntKind.i64.wrap (((ZnN (L.take k):Nat):Int)+((slN (.slice p.a p.n p.c):Nat):Int))=((ZnN (L.take (k+1)):Nat):Int):=by
   rw[ZbR hp,Zf5]
   simp only[slN]
   rw[Zas (by omega) (by omega)];push_cast;rfl
  simp only[zA8,Nat.mul_one]
  refine⟨b,o,ha,⟨by omega,by omega⟩,.slice p.a p.n p.c,aK _ _ _ hv,Zaa rfl ?_⟩
  simp only[fN,hw]
  exact Zac (λxC=>absurd (zA6 xC) (by omega)) (λ_=>⟨L.length - (k+1),by omega,k+1,by omega,rfl,rfl⟩)
 ·have BC:k=L.length:=by have:=of_decide_eq_false bI;omega
  subst BC
  rw[List.take_length]
  refine⟨_,Zp1 (ZnN L) m1 (by omega),(λv _ _ ⟨a,c,e⟩=>by rw[e];rfl),?_⟩
  rintro a n c m2 aO ⟨a0,c0,vF⟩
  simp only[Value.slice.injEq]at vF
  obtain⟨rfl,rfl,rfl⟩:=vF
  refine⟨λxs css tvs m' q=>∃(k:Nat)(a:Option Addr)(c:Nat),k<=L.length/\xs=[.slice a (ZnN (L.take k)) c,.int .i64 k]/\tvs=[.slice a (ZnN (L.take k)) c]/\rowRd m' a (Zxe (L.take k))/\q=L.length - k,⟨L.length,0,_,_,by omega,rfl,rfl,.inl rfl,rfl⟩,?_⟩
  rintro a4 n4 c4 z5 a5 n5 c5 m3 q3 aX ⟨j,a',c',hj,ux,uy,fZ,wq⟩
  simp only[List.cons.injEq,Value.slice.injEq,Value.int.injEq,true_and,and_true]at ux uy
  obtain⟨⟨rfl,rfl,rfl⟩,rfl⟩:=ux
  obtain⟨rfl,rfl,rfl⟩:=uy
  have dM:=mLt aK (mLt aO aX)
  refine Zac (λaS=>?_) (λbI=>?_)
  ·have aN:j < L.length:=by have:=zA6 aS;omega
   obtain⟨p,hp⟩:=ZbU aN
   obtain⟨b,o,ha,hv⟩:=h.at' j p hp
   obtain⟨fE,ui,BD⟩:=h.row p (zA2 hp)
   have rG:=Zlw L (j+1)
   rw[ZbR hp,Zf5]at rG
   have hw:IntKind.i64.wrap ((j:Int)+1)=((j+1:Nat):Int):=by rw[Zas (by omega) (by omega)];rfl
   simp only[zA8,Nat.mul_one,hw]
   refine⟨b,o,ha,⟨by omega,by omega⟩,.slice p.a p.n p.c,dM _ _ _ hv,Zaa rfl ⟨by first|exact .inl trivial|exact .inl rfl,Zxe (L.take j),p.xs,?_,by simpa[slN]using ui,fZ,fE.mono dM,BD,?_,?_,λa6 c6 m6 cI mH=>⟨by trivial,L.length - (j+1),by omega,j+1,a6,c6,by omega,?_,?_,?_,rfl⟩⟩⟩
   ·simpa using Lies.len (m:=m) (pa:=pa) (L:=L.take j) λx hx=>(h.row x (List.mem_of_mem_take hx)).2.1
   ·simp only[slN];omega
   ·simp only[slN];omega
   ·rw[ZbR hp,Zf5];rfl
   ·rw[ZbR hp,Zf5];rfl
   ·rw[ZbR hp,Zuz];exact mH
  ·have BE:j=L.length:=by have:=of_decide_eq_false bI;omega
   subst BE
   rw[List.take_length]at fZ ⊢
   exact⟨m3,dM,Mem.le_refl _,_,_,rfl,fZ⟩
end Go.Proofs.YtfgfahnakepegaaGreat
namespace Go.Proofs.YtfgfahnakepegaaGreat
open Go Go.Eng Go.Rx Go.Proofs Go.RowKit
set_option maxRecDepth 100000
def Zz6(Ls:List T):Value->Mem->List (List Value)->Prop:=λv m' _=>∃(L:List T)(a:Option Addr)(c:Nat),v=.slice a L.length c/\RepL m' a L/\L.map T.er=Ls.map T.er/\∀x∈L,x.caps
theorem Zry{Ls:List T}:∀(v:Value)(m':Mem) (css:List (List Value)),Zz6 Ls v m' css->Shape.fits .slice v=true:=λv _ _ ⟨L,a,c,e,_⟩=>by rw[e];rfl
set_option maxHeartbeats 1600000 in
theorem Zzq(subs:List T)(a:Option Addr)(cap:Nat)(c:C4)(m:Mem)(hL:RepL m a subs)(bL:subs.length<=cap)(hg:∀x∈subs,x.good=true)(cE:∀x∈subs,x.caps)(bE:szL subs<=300)(hf:Fit subs c):CX Tryz.prog 92 #[.slice a subs.length cap,c.v] m [] (Zz6 (Zg7 subs c)):=by
 apply Zlu
 intro b m1 aK bA
 have h2:=hf.two
 have bC:=hf.le
 have hp:=hf.pos
 have fS:=Zbo subs
 have cA:=Zbb hL
 refine⟨⟨by omega,by omega⟩,⟨by omega,by omega⟩,?_⟩
 simp only[zA8]
 generalize hG:(subs.take c.t).drop c.f=seg
 have eA:seg.length=c.t - c.f:=by rw[<-hG,List.length_drop,List.length_take,Nat.min_eq_left bC]
 have gN:∀x∈seg,x∈subs/\c.n<=(Zao x).length:=λx hx=>by
  rw[<-hG]at hx
  obtain⟨i,h3,h4,h5⟩:=ZsB hx
  exact⟨zA2 h5,hf.head i x h3 h4 h5⟩
 have uz:RepL m (ZaG a c.f cap 8) seg:=by
  have:=Zls (Zf4 hL c.t) (i:=c.f) (c:=cap) (by rw[List.length_take];omega) (by rw[List.length_take];omega)
  rw[hG]at this;exact this
 have aP:=Zaw uz
 have s9:=λx hx=>Zps (hg x (gN x hx).1) (gN x hx).2 hp
 refine⟨λxs css tvs m' q=>∃(i:Nat)(L:List T)(a:Option Addr)(cc:Nat),i<=seg.length/\xs=[.slice a L.length cc,.bool ((seg.take i).any λx=>(Zbp c.n x).k == 1),.int .i64 i]/\tvs=[.slice a L.length cc]/\rowRd m' a (Rx.Zcx L)/\(∀x∈L,Rep m' x/\x.good=true)/\L.map T.er=(Zcp false ((seg.take i).map (Zbp c.n))).map T.er/\q=seg.length - i,⟨_,0,[],none,0,by omega,rfl,rfl,.inl rfl,by simp,rfl,rfl⟩,?_⟩
 rintro a3 n3 c3 b3 z3 a4 n4 c4 m2 q2 aO ⟨i,L,a',cc,hi,aZ,bY,mI,kR,fG,hq⟩
 simp only[List.cons.injEq,Value.slice.injEq,Value.bool.injEq,Value.int.injEq,true_and,and_true]at aZ bY
 obtain⟨⟨rfl,rfl,rfl⟩,rfl,rfl⟩:=aZ
 obtain⟨rfl,rfl,rfl⟩:=bY
 have bR:=mLt aK aO
 have zN:L.length<=i:=by
  have h3:=congrArg List.length fG
  rw[List.length_map,List.length_map]at h3
  have h4:∀(e:Bool)(l:List T),(Zcp e l).length<=l.length:=λe l=>by
   induction l generalizing e with
   | nil=>exact Nat.le_refl _
   | cons x l ih=>unfold Zcp;split <;> simp <;> have:=ih (e||x.k == 1) <;> omega
  have h5:=h4 false ((seg.take i).map (Zbp c.n))
  rw[List.length_map,List.length_take]at h5
  omega
 refine Zac (λaS=>?_) (λbI=>?_)
 ·have aN:i < seg.length:=by have:=zA6 aS;omega
  obtain⟨x,hx⟩:=ZbU aN
  have cL:=zA2 hx
  obtain⟨b0,o0,eO,dW⟩:=Zct (aP.mono bR) hx
  have cO:=(cA x (gN x cL).1).mono bR
  have iO:=Zbq (gN x cL).1
  have hw:IntKind.i64.wrap ((i:Int)+1)=((i+1:Nat):Int):=by rw[Zas (by omega) (by omega)];rfl
  simp only[hw]
  have eZ:=ZiU (Zbp c.n x) false ((seg.take i).map (Zbp c.n))
  rw[Bool.false_or,List.any_map]at eZ
  have dZ:(seg.take (i+1)).map (Zbp c.n)=(seg.take i).map (Zbp c.n)++[Zbp c.n x]:=by rw[ZbR hx,List.map_append];rfl
  have eT:(seg.take (i+1)).any (λx=>(Zbp c.n x).k == 1)=((seg.take i).any (λx=>(Zbp c.n x).k == 1)||((Zbp c.n x).k == 1)):=by rw[ZbR hx,List.any_append];simp
  have p8:((λy:T=>y.k == 1)∘Zbp c.n)=λx=>(Zbp c.n x).k == 1:=rfl
  rw[p8]at eZ
  rw[<-dZ]at eZ
  refine⟨b0,o0,eO,⟨by omega,by omega⟩,_,_,_,_,_,_,_,_,dW,λb5=>Zaa rfl (Zae (Zye x c.n m2 cO (hg x (gN x cL).1) (by omega) (ZgE (cE x (gN x cL).1)) (gN x cL).2) Zaj (ZaD λt' m3 aX hr' ⟨ht',gO⟩ b6=>?_))⟩
  have hk:t'.k=(Zbp c.n x).k:=by rw[<-Zu2,ht']
  have pF:=(s9 x cL).1
  generalize (seg.take i).any (λx=>(Zbp c.n x).k == 1)=sn at *
  rw[<-hk]at eZ eT
  refine⟨!(t'.k == 1)||!sn,?_,Zac (λhy=>?_) (λhn=>?_)⟩
  ·refine Zac (λh=>⟨by trivial,by trivial,by rw[h];rfl⟩) (λh=>⟨by trivial,by trivial,by rw[h];rfl⟩)
  ·intro b7 fK
   have hU:=Mem.le_add fK t'.cs
   rw[if_pos (by
    simp only[Bool.or_eq_true,Bool.not_eq_true',beq_eq_false_iff_ne]at hy
    exact hy)]at eZ
   refine⟨.inl (by trivial),Rx.Zcx L,t'.cs,by rw[Zat],rfl,(mI.mono aX).mono hU,.inr ⟨b7,0,rfl,λj v hj=>by rw[Nat.zero_add,Mem.add_same];exact hj⟩,by have:=Zyb [t'];simpa[Rx.Zcx]using this,by omega,by omega,λa8 c8 m8 dT gA=>⟨sn||(t'.k == 1),?_,?_⟩⟩
   ·refine Zac (λh=>⟨by trivial,by trivial,by rw[h];rfl⟩) (λh=>⟨by trivial,by trivial,by rw[h];rfl⟩)
   ·refine⟨by trivial,seg.length - (i+1),by omega,i+1,L++[t'],a8,c8,by omega,?_,?_,?_,?_,?_,rfl⟩
    ·rw[eT,zA1];rfl
    ·rw[zA1];rfl
    ·rw[ZdO];exact gA
    ·have mJ:=mLt hU dT
     intro y hy
     rcases List.mem_append.1 hy with hy|hy
     ·exact⟨(kR y hy).1.mono (mLt aX mJ),(kR y hy).2⟩
     ·rw[List.mem_singleton]at hy;subst hy
      exact⟨hr'.mono mJ,ZcQ ht' pF⟩
    ·rw[eZ,List.map_append,List.map_append,fG]
     simp only[List.map_cons,List.map_nil,ht',(s9 x cL).2.2.2]
  ·rw[if_neg (by
    simp only[Bool.or_eq_false_iff,Bool.not_eq_false',beq_iff_eq]at hn
    rintro(h|h)
    ·exact h hn.1
    ·rw[hn.2]at h;cases h),List.append_nil]at eZ
   refine⟨sn||(t'.k == 1),?_,?_⟩
   ·refine Zac (λh=>⟨by trivial,by trivial,by rw[h];rfl⟩) (λh=>⟨by trivial,by trivial,by rw[h];rfl⟩)
   ·exact⟨by trivial,seg.length - (i+1),by omega,i+1,L,_,_,by omega,by rw[eT],rfl,mI.mono aX,λy hy=>⟨(kR y hy).1.mono aX,(kR y hy).2⟩,by rw[eZ];exact fG,rfl⟩
 ·have oD:i=seg.length:=by have:=of_decide_eq_false bI;omega
  subst oD
  rw[List.take_length]at fG
  obtain⟨x0,gR⟩:=ZbU (l:=subs) (k:=c.f) (by omega)
  have oH:=zA2 gR
  have nE:=hg x0 oH
  have nA:=hf.head c.f x0 (Nat.le_refl _) (by omega) gR
  obtain⟨b0,o0,eO,dW⟩:=Zct ((Zaw hL).mono bR) gR
  have xD:=(cA x0 oH).mono bR
  refine⟨λ_ _ _=>Zy2 (Zao x0),b0,o0,eO,⟨by omega,by omega⟩,_,_,_,_,_,_,_,_,dW,_,rfl,ZpZ x0 m2 xD (ZgE (cE x0 oH)),Zf3,?_⟩
  rintro a5 n5 c5 m3 aX ⟨a5',c5',uA,hH,Dj⟩
  simp only[Value.slice.injEq]at uA
  obtain⟨rfl,rfl,rfl⟩:=uA
  refine⟨⟨by omega,by omega⟩,λM cS dM=>?_⟩
  have fY:((Zao x0).take c.n).length=c.n:=by rw[List.length_take,Nat.min_eq_left nA]
  have jJ:c.n<=300:=by
   have h3:=ZfT x0
   have h4:=Zbq oH
   omega
  have eJ:=Zf4 (hH.mono dM) c.n
  have mK:=Zh2 (ZaG a5 0 c5 8) (c5 - 0) ((Zao x0).take c.n) M (Zaw eJ) (by omega)
  rw[fY]at mK
  refine⟨_,mK,(λv _ _ ⟨a,c,e,_⟩=>by rw[e];rfl),?_⟩
  rintro a6 n6 c6 m4 bB ⟨a6',c6',ur,mH,Dk,_⟩
  simp only[Value.slice.injEq]at ur
  obtain⟨rfl,rfl,rfl⟩:=ur
  have rH:=mLt cS bB
  have dA:=λx hx=>ZdR nE x (List.mem_of_mem_take (i:=c.n) hx)
  have rI:szL seg<=szL subs:=by
   have h3:=Zcu subs c.t
   have h4:=Zcu (subs.take c.t) c.f
   rw[hG]at h4
   omega
  have mM:=ZfS hp (l:=seg) λx hx=>⟨hg x (gN x hx).1,(gN x hx).2⟩
  have gT:=Zk7 (e:=false) λx hx=>(mM.1 x hx).1
  have BF:szL L<=300:=by rw[Zeb fG];omega
  have xE:∀x∈L,x.clean=true:=λx hx=>ZaO (kR x hx).2 (by have:=Zbq hx;omega)
  have xF:L≠[]:=by
   intro e
   rw[e]at fG
   have h3:=congrArg List.length fG
   rw[List.length_map]at h3
   match BG:seg.map (Zbp c.n),fG with
   | [],_=>
    have:=congrArg List.length BG
    rw[List.length_map,eA]at this
    simp at this
    omega
   | y::r,fG=>
    have:=Zsy (e:=false) (x:=y) (l:=r) rfl
    rw[List.map_nil]at fG
    exact this (by simpa using fG.symm)
  have BH:RepL m4 a4 L:=Zcs (mI.mono rH) (λx hx=>(kR x hx).1.mono rH) (by have:=Zbo L;omega)
  refine Zae (Zyd L a4 c4 m4 BH (by have:=Zbo L;omega) xE) Zaj (ZaD λo m5 cC kE ⟨ja,jc,hj⟩ b7 fK=>?_)
  have jF:o.er=Zd9 (Zcp false (seg.map (Zbp c.n))):=by
   rw[ZmP (λx hx=>(kR x hx).2) xF (by omega) hj]
   exact ZiT fG
  have xG:=Zea (L:=Zcp false (seg.map (Zbp c.n))) λy hy=>(mM.1 y (ZfR hy)).1
  have uB:o.good=true:=ZcQ jF xG.good
  have BI:o.nodes.length<=301:=by
   rw[Zcv jF]
   have:=xG.sz
   omega
  have hU:=Mem.le_add fK o.cs
  refine⟨.inl (by trivial),Rx.Zcx ((Zao x0).take c.n),o.cs,by rw[Zat,fY],rfl,(mH.mono cC).mono hU,.inr ⟨b7,0,rfl,λj v hj=>by rw[Nat.zero_add,Mem.add_same];exact hj⟩,by have:=Zyb [o];simpa[Rx.Zcx]using this,by omega,by omega,λa8 c8 m6 cI gA=>?_⟩
  have lB:m4.le m6:=mLt cC (mLt hU cI)
  have BJ:RepL m6 a8 ((Zao x0).take c.n++[o]):=Zcs (by rw[ZdO];exact gA) (λx hx=>by
   rcases List.mem_append.1 hx with hx|hx
   ·exact(Zbb eJ x hx).mono (mLt bB lB)
   ·rw[List.mem_singleton]at hx;subst hx;exact kE.mono (mLt hU cI)) (by rw[zA1,fY];simp;omega)
  have zO:∀x∈(Zao x0).take c.n++[o],x.good=true:=λx hx=>by
   rcases List.mem_append.1 hx with hx|hx
   ·exact(dA x hx).1
   ·rw[List.mem_singleton]at hx;subst hx;exact uB
  have BK:szL ((Zao x0).take c.n++[o])<=700:=by
   rw[ZbG,Zci,(ZhO dA).1,fY];omega
  have uC:((Zao x0).take c.n++[o]).length=c.n+1:=by rw[zA1,fY];rfl
  have iX:=Zrw ((Zao x0).take c.n++[o]) a8 c8 m6 BJ (by omega) (λx hx=>ZaO (zO x hx) (by have:=Zbq hx;omega))
  rw[uC]at iX
  refine Zae iX Zaj (ZaD λone m7 cB dJ ⟨ka,kc,hk⟩ b8=>?_)
  have uD:one.er=Zvl subs c:=by
   rw[ZiQ zO (by omega) hk]
   unfold Zvl
   rw[gR,hG]
   refine ZiS ?_
   simp only[Option.getD_some,List.map_append,List.map_cons,List.map_nil]
   rw[jF,xG.er]
  have vQ:m2.le m7:=mLt rH (mLt lB cB)
  have mN:=mLt bR vQ
  refine⟨λ_ _ _=>λv m' _=>∃a' c',v=.slice a' (c.f+1+(subs.length - c.t)) c'/\rowRd m' a' (Rx.Zcx (subs.take c.f++one::subs.drop c.t)),⟨by omega,by omega⟩,λb9 BL=>⟨⟨by omega,by omega⟩,λb10 kU=>?_⟩⟩
  have uE:=Mem.le_add BL one.cs
  have mO:=Mem.le_add kU [.slice (ZaG a 0 cap 8) (c.f - 0) (cap - 0),.slice (some ⟨b9,0,none⟩) 1 1,.slice (ZaG a c.t cap 8) (subs.length - c.t) (cap - c.t)]
  have hP:=ZnO [⟨ZaG a 0 cap 8,c.f - 0,cap - 0,Rx.Zcx (subs.take c.f)⟩,⟨some ⟨b9,0,none⟩,1,1,one.cs⟩,⟨ZaG a c.t cap 8,subs.length - c.t,cap - c.t,Rx.Zcx (subs.drop c.t)⟩] (some ⟨b10,0,none⟩) 3 (m:=((m7.add b9 one.cs).add b10 [.slice (ZaG a 0 cap 8) (c.f - 0) (cap - 0),.slice (some ⟨b9,0,none⟩) 1 1,.slice (ZaG a c.t cap 8) (subs.length - c.t) (cap - c.t)])) ⟨λi q hi=>⟨b10,0,rfl,?_⟩,λq hq=>?_⟩ (by simp[ZnN];omega) (by simp)
  rotate_left
  ·rw[Nat.zero_add,Mem.add_same]
   match i,hi with
   | 0,hi=>cases hi;rfl
   | 1,hi=>cases hi;rfl
   | 2,hi=>cases hi;rfl
   | i+3,hi=>simp at hi
  ·simp only[List.mem_cons,List.not_mem_nil,or_false]at hq
   rcases hq with rfl|rfl|rfl
   ·exact⟨(Zaw (Zf4 hL c.f)).mono (mLt mN (mLt uE mO)),by rw[Zat,List.length_take,Nat.min_eq_left (by omega)];rfl,Zyb _⟩
   ·exact⟨.inr ⟨b9,0,rfl,λj v hj=>mO _ _ _ (by rw[Nat.zero_add,Mem.add_same];exact hj)⟩,rfl,by have:=Zyb [one];simpa[Rx.Zcx]using this⟩
   ·exact⟨(Zaw (Zls hL bC bL)).mono (mLt mN (mLt uE mO)),by rw[Zat,List.length_drop],Zyb _⟩
  have uw:ZnN [⟨ZaG a 0 cap 8,c.f - 0,cap - 0,Rx.Zcx (subs.take c.f)⟩,⟨some ⟨b9,0,none⟩,1,1,one.cs⟩,⟨ZaG a c.t cap 8,subs.length - c.t,cap - c.t,Rx.Zcx (subs.drop c.t)⟩]=c.f+1+(subs.length - c.t):=by simp[ZnN];omega
  have uF:Zxe [⟨ZaG a 0 cap 8,c.f - 0,cap - 0,Rx.Zcx (subs.take c.f)⟩,⟨some ⟨b9,0,none⟩,1,1,one.cs⟩,⟨ZaG a c.t cap 8,subs.length - c.t,cap - c.t,Rx.Zcx (subs.drop c.t)⟩]=Rx.Zcx (subs.take c.f++one::subs.drop c.t):=by simp[Zxe,Rx.Zcx]
  rw[uw,uF]at hP
  refine⟨_,rfl,hP,(λv _ _ ⟨a,c,e,_⟩=>by rw[e];rfl),?_⟩
  rintro a11 n11 c11 m8 dT ⟨a11',c11',uG,rJ⟩
  simp only[Value.slice.injEq]at uG
  obtain⟨rfl,rfl,rfl⟩:=uG
  intro M' uH nF rK vR
  have jT:=mLt mN uH
  refine⟨M',jT,Mem.le_refl _,subs.take c.f++one::subs.drop c.t,a11,c11,?_,Zcs (rJ.mono vR) (λx hx=>?_) ?_,?_,λx hx=>?_⟩
  ·rw[zA1,List.length_cons,List.length_take,List.length_drop,Nat.min_eq_left (by omega)]
   congr 1;omega
  ·rcases List.mem_append.1 hx with hx|hx
   ·exact(cA x (List.mem_of_mem_take hx)).mono jT
   ·rcases List.mem_cons.1 hx with rfl|hx
    ·exact dJ.mono uH
    ·exact(cA x (List.mem_of_mem_drop hx)).mono jT
  ·rw[zA1,List.length_cons,List.length_take,List.length_drop];omega
  ·unfold Zg7
   rw[List.map_append,List.map_append,List.map_cons,List.map_cons,uD]
   have:=(ZsC hg hf).er
   rw[this]
  ·rcases List.mem_append.1 hx with hx|hx
   ·exact cE x (List.mem_of_mem_take hx)
   ·rcases List.mem_cons.1 hx with rfl|hx
    ·exact ZcV Zkn hk
    ·exact cE x (List.mem_of_mem_drop hx)
theorem ZsW(t:T)(m:Mem)(hr:Rep m t)(hz:t.nodes.length<=10000):CX Tryz.prog 59 #[t.v] m [] (Za9 λt'=>t'.er=t.er/\(t'.caps/\NewT m t')):=by
 apply Zrx
 intro b m1 aK _ b1
 have hl:t.light=true:=by unfold T.light;exact decide_eq_true hz
 have h:=ZiZ t m1 (hr.mono aK)
 rw[hl]at h
 refine Zai h λm2 aO=>Zf0 rfl (Zae (Zf1 t m2 (hr.mono (mLt aK aO)) hz) Zaj (ZaD λt' m3 aX hr' ht'=>?_))
 exact⟨m3,mLt aK (mLt aO aX),Mem.le_refl _,t',rfl,hr',ht'.1,ht'.2.1,ht'.2.2.less (mLt aK aO)⟩
def ZuA(r:T×Nat):Value->Mem->List (List Value)->Prop:=λv m' css=>∃t':T,v=t'.v/\Rep m' t'/\t'.er=r.1/\t'.caps/\css=[[.int .i64 (r.2:Nat)]]
theorem Zrz{r:T×Nat}:∀(v:Value)(m':Mem) (css:List (List Value)),ZuA r v m' css->Shape.fits (.agg [.int .u8,.int .u64,.int .u64,.int .u64,.int .u64,.int .i64,.int .i64,.slice]) v=true:=λv _ _ ⟨t,e,_⟩=>by rw[e];rfl
def Zz7(b:Nat)(n:Nat):Box:=⟨b,[.int .i64 (n:Nat)],3,1,false,true⟩
theorem Zyg{rs:Nat->T}{L:List T}{i:Nat}:(List.range (i+1)).map rs=(List.range i).map rs++[rs i]:=by rw[List.range_succ,List.map_append];rfl
def Zw7(m:Mem)(r:T×Nat):Value->Mem->List (List Value)->Prop:=λv m' css=>∃t':T,v=t'.v/\Rep m' t'/\t'.er=r.1/\(t'.caps/\NewT m t')/\css=[[.int .i64 (r.2:Nat)]]
theorem ZrA{m:Mem}{r:T×Nat}:∀(v:Value)(m':Mem) (css:List (List Value)),Zw7 m r v m' css->Shape.fits (.agg [.int .u8,.int .u64,.int .u64,.int .u64,.int .u64,.int .i64,.int .i64,.slice]) v=true:=λv _ _ ⟨t,e,_⟩=>by rw[e];rfl
theorem Zyh{P:Program}{g:FuncId}{args:Array Value}{m m0:Mem}{X:List Box}{r:T×Nat}(h:CX P g args m X (Zw7 m0 r)):CX P g args m X (ZuA r):=h.mono λ_ _ _ _ ⟨t',e,hr',h1,h2,h3⟩=>⟨t',e,hr',h1,h2.1,h3⟩
theorem Zh4(c:C4)(m:Mem)(nb cb wb:Nat)(kQ:m.reads cb 0 [.int .i64 (c.a:Nat),.int .i64 (c.f:Nat),.int .i64 (c.t:Nat),.int .i64 (c.n:Nat)])(lC:m wb 0=some (.func (.func 91) #[] #[Zd8 nb,Zd8 cb,Zd8 wb]))
  (t:T) (n:Nat) (hn:n<=100000) (hr:Rep m t) (hg:t.good=true) (cY:t.caps) (hz:t.nodes.length<=300) (bZ:t.k=4->n=c.a->Fit t.subs c)
  (cR:∀L:List T,L.length<=300->(∀x∈L,x.caps)->(if t.k=4/\n=c.a then L.map T.er=(Zg7 t.subs c).map T.er else L=t.subs)->∃(rs:Nat->T)(cn:Nat->Nat),cn 0=(if t.k=4 then n+1 else n)/\
   (∀i x,L[i]?=some x->∀m2,m.le m2->Rep m2 x->CX Tryz.prog 91 #[x.v,Zd8 nb,Zd8 cb,Zd8 wb] m2 [Zz7 nb (cn i)] (ZuA (rs i,cn (i+1))))/\
   (∀i,i < L.length->(rs i).good=true/\(rs i).er=rs i)/\szL ((List.range L.length).map rs)<=900/\t.built ((List.range L.length).map rs)=(t.cutAt c n).1/\cn L.length=(t.cutAt c n).2/\(t.k=4->L≠[])/\(t.k=5->L.length=1/\(rs 0).k≠1)/\(t.k=6->L.length=1)):
  CX Tryz.prog 91 #[t.v,Zd8 nb,Zd8 cb,Zd8 wb] m [Zz7 nb n] (Zw7 m (t.cutAt c n)):=by
 apply Zhd t.k t.s0 t.s1 t.s2 t.s3 t.mn t.mx t.a t.subs.length t.c nb n cb 0 wb 0
 intro b m1 aK _ b1
 have nP:IntKind.i64.wrap ((n:Int)+1)=((n+1:Nat):Int):=by rw[Zas (by omega) (by omega)];rfl
 have xH:szL t.subs<=300:=by rw[Zb9]at hz;omega
 have mP:=(hr.mono aK).subs
 have gM:=(Zan hg).2
 have tJ:m1 cb (0+0)=some (.int .i64 (c.a:Nat)):=aK _ _ _ (kQ 0 _ rfl)
 have mQ:∀x∈t.subs,x.caps:=λx hx=>ZgD cY hx
 simp only[nP]
 refine⟨λxs css tvs m'=>∃(L:List T)(a:Option Addr)(cc:Nat)(n1:Nat),xs=[.slice a L.length cc]/\css=[[.int .i64 (n1:Nat)]]/\n1=(if t.k=4 then n+1 else n)/\RepL m' a L/\L.length<=300/\(∀x∈L,x.caps)/\(if t.k=4/\n=c.a then L.map T.er=(Zg7 t.subs c).map T.er else L=t.subs),?_,?_⟩
 ·refine Zac (λhk=>⟨_,tJ,Zaa rfl (Zac (λxI=>?_) (λxI=>?_))⟩) (λhk=>?_)
  ·have hk':t.k=4:=by simpa using hk
   have oI:n=c.a:=by simp[RowKit.intOf]at xI;omega
   have hf:=bZ hk' oI
   refine⟨_,_,_,_,λj v hj=>aK _ _ _ (kQ j v hj),Zae (Zzq t.subs t.a t.c c m1 mP (ZgE cY) gM mQ xH hf) Zry ?_⟩
   rintro a2 n2 c2 m2 aO ⟨L,a',c',hv,hL,fG,te⟩
   simp only[Value.slice.injEq]at hv
   obtain⟨rfl,rfl,rfl⟩:=hv
   refine⟨by trivial,L,_,_,n+1,rfl,rfl,by rw[if_pos hk'],hL,?_,te,by rw[if_pos ⟨hk',oI⟩];exact fG⟩
   have h1:=congrArg List.length fG
   rw[List.length_map,List.length_map]at h1
   unfold Zg7 at h1
   rw[zA1,List.length_cons,List.length_take,List.length_drop]at h1
   have:=Zbo t.subs
   have:=hf.two
   have:=hf.le
   omega
  ·have hk':t.k=4:=by simpa using hk
   have oI:¬n=c.a:=λe=>by subst e;simp[RowKit.intOf]at xI
   exact⟨by trivial,t.subs,t.a,t.c,n+1,rfl,rfl,by rw[if_pos hk'],mP,by have:=Zbo t.subs;omega,mQ,by rw[if_neg (λh=>oI h.2)]⟩
  ·have hk':¬t.k=4:=by simpa using hk
   exact⟨by trivial,t.subs,t.a,t.c,n,rfl,rfl,by rw[if_neg hk'],mP,by have:=Zbo t.subs;omega,mQ,by rw[if_neg (λh=>hk' h.1)]⟩
 rintro a2 n2 c2 cs m2 aO ⟨L,a',c',n1,aZ,bW,nJ,hL,xJ,te,rL⟩
 simp only[List.cons.injEq,Value.slice.injEq,and_true]at aZ bW
 obtain⟨rfl,rfl,rfl⟩:=aZ
 subst bW
 obtain⟨rs,cn,xK,cQ,uI,xM,rM,xN,xO,h5,h6⟩:=cR L xJ te rL
 rw[nJ,<-xK]
 have bR:=mLt aK aO
 have aP:=Zaw hL
 have cA:=Zbb hL
 refine⟨⟨by trivial,by omega,by omega,by omega⟩,λb3=>?_⟩
 refine⟨λxs css tvs m' q=>∃(i:Nat)(O:List T)(a:Option Addr)(cc:Nat),i<=L.length/\O.length=i/\xs=[.slice a O.length cc,.int .i64 i]/\css=[[.int .i64 (cn i:Nat)]]/\tvs=[.slice a O.length cc]/\rowRd m' a (Rx.Zcx O)/\(∀x∈O,Rep m' x/\x.caps)/\O.map T.er=(List.range i).map rs/\q=L.length - i,⟨_,0,[],some ⟨b3,0,none⟩,_,by omega,rfl,rfl,rfl,rfl,.inl rfl,by simp,rfl,rfl⟩,?_⟩
 rintro a4 n4 c4 z cs4 a5 n5 c5 m3 q aX ⟨i,O,a',cc,hi,iY,aZ,bW,bY,dX,oJ,jU,hq⟩
 simp only[List.cons.injEq,Value.slice.injEq,Value.int.injEq,true_and,and_true]at aZ bY bW
 obtain⟨⟨rfl,rfl,rfl⟩,rfl⟩:=aZ
 obtain⟨rfl,rfl,rfl⟩:=bY
 subst bW
 have bQ:=mLt bR aX
 refine Zac (λaS=>?_) (λbI=>?_)
 ·have aN:i < L.length:=by have:=zA6 aS;omega
  obtain⟨x,hx⟩:=ZbU aN
  obtain⟨b0,o0,eO,dW⟩:=Zct (aP.mono aX) hx
  have cO:=(cA x (zA2 hx)).mono aX
  have hw:IntKind.i64.wrap ((i:Int)+1)=((i+1:Nat):Int):=by rw[Zas (by omega) (by omega)];rfl
  simp only[hw]
  refine⟨b0,o0,eO,⟨by omega,by omega⟩,_,_,_,_,_,_,_,_,dW,λb6=>Zaa rfl ⟨_,bQ _ _ _ lC,_,[],[Zd8 nb,Zd8 cb,Zd8 wb],rfl,_,trivial,cQ i x hx m3 bQ cO,Zrz,?_⟩⟩
  rintro k' s0' s1' s2' s3' mn' mx' a6 n6 c6 m4 bB cs6 ⟨t',hv,hr',ht',gO,uJ⟩ b7 fK
  simp only[T.v,Value.agg.injEq,Array.mk.injEq,List.cons.injEq,Value.int.injEq,Value.slice.injEq,true_and,and_true]at hv
  obtain⟨rfl,rfl,rfl,rfl,rfl,rfl,rfl,rfl,rfl,rfl⟩:=hv
  obtain rfl:cs6=[.int .i64 (cn (i+1):Nat)]:=by simpa using uJ
  have hU:=Mem.le_add fK t'.cs
  refine⟨.inl (by trivial),Rx.Zcx O,t'.cs,by rw[Zat],rfl,(dX.mono bB).mono hU,.inr ⟨b7,0,rfl,λj v hj=>by rw[Nat.zero_add,Mem.add_same];exact hj⟩,by have:=Zyb [t'];simpa[Rx.Zcx]using this,by omega,by omega,λa8 c8 m8 dT gA=>?_⟩
  refine⟨by trivial,by trivial,L.length - (i+1),by omega,i+1,O++[t'],a8,c8,by omega,by rw[zA1,iY];rfl,?_,rfl,?_,by rw[ZdO];exact gA,?_,?_,rfl⟩
  ·rw[zA1];rfl
  ·rw[zA1];rfl
  ·have mJ:=mLt hU dT
   intro y hy
   rcases List.mem_append.1 hy with hy|hy
   ·exact⟨(oJ y hy).1.mono (mLt bB mJ),(oJ y hy).2⟩
   ·rw[List.mem_singleton]at hy;subst hy
    exact⟨hr'.mono mJ,gO⟩
  ·rw[Zyg (L:=L),List.map_append,jU]
   simp only[List.map_cons,List.map_nil,ht']
 ·have oD:i=L.length:=by have:=of_decide_eq_false bI;omega
  subst oD
  have hs:=ZcR hg
  have dR:=Zkm (Zan hg).1
  have BM:O.length<=300:=by omega
  have zP:=λ(M:Mem)(h:m3.le M)=>(Zcs (dX.mono h) (λx hx=>(oJ x hx).1.mono h) (by omega):RepL M _ O)
  have xP:∀x∈O,x.good=true:=by
   intro x hx
   obtain⟨j,hj⟩:=List.getElem?_of_mem hx
   have h1:=congrArg (λl=>l[j]?) jU
   simp only[List.getElem?_map,hj,Option.map_some]at h1
   have zI:=(zA0 hj).1
   rw[List.getElem?_range (by omega)]at h1
   simp only[Option.map_some,Option.some.injEq]at h1
   exact ZcQ h1 (uI j (by omega)).1
  have rN:O.map T.er=((List.range L.length).map rs).map T.er:=by
   rw[jU,ZxN λx hx=>?_]
   obtain⟨j,hj,rfl⟩:=List.mem_map.1 hx
   exact(uI j (List.mem_range.1 hj)).2
  have BN:szL O<=900:=by rw[Zeb rN];exact xM
  have oK:∀x∈O,x.clean=true:=λx hx=>ZaO (xP x hx) (by have:=Zbq hx;omega)
  have fin:∀(t':T)(M:Mem),m3.le M->Rep M t'->t'.er=t.built ((List.range L.length).map rs)->(t'.caps/\NewT m t')->∃m'':Mem,m.le m''/\m''.le M/\Zw7 m (t.cutAt c n) t'.v m'' [[.int .i64 (cn L.length:Nat)]]:=λt' M hM hr' he hc=>⟨M,mLt bQ hM,Mem.le_refl _,t',rfl,hr',by rw[he,rM],hc,by rw[xN]⟩
  refine Zac (λh3=>?_) (λh3=>Zac (λh4=>?_) (λh4=>Zac (λh5'=>?_) (λh5'=>Zac (λh6'=>?_) (λh6'=>?_))))
  ·have eV:t.k=3:=by simpa using h3
   refine Zae (Zvu O _ _ m3 (zP m3 (Mem.le_refl _)) (by omega) oK) Zaj (ZaD λt' m4 bB hr' ⟨⟨ja,jc,hj⟩,hn⟩=>⟨by trivial,fin t' m4 bB hr' ?_ ⟨ZcV Zkn hj,hn.less bQ⟩⟩)
   rw[ZiQ xP (by omega) hj]
   unfold T.built
   rw[if_pos eV]
   exact ZiS rN
  ·have sR:t.k=4:=by simpa using h4
   have bN:O≠[]:=λe=>by
    have:=xO sR
    rw[e]at iY
    exact this (List.eq_nil_of_length_eq_zero iY.symm)
   refine Zae (Zyc O _ _ m3 (zP m3 (Mem.le_refl _)) (by omega) oK) Zaj (ZaD λt' m4 bB hr' ⟨⟨ja,jc,hj⟩,hn⟩=>⟨by trivial,fin t' m4 bB hr' ?_ ⟨ZcV ZhM hj,hn.less bQ⟩⟩)
   rw[ZmP xP bN (by omega) hj]
   unfold T.built
   rw[if_neg (by omega),if_pos sR]
   exact ZiT rN
  ·have uK:t.k=5:=by simpa using h5'
   obtain⟨lT,iE⟩:=h5 uK
   rw[lT]at jU
   match O,iY,jU,dX,oJ,oK with
   | [],iY,_,_,_,_=>simp at iY;omega
   | _::_::_,iY,_,_,_,_=>simp at iY;omega
   | [o],_,jU,dX,oJ,oK=>
   have jF:o.er=rs 0:=by simpa using jU
   have hb:=(hs.2.2.1 uK).2
   obtain⟨b0,o0,eO,dW⟩:=Zct dX (i:=0) (t:=o) rfl
   refine⟨λ_ _ _=>Za9 λt'=>Zvk o t.mn t.mx t'/\NewT m3 t',b0,o0,eO,⟨by omega,by simp⟩,_,_,_,_,_,_,_,_,dW,_,rfl,ZpY o t.mn t.mx m3 (oJ o (by simp)).1 (oK o (by simp)),Zaj,ZaD λt' m4 bB hr' ⟨hj,hn⟩ M cM cS=>⟨by trivial,?_⟩⟩
   have bD:o.k≠1:=by rw[<-Zu2,jF];exact iE
   obtain⟨ja,jc,hj⟩:=Zq3 hj hb bD
   refine fin t' M cM (hr'.mono cS) ?_ ⟨hj.2,hn.less bQ⟩
   have uB:(Zba 5 t.mn t.mx ja jc [o]).good=true:=Zpv hb bD (ZfQ (oK o (by simp))).1
   rw[Zdk hj (ZaO uB (by
    rw[Zb9]
    show 1+szL [o]<=_
    omega))]
   unfold T.built
   rw[if_neg (by omega),if_neg (by omega)]
   have oL:=hs.2.2.2.2.2.1 (by omega)
   rw[uK,oL.1,oL.2.1,oL.2.2.1,oL.2.2.2,lT]
   show T.node 5 0 0 0 0 t.mn t.mx none 0 [o.er]=_
   rw[jF];rfl
  ·have zR:t.k=6:=by simpa using h6'
   have lT:=h6 zR
   rw[lT]at jU
   match O,iY,jU,dX,oJ,oK with
   | [],iY,_,_,_,_=>simp at iY;omega
   | _::_::_,iY,_,_,_,_=>simp at iY;omega
   | [o],_,jU,dX,oJ,oK=>
   have jF:o.er=rs 0:=by simpa using jU
   obtain⟨b0,o0,eO,dW⟩:=Zct dX (i:=0) (t:=o) rfl
   refine⟨b0,o0,eO,⟨by omega,by simp⟩,_,_,_,_,_,_,_,_,dW,Zae (Zks o m3 (oJ o (by simp)).1) Zaj (ZaD λt' m4 bB hr' ⟨⟨ja,jc,hj⟩,hn⟩=>⟨by trivial,?_⟩)⟩
   refine fin t' m4 bB hr' ?_ ⟨hj.2,hn.less bQ⟩
   have uB:(Zba 6 0 0 ja jc [o]).good=true:=Zot (ZfQ (oK o (by simp))).1
   rw[Zdk hj (ZaO uB (by
    rw[Zb9]
    show 1+szL [o]<=_
    omega))]
   unfold T.built
   rw[if_neg (by omega),if_neg (by omega)]
   have oL:=hs.2.2.2.2.2.1 (by omega)
   have cI:=hs.2.2.2.2.2.2 (by omega)
   rw[zR,oL.1,oL.2.1,oL.2.2.1,oL.2.2.2,cI.1,cI.2,lT]
   show T.node 6 0 0 0 0 0 0 none 0 [o.er]=_
   rw[jF];rfl
  ·have oM:t.k=1\/t.k=2:=by
    have e3:¬t.k=3:=by simpa using h3
    have e4:¬t.k=4:=by simpa using h4
    have e5:¬t.k=5:=by simpa using h5'
    have e6:¬t.k=6:=by simpa using h6'
    rcases dR with h|h|h|h|⟨h,_⟩|⟨h,_⟩
    ·exact .inl h
    ·exact .inr h
    all_goals omega
   have bH:=hs.2.2.2.2.1 oM
   refine Zae (ZsW t m3 (hr.mono bQ) (by omega)) Zaj (ZaD λt' m4 bB hr' ht'=>⟨by trivial,fin t' m4 bB hr' ?_ ⟨ht'.2.1,ht'.2.2.less bQ⟩⟩)
   have xQ:L.length=0:=by
    rw[if_neg (by omega)]at rL
    rw[rL,bH];rfl
   rw[ht'.1,xQ,<-ZeG hg,bH];rfl
theorem Zp2(c:C4)(m:Mem)(nb cb wb:Nat)(kQ:m.reads cb 0 [.int .i64 (c.a:Nat),.int .i64 (c.f:Nat),.int .i64 (c.t:Nat),.int .i64 (c.n:Nat)])(lC:m wb 0=some (.func (.func 91) #[] #[Zd8 nb,Zd8 cb,Zd8 wb]))
  (t:T) (n:Nat) (hn:n<=100000) (hr:Rep m t) (hg:t.good=true) (cY:t.caps) (hz:t.nodes.length<=300) (bZ:t.k=4->n=c.a->Fit t.subs c)
  (cR:∀L:List T,L.length<=300->(∀x∈L,x.caps)->(if t.k=4/\n=c.a then L.map T.er=(Zg7 t.subs c).map T.er else L=t.subs)->∃(rs:Nat->T)(cn:Nat->Nat),cn 0=(if t.k=4 then n+1 else n)/\
   (∀i x,L[i]?=some x->∀m2,m.le m2->Rep m2 x->CX Tryz.prog 91 #[x.v,Zd8 nb,Zd8 cb,Zd8 wb] m2 [Zz7 nb (cn i)] (ZuA (rs i,cn (i+1))))/\
   (∀i,i < L.length->(rs i).good=true/\(rs i).er=rs i)/\szL ((List.range L.length).map rs)<=900/\t.built ((List.range L.length).map rs)=(t.cutAt c n).1/\cn L.length=(t.cutAt c n).2/\(t.k=4->L≠[])/\(t.k=5->L.length=1/\(rs 0).k≠1)/\(t.k=6->L.length=1)):
  CX Tryz.prog 91 #[t.v,Zd8 nb,Zd8 cb,Zd8 wb] m [Zz7 nb n] (ZuA (t.cutAt c n)):=
 Zyh (Zh4 c m nb cb wb kQ lC t n hn hr hg cY hz bZ cR)
theorem Zh5(c:C4)(m:Mem)(nb cb wb:Nat)(kQ:m.reads cb 0 [.int .i64 (c.a:Nat),.int .i64 (c.f:Nat),.int .i64 (c.t:Nat),.int .i64 (c.n:Nat)])(lC:m wb 0=some (.func (.func 91) #[] #[Zd8 nb,Zd8 cb,Zd8 wb]))
  (t:T) (n:Nat) (hn:n+t.nodes.length<=100000) (hr:Rep m t) (hg:t.good=true) (cY:t.caps) (hz:t.nodes.length<=300) (uL:c.a < n):
  CX Tryz.prog 91 #[t.v,Zd8 nb,Zd8 cb,Zd8 wb] m [Zz7 nb n] (ZuA (t.cutAt c n)):=by
 refine Zp2 c m nb cb wb kQ lC t n (by omega) hr hg cY hz (λ_ h=>by omega) λL xJ te hL=>?_
 rw[if_neg (by omega)]at hL
 subst hL
 have gM:=(Zan hg).2
 have hs:=ZcR hg
 have zF:=Zb9 t
 have dZ:(List.range t.subs.length).map (λi=>((t.subs[i]?).getD T0).er)=t.subs.map T.er:=by
  have:=Zld (l:=t.subs.map T.er) (f:=λi=>((t.subs[i]?).getD T0).er) (λi x hx=>by
   rw[List.getElem?_map]at hx
   obtain⟨y,hy,rfl⟩:=Option.map_eq_some_iff.1 hx
   rw[hy];rfl)
  rwa [List.length_map]at this
 have rO:=ZeH t n hg uL
 refine⟨λi=>((t.subs[i]?).getD T0).er,λi=>(if t.k=4 then n+1 else n)+(Zax (t.subs.take i)).length,rfl,λi x hx m2 aO cO=>?_,λi hi=>?_,?_,?_,?_,λh4 e=>?_,λh5=>?_,λh6=>?_⟩
 ·have cL:=zA2 hx
  have iO:=Zbq cL
  have eD:(Zax (t.subs.take (i+1))).length=(Zax (t.subs.take i)).length+x.alts.length:=by rw[ZbR hx,Zdj,zA1];simp[Zax]
  have iP:(Zax (t.subs.take i)).length+x.nodes.length<=szL t.subs:=by
   have h1:=ZdA (t.subs.take i)
   have h2:=Zcu t.subs i
   have h3:x.nodes.length<=szL (t.subs.drop i):=by
    refine Zbq (List.mem_of_getElem? (i:=0) ?_)
    rw[List.getElem?_drop];exact hx
   omega
  have tE:(if t.k=4 then n+1 else n)<=n+1/\c.a < (if t.k=4 then n+1 else n):=by split <;> omega
  have ih:=Zh5 c m2 nb cb wb (λj v hj=>aO _ _ _ (kQ j v hj)) (aO _ _ _ lC) x ((if t.k=4 then n+1 else n)+(Zax (t.subs.take i)).length) (by omega) cO (gM x cL) (ZgD cY cL) (by omega) (by omega)
  rw[ZeH x _ (gM x cL) (by omega)]at ih
  dsimp only
  rw[hx,eD,<-Nat.add_assoc]
  exact ih
 ·obtain⟨x,hx⟩:=ZbU hi
  dsimp only
  rw[hx]
  exact⟨by rw[ZbY];exact gM x (zA2 hx),ZdQ x⟩
 ·rw[dZ,Zeb (l':=t.subs) (by rw[List.map_map];exact List.map_congr_left λz _=>ZdQ z)];omega
 ·rw[dZ,rO,ZeG hg]
 ·show(if t.k=4 then n+1 else n)+(Zax (t.subs.take t.subs.length)).length=_
  rw[List.take_length,rO,Zel,zA1]
  split <;> simp <;> omega
 ·have:=hs.2.1 h4
  rw[e]at this;simp at this
 ·obtain⟨⟨x,hx,gC⟩,_⟩:=hs.2.2.1 h5
  rw[hx]
  exact⟨rfl,by show x.er.k≠1;rw[Zu2];exact gC⟩
 ·obtain⟨x,hx⟩:=hs.2.2.2.1 h6
  rw[hx];rfl
termination_by SizeOf.sizeOf t
decreasing_by exact Zdi cL
theorem Zkt(c:C4)(m:Mem)(nb cb wb:Nat)(kQ:m.reads cb 0 [.int .i64 (c.a:Nat),.int .i64 (c.f:Nat),.int .i64 (c.t:Nat),.int .i64 (c.n:Nat)])(lC:m wb 0=some (.func (.func 91) #[] #[Zd8 nb,Zd8 cb,Zd8 wb]))
  (t:T) (n:Nat) (hn:n+3*t.nodes.length<=90000) (hr:Rep m t) (hg:t.good=true) (cY:t.caps) (hz:t.nodes.length<=120) (hf:Zem c t.alts n):
  CX Tryz.prog 91 #[t.v,Zd8 nb,Zd8 cb,Zd8 wb] m [Zz7 nb n] (Zw7 m (t.cutAt c n)):=by
 refine Zh4 c m nb cb wb kQ lC t n (by omega) hr hg cY (by omega) (λh4 h=>ZdS hf h4 h) λL xJ te hL=>?_
 have gM:=(Zan hg).2
 have hs:=ZcR hg
 have zF:=Zb9 t
 by_cases hh:t.k=4/\n=c.a
 ·rw[if_pos hh]at hL
  have bZ:=ZdS hf hh.1 hh.2
  have ho:=ZmQ gM bZ
  have xR:∀x∈L,x.good=true:=λx hx=>by
   have:x.er∈(Zg7 t.subs c).map T.er:=by rw[<-hL];exact List.mem_map.2 ⟨x,hx,rfl⟩
   obtain⟨y,hy,e⟩:=List.mem_map.1 this
   rw[<-ZbY,<-e,ZbY];exact ho.good y hy
  have qE:szL L<=300:=by
   have:=ho.sz
   rw[Zeb hL];omega
  have dZ:(List.range L.length).map (λi=>((L[i]?).getD T0).er)=L.map T.er:=by
   have:=Zld (l:=L.map T.er) (f:=λi=>((L[i]?).getD T0).er) (λi x hx=>by
    rw[List.getElem?_map]at hx
    obtain⟨y,hy,rfl⟩:=Option.map_eq_some_iff.1 hx
    rw[hy];rfl)
   rwa [List.length_map]at this
  refine⟨λi=>((L[i]?).getD T0).er,λi=>n+1+(Zax (L.take i)).length,by rw[if_pos hh.1];rfl,λi x hx m2 aO cO=>?_,λi hi=>?_,?_,?_,?_,λh4 e=>?_,λh5=>by omega,λh6=>by omega⟩
  ·have cL:=zA2 hx
   have iO:=Zbq cL
   have eD:(Zax (L.take (i+1))).length=(Zax (L.take i)).length+x.alts.length:=by rw[ZbR hx,Zdj,zA1];simp[Zax]
   have iP:(Zax (L.take i)).length<=szL L:=by
    have h1:=ZdA (L.take i)
    have h2:=Zcu L i
    omega
   have ih:=Zh5 c m2 nb cb wb (λj v hj=>aO _ _ _ (kQ j v hj)) (aO _ _ _ lC) x (n+1+(Zax (L.take i)).length) (by omega) cO (xR x cL) (te x cL) (by omega) (by omega)
   rw[ZeH x _ (xR x cL) (by omega)]at ih
   dsimp only
   rw[hx,eD,<-Nat.add_assoc]
   exact ih
  ·obtain⟨x,hx⟩:=ZbU hi
   dsimp only
   rw[hx]
   exact⟨by rw[ZbY];exact xR x (zA2 hx),ZdQ x⟩
  ·rw[dZ,Zeb (l':=L) (by rw[List.map_map];exact List.map_congr_left λz _=>ZdQ z)];omega
  ·rw[dZ,hL,ZcP hh.1 hh.2]
   unfold T.built
   rw[if_neg (by omega),if_pos hh.1,<-Zko]
  ·show n+1+(Zax (L.take L.length)).length=_
   rw[List.take_length,ZcP hh.1 hh.2,Zkp hL]
  ·rw[e]at hL
   exact ho.ne (by simpa using hL.symm)
 ·rw[if_neg hh]at hL
  subst hL
  have pL:=ZfU hf
  have nJ:(if t.k=4 then n+1 else n)<=n+1:=by split <;> omega
  generalize bN:(if t.k=4 then n+1 else n)=n1 at *
  have hl:=ZhQ (c:=c) t.subs n1 gM pL
  have dZ:(List.range t.subs.length).map (λi=>((ZaC c t.subs n1).1[i]?).getD T0)=(ZaC c t.subs n1).1:=by
   have:=Zld (l:=(ZaC c t.subs n1).1) (f:=λi=>((ZaC c t.subs n1).1[i]?).getD T0) (λi x hx=>by rw[hx];rfl)
   rwa [hl.1]at this
  refine⟨λi=>((ZaC c t.subs n1).1[i]?).getD T0,λi=>(ZaC c (t.subs.take i) n1).2,rfl,λi x hx m2 aO cO=>?_,λi hi=>?_,?_,?_,?_,λh4 e=>?_,λh5=>?_,λh6=>?_⟩
  ·have cL:=zA2 hx
   have iO:=Zbq cL
   obtain⟨g1,g2⟩:=ZmS (c:=c) (n:=n1) hx
   have bC:=Zlc (c:=c) (t.subs.take i) n1 (λx hx=>gM x (List.mem_of_mem_take hx)) (Zq8 i pL)
   have h2:=Zcu t.subs i
   have h3:x.nodes.length<=szL (t.subs.drop i):=by
    refine Zbq (List.mem_of_getElem? (i:=0) ?_)
    rw[List.getElem?_drop];exact hx
   have ih:=Zyh (Zkt c m2 nb cb wb (λj v hj=>aO _ _ _ (kQ j v hj)) (aO _ _ _ lC) x (ZaC c (t.subs.take i) n1).2 (by omega) cO (gM x cL) (ZgD cY cL) (by omega) (Zpw hx pL))
   show CX _ _ _ _ _ (ZuA (((ZaC c t.subs n1).1[i]?).getD T0,(ZaC c (t.subs.take (i+1)) n1).2))
   rw[g1,g2]
   exact ih
  ·have hi':i < (ZaC c t.subs n1).1.length:=by rw[hl.1];exact hi
   obtain⟨x,hx⟩:=ZbU hi'
   dsimp only
   rw[hx]
   exact hl.2.1 x (zA2 hx)
  ·rw[dZ];have:=hl.2.2.1;omega
  ·rw[dZ,ZbK hh,bN]
  ·show(ZaC c (t.subs.take t.subs.length) n1).2=_
   rw[List.take_length,ZbK hh,bN]
  ·have:=hs.2.1 h4
   rw[e]at this;simp at this
  ·obtain⟨⟨x,hx,gC⟩,_⟩:=hs.2.2.1 h5
   refine⟨by rw[hx];rfl,?_⟩
   have h1:=hl.2.2.2.2 (λy hy=>by rw[hx]at hy;simp at hy;subst hy;exact gC)
   have h2:0 < (ZaC c t.subs n1).1.length:=by rw[hl.1,hx];simp
   obtain⟨y,hy⟩:=ZbU h2
   show(((ZaC c t.subs n1).1[0]?).getD T0).k≠1
   rw[hy]
   exact h1 y (zA2 hy)
  ·obtain⟨x,hx⟩:=hs.2.2.2.1 h6
   rw[hx];rfl
termination_by SizeOf.sizeOf t
decreasing_by exact Zdi cL
end Go.Proofs.YtfgfahnakepegaaGreat
end
