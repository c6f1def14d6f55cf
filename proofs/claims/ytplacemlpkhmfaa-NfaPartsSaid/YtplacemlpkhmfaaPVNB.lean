/- Part of the proof: conditions and contracts of functions of this program. No condition of its own. -/
import Derived.Test.YtplacemlpkhmfaaPEnv
import Derived.Test.YtplacemlpkhmfaaMc
set_option linter.unusedVariables false
set_option linter.unusedSimpArgs false
set_option linter.unusedSectionVars false
noncomputable section
namespace Go.Proofs.Ytplacemlpkhmfaa
open Go Go.Eng Go.Proofs Go.RowKit
open Go.Value (int slice agg bool string tuple func)
open Go.IntKind (u8 u64 i64)
set_option maxRecDepth 100000
def Ze6:Env:={ EB with
 frzNew:=[1] }
set_option maxHeartbeats 4000000 in
theorem Zet(p0b p0o:Nat)(m:Mem)(R:RT)(h:
 lV [Value.pointer (some (Addr.mk p0b p0o none))] λxL=>fzM m xL λb m'=>∀(b_1:Nat),lV [Value.pointer (some (Addr.mk b 0 none))] λxL_1=>rtM m m' R (agg (.mk [func (Fn.func 135) (Array.mk []) (Array.mk []),func
 (Fn.func 136) (Array.mk []) (Array.mk []),func (Fn.func 137) (Array.mk []) (Array.mk xL_1),func (Fn.func 138) (Array.mk []) (Array.mk xL_1),func (Fn.func 140) (Array.mk []) (Array.mk xL_1),func (Fn.func 142) (Array.mk xL)
 (Array.mk []),func (Fn.func 143) (Array.mk []) (Array.mk xL_1)]))):CX Try.prog 109 #[.pointer (some ⟨p0b,p0o,none⟩)] m [] R:=
 Zaj (E:=Ze6) ZaB mix Try.func109 [.v (.pointer (some ⟨p0b,p0o,none⟩))] [] (by kernel_rfl) (Eq.mp (by kernel_rfl) h)
def Zd3:Env:={ EB with
 frzNew:=[1] }
theorem Zdj(aI aZ bC bD aA bF aX:Int)(aC:Option Addr)(aB aE:Nat)(m:Mem)(R:RT)(h:
 fzM m [int u8 aI,int u64 aZ,int u64 bC,int u64 bD,int u64 aA,int i64 bF,int i64 aX,slice aC aB aE] λb m'=>∀(b:Nat),rtM m m' R (agg (.mk [int u64 0,int u64 0,int u64 0,int u64 0,int u64 0,
 int u64 0,int u64 0,int u64 0,int u64 0,int u64 0,int u64 0,int u64 0,int u64 0,int u64 0,bool true]))):CX Try.prog 136 #[.agg #[.int .u8 aI,.int .u64 aZ,.int .u64 bC,.int .u64 bD,.int .u64 aA,.int .i64 bF,.int .i64 aX,.slice aC aB aE]] m [] R:=
 Zaj (E:=Zd3) ZaB mix Try.func136 [.v (.agg #[.int .u8 aI,.int .u64 aZ,.int .u64 bC,.int .u64 bD,.int .u64 aA,.int .i64 bF,.int .i64 aX,.slice aC aB aE])] [] (by kernel_rfl) (Eq.mp (by kernel_rfl) h)
def Zd4:Env:={ EB with
 dr:=swI [] [(3,[dO 0 [],dO 1 [],dO 2 [],dO 3 [2],dO 4 [2,3],⟨5,[100000],[],none,[2,3,4],[]⟩,⟨6,[2],[],none,[],[]⟩,⟨7,[2],[],none,[6],[]⟩,⟨8,[19],[19],none,[6,7],[]⟩,⟨9,[19],[],some 900,[2,3,4,5,6,7,8],[8]⟩,dO 10 [],dO 11 [10],dO 12 [10,11],⟨13,[100000],[],none,[10,11,12],[]⟩,dO 14 [],⟨15,[26],[26],none,[14],[]⟩,⟨16,[26],[],some 901,rg 2 14,[9,15]⟩,dO 17 ([0]++rg 2 15),dO 18 ([0]++rg 2 16),⟨19,[100000],[100000],none,[0]++rg 2 17,[]⟩,dO 20 (rg 0 20),dO 21 (rg 0 21),⟨22,[100000],[100000],none,rg 0 22,[]⟩])]
 tokOf:=swI 0 [(20,900),(27,901)]
 hint:=swI none [(8,some 100000),(15,some 100000),(23,some 100000),(29,some 100000),(31,some 100000)]
 frzNew:=[2]
 thaw:=true }
theorem Zc7(aI aZ bC bD aA bF aX:Int)(aC:Option Addr)(aB aE c0b c0o mkb:Nat)(t0a:Option Addr)(t0n t0c:Nat)(t1a:Option Addr)(t1n t1c:Nat)(m:Mem)(Y:Nat->Prop)(R:RTY)(h:
 lV [slice t0a t0n t0c,slice t1a t1n t1c] λxL=>lE (Box.mk mkb xL 98 2 false true) λyL=>lV [int u64 aZ,int u64 bC,int u64 bD,int u64 aA] λav=>fzM m [int u8 aI,int u64 aZ,int u64 bC,int u64 bD,
 int u64 aA,int i64 bF,int i64 aX,slice aC aB aE] λb m'=>lE (m' c0b c0o) λaf=>m.free b->(∀(b' o:Nat)(u:Value),m' b' o=some u->m b' o=some u\/b'=b)->∀(b b:Nat),∃(v:Value),af =
 some v/\chk (Zds v) (chk (Zds v) (ZkL v=mkb/\Eng.Zp3 xL (Zkz v+0) λv=>lV [int i64 (↑(slN v):Int)] λap=>chk (ZdK v) (∃(v:Value),lE (Zkz v+0) λaq=>af=some v/\∃(ac:Value),af=some ac/\∃
 (ag:Value),af=some ag/\chk (Zds ag) (chk (Zds ag) (ZkL ag=mkb/\Eng.Zp3 xL (Zkz ag+0) λaa=>∀ak,lM (m'.add ak av) λmL=>lE (slN aa+1) λad=>m'.free ak->chk (ZdK aa&&true) ((Tok.mk (slice t0a
 t0n t0c) 4=Tok.mk aa 4\/aa=slice none 0 0\/slC aa < ad)/\∃(xs:List Value),∃(ys:List Value),xs.length=slN aa*4/\ys.length=1*4/\rowRd mL (slA aa) xs/\rowRd mL (some (Addr.mk ak 0 none)) ys/\(∀(u:Value),
 u∈ys->u.oneCell'=true)/\ad*32<=140737488355328/\ad<=9223372036854775807/\∀a' c' ai,lV (Zaw xL aq [slice a' ad c']) λar=>mL.le ai->rowRd ai a' (List.append xs ys)->TokFact mL (slA aa) a' ad c'->∃(ah:
 Value),af=some ah/\chk (Zds ah) (chk (Zds ah) (ZkL ah=mkb/\Eng.Zp3 xL (Zkz ah+1) λab=>∀al,lE (slN ab+1) λae=>lM (m'.add al [int u64 0,int u64 0,int u64 0,int u64 0,int u64 0,int u64 0,int u64
 0]) λau=>m'.free al->∀V,m'.le V->ai.le V->au.le V->chk (ZdK ab&&true) ((Tok.mk (slice t1a t1n t1c) 7=Tok.mk ab 7\/ab=slice none 0 0\/slC ab < ae)/\∃(xs:List Value),∃(ys:List Value),xs.length=slN ab *
 7/\ys.length=1*7/\rowRd V (slA ab) xs/\rowRd V (some (Addr.mk al 0 none)) ys/\(∀(u:Value),u∈ys->u.oneCell'=true)/\ae*56<=140737488355328/\ae<=9223372036854775807/\∀(aj:Option Addr)(am:Nat) an,V.le an
 -> rowRd an aj (List.append xs ys)->TokFact V (slA ab) aj ae am->chk (Zds v) (chk (Zds v) (ZkL v=mkb/\aq+1<=1+1/\chk (Zds ac) (chk (Zds ac) (ZkL ac=mkb/\Zkz ac+1+1<=ar.length/\∀M,m'.le M->mL.le M->
 ai.le M->au.le M->an.le M->∃R_1,True/\CX pG 116 (.mk (Value.pointer (some (Addr.mk b 0 none))::ap)) M [Box.mk b [int u64 0,int u64 0,int u64 0,int u64 0,int u64 0,int u64 0,int u64 0,int u64 0,int u64 0,int u64 0,
 int u64 0,int u64 0,int u64 0,int u64 0,bool false] 102 15 false true] R_1/\Zdv (.tup []) R_1/\∀m',M.le m'->∀(cs:List Value),R_1 (tuple (.mk [])) m' [cs]->∃R_2,True/\CX pG 116 (.mk (Value.pointer (some (Addr.mk b
 7 none))::ap)) m' [Box.mk b cs 102 15 false true] R_2/\Zdv (.tup []) R_2/\∀ao,m'.le ao->∀(cs:List Value),R_2 (tuple (.mk [])) ao [cs]->chk (Nat.beq (cs.length) 15&&Zcr cs) (yL=yL/\R (agg (.mk cs)) ao [Zaw ar
 (Zkz ac+1) [slice aj ae am]] [slice a' ad c',slice aj ae am]))))))))))))))):CXY Try.prog 137 #[.agg #[.int .u8 aI,.int .u64 aZ,.int .u64 bC,.int .u64 bD,.int .u64 aA,.int .i64 bF,.int .i64 aX,.slice aC aB aE],.pointer (some ⟨c0b,c0o,none⟩)] m Y [⟨mkb,[.slice t0a t0n t0c,.slice t1a t1n t1c],98,2,false,true⟩] [⟨.slice t0a t0n t0c,4⟩,⟨.slice t1a t1n t1c,7⟩] R:=
 ZaK (E:=Zd4) ZaB mix Try.func137 [.v (.agg #[.int .u8 aI,.int .u64 aZ,.int .u64 bC,.int .u64 bD,.int .u64 aA,.int .i64 bF,.int .i64 aX,.slice aC aB aE]),.v (.pointer (some ⟨c0b,c0o,none⟩))] [⟨mkb,[.slice t0a t0n t0c,.slice t1a t1n t1c],98,2,false,true⟩] [900,901] [⟨.slice t0a t0n t0c,4⟩,⟨.slice t1a t1n t1c,7⟩] (by decide) (by kernel_rfl) (Eq.mp (by kernel_rfl) h)
def ZfL:Env:={ EB with
 loops:=swI nLa [(3,⟨[(8,.int .i64)],[],[(901,7)],false⟩)]
 dr:=swI [] [(3,[⟨0,[3],[],none,[],[]⟩,dO 1 [0],dO 2 [0,1],⟨3,[100000],[],none,[0,1,2],[]⟩,dO 4 [],dO 5 [0,1,2,3,4],⟨6,[5],[],none,[],[]⟩])]
 hint:=swI none [(11,some 100000)]
 frzNew:=[3,4,5]
 last:=swI false [(3,true)]
 lastK:=swI 1 [(3,1)]
 thaw:=true
 lentC:=swI none [(16,some [(901,7)])] }
theorem Zeu(p0b p0o:Nat)(bS bK bL bM bI aV bJ fI fJ fK fL fM fN fO:Int)(mkb:Nat)(t0a:Option Addr)(t0n t0c:Nat)(t1a:Option Addr)(t1n t1c:Nat)(m:Mem)(Y:Nat->Prop)(R:RTY)(h:
 lX (slice t0a t0n t0c) λyL=>lE [some (Tok.mk yL 4),none] λxL=>lV [Value.pointer (some (Addr.mk p0b p0o none))] λxL_1=>lV [yL,slice t1a t1n t1c] λxL_2=>lE (Box.mk mkb xL_2 98 2 false true) λyL_1=>lV [int
 u64 bS,int u64 bK,int u64 bL,int u64 bM,int u64 bI,int u64 aV,int u64 bJ] λxL_3=>lV [int u64 fI,int u64 fJ,int u64 fK,int u64 fL,int u64 fM,int u64 fN,int u64 fO] λxL_4=>fzM m xL_1
 λb m'=>m.free b->(∀(b' o:Nat)(u:Value),m' b' o=some u->m b' o=some u\/b'=b)->fzM m' xL_3 λb_1 m'_1=>m'.free b_1->(∀(b' o:Nat)(u:Value),m'_1 b' o=some u->m' b' o=some u\/b'=b_1)->fzM m'_1
 xL_4 λb_2 m'=>m'_1.free b_2->(∀(b' o:Nat)(u:Value),m' b' o=some u->m'_1 b' o=some u\/b'=b_2)->kF pG 111 [Value.pointer (some (Addr.mk b_1 0 none))] m' λg fi ca m'=>∃(mi:Mem),mi.le m'/\∃(xs:List
 (List Value)),IX pG g fi ca mi xs/\(∀(x:List Value),x∈xs->Shape.fitsL [.int i64] x=true)/\∃(I:IT),I [] [] [slice t1a t1n t1c] m' 0/\(∀n a n_1 c m' (n_2:Nat),lE [Tok.mk (slice a n_1 c) 7] λxL_5=>mi.le m'->
 List.get?Internal xs n_2=some [int i64 n]->I [] [] [slice a n_1 c] m' n_2->∃(f:Fx),p0b=mkb/\Eng.Zp3 xL_2 (p0o+1) λv=>chk (ZdK v) (atA (slA v) λb_3 o=>Zaf n (slN v)/\∃(Y_1:Nat->Prop),∃(R:Value
 -> Mem->List (List Value)->List Value->Prop),CXY pG 141 (.mk [ptr b_3 (o+Int.toNat n*7),agg (.mk xL_4)]) m' Y_1 [] xL_5 R/\(∀(t:Tok),t∈xL_5->∀(b:Nat),Tok.blk t=some b->Y_1 b)/\(∀(b_4:Nat),Y_1 b_4->(∃
 (t:Tok),t∈xL_5/\Tok.blk t=some b_4)\/Mem.free (Mem.off m Y) b_4/\(∃(o:Nat),∃(v:Value),m' b_4 o=some v)/\b_2≠b_4/\b_1≠b_4/\b≠b_4/\Tok.blk (Tok.mk yL 4)≠some b_4/\True)/\(∀(v:Value)(m':Mem)
 (css:List (List Value)) (tvs:List Value),R v m' css tvs->Shape.fits (.tup []) v=true)/\∀(m'_2:Mem),Mem.le (Mem.off m' Y_1) m'_2->(∀(b o:Nat)(u:Value),m'_2 b o=some u->m' b o=some u\/Y_1 b\/m'.free b)->
 ∀a c d,R (tuple (.mk [])) m'_2 [] [slice a c d]->mi.le m'_2/\Zac [some (Box.mk b_2 xL_4 100 7 true true),some (Box.mk b_1 xL_3 100 7 true true),some (Box.mk b xL_1 95 1 true true),some yL_1]/\xL=xL/\I [] [] [slice a
 c d] m'_2 (n_2+1)))/\∀a n c m',mi.le m'->I [] [] [slice a n c] m' (xs.length)->yL_1=yL_1/\R (tuple (.mk [])) m' [xL_2] [yL,slice a n c]):CXY Try.prog 164 #[.pointer (some ⟨p0b,p0o,none⟩),.agg #[.int .u64 bS,.int .u64 bK,.int .u64 bL,.int .u64 bM,.int .u64 bI,.int .u64 aV,.int .u64 bJ],.agg #[.int .u64 fI,.int .u64 fJ,.int .u64 fK,.int .u64 fL,.int .u64 fM,.int .u64 fN,.int .u64 fO]] m Y [⟨mkb,[.slice t0a t0n t0c,.slice t1a t1n t1c],98,2,false,true⟩] [⟨.slice t0a t0n t0c,4⟩,⟨.slice t1a t1n t1c,7⟩] R:=
 ZaK (E:=ZfL) ZaB mix Try.func164 [.v (.pointer (some ⟨p0b,p0o,none⟩)),.v (.agg #[.int .u64 bS,.int .u64 bK,.int .u64 bL,.int .u64 bM,.int .u64 bI,.int .u64 aV,.int .u64 bJ]),.v (.agg #[.int .u64 fI,.int .u64 fJ,.int .u64 fK,.int .u64 fL,.int .u64 fM,.int .u64 fN,.int .u64 fO])] [⟨mkb,[.slice t0a t0n t0c,.slice t1a t1n t1c],98,2,false,true⟩] [900,901] [⟨.slice t0a t0n t0c,4⟩,⟨.slice t1a t1n t1c,7⟩] (by decide) (by kernel_rfl) (Eq.mp (by kernel_rfl) h)
def ZfM:Env:={ EB with
 borrow:=swI [] [(13,[100000])]
 frzNew:=[4,5]
 thaw:=true
 lentC:=swI none [(13,some [(900,4),(901,7)])] }
theorem Zev(p0b p0o:Nat)(bS bK bL bM bI aV bJ kx ky kA iC iD iE iF:Int)(gB:Bool)(fI fJ fK fL fM fN fO kC kD kE iG iH iI iJ:Int)(f7:Bool)(mkb:Nat)(t0a:Option Addr)(t0n t0c:Nat)(t1a:Option Addr)(t1n t1c:Nat)(m:Mem)(Y:Nat->Prop)(R:RTY)(h:
 lX (int u64 bL) λyL=>lX (int u64 bJ) λaj=>lX (int u64 bM) λak=>lX (int u64 bK) λal=>lX (int u64 bI) λam=>lX (int u64 bS) λan=>lX (int u64 aV) λao=>lE [Tok.mk (slice t0a t0n t0c) 4,
 Tok.mk (slice t1a t1n t1c) 7] λxL=>lV [int u64 kC,int u64 kD,int u64 kE,int u64 iG,int u64 iH,int u64 iI,int u64 iJ,bool f7] λau=>lV [agg (.mk [int u64 fI,int u64 fJ,int u64 fK,int
 u64 fL,int u64 fM,int u64 fN,int u64 fO])] λap=>lV (an::al::yL::ak::am::ao::aj::au) λav=>lV [an,al,yL,ak,am,ao,aj,int u64 kC,int u64 kD,int u64 kE,int u64 iG,int u64 iH,
 int u64 iI,int u64 iJ,bool false] λaw=>lX (agg (.mk [int u64 kx,int u64 ky,int u64 kA,int u64 iC,int u64 iD,int u64 iE,int u64 iF])) λaq=>lE (Box.mk mkb [slice t0a t0n t0c,slice t1a t1n
 t1c] 98 2 false true) λac=>fzM m [an,al,yL,ak,am,ao,aj,int u64 kx,int u64 ky,int u64 kA,int u64 iC,int u64 iD,int u64 iE,int u64 iF,bool gB] λb m'=>m.free b->(∀(b' o:Nat) (u:
 Value),m' b' o=some u->m b' o=some u\/b'=b)->fzM m' (int u64 fI::int u64 fJ::int u64 fK::int u64 fL::int u64 fM::int u64 fN::int u64 fO::au) λar ae=>m'.free ar->(∀(b' o:Nat) (u:
 Value),ae b' o=some u->m' b' o=some u\/b'=ar)->∀(a0:Nat),∃(ag:Nat->Prop),∃(R_1:Value->Mem->List (List Value)->List Value->Prop),CXY pG 164 (.mk (Value.pointer (some (Addr.mk p0b p0o none))::aq::ap))
 ae ag [ac] xL R_1/\(∀(t:Tok),t∈xL->∀(b:Nat),Tok.blk t=some b->ag b)/\(∀(af:Nat),ag af->(∃(t:Tok),t∈xL/\Tok.blk t=some af)\/Mem.free (Mem.off m Y) af/\(∃(o:Nat),∃(v:Value),ae af o=some v)/\
 ar≠af/\b≠af/\True)/\(∀(v:Value)(m':Mem) (css:List (List Value)) (tvs:List Value),R_1 v m' css tvs->Shape.fits (.tup []) v=true)/\∀(m':Mem),Mem.le (Mem.off ae ag) m'->(∀(b o:Nat)(u:Value),m' b o =
 some u->ae b o=some u\/ag b\/ae.free b)->∀(cs:List Value) a c d ax ay az,lV [slice a c d,slice ax ay az] λxL=>R_1 (tuple (.mk [])) m' [cs] xL->br gB (∀b,lE [Box.mk b av 102 15 false true] λah=>lV
 [Value.pointer (some (Addr.mk b 7 none)),aq] λai=>br gB (∃R_2,True/\CX pG 141 (.mk (Value.pointer (some (Addr.mk b 0 none))::ap)) m' ah R_2/\Zdv (.tup []) R_2/\∀ab,m'.le ab->∀(aa:List Value),R_2 (tuple (.mk
 [])) ab [aa]->br f7 (∃R_3,True/\CX pG 141 (.mk ai) ab [Box.mk b aa 102 15 false true] R_3/\Zdv (.tup []) R_3/\∀m',ab.le m'->∀(ad:List Value),R_3 (tuple (.mk [])) m' [ad]->chk (Nat.beq (ad.length) 15&&Zcr ad)
 (ac=ac/\R (agg (.mk ad)) m' [cs] xL)) (chk (Nat.beq (aa.length) 15&&Zcr aa) (ac=ac/\R (agg (.mk aa)) ab [cs] xL))) (br f7 (∃R_2,True/\CX pG 141 (.mk ai) m' ah R_2/\Zdv (.tup []) R_2/\∀ab,m'.le ab->∀(aa:
 List Value),R_2 (tuple (.mk [])) ab [aa]->chk (Nat.beq (aa.length) 15&&Zcr aa) (ac=ac/\R (agg (.mk aa)) ab [cs] xL)) (ac=ac/\R (agg (.mk av)) m' [cs] xL))) (∀b,lE [Box.mk b aw 102 15 false true] λah=>lV
 [Value.pointer (some (Addr.mk b 7 none)),aq] λai=>br gB (∃R_2,True/\CX pG 141 (.mk (Value.pointer (some (Addr.mk b 0 none))::ap)) m' ah R_2/\Zdv (.tup []) R_2/\∀ab,m'.le ab->∀(aa:List Value),R_2 (tuple (.mk
 [])) ab [aa]->br f7 (∃R_3,True/\CX pG 141 (.mk ai) ab [Box.mk b aa 102 15 false true] R_3/\Zdv (.tup []) R_3/\∀m',ab.le m'->∀(ad:List Value),R_3 (tuple (.mk [])) m' [ad]->chk (Nat.beq (ad.length) 15&&Zcr ad)
 (ac=ac/\R (agg (.mk ad)) m' [cs] xL)) (chk (Nat.beq (aa.length) 15&&Zcr aa) (ac=ac/\R (agg (.mk aa)) ab [cs] xL))) (br f7 (∃R_2,True/\CX pG 141 (.mk ai) m' ah R_2/\Zdv (.tup []) R_2/\∀ab,m'.le ab->∀(aa:
 List Value),R_2 (tuple (.mk [])) ab [aa]->chk (Nat.beq (aa.length) 15&&Zcr aa) (ac=ac/\R (agg (.mk aa)) ab [cs] xL)) (ac=ac/\R (agg (.mk aw)) m' [cs] xL)))):CXY Try.prog 139 #[.pointer (some ⟨p0b,p0o,none⟩),.agg #[.int .u64 bS,.int .u64 bK,.int .u64 bL,.int .u64 bM,.int .u64 bI,.int .u64 aV,.int .u64 bJ,.int .u64 kx,.int .u64 ky,.int .u64 kA,.int .u64 iC,.int .u64 iD,.int .u64 iE,.int .u64 iF,.bool gB],.agg #[.int .u64 fI,.int .u64 fJ,.int .u64 fK,.int .u64 fL,.int .u64 fM,.int .u64 fN,.int .u64 fO,.int .u64 kC,.int .u64 kD,.int .u64 kE,.int .u64 iG,.int .u64 iH,.int .u64 iI,.int .u64 iJ,.bool f7]] m Y [⟨mkb,[.slice t0a t0n t0c,.slice t1a t1n t1c],98,2,false,true⟩] [⟨.slice t0a t0n t0c,4⟩,⟨.slice t1a t1n t1c,7⟩] R:=
 ZaK (E:=ZfM) ZaB mix Try.func139 [.v (.pointer (some ⟨p0b,p0o,none⟩)),.v (.agg #[.int .u64 bS,.int .u64 bK,.int .u64 bL,.int .u64 bM,.int .u64 bI,.int .u64 aV,.int .u64 bJ,.int .u64 kx,.int .u64 ky,.int .u64 kA,.int .u64 iC,.int .u64 iD,.int .u64 iE,.int .u64 iF,.bool gB]),.v (.agg #[.int .u64 fI,.int .u64 fJ,.int .u64 fK,.int .u64 fL,.int .u64 fM,.int .u64 fN,.int .u64 fO,.int .u64 kC,.int .u64 kD,.int .u64 kE,.int .u64 iG,.int .u64 iH,.int .u64 iI,.int .u64 iJ,.bool f7])] [⟨mkb,[.slice t0a t0n t0c,.slice t1a t1n t1c],98,2,false,true⟩] [900,901] [⟨.slice t0a t0n t0c,4⟩,⟨.slice t1a t1n t1c,7⟩] (by decide) (by kernel_rfl) (Eq.mp (by kernel_rfl) h)
def Zew:Env:={ EB with
 dr:=swI [] [(1,[dO 0 [],dO 1 [0],⟨2,[3],[],none,[],[]⟩,⟨3,[3],[],none,[2],[]⟩,dO 4 [0,1,2,3],⟨5,[3],[],none,[],[]⟩])]
 borrow:=swI [] [(11,[100000])]
 frzNew:=[3]
 last:=swI false [(1,true)]
 lastK:=swI 1 [(1,2)]
 thaw:=true
 lentC:=swI none [(11,some [(900,4),(901,7)])] }
theorem Zdk(p0b p0o:Nat)(bK bL bM bI aV bJ:Int)(aL:Option Addr)(aM aN mkb:Nat)(t0a:Option Addr)(t0n t0c:Nat)(t1a:Option Addr)(t1n t1c:Nat)(m:Mem)(Y:Nat->Prop)(R:RTY)(h:
 lV [Value.pointer (some (Addr.mk p0b p0o none))] λxL=>lE [Tok.mk (slice t0a t0n t0c) 4,Tok.mk (slice t1a t1n t1c) 7] λxL_1=>lV [int u8 1,int u64 bK,int u64 bL,int u64 bM,int u64 bI,int i64 aV,int i64
 bJ,slice aL aM aN] λxL_2=>lE (Box.mk mkb [slice t0a t0n t0c,slice t1a t1n t1c] 98 2 false true) λyL=>fzM m xL_2 λb m'=>m.free b->(∀(b' o:Nat)(u:Value),m' b' o=some u->m b' o=some u\/b' =
 b)->∀(b_1:Nat),∃(f:Fx),∃R_1,R_1=f 1 xL m'/\CX pG 109 (.mk xL) m' [] R_1/\Zdv (.agg [.fn,.fn,.fn,.fn,.fn,.fn,.fn]) R_1/\∀(g:Nat)(fi ca:List Value)(g_1:Nat)(fi_1 ca_1:List Value)(g_2:Nat) (fi_2
 ca_2:List Value) (g_3:Nat) (fi_3 ca_3:List Value) (g_4:Nat) (fi_4 ca_4:List Value) (g_5:Nat) (fi_5 ca_5:List Value) (g_6:Nat) (fi_6 ca_6:List Value) m'_1,m'.le m'_1->R_1 (agg (.mk [func (Fn.func g) (Array.mk
 fi) (Array.mk ca),func (Fn.func g_1) (Array.mk fi_1) (Array.mk ca_1),func (Fn.func g_2) (Array.mk fi_2) (Array.mk ca_2),func (Fn.func g_3) (Array.mk fi_3) (Array.mk ca_3),func (Fn.func g_4) (Array.mk fi_4) (Array.mk ca_4),
 func (Fn.func g_5) (Array.mk fi_5) (Array.mk ca_5),func (Fn.func g_6) (Array.mk fi_6) (Array.mk ca_6)])) m'_1 []->Zaf (1:Int) 7/\∀M,m'.le M->m'_1.le M->∃(Y_1:Nat->Prop),∃(R_2:Value->Mem->List (List Value)->
 List Value->Prop),CXY pG g_1 (Array.mk (List.append (List.append fi_1 [agg (.mk xL_2)]) ca_1)) M Y_1 [yL] xL_1 R_2/\(∀(t:Tok),t∈xL_1->∀(b:Nat),Tok.blk t=some b->Y_1 b)/\(∀(b_2:Nat),Y_1 b_2->(∃(t:Tok),t ∈
 xL_1/\Tok.blk t=some b_2)\/Mem.free (Mem.off m Y) b_2/\(∃(o:Nat),∃(v:Value),M b_2 o=some v)/\b≠b_2/\True)/\(∀(v:Value)(m':Mem) (css:List (List Value)) (tvs:List Value),R_2 v m' css tvs->Shape.fits
 (.agg [.int u64,.int u64,.int u64,.int u64,.int u64,.int u64,.int u64,.int u64,.int u64,.int u64,.int u64,.int u64,.int u64,.int u64,.bool]) v=true)/\∀n n_1 n_2 n_3 n_4 n_5 n_6 n_7 n_8 n_9 n_10 n_11 n_12 n_13 (b
 : Bool) (m':Mem),lX (agg (.mk [int u64 n,int u64 n_1,int u64 n_2,int u64 n_3,int u64 n_4,int u64 n_5,int u64 n_6,int u64 n_7,int u64 n_8,int u64 n_9,int u64 n_10,int u64 n_11,int u64 n_12,int u64 n_13,bool b]))
 λyL_1=>Mem.le (Mem.off M Y_1) m'->(∀(b o:Nat)(u:Value),m' b o=some u->M b o=some u\/Y_1 b\/M.free b)->∀(cs:List Value) a c d a_1 c_1 d_1,lV [slice a c d,slice a_1 c_1 d_1] λxL=>R_2 yL_1 m' [cs] xL->
 yL=yL/\R yL_1 m' [cs] xL):CXY Try.prog 61 #[.pointer (some ⟨p0b,p0o,none⟩),.agg #[.int .u8 1,.int .u64 bK,.int .u64 bL,.int .u64 bM,.int .u64 bI,.int .i64 aV,.int .i64 bJ,.slice aL aM aN]] m Y [⟨mkb,[.slice t0a t0n t0c,.slice t1a t1n t1c],98,2,false,true⟩] [⟨.slice t0a t0n t0c,4⟩,⟨.slice t1a t1n t1c,7⟩] R:=
 ZaK (E:=Zew) ZaB mix Try.func61 [.v (.pointer (some ⟨p0b,p0o,none⟩)),.v (.agg #[.int .u8 1,.int .u64 bK,.int .u64 bL,.int .u64 bM,.int .u64 bI,.int .i64 aV,.int .i64 bJ,.slice aL aM aN])] [⟨mkb,[.slice t0a t0n t0c,.slice t1a t1n t1c],98,2,false,true⟩] [900,901] [⟨.slice t0a t0n t0c,4⟩,⟨.slice t1a t1n t1c,7⟩] (by decide) (by kernel_rfl) (Eq.mp (by kernel_rfl) h)
def Zex:Env:={ EB with
 dr:=swI [] [(1,[dO 0 [],dO 1 [0],⟨2,[3],[],none,[],[]⟩,⟨3,[3],[],none,[2],[]⟩,dO 4 [0,1,2,3],⟨5,[3],[],none,[],[]⟩])]
 borrow:=swI [] [(11,[100000])]
 frzNew:=[3]
 last:=swI false [(1,true)]
 lastK:=swI 1 [(1,2)]
 thaw:=true
 lentC:=swI none [(11,some [(900,4),(901,7)])] }
theorem Zdl(p0b p0o:Nat)(bK bL bM bI aV bJ:Int)(aL:Option Addr)(aM aN mkb:Nat)(t0a:Option Addr)(t0n t0c:Nat)(t1a:Option Addr)(t1n t1c:Nat)(m:Mem)(Y:Nat->Prop)(R:RTY)(h:
 lV [Value.pointer (some (Addr.mk p0b p0o none))] λxL=>lE [Tok.mk (slice t0a t0n t0c) 4,Tok.mk (slice t1a t1n t1c) 7] λxL_1=>lV [int u8 2,int u64 bK,int u64 bL,int u64 bM,int u64 bI,int i64 aV,int i64
 bJ,slice aL aM aN] λxL_2=>lE (Box.mk mkb [slice t0a t0n t0c,slice t1a t1n t1c] 98 2 false true) λyL=>fzM m xL_2 λb m'=>m.free b->(∀(b' o:Nat)(u:Value),m' b' o=some u->m b' o=some u\/b' =
 b)->∀(b_1:Nat),∃(f:Fx),∃R_1,R_1=f 1 xL m'/\CX pG 109 (.mk xL) m' [] R_1/\Zdv (.agg [.fn,.fn,.fn,.fn,.fn,.fn,.fn]) R_1/\∀(g:Nat)(fi ca:List Value)(g_1:Nat)(fi_1 ca_1:List Value)(g_2:Nat) (fi_2
 ca_2:List Value) (g_3:Nat) (fi_3 ca_3:List Value) (g_4:Nat) (fi_4 ca_4:List Value) (g_5:Nat) (fi_5 ca_5:List Value) (g_6:Nat) (fi_6 ca_6:List Value) m'_1,m'.le m'_1->R_1 (agg (.mk [func (Fn.func g) (Array.mk
 fi) (Array.mk ca),func (Fn.func g_1) (Array.mk fi_1) (Array.mk ca_1),func (Fn.func g_2) (Array.mk fi_2) (Array.mk ca_2),func (Fn.func g_3) (Array.mk fi_3) (Array.mk ca_3),func (Fn.func g_4) (Array.mk fi_4) (Array.mk ca_4),
 func (Fn.func g_5) (Array.mk fi_5) (Array.mk ca_5),func (Fn.func g_6) (Array.mk fi_6) (Array.mk ca_6)])) m'_1 []->Zaf (2:Int) 7/\∀M,m'.le M->m'_1.le M->∃(Y_1:Nat->Prop),∃(R_2:Value->Mem->List (List Value)->
 List Value->Prop),CXY pG g_2 (Array.mk (List.append (List.append fi_2 [agg (.mk xL_2)]) ca_2)) M Y_1 [yL] xL_1 R_2/\(∀(t:Tok),t∈xL_1->∀(b:Nat),Tok.blk t=some b->Y_1 b)/\(∀(b_2:Nat),Y_1 b_2->(∃(t:Tok),t ∈
 xL_1/\Tok.blk t=some b_2)\/Mem.free (Mem.off m Y) b_2/\(∃(o:Nat),∃(v:Value),M b_2 o=some v)/\b≠b_2/\True)/\(∀(v:Value)(m':Mem) (css:List (List Value)) (tvs:List Value),R_2 v m' css tvs->Shape.fits
 (.agg [.int u64,.int u64,.int u64,.int u64,.int u64,.int u64,.int u64,.int u64,.int u64,.int u64,.int u64,.int u64,.int u64,.int u64,.bool]) v=true)/\∀n n_1 n_2 n_3 n_4 n_5 n_6 n_7 n_8 n_9 n_10 n_11 n_12 n_13 (b
 : Bool) (m':Mem),lX (agg (.mk [int u64 n,int u64 n_1,int u64 n_2,int u64 n_3,int u64 n_4,int u64 n_5,int u64 n_6,int u64 n_7,int u64 n_8,int u64 n_9,int u64 n_10,int u64 n_11,int u64 n_12,int u64 n_13,bool b]))
 λyL_1=>Mem.le (Mem.off M Y_1) m'->(∀(b o:Nat)(u:Value),m' b o=some u->M b o=some u\/Y_1 b\/M.free b)->∀(cs:List Value) a c d a_1 c_1 d_1,lV [slice a c d,slice a_1 c_1 d_1] λxL=>R_2 yL_1 m' [cs] xL->
 yL=yL/\R yL_1 m' [cs] xL):CXY Try.prog 61 #[.pointer (some ⟨p0b,p0o,none⟩),.agg #[.int .u8 2,.int .u64 bK,.int .u64 bL,.int .u64 bM,.int .u64 bI,.int .i64 aV,.int .i64 bJ,.slice aL aM aN]] m Y [⟨mkb,[.slice t0a t0n t0c,.slice t1a t1n t1c],98,2,false,true⟩] [⟨.slice t0a t0n t0c,4⟩,⟨.slice t1a t1n t1c,7⟩] R:=
 ZaK (E:=Zex) ZaB mix Try.func61 [.v (.pointer (some ⟨p0b,p0o,none⟩)),.v (.agg #[.int .u8 2,.int .u64 bK,.int .u64 bL,.int .u64 bM,.int .u64 bI,.int .i64 aV,.int .i64 bJ,.slice aL aM aN])] [⟨mkb,[.slice t0a t0n t0c,.slice t1a t1n t1c],98,2,false,true⟩] [900,901] [⟨.slice t0a t0n t0c,4⟩,⟨.slice t1a t1n t1c,7⟩] (by decide) (by kernel_rfl) (Eq.mp (by kernel_rfl) h)
def Zey:Env:={ EB with
 dr:=swI [] [(1,[dO 0 [],dO 1 [0],⟨2,[3],[],none,[],[]⟩,⟨3,[3],[],none,[2],[]⟩,dO 4 [0,1,2,3],⟨5,[3],[],none,[],[]⟩])]
 borrow:=swI [] [(11,[100000])]
 frzNew:=[3]
 last:=swI false [(1,true)]
 lastK:=swI 1 [(1,2)]
 thaw:=true
 lentC:=swI none [(11,some [(900,4),(901,7)])] }
theorem Zdm(p0b p0o:Nat)(bK bL bM bI aV bJ:Int)(aL:Option Addr)(aM aN mkb:Nat)(t0a:Option Addr)(t0n t0c:Nat)(t1a:Option Addr)(t1n t1c:Nat)(m:Mem)(Y:Nat->Prop)(R:RTY)(h:
 lV [Value.pointer (some (Addr.mk p0b p0o none))] λxL=>lE [Tok.mk (slice t0a t0n t0c) 4,Tok.mk (slice t1a t1n t1c) 7] λxL_1=>lV [int u8 3,int u64 bK,int u64 bL,int u64 bM,int u64 bI,int i64 aV,int i64
 bJ,slice aL aM aN] λxL_2=>lE (Box.mk mkb [slice t0a t0n t0c,slice t1a t1n t1c] 98 2 false true) λyL=>fzM m xL_2 λb m'=>m.free b->(∀(b' o:Nat)(u:Value),m' b' o=some u->m b' o=some u\/b' =
 b)->∀(b_1:Nat),∃(f:Fx),∃R_1,R_1=f 1 xL m'/\CX pG 109 (.mk xL) m' [] R_1/\Zdv (.agg [.fn,.fn,.fn,.fn,.fn,.fn,.fn]) R_1/\∀(g:Nat)(fi ca:List Value)(g_1:Nat)(fi_1 ca_1:List Value)(g_2:Nat) (fi_2
 ca_2:List Value) (g_3:Nat) (fi_3 ca_3:List Value) (g_4:Nat) (fi_4 ca_4:List Value) (g_5:Nat) (fi_5 ca_5:List Value) (g_6:Nat) (fi_6 ca_6:List Value) m'_1,m'.le m'_1->R_1 (agg (.mk [func (Fn.func g) (Array.mk
 fi) (Array.mk ca),func (Fn.func g_1) (Array.mk fi_1) (Array.mk ca_1),func (Fn.func g_2) (Array.mk fi_2) (Array.mk ca_2),func (Fn.func g_3) (Array.mk fi_3) (Array.mk ca_3),func (Fn.func g_4) (Array.mk fi_4) (Array.mk ca_4),
 func (Fn.func g_5) (Array.mk fi_5) (Array.mk ca_5),func (Fn.func g_6) (Array.mk fi_6) (Array.mk ca_6)])) m'_1 []->Zaf (3:Int) 7/\∀M,m'.le M->m'_1.le M->∃(Y_1:Nat->Prop),∃(R_2:Value->Mem->List (List Value)->
 List Value->Prop),CXY pG g_3 (Array.mk (List.append (List.append fi_3 [agg (.mk xL_2)]) ca_3)) M Y_1 [yL] xL_1 R_2/\(∀(t:Tok),t∈xL_1->∀(b:Nat),Tok.blk t=some b->Y_1 b)/\(∀(b_2:Nat),Y_1 b_2->(∃(t:Tok),t ∈
 xL_1/\Tok.blk t=some b_2)\/Mem.free (Mem.off m Y) b_2/\(∃(o:Nat),∃(v:Value),M b_2 o=some v)/\b≠b_2/\True)/\(∀(v:Value)(m':Mem) (css:List (List Value)) (tvs:List Value),R_2 v m' css tvs->Shape.fits
 (.agg [.int u64,.int u64,.int u64,.int u64,.int u64,.int u64,.int u64,.int u64,.int u64,.int u64,.int u64,.int u64,.int u64,.int u64,.bool]) v=true)/\∀n n_1 n_2 n_3 n_4 n_5 n_6 n_7 n_8 n_9 n_10 n_11 n_12 n_13 (b
 : Bool) (m':Mem),lX (agg (.mk [int u64 n,int u64 n_1,int u64 n_2,int u64 n_3,int u64 n_4,int u64 n_5,int u64 n_6,int u64 n_7,int u64 n_8,int u64 n_9,int u64 n_10,int u64 n_11,int u64 n_12,int u64 n_13,bool b]))
 λyL_1=>Mem.le (Mem.off M Y_1) m'->(∀(b o:Nat)(u:Value),m' b o=some u->M b o=some u\/Y_1 b\/M.free b)->∀(cs:List Value) a c d a_1 c_1 d_1,lV [slice a c d,slice a_1 c_1 d_1] λxL=>R_2 yL_1 m' [cs] xL->
 yL=yL/\R yL_1 m' [cs] xL):CXY Try.prog 61 #[.pointer (some ⟨p0b,p0o,none⟩),.agg #[.int .u8 3,.int .u64 bK,.int .u64 bL,.int .u64 bM,.int .u64 bI,.int .i64 aV,.int .i64 bJ,.slice aL aM aN]] m Y [⟨mkb,[.slice t0a t0n t0c,.slice t1a t1n t1c],98,2,false,true⟩] [⟨.slice t0a t0n t0c,4⟩,⟨.slice t1a t1n t1c,7⟩] R:=
 ZaK (E:=Zey) ZaB mix Try.func61 [.v (.pointer (some ⟨p0b,p0o,none⟩)),.v (.agg #[.int .u8 3,.int .u64 bK,.int .u64 bL,.int .u64 bM,.int .u64 bI,.int .i64 aV,.int .i64 bJ,.slice aL aM aN])] [⟨mkb,[.slice t0a t0n t0c,.slice t1a t1n t1c],98,2,false,true⟩] [900,901] [⟨.slice t0a t0n t0c,4⟩,⟨.slice t1a t1n t1c,7⟩] (by decide) (by kernel_rfl) (Eq.mp (by kernel_rfl) h)
def Zez:Env:={ EB with
 dr:=swI [] [(1,[dO 0 [],dO 1 [0],⟨2,[3],[],none,[],[]⟩,⟨3,[3],[],none,[2],[]⟩,dO 4 [0,1,2,3],⟨5,[3],[],none,[],[]⟩])]
 borrow:=swI [] [(11,[100000])]
 frzNew:=[3]
 last:=swI false [(1,true)]
 lastK:=swI 1 [(1,2)]
 thaw:=true
 lentC:=swI none [(11,some [(900,4),(901,7)])] }
theorem Zdn(p0b p0o:Nat)(bK bL bM bI aV bJ:Int)(aL:Option Addr)(aM aN mkb:Nat)(t0a:Option Addr)(t0n t0c:Nat)(t1a:Option Addr)(t1n t1c:Nat)(m:Mem)(Y:Nat->Prop)(R:RTY)(h:
 lV [Value.pointer (some (Addr.mk p0b p0o none))] λxL=>lE [Tok.mk (slice t0a t0n t0c) 4,Tok.mk (slice t1a t1n t1c) 7] λxL_1=>lV [int u8 4,int u64 bK,int u64 bL,int u64 bM,int u64 bI,int i64 aV,int i64
 bJ,slice aL aM aN] λxL_2=>lE (Box.mk mkb [slice t0a t0n t0c,slice t1a t1n t1c] 98 2 false true) λyL=>fzM m xL_2 λb m'=>m.free b->(∀(b' o:Nat)(u:Value),m' b' o=some u->m b' o=some u\/b' =
 b)->∀(b_1:Nat),∃(f:Fx),∃R_1,R_1=f 1 xL m'/\CX pG 109 (.mk xL) m' [] R_1/\Zdv (.agg [.fn,.fn,.fn,.fn,.fn,.fn,.fn]) R_1/\∀(g:Nat)(fi ca:List Value)(g_1:Nat)(fi_1 ca_1:List Value)(g_2:Nat) (fi_2
 ca_2:List Value) (g_3:Nat) (fi_3 ca_3:List Value) (g_4:Nat) (fi_4 ca_4:List Value) (g_5:Nat) (fi_5 ca_5:List Value) (g_6:Nat) (fi_6 ca_6:List Value) m'_1,m'.le m'_1->R_1 (agg (.mk [func (Fn.func g) (Array.mk
 fi) (Array.mk ca),func (Fn.func g_1) (Array.mk fi_1) (Array.mk ca_1),func (Fn.func g_2) (Array.mk fi_2) (Array.mk ca_2),func (Fn.func g_3) (Array.mk fi_3) (Array.mk ca_3),func (Fn.func g_4) (Array.mk fi_4) (Array.mk ca_4),
 func (Fn.func g_5) (Array.mk fi_5) (Array.mk ca_5),func (Fn.func g_6) (Array.mk fi_6) (Array.mk ca_6)])) m'_1 []->Zaf (4:Int) 7/\∀M,m'.le M->m'_1.le M->∃(Y_1:Nat->Prop),∃(R_2:Value->Mem->List (List Value)->
 List Value->Prop),CXY pG g_4 (Array.mk (List.append (List.append fi_4 [agg (.mk xL_2)]) ca_4)) M Y_1 [yL] xL_1 R_2/\(∀(t:Tok),t∈xL_1->∀(b:Nat),Tok.blk t=some b->Y_1 b)/\(∀(b_2:Nat),Y_1 b_2->(∃(t:Tok),t ∈
 xL_1/\Tok.blk t=some b_2)\/Mem.free (Mem.off m Y) b_2/\(∃(o:Nat),∃(v:Value),M b_2 o=some v)/\b≠b_2/\True)/\(∀(v:Value)(m':Mem) (css:List (List Value)) (tvs:List Value),R_2 v m' css tvs->Shape.fits
 (.agg [.int u64,.int u64,.int u64,.int u64,.int u64,.int u64,.int u64,.int u64,.int u64,.int u64,.int u64,.int u64,.int u64,.int u64,.bool]) v=true)/\∀n n_1 n_2 n_3 n_4 n_5 n_6 n_7 n_8 n_9 n_10 n_11 n_12 n_13 (b
 : Bool) (m':Mem),lX (agg (.mk [int u64 n,int u64 n_1,int u64 n_2,int u64 n_3,int u64 n_4,int u64 n_5,int u64 n_6,int u64 n_7,int u64 n_8,int u64 n_9,int u64 n_10,int u64 n_11,int u64 n_12,int u64 n_13,bool b]))
 λyL_1=>Mem.le (Mem.off M Y_1) m'->(∀(b o:Nat)(u:Value),m' b o=some u->M b o=some u\/Y_1 b\/M.free b)->∀(cs:List Value) a c d a_1 c_1 d_1,lV [slice a c d,slice a_1 c_1 d_1] λxL=>R_2 yL_1 m' [cs] xL->
 yL=yL/\R yL_1 m' [cs] xL):CXY Try.prog 61 #[.pointer (some ⟨p0b,p0o,none⟩),.agg #[.int .u8 4,.int .u64 bK,.int .u64 bL,.int .u64 bM,.int .u64 bI,.int .i64 aV,.int .i64 bJ,.slice aL aM aN]] m Y [⟨mkb,[.slice t0a t0n t0c,.slice t1a t1n t1c],98,2,false,true⟩] [⟨.slice t0a t0n t0c,4⟩,⟨.slice t1a t1n t1c,7⟩] R:=
 ZaK (E:=Zez) ZaB mix Try.func61 [.v (.pointer (some ⟨p0b,p0o,none⟩)),.v (.agg #[.int .u8 4,.int .u64 bK,.int .u64 bL,.int .u64 bM,.int .u64 bI,.int .i64 aV,.int .i64 bJ,.slice aL aM aN])] [⟨mkb,[.slice t0a t0n t0c,.slice t1a t1n t1c],98,2,false,true⟩] [900,901] [⟨.slice t0a t0n t0c,4⟩,⟨.slice t1a t1n t1c,7⟩] (by decide) (by kernel_rfl) (Eq.mp (by kernel_rfl) h)
def ZeA:Env:={ EB with
 dr:=swI [] [(1,[dO 0 [],dO 1 [0],⟨2,[3],[],none,[],[]⟩,⟨3,[3],[],none,[2],[]⟩,dO 4 [0,1,2,3],⟨5,[3],[],none,[],[]⟩])]
 borrow:=swI [] [(11,[100000])]
 frzNew:=[3]
 last:=swI false [(1,true)]
 lastK:=swI 1 [(1,2)]
 thaw:=true
 lentC:=swI none [(11,some [(900,4),(901,7)])] }
theorem Zdo(p0b p0o:Nat)(bK bL bM bI aV bJ:Int)(aL:Option Addr)(aM aN mkb:Nat)(t0a:Option Addr)(t0n t0c:Nat)(t1a:Option Addr)(t1n t1c:Nat)(m:Mem)(Y:Nat->Prop)(R:RTY)(h:
 lV [Value.pointer (some (Addr.mk p0b p0o none))] λxL=>lE [Tok.mk (slice t0a t0n t0c) 4,Tok.mk (slice t1a t1n t1c) 7] λxL_1=>lV [int u8 5,int u64 bK,int u64 bL,int u64 bM,int u64 bI,int i64 aV,int i64
 bJ,slice aL aM aN] λxL_2=>lE (Box.mk mkb [slice t0a t0n t0c,slice t1a t1n t1c] 98 2 false true) λyL=>fzM m xL_2 λb m'=>m.free b->(∀(b' o:Nat)(u:Value),m' b' o=some u->m b' o=some u\/b' =
 b)->∀(b_1:Nat),∃(f:Fx),∃R_1,R_1=f 1 xL m'/\CX pG 109 (.mk xL) m' [] R_1/\Zdv (.agg [.fn,.fn,.fn,.fn,.fn,.fn,.fn]) R_1/\∀(g:Nat)(fi ca:List Value)(g_1:Nat)(fi_1 ca_1:List Value)(g_2:Nat) (fi_2
 ca_2:List Value) (g_3:Nat) (fi_3 ca_3:List Value) (g_4:Nat) (fi_4 ca_4:List Value) (g_5:Nat) (fi_5 ca_5:List Value) (g_6:Nat) (fi_6 ca_6:List Value) m'_1,m'.le m'_1->R_1 (agg (.mk [func (Fn.func g) (Array.mk
 fi) (Array.mk ca),func (Fn.func g_1) (Array.mk fi_1) (Array.mk ca_1),func (Fn.func g_2) (Array.mk fi_2) (Array.mk ca_2),func (Fn.func g_3) (Array.mk fi_3) (Array.mk ca_3),func (Fn.func g_4) (Array.mk fi_4) (Array.mk ca_4),
 func (Fn.func g_5) (Array.mk fi_5) (Array.mk ca_5),func (Fn.func g_6) (Array.mk fi_6) (Array.mk ca_6)])) m'_1 []->Zaf (5:Int) 7/\∀M,m'.le M->m'_1.le M->∃(Y_1:Nat->Prop),∃(R_2:Value->Mem->List (List Value)->
 List Value->Prop),CXY pG g_5 (Array.mk (List.append (List.append fi_5 [agg (.mk xL_2)]) ca_5)) M Y_1 [yL] xL_1 R_2/\(∀(t:Tok),t∈xL_1->∀(b:Nat),Tok.blk t=some b->Y_1 b)/\(∀(b_2:Nat),Y_1 b_2->(∃(t:Tok),t ∈
 xL_1/\Tok.blk t=some b_2)\/Mem.free (Mem.off m Y) b_2/\(∃(o:Nat),∃(v:Value),M b_2 o=some v)/\b≠b_2/\True)/\(∀(v:Value)(m':Mem) (css:List (List Value)) (tvs:List Value),R_2 v m' css tvs->Shape.fits
 (.agg [.int u64,.int u64,.int u64,.int u64,.int u64,.int u64,.int u64,.int u64,.int u64,.int u64,.int u64,.int u64,.int u64,.int u64,.bool]) v=true)/\∀n n_1 n_2 n_3 n_4 n_5 n_6 n_7 n_8 n_9 n_10 n_11 n_12 n_13 (b
 : Bool) (m':Mem),lX (agg (.mk [int u64 n,int u64 n_1,int u64 n_2,int u64 n_3,int u64 n_4,int u64 n_5,int u64 n_6,int u64 n_7,int u64 n_8,int u64 n_9,int u64 n_10,int u64 n_11,int u64 n_12,int u64 n_13,bool b]))
 λyL_1=>Mem.le (Mem.off M Y_1) m'->(∀(b o:Nat)(u:Value),m' b o=some u->M b o=some u\/Y_1 b\/M.free b)->∀(cs:List Value) a c d a_1 c_1 d_1,lV [slice a c d,slice a_1 c_1 d_1] λxL=>R_2 yL_1 m' [cs] xL->
 yL=yL/\R yL_1 m' [cs] xL):CXY Try.prog 61 #[.pointer (some ⟨p0b,p0o,none⟩),.agg #[.int .u8 5,.int .u64 bK,.int .u64 bL,.int .u64 bM,.int .u64 bI,.int .i64 aV,.int .i64 bJ,.slice aL aM aN]] m Y [⟨mkb,[.slice t0a t0n t0c,.slice t1a t1n t1c],98,2,false,true⟩] [⟨.slice t0a t0n t0c,4⟩,⟨.slice t1a t1n t1c,7⟩] R:=
 ZaK (E:=ZeA) ZaB mix Try.func61 [.v (.pointer (some ⟨p0b,p0o,none⟩)),.v (.agg #[.int .u8 5,.int .u64 bK,.int .u64 bL,.int .u64 bM,.int .u64 bI,.int .i64 aV,.int .i64 bJ,.slice aL aM aN])] [⟨mkb,[.slice t0a t0n t0c,.slice t1a t1n t1c],98,2,false,true⟩] [900,901] [⟨.slice t0a t0n t0c,4⟩,⟨.slice t1a t1n t1c,7⟩] (by decide) (by kernel_rfl) (Eq.mp (by kernel_rfl) h)
def ZeB:Env:={ EB with
 dr:=swI [] [(1,[dO 0 [],dO 1 [0],⟨2,[3],[],none,[],[]⟩,⟨3,[3],[],none,[2],[]⟩,dO 4 [0,1,2,3],⟨5,[3],[],none,[],[]⟩])]
 borrow:=swI [] [(11,[100000])]
 frzNew:=[3]
 last:=swI false [(1,true)]
 lastK:=swI 1 [(1,2)]
 thaw:=true
 lentC:=swI none [(11,some [(900,4),(901,7)])] }
theorem Zdp(p0b p0o:Nat)(bK bL bM bI aV bJ:Int)(aL:Option Addr)(aM aN mkb:Nat)(t0a:Option Addr)(t0n t0c:Nat)(t1a:Option Addr)(t1n t1c:Nat)(m:Mem)(Y:Nat->Prop)(R:RTY)(h:
 lV [Value.pointer (some (Addr.mk p0b p0o none))] λxL=>lE [Tok.mk (slice t0a t0n t0c) 4,Tok.mk (slice t1a t1n t1c) 7] λxL_1=>lV [int u8 6,int u64 bK,int u64 bL,int u64 bM,int u64 bI,int i64 aV,int i64
 bJ,slice aL aM aN] λxL_2=>lE (Box.mk mkb [slice t0a t0n t0c,slice t1a t1n t1c] 98 2 false true) λyL=>fzM m xL_2 λb m'=>m.free b->(∀(b' o:Nat)(u:Value),m' b' o=some u->m b' o=some u\/b' =
 b)->∀(b_1:Nat),∃(f:Fx),∃R_1,R_1=f 1 xL m'/\CX pG 109 (.mk xL) m' [] R_1/\Zdv (.agg [.fn,.fn,.fn,.fn,.fn,.fn,.fn]) R_1/\∀(g:Nat)(fi ca:List Value)(g_1:Nat)(fi_1 ca_1:List Value)(g_2:Nat) (fi_2
 ca_2:List Value) (g_3:Nat) (fi_3 ca_3:List Value) (g_4:Nat) (fi_4 ca_4:List Value) (g_5:Nat) (fi_5 ca_5:List Value) (g_6:Nat) (fi_6 ca_6:List Value) m'_1,m'.le m'_1->R_1 (agg (.mk [func (Fn.func g) (Array.mk
 fi) (Array.mk ca),func (Fn.func g_1) (Array.mk fi_1) (Array.mk ca_1),func (Fn.func g_2) (Array.mk fi_2) (Array.mk ca_2),func (Fn.func g_3) (Array.mk fi_3) (Array.mk ca_3),func (Fn.func g_4) (Array.mk fi_4) (Array.mk ca_4),
 func (Fn.func g_5) (Array.mk fi_5) (Array.mk ca_5),func (Fn.func g_6) (Array.mk fi_6) (Array.mk ca_6)])) m'_1 []->Zaf (6:Int) 7/\∀M,m'.le M->m'_1.le M->∃(Y_1:Nat->Prop),∃(R_2:Value->Mem->List (List Value)->
 List Value->Prop),CXY pG g_6 (Array.mk (List.append (List.append fi_6 [agg (.mk xL_2)]) ca_6)) M Y_1 [yL] xL_1 R_2/\(∀(t:Tok),t∈xL_1->∀(b:Nat),Tok.blk t=some b->Y_1 b)/\(∀(b_2:Nat),Y_1 b_2->(∃(t:Tok),t ∈
 xL_1/\Tok.blk t=some b_2)\/Mem.free (Mem.off m Y) b_2/\(∃(o:Nat),∃(v:Value),M b_2 o=some v)/\b≠b_2/\True)/\(∀(v:Value)(m':Mem) (css:List (List Value)) (tvs:List Value),R_2 v m' css tvs->Shape.fits
 (.agg [.int u64,.int u64,.int u64,.int u64,.int u64,.int u64,.int u64,.int u64,.int u64,.int u64,.int u64,.int u64,.int u64,.int u64,.bool]) v=true)/\∀n n_1 n_2 n_3 n_4 n_5 n_6 n_7 n_8 n_9 n_10 n_11 n_12 n_13 (b
 : Bool) (m':Mem),lX (agg (.mk [int u64 n,int u64 n_1,int u64 n_2,int u64 n_3,int u64 n_4,int u64 n_5,int u64 n_6,int u64 n_7,int u64 n_8,int u64 n_9,int u64 n_10,int u64 n_11,int u64 n_12,int u64 n_13,bool b]))
 λyL_1=>Mem.le (Mem.off M Y_1) m'->(∀(b o:Nat)(u:Value),m' b o=some u->M b o=some u\/Y_1 b\/M.free b)->∀(cs:List Value) a c d a_1 c_1 d_1,lV [slice a c d,slice a_1 c_1 d_1] λxL=>R_2 yL_1 m' [cs] xL->
 yL=yL/\R yL_1 m' [cs] xL):CXY Try.prog 61 #[.pointer (some ⟨p0b,p0o,none⟩),.agg #[.int .u8 6,.int .u64 bK,.int .u64 bL,.int .u64 bM,.int .u64 bI,.int .i64 aV,.int .i64 bJ,.slice aL aM aN]] m Y [⟨mkb,[.slice t0a t0n t0c,.slice t1a t1n t1c],98,2,false,true⟩] [⟨.slice t0a t0n t0c,4⟩,⟨.slice t1a t1n t1c,7⟩] R:=
 ZaK (E:=ZeB) ZaB mix Try.func61 [.v (.pointer (some ⟨p0b,p0o,none⟩)),.v (.agg #[.int .u8 6,.int .u64 bK,.int .u64 bL,.int .u64 bM,.int .u64 bI,.int .i64 aV,.int .i64 bJ,.slice aL aM aN])] [⟨mkb,[.slice t0a t0n t0c,.slice t1a t1n t1c],98,2,false,true⟩] [900,901] [⟨.slice t0a t0n t0c,4⟩,⟨.slice t1a t1n t1c,7⟩] (by decide) (by kernel_rfl) (Eq.mp (by kernel_rfl) h)
def Zd5:Env:={ EB with
 loops:=swI nLa [(3,⟨[(11,.int .i64)],[4,100000],[(900,4),(901,7)],false⟩)]
 dr:=swI [] [(5,[dO 0 [],⟨1,[4],[],none,[],[]⟩,dO 2 [],⟨3,[6],[],none,[],[]⟩])]
 borrow:=swI [] [(19,[100000]),(20,[100000])]
 frzNew:=[2]
 last:=swI false [(5,true)]
 hot:=swI false [(5,true)]
 lastK:=swI 1 [(5,3)]
 thaw:=true
 lentC:=swI none [(19,some [(900,4),(901,7)]),(20,some [(900,4),(901,7)])] }
theorem Zc8(aI aZ bC bD aA bF aX:Int)(aC:Option Addr)(aB aE c0b c0o mkb:Nat)(t0a:Option Addr)(t0n t0c:Nat)(t1a:Option Addr)(t1n t1c:Nat)(m:Mem)(Y:Nat->Prop)(R:RTY)(h:
 lV [slice t0a t0n t0c,slice t1a t1n t1c] λxL=>lE (Box.mk mkb xL 98 2 false true) λyL=>lV [int u8 aI,int u64 aZ,int u64 bC,int u64 bD,int u64 aA,int i64 bF,int i64 aX,slice aC aB aE] λah
 => fzM m ah λb m'=>m.free b->(∀(b' o:Nat)(u:Value),m' b' o=some u->m b' o=some u\/b'=b)->∀(a2 a3:Nat),∃I,inI I [int i64 0] [[int u64 0,int u64 0,int u64 0,int u64 0,int u64 0,int u64 0,int u64 0,
 int u64 0,int u64 0,int u64 0,int u64 0,int u64 0,int u64 0,int u64 0,bool true],xL] xL m'/\∀n (cs af:List Value) a ai c aj ak al (m':Mem) (am:Nat),lV [slice a ai c,slice aj ak al] λxL=>lE [Tok.mk (slice a
 ai c) 4,Tok.mk (slice aj ak al) 7] λag=>True->I [int i64 n] [cs,af] xL m' am->br (decide (n < (↑aB:Int))) (atA aC λa4 o=>Zaf n aB/\∃v an ao ap aq ar au av:Value,lV [v,an,ao,ap,aq,ar,au,av]
 λxL=>m'.reads a4 (o+Int.toNat n*8) xL/\∀(cc:Nat),chk (v.oneCell'&&(an.oneCell'&&(ao.oneCell'&&(ap.oneCell'&&(aq.oneCell'&&(ar.oneCell'&&(au.oneCell'&&(av.oneCell'&&true)))))))) (∃(v:Value),Mem.off
 m Y c0b c0o=some v/\∃(aw:Value),Mem.off m Y c0b c0o=some aw/\∃(ad:Nat->Prop),∃(R:Value->Mem->List (List Value)->List Value->Prop),CXY pG 61 (.mk [aw,agg (.mk xL)]) m' ad [Box.mk mkb af 98 2 false true] ag R
 /\ (∀(t:Tok),t∈ag->∀(b:Nat),Tok.blk t=some b->ad b)/\(∀(ab:Nat),ad ab->(∃(t:Tok),t∈ag/\Tok.blk t=some ab)\/Mem.free (Mem.off m Y) ab/\(∃(o:Nat),∃(v:Value),m' ab o=some v)/\b≠ab/\True)/\
 (∀(v:Value)(m':Mem) (css:List (List Value)) (tvs:List Value),R v m' css tvs->Shape.fits (.agg [.int u64,.int u64,.int u64,.int u64,.int u64,.int u64,.int u64,.int u64,.int u64,.int u64,.int u64,.int u64,
 .int u64,.int u64,.bool]) v=true)/\∀a5 a6 a7 a8 a9 ba bb bc bd be bf bg bh bi (ab:Bool) (aa:Mem),lX (agg (.mk [int u64 a5,int u64 a6,int u64 a7,int u64 a8,int u64 a9,int u64 ba,int u64 bb,int u64 bc,int u64 bd,
 int u64 be,int u64 bf,int u64 bg,int u64 bh,int u64 bi,bool ab])) λyL=>Mem.le (Mem.off m' ad) aa->(∀(b o:Nat)(u:Value),aa b o=some u->m' b o=some u\/ad b\/m'.free b)->∀(ax:List Value) a c d ay az a0,
 lE [Tok.mk (slice a c d) 4,Tok.mk (slice ay az a0) 7] λxL=>R yL aa [ax] [slice a c d,slice ay az a0]->∃(ae:Nat->Prop),∃(R:Value->Mem->List (List Value)->List Value->Prop),CXY pG 139 (.mk [v,agg (.mk cs),yL])
 aa ae [Box.mk mkb ax 98 2 false true] xL R/\(∀(t:Tok),t∈xL->∀(b:Nat),Tok.blk t=some b->ae b)/\(∀(ac:Nat),ae ac->(∃(t:Tok),t∈xL/\Tok.blk t=some ac)\/Mem.free (Mem.off m Y) ac/\(∃(o:Nat),∃(v:
 Value),aa ac o=some v)/\b≠ac/\True)/\(∀(v:Value)(m':Mem) (css:List (List Value)) (tvs:List Value),R v m' css tvs->Shape.fits (.agg [.int u64,.int u64,.int u64,.int u64,.int u64,.int u64,.int u64,.int
 u64,.int u64,.int u64,.int u64,.int u64,.int u64,.int u64,.bool]) v=true)/\∀bj bk bl bm bn bo bp bq bs bt bu bv bw bx (ac:Bool) (m':Mem),lV [int u64 bj,int u64 bk,int u64 bl,int u64 bm,int u64 bn,int u64 bo,
 int u64 bp,int u64 bq,int u64 bs,int u64 bt,int u64 bu,int u64 bv,int u64 bw,int u64 bx,bool ac] λxL=>Mem.le (Mem.off aa ae) m'->(∀(b o:Nat)(u:Value),m' b o=some u->aa b o=some u\/ae b\/aa.free b)->∀
 (cs:List Value) a c d bz ca cb,lV [slice a c d,slice bz ca cb] λa1=>R (agg (.mk xL)) m' [cs] a1->Zac [some (Box.mk a3 [] 102 15 false true),some (Box.mk a2 [int u64 0,int u64 0,int u64 0,int u64 0,int u64 0,int
 u64 0,int u64 0,int u64 0,int u64 0,int u64 0,int u64 0,int u64 0,int u64 0,int u64 0,bool false] 102 15 false true),some (Box.mk b ah 41 8 true true),some (Box.mk mkb [] 98 2 false true)]/\([none,none]:List (Option
 Tok))=[none,none]/\nxI am I [int i64 (i64.wrap (n+1))] [xL,cs] a1 m')) (chk (Nat.beq (cs.length) 15&&Zcr cs) (yL=yL/\R (agg (.mk cs)) m' [af] xL))):CXY Try.prog 138 #[.agg #[.int .u8 aI,.int .u64 aZ,.int .u64 bC,.int .u64 bD,.int .u64 aA,.int .i64 bF,.int .i64 aX,.slice aC aB aE],.pointer (some ⟨c0b,c0o,none⟩)] m Y [⟨mkb,[.slice t0a t0n t0c,.slice t1a t1n t1c],98,2,false,true⟩] [⟨.slice t0a t0n t0c,4⟩,⟨.slice t1a t1n t1c,7⟩] R:=
 ZaK (E:=Zd5) ZaB mix Try.func138 [.v (.agg #[.int .u8 aI,.int .u64 aZ,.int .u64 bC,.int .u64 bD,.int .u64 aA,.int .i64 bF,.int .i64 aX,.slice aC aB aE]),.v (.pointer (some ⟨c0b,c0o,none⟩))] [⟨mkb,[.slice t0a t0n t0c,.slice t1a t1n t1c],98,2,false,true⟩] [900,901] [⟨.slice t0a t0n t0c,4⟩,⟨.slice t1a t1n t1c,7⟩] (by decide) (by kernel_rfl) (Eq.mp (by kernel_rfl) h)
def Zd6:Env:={ EB with
 loops:=swI nLa [(3,⟨[(11,.int .i64)],[4,100000],[(900,4),(901,7)],false⟩)]
 borrow:=swI [] [(17,[100000])]
 frzNew:=[2]
 thaw:=true
 lentC:=swI none [(17,some [(900,4),(901,7)])] }
theorem Zc9(aI aZ bC bD aA bF aX:Int)(aC:Option Addr)(aB aE c0b c0o mkb:Nat)(t0a:Option Addr)(t0n t0c:Nat)(t1a:Option Addr)(t1n t1c:Nat)(m:Mem)(Y:Nat->Prop)(R:RTY)(h:
 lV [slice t0a t0n t0c,slice t1a t1n t1c] λxL=>lE (Box.mk mkb xL 98 2 false true) λyL=>lE [some (Box.mk mkb [] 98 2 false true)] λbh=>lV [int u8 aI,int u64 aZ,int u64 bC,int u64 bD,int u64 aA,int i64
 bF,int i64 aX,slice aC aB aE] λaq=>fzM m aq λb m'=>lE (some (Box.mk b aq 41 8 true true)::bh) λbi=>m.free b->(∀(b' o:Nat)(u:Value),m' b' o=some u->m b' o=some u\/b'=b)->∀bj aj,∃
 I,lE (some (Box.mk aj [] 102 15 false true)::some (Box.mk bj [int u64 0,int u64 0,int u64 0,int u64 0,int u64 0,int u64 0,int u64 0,int u64 0,int u64 0,int u64 0,int u64 0,int u64 0,int u64 0,int u64 0,bool false]
 102 15 false true)::bi) λaf=>inI I [int i64 0] [[int u64 0,int u64 0,int u64 0,int u64 0,int u64 0,int u64 0,int u64 0,int u64 0,int u64 0,int u64 0,int u64 0,int u64 0,int u64 0,int u64 0,bool false],xL] xL
 m'/\∀(n:Int)(cs an:List Value) a ar c au av aw (m':Mem) (ab:Nat),lV [slice a ar c,slice au av aw] λxL=>lE [Tok.mk (slice a ar c) 4,Tok.mk (slice au av aw) 7] λao=>lV [int i64 (i64.wrap (n+1))] λag=>
 True->I [int i64 n] [cs,an] xL m' ab->br (decide (n < (↑aB:Int))) (atA aC λbk o=>Zaf n aB/\∃v ax ay az a0 a1 a2 a3:Value,lV [v,ax,ay,az,a0,a1,a2,a3] λxL=>m'.reads bk (o+Int.toNat n*8) xL
 /\ ∀(bp:Nat),chk (v.oneCell'&&(ax.oneCell'&&(ay.oneCell'&&(az.oneCell'&&(a0.oneCell'&&(a1.oneCell'&&(a2.oneCell'&&(a3.oneCell'&&true)))))))) (∃(v:Value),m' c0b c0o=some v/\∃(ak:Nat->Prop),∃(R:
 Value->Mem->List (List Value)->List Value->Prop),CXY pG 61 (.mk [v,agg (.mk xL)]) m' ak [Box.mk mkb an 98 2 false true] ao R/\(∀(t:Tok),t∈ao->∀(b:Nat),Tok.blk t=some b->ak b)/\(∀(al:Nat),ak al->(∃(t:
 Tok),t∈ao/\Tok.blk t=some al)\/Mem.free (Mem.off m Y) al/\(∃(o:Nat),∃(v:Value),m' al o=some v)/\b≠al/\True)/\(∀(v:Value)(m':Mem) (css:List (List Value)) (tvs:List Value),R v m' css tvs->
 Shape.fits (.agg [.int u64,.int u64,.int u64,.int u64,.int u64,.int u64,.int u64,.int u64,.int u64,.int u64,.int u64,.int u64,.int u64,.int u64,.bool]) v=true)/\∀n a4 a5 a6 a7 a8 a9 ba bb bc bd be bf bg (b:
 Bool) (am:Mem),lV [bool b] λxL=>Mem.le (Mem.off m' ak) am->(∀(b o:Nat)(u:Value),am b o=some u->m' b o=some u\/ak b\/m'.free b)->∀(bl:List Value) a c d bm bn bo,lE [bl] λap=>lV [slice a c d,slice
 bm bn bo] λac=>R (agg (.mk (int u64 n::int u64 a4::int u64 a5::int u64 a6::int u64 a7::int u64 a8::int u64 a9::int u64 ba::int u64 bb::int u64 bc::int u64 bd::int u64 be::int u64 bf::int u64 bg ::
 xL))) am ap ac->∀(b:Nat),∃R,True/\CX pG 141 (.mk [Value.pointer (some (Addr.mk aj 0 none)),agg (.mk [int u64 n,int u64 a4,int u64 a5,int u64 a6,int u64 a7,int u64 a8,int u64 a9])]) am [Box.mk aj cs 102 15 false
 true] R/\Zdv (.tup []) R/\∀m',am.le m'->∀(cs:List Value),R (tuple (.mk [])) m' [cs]->∃R,True/\CX pG 141 (.mk [Value.pointer (some (Addr.mk aj 7 none)),agg (.mk [int u64 ba,int u64 bb,int u64 bc,int u64 bd,int
 u64 be,int u64 bf,int u64 bg])]) m' [Box.mk aj cs 102 15 false true] R/\Zdv (.tup []) R/\∀aa,m'.le aa->∀(cs:List Value),lE (Zaw cs 14 xL::ap) λxL=>lE (Nat.ble 15 (cs.length)) λyL=>lE (Zaw cs 14 [bool
 true]::ap) λah=>R (tuple (.mk [])) aa [cs]->Eng.Zp3 cs 14 λv=>lE (Zcw v) λai=>lE (ZeN v) λad=>lE (Zb2 v) λae=>bif ai then bif ai then bif ai then bif ai then chk ad (br ae (chk yL (Zac af
 /\ ([none,none]:List (Option Tok))=[none,none]/\nxI ab I ag ah ac aa)) False)else chk ad (br ae (chk ad (br ae (chk yL (Zac af/\([none,none]:List (Option Tok))=[none,none]/\nxI ab I ag ah ac aa)) False)) False)
 else chk ad (br ae (chk yL (Zac af/\([none,none]:List (Option Tok))=[none,none]/\nxI ab I ag ah ac aa)) False)else chk ad (br ae (bif ai then bif ai then chk ad (br ae (chk yL (Zac af/\([none,none]:List (Option
 Tok))=[none,none]/\nxI ab I ag ah ac aa)) False)else chk ad (br ae (chk ad (br ae (chk yL (Zac af/\([none,none]:List (Option Tok))=[none,none]/\nxI ab I ag ah ac aa)) False)) False)else chk ad (br ae (chk yL
 (Zac af/\([none,none]:List (Option Tok))=[none,none]/\nxI ab I ag ah ac aa)) False)) (bif ai then bif ai then chk ad (br ae (chk yL (Zac af/\([none,none]:List (Option Tok))=[none,none]/\nxI ab I ag ah ac aa))
 False)else chk ad (br ae (chk ad (br ae (chk yL (Zac af/\([none,none]:List (Option Tok))=[none,none]/\nxI ab I ag ah ac aa)) False)) (chk ad (br ae (chk yL (Zac af/\([none,none]:List (Option Tok))=[none,none]
 /\ nxI ab I ag ah ac aa)) (chk yL (Zac af/\([none,none]:List (Option Tok))=[none,none]/\nxI ab I ag xL ac aa)))))else chk ad (br ae (chk yL (Zac af/\([none,none]:List (Option Tok))=[none,none]/\nxI ab I ag ah
 ac aa)) (chk yL (Zac af/\([none,none]:List (Option Tok))=[none,none]/\nxI ab I ag xL ac aa)))))else chk ad (br ae (chk yL (Zac af/\([none,none]:List (Option Tok))=[none,none]/\nxI ab I ag ah ac aa)) (chk yL
 (Zac af/\([none,none]:List (Option Tok))=[none,none]/\nxI ab I ag xL ac aa))))) (chk (Nat.beq (cs.length) 15&&Zcr cs) (yL=yL/\R (agg (.mk cs)) m' [an] xL))):CXY Try.prog 140 #[.agg #[.int .u8 aI,.int .u64 aZ,.int .u64 bC,.int .u64 bD,.int .u64 aA,.int .i64 bF,.int .i64 aX,.slice aC aB aE],.pointer (some ⟨c0b,c0o,none⟩)] m Y [⟨mkb,[.slice t0a t0n t0c,.slice t1a t1n t1c],98,2,false,true⟩] [⟨.slice t0a t0n t0c,4⟩,⟨.slice t1a t1n t1c,7⟩] R:=
 ZaK (E:=Zd6) ZaB mix Try.func140 [.v (.agg #[.int .u8 aI,.int .u64 aZ,.int .u64 bC,.int .u64 bD,.int .u64 aA,.int .i64 bF,.int .i64 aX,.slice aC aB aE]),.v (.pointer (some ⟨c0b,c0o,none⟩))] [⟨mkb,[.slice t0a t0n t0c,.slice t1a t1n t1c],98,2,false,true⟩] [900,901] [⟨.slice t0a t0n t0c,4⟩,⟨.slice t1a t1n t1c,7⟩] (by decide) (by kernel_rfl) (Eq.mp (by kernel_rfl) h)
def Zd7:Env:={ EB with
 dr:=swI [] [(1,[dO 0 [],⟨1,[2],[],none,[],[]⟩,⟨2,[2],[],none,[1],[]⟩,dO 3 [1,2],dO 4 [1,2,3]])]
 borrow:=swI [] [(9,[100000])]
 frzNew:=[2]
 last:=swI false [(1,true)]
 lastK:=swI 1 [(1,2)]
 thaw:=true
 lentC:=swI none [(9,some [(900,4),(901,7)])] }
theorem Zda(aI aZ bC bD aA bF aX:Int)(aC:Option Addr)(aB aE c0b c0o mkb:Nat)(t0a:Option Addr)(t0n t0c:Nat)(t1a:Option Addr)(t1n t1c:Nat)(m:Mem)(Y:Nat->Prop)(R:RTY)(h:
 lE [Tok.mk (slice t0a t0n t0c) 4,Tok.mk (slice t1a t1n t1c) 7] λxL=>lE (Box.mk mkb [slice t0a t0n t0c,slice t1a t1n t1c] 98 2 false true) λyL=>fzM m [int u8 aI,int u64 aZ,int u64 bC,int u64 bD,int u64 aA,
 int i64 bF,int i64 aX,slice aC aB aE] λb m'=>m.free b->(∀(b' o:Nat)(u:Value),m' b' o=some u->m b' o=some u\/b'=b)->∀(b_1:Nat),∃(f:Fx),∃(v:Value),m' c0b c0o=some v/\atA aC fun
 b_2 o=>Zaf (0:Int) aB/\∃v_1 v_2 v_3 v_4 v_5 v_6 v_7 v_8:Value,lV [v_1,v_2,v_3,v_4,v_5,v_6,v_7,v_8] λxL_1=>m'.reads b_2 (o+0) xL_1/\∃(Y_1:Nat->Prop),∃(R_1:Value->Mem->List (List Value)->
 List Value->Prop),CXY pG 61 (.mk [v,agg (.mk xL_1)]) m' Y_1 [yL] xL R_1/\(∀(t:Tok),t∈xL->∀(b:Nat),Tok.blk t=some b->Y_1 b)/\(∀(b_3:Nat),Y_1 b_3->(∃(t:Tok),t∈xL/\Tok.blk t=some b_3)\/Mem.free
 (Mem.off m Y) b_3/\(∃(o:Nat),∃(v:Value),m' b_3 o=some v)/\b≠b_3/\True)/\(∀(v:Value)(m':Mem) (css:List (List Value)) (tvs:List Value),R_1 v m' css tvs->Shape.fits (.agg [.int u64,.int u64,.int u64,
 .int u64,.int u64,.int u64,.int u64,.int u64,.int u64,.int u64,.int u64,.int u64,.int u64,.int u64,.bool]) v=true)/\∀n n_1 n_2 n_3 n_4 n_5 n_6 n_7 n_8 n_9 n_10 n_11 n_12 n_13 (b:Bool) (m'_1:Mem),lX (agg (.mk
 [int u64 n,int u64 n_1,int u64 n_2,int u64 n_3,int u64 n_4,int u64 n_5,int u64 n_6,int u64 n_7,int u64 n_8,int u64 n_9,int u64 n_10,int u64 n_11,int u64 n_12,int u64 n_13,bool b])) λyL_1=>Mem.le (Mem.off m' Y_1)
 m'_1->(∀(b o:Nat)(u:Value),m'_1 b o=some u->m' b o=some u\/Y_1 b\/m'.free b)->∀(cs:List Value) a c d a_1 c_1 d_1,lV [slice a c d,slice a_1 c_1 d_1] λxL=>R_1 yL_1 m'_1 [cs] xL->yL=yL/\R yL_1 m'_1 [cs]
 xL):CXY Try.prog 143 #[.agg #[.int .u8 aI,.int .u64 aZ,.int .u64 bC,.int .u64 bD,.int .u64 aA,.int .i64 bF,.int .i64 aX,.slice aC aB aE],.pointer (some ⟨c0b,c0o,none⟩)] m Y [⟨mkb,[.slice t0a t0n t0c,.slice t1a t1n t1c],98,2,false,true⟩] [⟨.slice t0a t0n t0c,4⟩,⟨.slice t1a t1n t1c,7⟩] R:=
 ZaK (E:=Zd7) ZaB mix Try.func143 [.v (.agg #[.int .u8 aI,.int .u64 aZ,.int .u64 bC,.int .u64 bD,.int .u64 aA,.int .i64 bF,.int .i64 aX,.slice aC aB aE]),.v (.pointer (some ⟨c0b,c0o,none⟩))] [⟨mkb,[.slice t0a t0n t0c,.slice t1a t1n t1c],98,2,false,true⟩] [900,901] [⟨.slice t0a t0n t0c,4⟩,⟨.slice t1a t1n t1c,7⟩] (by decide) (by kernel_rfl) (Eq.mp (by kernel_rfl) h)
def ZeC:Env:={ EB with
 loops:=swI nLa [(6,⟨[(18,.int .i64)],[6,100000],[(900,4),(901,7)],false⟩)]
 joins:=swI none [(9,some [(35,.bool)])]
 borrow:=swI [] [(26,[100000]),(41,[100000]),(54,[100000])]
 frzNew:=[3]
 thaw:=true
 lentC:=swI none [(26,some [(900,4),(901,7)]),(41,some [(900,4),(901,7)]),(54,some [(900,4),(901,7)])] }
abbrev ZbC:List Value:=[int u64 0,int u64 0,int u64 0,int u64 0,int u64 0,int u64 0,int u64 0,int u64 0,int u64 0,int u64 0,int u64 0,int u64 0,int u64 0,int u64 0,bool true]
abbrev Zar:List Shape:=[Shape.int u64,Shape.int u64,Shape.int u64,Shape.int u64,Shape.int u64,Shape.int u64,Shape.int u64,Shape.int u64,Shape.int u64,Shape.int u64,Shape.int u64,Shape.int
 u64,Shape.int u64,Shape.int u64,Shape.bool]
abbrev Zah:Int->Int->Int->Int->Int->Int->Int->Int->Int->Int->Int->Int->Int->Int->Bool->List Value:=λn bb bc bd ag ah ai aj ak al am an ao ap b=>[int u64 n,int u64 bb,int u64 bc,
 int u64 bd,int u64 ag,int u64 ah,int u64 ai,int u64 aj,int u64 ak,int u64 al,int u64 am,int u64 an,int u64 ao,int u64 ap,bool b]
abbrev Zd8:Int->Int->Int->Int->Int->Int->Int->Int->Int->Int->Int->Int->Int->Int->Bool->Nat->Option Box:=λn bb bc bd ag ah ai aj ak al am an ao ap b bg=>some (Box.mk bg
 (Zah n bb bc bd ag ah ai aj ak al am an ao ap b) 102 15 false true)
abbrev Zd9:Nat->List Value->Option Box:=λb cs=>some (Box.mk b cs 102 15 false true)
abbrev Zea:List Value:=[int u64 0,int u64 0,int u64 0,int u64 0,int u64 0,int u64 0,int u64 0,int u64 0,int u64 0,int u64 0,int u64 0,int u64 0,int u64 0,int u64 0,bool false]
abbrev Zcc:Nat->Option Box:=λb=>some (Box.mk b Zea 102 15 false true)
abbrev Zcd:Int->Int->Int->Int->Int->Int->Int->Option Addr->Nat->Nat->Nat->Option Box:=λbS bK bL bM bI aV bJ aL aM aN b=>some (Box.mk b [int u8 bS,int u64
 bK,int u64 bL,int u64 bM,int u64 bI,int i64 aV,int i64 bJ,slice aL aM aN] 41 8 true true)
abbrev Zeb:Nat->List Value->Option Box:=λmkb cs=>some (Box.mk mkb cs 98 2 false true)
abbrev Za7:Int->Int->Int->Int->Int->Int->Int->Option Addr->Nat->Nat->Nat->Nat->Nat->Nat->List Value->Int->Int->Int->Int->Int->Int->Int->Int->Int->Int->Int->Int->Int->Int->
 Bool->List Value->Nat->List (Option Box):=λbS bK bL bM bI aV bJ aL aM aN mkb b bg bh cs n bb bc bd ag ah ai aj ak al am an ao ap bu bt av=>[Zd8 n bb bc bd ag ah ai aj ak
 al am an ao ap bu av,Zd9 bh cs,Zcc bg,Zcd bS bK bL bM bI aV bJ aL aM aN b,Zeb mkb bt]
abbrev ZaW:Int->Int->Int->Int->Int->Int->Int->Int->Int->Int->Int->Int->Int->Int->List Value:=λn bb bc bd ag ah ai aj ak al am an ao ap=>[int u64 n,int u64 bb,int u64 bc,int u64
 bd,int u64 ag,int u64 ah,int u64 ai,int u64 aj,int u64 ak,int u64 al,int u64 am,int u64 an,int u64 ao,int u64 ap,bool true]
abbrev Zax:Int->Int->Int->Int->Int->Int->Int->Option Addr->Nat->Nat->Nat->Nat->Nat->Nat->List (Option Box):=λbS bK bL bM bI aV bJ aL aM aN mkb b bg bh=>
 [some (Box.mk bh [] 102 15 false true),Zcc bg,Zcd bS bK bL bM bI aV bJ aL aM aN b,some (Box.mk mkb [] 98 2 false true)]
abbrev ZaX:Int->Int->Int->Int->Int->Int->Int->Int->Int->Int->Int->Int->Int->Int->Int->Int->List Value:=λaV n bb bc bd ag ah ai aj ak al am an ao ap be=>[int u64 bb,int u64
 bc,int u64 bd,int u64 ag,int u64 ah,int u64 ai,int u64 aj,int u64 ak,int u64 al,int u64 am,int u64 an,int u64 ao,int u64 ap,int u64 be,bool (decide (n ≥ aV))]
theorem Zdq(p0b p0o:Nat)(bS bK bL bM bI aV bJ:Int)(aL:Option Addr)(aM aN mkb:Nat)(t0a:Option Addr)(t0n t0c:Nat)(t1a:Option Addr)(t1n t1c:Nat)(m:Mem)(Y:Nat->Prop)(R:RTY)(h:
 ∀(b:Nat) m',m.le m'->m'.reads b 0 [int u8 bS,int u64 bK,int u64 bL,int u64 bM,int u64 bI,int i64 aV,int i64 bJ,slice aL aM aN]->m.free b->(∀(b' o:Nat)(u:Value),m' b' o=some u->m b' o
 = some u\/b'=b)->∀(bg:Nat),br (bJ == (-1)) (∀(bh:Nat),∃(I:IT),(∃(n:Nat),I [int i64 0] [ZbC,[slice t0a t0n t0c,slice t1a t1n t1c]] [slice t0a t0n t0c,slice t1a t1n t1c] m' n)/\∀n (cs bt:
 List Value) a bb c bm bc bn (m':Mem) (bd:Nat),True->I [int i64 n] [cs,bt] [slice a bb c,slice bm bc bn] m' bd->br (decide (n < if(1:Int) > aV then(1:Int)else aV)) (∃(bu:Nat),∃(o:Nat),aL=some
 (Addr.mk bu o none)/\Zaf (0:Int) aM/\∃v bx bz ca cb cc cd ce:Value,m'.reads bu (o+0) [v,bx,bz,ca,cb,cc,cd,ce]/\∃(bo:Nat->Prop),∃(R:Value->Mem->List (List Value)->List Value->Prop),CXY pG 61
 (.mk [Value.pointer (some (Addr.mk p0b p0o none)),agg (.mk [v,bx,bz,ca,cb,cc,cd,ce])]) m' bo [Box.mk mkb bt 98 2 false true] [Tok.mk (slice a bb c) 4,Tok.mk (slice bm bc bn) 7] R/\(∀(t:Tok),t∈[Tok.mk (slice a bb c)
 4,Tok.mk (slice bm bc bn) 7]->∀(b:Nat),Tok.blk t=some b->bo b)/\(∀(av:Nat),bo av->(∃(t:Tok),t∈[Tok.mk (slice a bb c) 4,Tok.mk (slice bm bc bn) 7]/\Tok.blk t=some av)\/Mem.free (Mem.off m Y) av/\(∃(o:
 Nat),∃(v:Value),m' av o=some v)/\b≠av/\True)/\(∀(v:Value)(m':Mem) (css:List (List Value)) (tvs:List Value),R v m' css tvs->Shape.fits (.agg Zar) v=true)/\∀(ag ah ai aj ak al am an ao ap
 be bi bj bk:Int) (av:Bool) (ae:Mem),Mem.le (Mem.off m' bo) ae->(∀(b o:Nat)(u:Value),ae b o=some u->m' b o=some u\/bo b\/m'.free b)->∀(bl:List Value) a c d ab ac ad,R (agg (.mk (Zah ag ah
 ai aj ak al am an ao ap be bi bj bk av))) ae [bl] [slice a c d,slice ab ac ad]->∀(cf:Nat),∃(bv:Bool),br (bJ == (-1)) (Zac (Za7 bS bK bL bM bI aV bJ aL aM aN mkb b bg bh cs ag
 ah ai aj ak al am an ao ap be bi bj bk av bl cf)/\[some (Tok.mk (slice a c d) 4),some (Tok.mk (slice ab ac ad) 7),some (Tok.mk (slice a c d) 4),some (Tok.mk (slice ab ac ad) 7),some (Tok.mk (slice a c d) 4),some (Tok.mk
 (slice ab ac ad) 7)]=[some (Tok.mk (slice a c d) 4),some (Tok.mk (slice ab ac ad) 7),some (Tok.mk (slice a c d) 4),some (Tok.mk (slice ab ac ad) 7),some (Tok.mk (slice a c d) 4),some (Tok.mk (slice ab ac ad) 7)]/\[bool (n
 == i64.wrap ((if(1:Int) > aV then(1:Int)else aV) - (1:Int)))]=[bool bv]) (Zac (Za7 bS bK bL bM bI aV bJ aL aM aN mkb b bg bh cs ag ah ai aj ak al am an ao ap be bi bj bk av
 bl cf)/\[some (Tok.mk (slice a c d) 4),some (Tok.mk (slice ab ac ad) 7),some (Tok.mk (slice a c d) 4),some (Tok.mk (slice ab ac ad) 7),some (Tok.mk (slice a c d) 4),some (Tok.mk (slice ab ac ad) 7)]=[some (Tok.mk (slice a
 c d) 4),some (Tok.mk (slice ab ac ad) 7),some (Tok.mk (slice a c d) 4),some (Tok.mk (slice ab ac ad) 7),some (Tok.mk (slice a c d) 4),some (Tok.mk (slice ab ac ad) 7)]/\[bool false]=[bool bv])/\br bv (∃(af:Nat->Prop),
 ∃(R:Value->Mem->List (List Value)->List Value->Prop),CXY pG 164 (.mk [Value.pointer (some (Addr.mk p0b p0o none)),agg (.mk [int u64 an,int u64 ao,int u64 ap,int u64 be,int u64 bi,int u64 bj,int u64 bk]),agg (.mk
 [int u64 ag,int u64 ah,int u64 ai,int u64 aj,int u64 ak,int u64 al,int u64 am])]) ae af [Box.mk mkb bl 98 2 false true] [Tok.mk (slice a c d) 4,Tok.mk (slice ab ac ad) 7] R/\(∀(t:Tok),t∈[Tok.mk (slice a c d) 4,
 Tok.mk (slice ab ac ad) 7]->∀(b:Nat),Tok.blk t=some b->af b)/\(∀(aa:Nat),af aa->(∃(t:Tok),t∈[Tok.mk (slice a c d) 4,Tok.mk (slice ab ac ad) 7]/\Tok.blk t=some aa)\/Mem.free (Mem.off m Y) aa/\(∃(o:Nat),
 ∃(v:Value),ae aa o=some v)/\b≠aa/\True)/\(∀(v:Value)(m':Mem) (css:List (List Value)) (tvs:List Value),R v m' css tvs->Shape.fits (.tup []) v=true)/\∀(m':Mem),Mem.le (Mem.off ae af) m'->(∀(b o:Nat)
 (u:Value),m' b o=some u->ae b o=some u\/af b\/ae.free b)->∀(bw:List Value) a c d aq ar au,R (tuple (.mk [])) m' [bw] [slice a c d,slice aq ar au]->br av (∃(aw:Nat->Prop),∃(R:Value->Mem->List (List Value)
 -> List Value->Prop),CXY pG 139 (.mk [Value.pointer (some (Addr.mk p0b p0o none)),agg (.mk cs),agg (.mk (ZaW ag ah ai aj ak al am an ao ap be bi bj bk))]) m' aw [Box.mk mkb bw 98 2 false true] [Tok.mk (slice a
 c d) 4,Tok.mk (slice aq ar au) 7] R/\(∀(t:Tok),t∈[Tok.mk (slice a c d) 4,Tok.mk (slice aq ar au) 7]->∀(b:Nat),Tok.blk t=some b->aw b)/\(∀(aa:Nat),aw aa->(∃(t:Tok),t∈[Tok.mk (slice a c d) 4,Tok.mk
 (slice aq ar au) 7]/\Tok.blk t=some aa)\/Mem.free (Mem.off m Y) aa/\(∃(o:Nat),∃(v:Value),m' aa o=some v)/\b≠aa/\True)/\(∀(v:Value)(m':Mem) (css:List (List Value)) (tvs:List Value),R v m' css tvs->
 Shape.fits (.agg Zar) v=true)/\∀(ax ay az a0 a1 a2 a3 a4 a5 a6 a7 a8 a9 ba:Int)(aa:Bool)(bf:Mem),Mem.le (Mem.off m' aw) bf->(∀(b o:Nat)(u:Value),bf b o=some u->m' b o=some u\/aw b\/
 m'.free b)->∀(cs:List Value) a c d bp bq bs,R (agg (.mk (Zah ax ay az a0 a1 a2 a3 a4 a5 a6 a7 a8 a9 ba aa))) bf [cs] [slice a c d,slice bp bq bs]->Zac (Zax bS bK bL bM bI aV
 bJ aL aM aN mkb b bg bh)/\([none,none]:List (Option Tok))=[none,none]/\∃(n':Nat),n' < bd/\I [int i64 (i64.wrap (n+1))] [Zah ax ay az a0 a1 a2 a3 a4 a5 a6 a7 a8 a9 ba aa,cs] [slice a c d,
 slice bp bq bs] bf n') (∃(aw:Nat->Prop),∃(R:Value->Mem->List (List Value)->List Value->Prop),CXY pG 139 (.mk [Value.pointer (some (Addr.mk p0b p0o none)),agg (.mk cs),agg (.mk (ZaX aV n ag ah ai
 aj ak al am an ao ap be bi bj bk))]) m' aw [Box.mk mkb bw 98 2 false true] [Tok.mk (slice a c d) 4,Tok.mk (slice aq ar au) 7] R/\(∀(t:Tok),t∈[Tok.mk (slice a c d) 4,Tok.mk (slice aq ar au) 7]->∀(b:Nat),Tok.blk t =
 some b->aw b)/\(∀(aa:Nat),aw aa->(∃(t:Tok),t∈[Tok.mk (slice a c d) 4,Tok.mk (slice aq ar au) 7]/\Tok.blk t=some aa)\/Mem.free (Mem.off m Y) aa/\(∃(o:Nat),∃(v:Value),m' aa o=some v)/\b≠aa/\True)/\
 (∀(v:Value)(m':Mem) (css:List (List Value)) (tvs:List Value),R v m' css tvs->Shape.fits (.agg Zar) v=true)/\∀(ax ay az a0 a1 a2 a3 a4 a5 a6 a7 a8 a9 ba:Int)(aa:Bool)(bf:Mem),Mem.le (Mem.off
 m' aw) bf->(∀(b o:Nat)(u:Value),bf b o=some u->m' b o=some u\/aw b\/m'.free b)->∀(cs:List Value) a c d bp bq bs,R (agg (.mk (Zah ax ay az a0 a1 a2 a3 a4 a5 a6 a7 a8 a9 ba aa))) bf [cs] [slice a
 c d,slice bp bq bs]->Zac (Zax bS bK bL bM bI aV bJ aL aM aN mkb b bg bh)/\([none,none]:List (Option Tok))=[none,none]/\∃(n':Nat),n' < bd/\I [int i64 (i64.wrap (n+1))]
 [Zah ax ay az a0 a1 a2 a3 a4 a5 a6 a7 a8 a9 ba aa,cs] [slice a c d,slice bp bq bs] bf n')) (br av (∃(af:Nat->Prop),∃(R:Value->Mem->List (List Value)->List Value->Prop),CXY pG 139 (.mk [Value.pointer
 (some (Addr.mk p0b p0o none)),agg (.mk cs),agg (.mk (ZaW ag ah ai aj ak al am an ao ap be bi bj bk))]) ae af [Box.mk mkb bl 98 2 false true] [Tok.mk (slice a c d) 4,Tok.mk (slice ab ac ad) 7] R/\(∀(t:Tok),
 t∈[Tok.mk (slice a c d) 4,Tok.mk (slice ab ac ad) 7]->∀(b:Nat),Tok.blk t=some b->af b)/\(∀(aa:Nat),af aa->(∃(t:Tok),t∈[Tok.mk (slice a c d) 4,Tok.mk (slice ab ac ad) 7]/\Tok.blk t=some aa)\/Mem.free
 (Mem.off m Y) aa/\(∃(o:Nat),∃(v:Value),ae aa o=some v)/\b≠aa/\True)/\(∀(v:Value)(m':Mem) (css:List (List Value)) (tvs:List Value),R v m' css tvs->Shape.fits (.agg Zar) v=true)/\∀(ax
 ay az a0 a1 a2 a3 a4 a5 a6 a7 a8 a9 ba:Int) (aa:Bool) (m':Mem),Mem.le (Mem.off ae af) m'->(∀(b o:Nat)(u:Value),m' b o=some u->ae b o=some u\/af b\/ae.free b)->∀(cs:List Value) a c d aq ar au,R (agg (.mk
 (Zah ax ay az a0 a1 a2 a3 a4 a5 a6 a7 a8 a9 ba aa))) m' [cs] [slice a c d,slice aq ar au]->Zac (Zax bS bK bL bM bI aV bJ aL aM aN mkb b bg bh)/\([none,none]:List
 (Option Tok))=[none,none]/\∃(n':Nat),n' < bd/\I [int i64 (i64.wrap (n+1))] [Zah ax ay az a0 a1 a2 a3 a4 a5 a6 a7 a8 a9 ba aa,cs] [slice a c d,slice aq ar au] m' n') (∃(af:Nat->Prop),∃(R:Value->
 Mem->List (List Value)->List Value->Prop),CXY pG 139 (.mk [Value.pointer (some (Addr.mk p0b p0o none)),agg (.mk cs),agg (.mk (ZaX aV n ag ah ai aj ak al am an ao ap be bi bj bk))]) ae af [Box.mk mkb bl 98
 2 false true] [Tok.mk (slice a c d) 4,Tok.mk (slice ab ac ad) 7] R/\(∀(t:Tok),t∈[Tok.mk (slice a c d) 4,Tok.mk (slice ab ac ad) 7]->∀(b:Nat),Tok.blk t=some b->af b)/\(∀(aa:Nat),af aa->(∃(t:Tok),t ∈
 [Tok.mk (slice a c d) 4,Tok.mk (slice ab ac ad) 7]/\Tok.blk t=some aa)\/Mem.free (Mem.off m Y) aa/\(∃(o:Nat),∃(v:Value),ae aa o=some v)/\b≠aa/\True)/\(∀(v:Value)(m':Mem) (css:List (List Value)) (tvs:
 List Value),R v m' css tvs->Shape.fits (.agg Zar) v=true)/\∀(ax ay az a0 a1 a2 a3 a4 a5 a6 a7 a8 a9 ba:Int)(aa:Bool)(m':Mem),Mem.le (Mem.off ae af) m'->(∀(b o:Nat)(u:Value),m' b o=some u->
 ae b o=some u\/af b\/ae.free b)->∀(cs:List Value) a c d aq ar au,R (agg (.mk (Zah ax ay az a0 a1 a2 a3 a4 a5 a6 a7 a8 a9 ba aa))) m' [cs] [slice a c d,slice aq ar au]->Zac (Zax bS
 bK bL bM bI aV bJ aL aM aN mkb b bg bh)/\([none,none]:List (Option Tok))=[none,none]/\∃(n':Nat),n' < bd/\I [int i64 (i64.wrap (n+1))] [Zah ax ay az a0 a1 a2 a3 a4 a5 a6 a7 a8 a9
 ba aa,cs] [slice a c d,slice aq ar au] m' n'))) (chk (Nat.beq (cs.length) 15&&Zcr cs) (Box.mk mkb [slice t0a t0n t0c,slice t1a t1n t1c] 98 2 false true=Box.mk mkb [slice t0a t0n t0c,slice t1a t1n t1c] 98 2 false true/\R
 (agg (.mk cs)) m' [bt] [slice a bb c,slice bm bc bn]))) (∀(bh:Nat),∃(I:IT),(∃(n:Nat),I [int i64 0] [ZbC,[slice t0a t0n t0c,slice t1a t1n t1c]] [slice t0a t0n t0c,slice t1a t1n t1c] m' n)/\∀n (cs
 bt:List Value) a bb c bm bc bn (m':Mem) (bd:Nat),True->I [int i64 n] [cs,bt] [slice a bb c,slice bm bc bn] m' bd->br (decide (n < bJ)) (∃(bu:Nat),∃(o:Nat),aL=some (Addr.mk bu o none)/\Zaf (0:Int)
 aM/\∃v bx bz ca cb cc cd ce:Value,m'.reads bu (o+0) [v,bx,bz,ca,cb,cc,cd,ce]/\∃(bo:Nat->Prop),∃(R:Value->Mem->List (List Value)->List Value->Prop),CXY pG 61 (.mk [Value.pointer (some (Addr.mk p0b p0o
 none)),agg (.mk [v,bx,bz,ca,cb,cc,cd,ce])]) m' bo [Box.mk mkb bt 98 2 false true] [Tok.mk (slice a bb c) 4,Tok.mk (slice bm bc bn) 7] R/\(∀(t:Tok),t∈[Tok.mk (slice a bb c) 4,Tok.mk (slice bm bc bn) 7]->∀(b:
 Nat),Tok.blk t=some b->bo b)/\(∀(av:Nat),bo av->(∃(t:Tok),t∈[Tok.mk (slice a bb c) 4,Tok.mk (slice bm bc bn) 7]/\Tok.blk t=some av)\/Mem.free (Mem.off m Y) av/\(∃(o:Nat),∃(v:Value),m' av o=some v)/\
 b≠av/\True)/\(∀(v:Value)(m':Mem) (css:List (List Value)) (tvs:List Value),R v m' css tvs->Shape.fits (.agg Zar) v=true)/\∀(ag ah ai aj ak al am an ao ap be bi bj bk:Int)(av:Bool) (ae:
 Mem),Mem.le (Mem.off m' bo) ae->(∀(b o:Nat)(u:Value),ae b o=some u->m' b o=some u\/bo b\/m'.free b)->∀(bl:List Value) a c d ab ac ad,R (agg (.mk (Zah ag ah ai aj ak al am an ao ap be bi bj bk
 av))) ae [bl] [slice a c d,slice ab ac ad]->∀(cf:Nat),∃(bv:Bool),br (bJ == (-1)) (Zac (Za7 bS bK bL bM bI aV bJ aL aM aN mkb b bg bh cs ag ah ai aj ak al am an ao ap be bi bj
 bk av bl cf)/\[some (Tok.mk (slice a c d) 4),some (Tok.mk (slice ab ac ad) 7),some (Tok.mk (slice a c d) 4),some (Tok.mk (slice ab ac ad) 7),some (Tok.mk (slice a c d) 4),some (Tok.mk (slice ab ac ad) 7)]=[some (Tok.mk
 (slice a c d) 4),some (Tok.mk (slice ab ac ad) 7),some (Tok.mk (slice a c d) 4),some (Tok.mk (slice ab ac ad) 7),some (Tok.mk (slice a c d) 4),some (Tok.mk (slice ab ac ad) 7)]/\[bool (n == i64.wrap (bJ - (1:Int)))] =
 [bool bv]) (Zac (Za7 bS bK bL bM bI aV bJ aL aM aN mkb b bg bh cs ag ah ai aj ak al am an ao ap be bi bj bk av bl cf)/\[some (Tok.mk (slice a c d) 4),some (Tok.mk (slice ab ac ad) 7),
 some (Tok.mk (slice a c d) 4),some (Tok.mk (slice ab ac ad) 7),some (Tok.mk (slice a c d) 4),some (Tok.mk (slice ab ac ad) 7)]=[some (Tok.mk (slice a c d) 4),some (Tok.mk (slice ab ac ad) 7),some (Tok.mk (slice a c d) 4),
 some (Tok.mk (slice ab ac ad) 7),some (Tok.mk (slice a c d) 4),some (Tok.mk (slice ab ac ad) 7)]/\[bool false]=[bool bv])/\br bv (∃(af:Nat->Prop),∃(R:Value->Mem->List (List Value)->List Value->Prop),CXY pG 164
 (.mk [Value.pointer (some (Addr.mk p0b p0o none)),agg (.mk [int u64 an,int u64 ao,int u64 ap,int u64 be,int u64 bi,int u64 bj,int u64 bk]),agg (.mk [int u64 ag,int u64 ah,int u64 ai,int u64 aj,int u64 ak,int u64 al,
 int u64 am])]) ae af [Box.mk mkb bl 98 2 false true] [Tok.mk (slice a c d) 4,Tok.mk (slice ab ac ad) 7] R/\(∀(t:Tok),t∈[Tok.mk (slice a c d) 4,Tok.mk (slice ab ac ad) 7]->∀(b:Nat),Tok.blk t=some b->af b)/\(∀(aa
 : Nat),af aa->(∃(t:Tok),t∈[Tok.mk (slice a c d) 4,Tok.mk (slice ab ac ad) 7]/\Tok.blk t=some aa)\/Mem.free (Mem.off m Y) aa/\(∃(o:Nat),∃(v:Value),ae aa o=some v)/\b≠aa/\True)/\(∀(v:Value)(m':Mem)
 (css:List (List Value)) (tvs:List Value),R v m' css tvs->Shape.fits (.tup []) v=true)/\∀(m':Mem),Mem.le (Mem.off ae af) m'->(∀(b o:Nat)(u:Value),m' b o=some u->ae b o=some u\/af b\/ae.free b)->∀(bw:
 List Value) a c d aq ar au,R (tuple (.mk [])) m' [bw] [slice a c d,slice aq ar au]->br av (∃(aw:Nat->Prop),∃(R:Value->Mem->List (List Value)->List Value->Prop),CXY pG 139 (.mk [Value.pointer (some (Addr.mk p0b p0o
 none)),agg (.mk cs),agg (.mk (ZaW ag ah ai aj ak al am an ao ap be bi bj bk))]) m' aw [Box.mk mkb bw 98 2 false true] [Tok.mk (slice a c d) 4,Tok.mk (slice aq ar au) 7] R/\(∀(t:Tok),t∈[Tok.mk (slice a c
 d) 4,Tok.mk (slice aq ar au) 7]->∀(b:Nat),Tok.blk t=some b->aw b)/\(∀(aa:Nat),aw aa->(∃(t:Tok),t∈[Tok.mk (slice a c d) 4,Tok.mk (slice aq ar au) 7]/\Tok.blk t=some aa)\/Mem.free (Mem.off m Y) aa/\(∃(o:
 Nat),∃(v:Value),m' aa o=some v)/\b≠aa/\True)/\(∀(v:Value)(m':Mem) (css:List (List Value)) (tvs:List Value),R v m' css tvs->Shape.fits (.agg Zar) v=true)/\∀(ax ay az a0 a1 a2 a3 a4 a5 a6
 a7 a8 a9 ba:Int) (aa:Bool) (bf:Mem),Mem.le (Mem.off m' aw) bf->(∀(b o:Nat)(u:Value),bf b o=some u->m' b o=some u\/aw b\/m'.free b)->∀(cs:List Value) a c d bp bq bs,R (agg (.mk (Zah ax ay
 az a0 a1 a2 a3 a4 a5 a6 a7 a8 a9 ba aa))) bf [cs] [slice a c d,slice bp bq bs]->Zac (Zax bS bK bL bM bI aV bJ aL aM aN mkb b bg bh)/\([none,none]:List (Option Tok))=[none,none]/\
 ∃(n':Nat),n' < bd/\I [int i64 (i64.wrap (n+1))] [Zah ax ay az a0 a1 a2 a3 a4 a5 a6 a7 a8 a9 ba aa,cs] [slice a c d,slice bp bq bs] bf n') (∃(aw:Nat->Prop),∃(R:Value->Mem->List (List Value)->List
 Value->Prop),CXY pG 139 (.mk [Value.pointer (some (Addr.mk p0b p0o none)),agg (.mk cs),agg (.mk (ZaX aV n ag ah ai aj ak al am an ao ap be bi bj bk))]) m' aw [Box.mk mkb bw 98 2 false true] [Tok.mk (slice a
 c d) 4,Tok.mk (slice aq ar au) 7] R/\(∀(t:Tok),t∈[Tok.mk (slice a c d) 4,Tok.mk (slice aq ar au) 7]->∀(b:Nat),Tok.blk t=some b->aw b)/\(∀(aa:Nat),aw aa->(∃(t:Tok),t∈[Tok.mk (slice a c d) 4,Tok.mk
 (slice aq ar au) 7]/\Tok.blk t=some aa)\/Mem.free (Mem.off m Y) aa/\(∃(o:Nat),∃(v:Value),m' aa o=some v)/\b≠aa/\True)/\(∀(v:Value)(m':Mem) (css:List (List Value)) (tvs:List Value),R v m' css tvs->
 Shape.fits (.agg Zar) v=true)/\∀(ax ay az a0 a1 a2 a3 a4 a5 a6 a7 a8 a9 ba:Int)(aa:Bool)(bf:Mem),Mem.le (Mem.off m' aw) bf->(∀(b o:Nat)(u:Value),bf b o=some u->m' b o=some u\/aw b\/
 m'.free b)->∀(cs:List Value) a c d bp bq bs,R (agg (.mk (Zah ax ay az a0 a1 a2 a3 a4 a5 a6 a7 a8 a9 ba aa))) bf [cs] [slice a c d,slice bp bq bs]->Zac (Zax bS bK bL bM bI aV
 bJ aL aM aN mkb b bg bh)/\([none,none]:List (Option Tok))=[none,none]/\∃(n':Nat),n' < bd/\I [int i64 (i64.wrap (n+1))] [Zah ax ay az a0 a1 a2 a3 a4 a5 a6 a7 a8 a9 ba aa,cs] [slice a c d,
 slice bp bq bs] bf n')) (br av (∃(af:Nat->Prop),∃(R:Value->Mem->List (List Value)->List Value->Prop),CXY pG 139 (.mk [Value.pointer (some (Addr.mk p0b p0o none)),agg (.mk cs),agg (.mk (ZaW ag ah ai
 aj ak al am an ao ap be bi bj bk))]) ae af [Box.mk mkb bl 98 2 false true] [Tok.mk (slice a c d) 4,Tok.mk (slice ab ac ad) 7] R/\(∀(t:Tok),t∈[Tok.mk (slice a c d) 4,Tok.mk (slice ab ac ad) 7]->∀(b:Nat),Tok.blk t =
 some b->af b)/\(∀(aa:Nat),af aa->(∃(t:Tok),t∈[Tok.mk (slice a c d) 4,Tok.mk (slice ab ac ad) 7]/\Tok.blk t=some aa)\/Mem.free (Mem.off m Y) aa/\(∃(o:Nat),∃(v:Value),ae aa o=some v)/\b≠aa/\True)/\
 (∀(v:Value)(m':Mem) (css:List (List Value)) (tvs:List Value),R v m' css tvs->Shape.fits (.agg Zar) v=true)/\∀(ax ay az a0 a1 a2 a3 a4 a5 a6 a7 a8 a9 ba:Int)(aa:Bool)(m':Mem),Mem.le (Mem.off
 ae af) m'->(∀(b o:Nat)(u:Value),m' b o=some u->ae b o=some u\/af b\/ae.free b)->∀(cs:List Value) a c d aq ar au,R (agg (.mk (Zah ax ay az a0 a1 a2 a3 a4 a5 a6 a7 a8 a9 ba aa))) m' [cs] [slice a
 c d,slice aq ar au]->Zac (Zax bS bK bL bM bI aV bJ aL aM aN mkb b bg bh)/\([none,none]:List (Option Tok))=[none,none]/\∃(n':Nat),n' < bd/\I [int i64 (i64.wrap (n+1))]
 [Zah ax ay az a0 a1 a2 a3 a4 a5 a6 a7 a8 a9 ba aa,cs] [slice a c d,slice aq ar au] m' n') (∃(af:Nat->Prop),∃(R:Value->Mem->List (List Value)->List Value->Prop),CXY pG 139 (.mk [Value.pointer (some
 (Addr.mk p0b p0o none)),agg (.mk cs),agg (.mk (ZaX aV n ag ah ai aj ak al am an ao ap be bi bj bk))]) ae af [Box.mk mkb bl 98 2 false true] [Tok.mk (slice a c d) 4,Tok.mk (slice ab ac ad) 7] R/\(∀(t:Tok),
 t∈[Tok.mk (slice a c d) 4,Tok.mk (slice ab ac ad) 7]->∀(b:Nat),Tok.blk t=some b->af b)/\(∀(aa:Nat),af aa->(∃(t:Tok),t∈[Tok.mk (slice a c d) 4,Tok.mk (slice ab ac ad) 7]/\Tok.blk t=some aa)\/Mem.free
 (Mem.off m Y) aa/\(∃(o:Nat),∃(v:Value),ae aa o=some v)/\b≠aa/\True)/\(∀(v:Value)(m':Mem) (css:List (List Value)) (tvs:List Value),R v m' css tvs->Shape.fits (.agg Zar) v=true)/\∀(ax
 ay az a0 a1 a2 a3 a4 a5 a6 a7 a8 a9 ba:Int) (aa:Bool) (m':Mem),Mem.le (Mem.off ae af) m'->(∀(b o:Nat)(u:Value),m' b o=some u->ae b o=some u\/af b\/ae.free b)->∀(cs:List Value) a c d aq ar au,R (agg (.mk
 (Zah ax ay az a0 a1 a2 a3 a4 a5 a6 a7 a8 a9 ba aa))) m' [cs] [slice a c d,slice aq ar au]->Zac (Zax bS bK bL bM bI aV bJ aL aM aN mkb b bg bh)/\([none,none]:List
 (Option Tok))=[none,none]/\∃(n':Nat),n' < bd/\I [int i64 (i64.wrap (n+1))] [Zah ax ay az a0 a1 a2 a3 a4 a5 a6 a7 a8 a9 ba aa,cs] [slice a c d,slice aq ar au] m' n'))) (chk (Nat.beq (cs.length) 15 &&
 Zcr cs) (Box.mk mkb [slice t0a t0n t0c,slice t1a t1n t1c] 98 2 false true=Box.mk mkb [slice t0a t0n t0c,slice t1a t1n t1c] 98 2 false true/\R (agg (.mk cs)) m' [bt] [slice a bb c,slice bm bc bn])))):CXY Try.prog 142 #[.pointer (some ⟨p0b,p0o,none⟩),.agg #[.int .u8 bS,.int .u64 bK,.int .u64 bL,.int .u64 bM,.int .u64 bI,.int .i64 aV,.int .i64 bJ,.slice aL aM aN]] m Y [⟨mkb,[.slice t0a t0n t0c,.slice t1a t1n t1c],98,2,false,true⟩] [⟨.slice t0a t0n t0c,4⟩,⟨.slice t1a t1n t1c,7⟩] R:=
 ZaK (E:=ZeC) ZaB mix Try.func142 [.v (.pointer (some ⟨p0b,p0o,none⟩)),.v (.agg #[.int .u8 bS,.int .u64 bK,.int .u64 bL,.int .u64 bM,.int .u64 bI,.int .i64 aV,.int .i64 bJ,.slice aL aM aN])] [⟨mkb,[.slice t0a t0n t0c,.slice t1a t1n t1c],98,2,false,true⟩] [900,901] [⟨.slice t0a t0n t0c,4⟩,⟨.slice t1a t1n t1c,7⟩] (by decide) (by kernel_rfl) (Eq.mp (by kernel_rfl) h)
end Go.Proofs.Ytplacemlpkhmfaa
end
