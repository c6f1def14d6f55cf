/- Part of the proof: conditions and contracts of functions of this program. No condition of its own. -/
import Derived.Test.YtplacemlpkhmfaaPEnv
import Derived.Test.YtplacemlpkhmfaaMc
set_option linter.unusedVariables false
set_option linter.unusedSimpArgs false
set_option linter.unusedSectionVars false
noncomputable section
namespace Go.Proofs.Ytplacemlpkhmfaa
open Go Go.Eng Go.Proofs Go.RowKit
open Go.Value (int slice agg bool string tuple func)
open Go.IntKind (u8 u64 i64)
set_option maxRecDepth 100000
def Zgz:Env:={ EB with
 joins:=swI none [(1,some [(4,.bool)])] }
theorem ZfJ(p0:Int)(c0b c0o c1b c1o:Nat)(m:Mem)(R:RT)(h:
 ∃(b:Bool),lE (!p0 == (-1)) λyL=>lV [Value.pointer (some (Addr.mk c1b c1o none)),int i64 p0] λxL=>lV [bool b] λac=>br (p0 == (-1)) (∃(v:Value),lE (Zcw v) λad=>lE (Zb2 v) λaa=>lE (ZeN v)
 λab=>m c0b (c0o+4)=some v/\bif ad then bif ad then bif ad then bif ad then bif ad then bif ad then bif ad then bif ad then chk ab (br aa ([bool true]=ac) False)else chk ab (br aa (chk ab (br aa ([bool true]=ac)
 False)) False)else chk ab (br aa ([bool true]=ac) False)else chk ab (br aa (bif ad then bif ad then chk ab (br aa ([bool true]=ac) False)else chk ab (br aa (chk ab (br aa ([bool true]=ac) False)) False)else chk ab (br aa
 ([bool true]=ac) False)) (bif ad then bif ad then chk ab (br aa ([bool true]=ac) False)else chk ab (br aa (chk ab (br aa ([bool true]=ac) False)) False)else chk ab (br aa ([bool true]=ac) False)))else chk ab (br aa
 ([bool true]=ac) False)else chk ab (br aa (bif ad then bif ad then bif ad then bif ad then chk ab (br aa ([bool true]=ac) False)else chk ab (br aa (chk ab (br aa ([bool true]=ac) False)) False)else chk ab (br aa ([bool
 true]=ac) False)else chk ab (br aa (bif ad then bif ad then chk ab (br aa ([bool true]=ac) False)else chk ab (br aa (chk ab (br aa ([bool true]=ac) False)) False)else chk ab (br aa ([bool true]=ac) False)) (bif ad then
 bif ad then chk ab (br aa ([bool true]=ac) False)else chk ab (br aa (chk ab (br aa ([bool true]=ac) False)) False)else chk ab (br aa ([bool true]=ac) False)))else chk ab (br aa ([bool true]=ac) False)) False)else chk
 ab (br aa ([bool true]=ac) False)else chk ab (br aa (bif ad then bif ad then bif ad then bif ad then bif ad then bif ad then chk ab (br aa ([bool true]=ac) False)else chk ab (br aa (chk ab (br aa ([bool true]=ac) False))
 False)else chk ab (br aa ([bool true]=ac) False)else chk ab (br aa (bif ad then bif ad then chk ab (br aa ([bool true]=ac) False)else chk ab (br aa (chk ab (br aa ([bool true]=ac) False)) False)else chk ab (br aa ([bool
 true]=ac) False)) (bif ad then bif ad then chk ab (br aa ([bool true]=ac) False)else chk ab (br aa (chk ab (br aa ([bool true]=ac) False)) False)else chk ab (br aa ([bool true]=ac) False)))else chk ab (br aa ([bool
 true]=ac) False)else chk ab (br aa (bif ad then bif ad then bif ad then bif ad then chk ab (br aa ([bool true]=ac) False)else chk ab (br aa (chk ab (br aa ([bool true]=ac) False)) False)else chk ab (br aa ([bool true] =
 ac) False)else chk ab (br aa (bif ad then bif ad then chk ab (br aa ([bool true]=ac) False)else chk ab (br aa (chk ab (br aa ([bool true]=ac) False)) False)else chk ab (br aa ([bool true]=ac) False)) (bif ad then bif ad
 then chk ab (br aa ([bool true]=ac) False)else chk ab (br aa (chk ab (br aa ([bool true]=ac) False)) False)else chk ab (br aa ([bool true]=ac) False)))else chk ab (br aa ([bool true]=ac) False)) False)else chk ab (br
 aa ([bool true]=ac) False)) (bif ad then bif ad then bif ad then bif ad then bif ad then bif ad then chk ab (br aa ([bool true]=ac) False)else chk ab (br aa (chk ab (br aa ([bool true]=ac) False)) False)else chk ab (br aa
 ([bool true]=ac) False)else chk ab (br aa (bif ad then bif ad then chk ab (br aa ([bool true]=ac) False)else chk ab (br aa (chk ab (br aa ([bool true]=ac) False)) False)else chk ab (br aa ([bool true]=ac) False)) (bif
 ad then bif ad then chk ab (br aa ([bool true]=ac) False)else chk ab (br aa (chk ab (br aa ([bool true]=ac) False)) False)else chk ab (br aa ([bool true]=ac) False)))else chk ab (br aa ([bool true]=ac) False)else chk
 ab (br aa (bif ad then bif ad then bif ad then bif ad then chk ab (br aa ([bool true]=ac) False)else chk ab (br aa (chk ab (br aa ([bool true]=ac) False)) False)else chk ab (br aa ([bool true]=ac) False)else chk ab (br aa
 (bif ad then bif ad then chk ab (br aa ([bool true]=ac) False)else chk ab (br aa (chk ab (br aa ([bool true]=ac) False)) False)else chk ab (br aa ([bool true]=ac) False)) (bif ad then bif ad then chk ab (br aa ([bool true]
 = ac) False)else chk ab (br aa (chk ab (br aa ([bool true]=ac) False)) False)else chk ab (br aa ([bool true]=ac) False)))else chk ab (br aa ([bool true]=ac) False)) (bif ad then bif ad then bif ad then bif ad then chk ab
 (br aa ([bool true]=ac) False)else chk ab (br aa (chk ab (br aa ([bool true]=ac) False)) False)else chk ab (br aa ([bool true]=ac) False)else chk ab (br aa (bif ad then bif ad then chk ab (br aa ([bool true]=ac) False)
 else chk ab (br aa (chk ab (br aa ([bool true]=ac) False)) False)else chk ab (br aa ([bool true]=ac) False)) (br yL (kB pG 115 xL m λb m'=>bif ad then bif ad then chk ab (br aa ([bool true]=ac) False)else chk ab (br
 aa (chk ab (br aa ([bool true]=ac) False)) (chk ab (br aa ([bool true]=ac) ([bool b]=ac))))else chk ab (br aa ([bool true]=ac) ([bool b]=ac))) (bif ad then bif ad then chk ab (br aa ([bool true]=ac) False)else chk ab
 (br aa (chk ab (br aa ([bool true]=ac) False)) (chk ab (br aa ([bool true]=ac) ([bool false]=ac))))else chk ab (br aa ([bool true]=ac) ([bool false]=ac)))))else chk ab (br aa ([bool true]=ac) (br yL (kB pG 115 xL m
 λb m'=>[bool b]=ac) ([bool false]=ac)))))else chk ab (br aa ([bool true]=ac) (br yL (kB pG 115 xL m λb m'=>[bool b]=ac) ([bool false]=ac)))))else chk ab (br aa ([bool true]=ac) (br yL (kB pG 115 xL m λb
 m'=>[bool b]=ac) ([bool false]=ac)))) (br yL (kB pG 115 xL m λb m'=>[bool b]=ac) ([bool false]=ac))/\rtM m m R (bool b)):CX Try.prog 114 #[.int .i64 p0,.pointer (some ⟨c0b,c0o,none⟩),.pointer (some ⟨c1b,c1o,none⟩)] m [] R:=
 Zaj (E:=Zgz) ZaB mix Try.func114 [.v (.int .i64 p0),.v (.pointer (some ⟨c0b,c0o,none⟩)),.v (.pointer (some ⟨c1b,c1o,none⟩))] [] (by kernel_rfl) (Eq.mp (by kernel_rfl) h)
def ZbV:Env:={ EB with
 loops:=swI nLa [(2,⟨[(8,.int .i64)],[],[],false⟩)] }
theorem ZbN(p0a:Option Addr)(p0n p0c p1g:Nat)(p1fi p1ca:List Value)(m:Mem)(R:RT)(h:
 ∃I,inI I [int i64 0] [] [] m/\∀n m' (n_1:Nat),m.le m'->I [int i64 n] [] [] m' n_1->br (decide (n < (↑p0n:Int))) (atA p0a λb o=>Zaf n p0n/\∃(v:Value),m' b (o+Int.toNat n*1)=some v/\kB pG p1g
 (List.append (List.append p1fi [v]) p1ca) m' λb m'=>br b (rtM m m' R (int i64 n)) (nxI n_1 I [int i64 (i64.wrap (n+1))] [] [] m')) (rtM m m' R (int i64 (-1)))):CX Try.prog 146 #[.slice p0a p0n p0c,.func (.func p1g) p1fi.toArray p1ca.toArray] m [] R:=
 Zaj (E:=ZbV) ZaB mix Try.func146 [.v (.slice p0a p0n p0c),.v (.func (.func p1g) p1fi.toArray p1ca.toArray)] [] (by kernel_rfl) (Eq.mp (by kernel_rfl) h)
def ZbI:Env:=EB
theorem Zbx(p0a:Option Addr)(p0n p0c p1g:Nat)(p1fi p1ca:List Value)(m:Mem)(R:RT)(h:
 kI pG 146 [slice p0a p0n p0c,func (Fn.func p1g) (Array.mk p1fi) (Array.mk p1ca)] m λn m'=>rtM m m' R (bool (decide (n ≥ 0)))):CX Try.prog 113 #[.slice p0a p0n p0c,.func (.func p1g) p1fi.toArray p1ca.toArray] m [] R:=
 Zaj (E:=ZbI) ZaB mix Try.func113 [.v (.slice p0a p0n p0c),.v (.func (.func p1g) p1fi.toArray p1ca.toArray)] [] (by kernel_rfl) (Eq.mp (by kernel_rfl) h)
def ZiR:Env:={ EB with
 frzNew:=[2]
 frzAt:=swI [] [(11,[5])] }
theorem Zhn(aO:Option Addr)(aJ aY:Nat)(aP:Option Addr)(aK bE:Nat)(aR:Option Addr)(aQ aW:Nat)(aS:Option Addr)(aT aU:Nat)(aA:Bool)(p1a:Option Addr)(p1n p1c:Nat)(m:Mem)(R:RT)(h:
 fzM m [slice aO aJ aY,slice aP aK bE,slice aR aQ aW,slice aS aT aU,bool aA] λb m'=>∃R_1,True/\CX pG 112 (.mk [slice aS aT aU]) m' [] R_1/\Zdv (.agg [.int u64,.int u64,
 .int u64,.int u64,.int u64,.int u64,.int u64]) R_1/\∀n n_1 n_2 n_3 n_4 n_5 n_6 m'_1,lV [int u64 n,int u64 n_1,int u64 n_2,int u64 n_3,int u64 n_4,int u64 n_5,int u64 n_6] λxL=>m'.le m'_1->R_1 (agg (.mk xL)) m'_1
 []->fzM m'_1 xL λb_1 m'=>kB pG 113 [slice p1a p1n p1c,func (Fn.func 114) (Array.mk []) (Array.mk [Value.pointer (some (Addr.mk b 0 none)),Value.pointer (some (Addr.mk b_1 0 none))])] m' λb m'=>rtM m m' R (bool b)):CX Try.prog 68 #[.agg #[.slice aO aJ aY,.slice aP aK bE,.slice aR aQ aW,.slice aS aT aU,.bool aA],.slice p1a p1n p1c] m [] R:=
 Zaj (E:=ZiR) ZaB mix Try.func68 [.v (.agg #[.slice aO aJ aY,.slice aP aK bE,.slice aR aQ aW,.slice aS aT aU,.bool aA]),.v (.slice p1a p1n p1c)] [] (by kernel_rfl) (Eq.mp (by kernel_rfl) h)
def Zmc:Env:={ EB with
 frzNew:=[2] }
theorem Zkh(aO:Option Addr)(aJ aY:Nat)(aP:Option Addr)(aK bE:Nat)(aR:Option Addr)(aQ aW:Nat)(aS:Option Addr)(aT aU:Nat)(aA:Bool)(p1a:Option Addr)(p1n p1c:Nat)(m:Mem)(R:RT)(h:
 lV [slice aO aJ aY,slice aP aK bE,slice aR aQ aW,slice aS aT aU,bool aA] λxL=>fzM m xL λb m'=>kB pG 21 [agg (.mk xL)] m' λb m'=>br (!b) (rtM m m' R (int i64 171)) (kB pG 70
 [slice p1a p1n p1c,int i64 (-1),int i64 (i64.wrap ((↑aJ:Int) - (1:Int)))] m' λb m'=>br (!b) (rtM m m' R (int i64 172)) (rtM m m' R (int i64 0)))):CX Try.prog 78 #[.agg #[.slice aO aJ aY,.slice aP aK bE,.slice aR aQ aW,.slice aS aT aU,.bool aA],.slice p1a p1n p1c] m [] R:=
 Zaj (E:=Zmc) ZaB mix Try.func78 [.v (.agg #[.slice aO aJ aY,.slice aP aK bE,.slice aR aQ aW,.slice aS aT aU,.bool aA]),.v (.slice p1a p1n p1c)] [] (by kernel_rfl) (Eq.mp (by kernel_rfl) h)
def Znt:Env:={ EB with
 loops:=swI nLa [(3,⟨[(15,.int .i64)],[7],[],false⟩),(9,⟨[(30,.int .i64)],[7],[],false⟩)]
 frzNew:=[3]
 frzAt:=swI [] [(45,[7])] }
theorem Zmd(aO:Option Addr)(aJ aY:Nat)(aP:Option Addr)(aK bE:Nat)(aR:Option Addr)(aQ aW:Nat)(aS:Option Addr)(aT aU:Nat)(aA:Bool)(p1a:Option Addr)(p1n p1c:Nat)(p2:Int)(m:Mem)(R:RT)(h:
 lV [slice aO aJ aY,slice aP aK bE,slice aR aQ aW,slice aS aT aU,bool aA] λxL=>fzM m xL λb m'=>∀(af:Nat),∃I,lX (Value.pointer (some (Addr.mk af 0 none))) λyL=>lE [some
 (Box.mk af [] 100 7 false true),some (Box.mk b xL 26 5 true true)] λxL=>inI I [int i64 0] [[int u64 0,int u64 0,int u64 0,int u64 0,int u64 0,int u64 0,int u64 0]] [] m'/\∀(n:Int)(cs:List Value) aa (ak:Nat),
 lV [int i64 (i64.wrap (n+1))] λal=>m'.le aa->I [int i64 n] [cs] [] aa ak->br (decide (n < (↑p1n:Int))) (atA p1a λb o=>Zaf n p1n/\∃(v:Value),aa b (o+Int.toNat n*1)=some v/\chk (Zbw i64 v&&decide
 (i64=i64)) (br (!RowKit.intOf v == (-1)) (chk (Za9 v) (atA aP λb o=>Zaf (RowKit.intOf v) aK/\∃(ab:Value),aa b (o+Int.toNat (RowKit.intOf v)*1)=some ab/\chk (ZdK ab) (∃ac,inI ac [int i64 0] [cs]
 [] aa/\∀(n:Int)(cs:List Value) m' (ad:Nat),lV [int i64 (i64.wrap (n+1))] λag=>aa.le m'->ac [int i64 n] [cs] [] m' ad->br (decide (n < (↑(slN ab):Int))) (chk (ZdK ab) (atA (slA ab) λb o=>Zaf n (slN
 ab)/\∃(v:Value),m' b (o+Int.toNat n*1)=some v/\chk (Za9 v) (atA aO λb o=>Zaf (RowKit.intOf v) aJ/\∃ah ai aj am:Value,m'.reads b (o+Int.toNat (RowKit.intOf v)*4) [ah,ai,aj,am]/\kB pG 117
 [agg (.mk [ah,ai,aj,am]),int u8 p2] m' λb m'=>br b (∃R,True/\CX pG 116 (.mk [yL,v]) m' [Box.mk af cs 100 7 false true] R/\Zdv (.tup []) R/\∀ae,m'.le ae->∀(cs:List Value),R (tuple (.mk [])) ae [cs]->Zac
 xL/\nxI ad ac ag [cs] [] ae) (Zac xL/\nxI ad ac ag [cs] [] m')))) (Zac xL/\nxI ak I al [cs] [] m')))) (∃ac,inI ac [int i64 0] [cs] [] aa/\∀(n:Int)(cs:List Value) m' (ad:Nat),lV [int i64 (i64.wrap (n+1))] fun
 ag=>aa.le m'->ac [int i64 n] [cs] [] m' ad->br (decide (n < (↑aQ:Int))) (atA aR λb o=>Zaf n aQ/\∃(v:Value),m' b (o+Int.toNat n*1)=some v/\chk (Za9 v) (atA aO λb o=>Zaf
 (RowKit.intOf v) aJ/\∃ab ah ai aj:Value,m'.reads b (o+Int.toNat (RowKit.intOf v)*4) [ab,ah,ai,aj]/\kB pG 117 [agg (.mk [ab,ah,ai,aj]),int u8 p2] m' λb m'=>br b (∃R,True/\CX pG 116 (.mk [yL,v]) m'
 [Box.mk af cs 100 7 false true] R/\Zdv (.tup []) R/\∀ae,m'.le ae->∀(cs:List Value),R (tuple (.mk [])) ae [cs]->Zac xL/\nxI ad ac ag [cs] [] ae) (Zac xL/\nxI ad ac ag [cs] [] m'))) (Zac xL/\nxI ak I al [cs]
 [] m')))) (∀m',aa.le m'->m'.reads af 0 cs->kS pG 62 [yL] m' λa n c m'=>rtM m m' R (slice a n c))):CX Try.prog 79 #[.agg #[.slice aO aJ aY,.slice aP aK bE,.slice aR aQ aW,.slice aS aT aU,.bool aA],.slice p1a p1n p1c,.int .u8 p2] m [] R:=
 Zaj (E:=Znt) ZaB mix Try.func79 [.v (.agg #[.slice aO aJ aY,.slice aP aK bE,.slice aR aQ aW,.slice aS aT aU,.bool aA]),.v (.slice p1a p1n p1c),.v (.int .u8 p2)] [] (by kernel_rfl) (Eq.mp (by kernel_rfl) h)
def Znu:Env:={ EB with
 frzNew:=[3] }
theorem Zme(aO:Option Addr)(aJ aY:Nat)(aP:Option Addr)(aK bE:Nat)(aR:Option Addr)(aQ aW:Nat)(aS:Option Addr)(aT aU:Nat)(aA:Bool)(p1a:Option Addr)(p1n p1c:Nat)(p2:Int)(m:Mem)(R:RT)(h:
 lV [slice aO aJ aY,slice aP aK bE,slice aR aQ aW,slice aS aT aU,bool aA] λxL=>fzM m xL λb m'=>kI pG 78 [agg (.mk xL),slice p1a p1n p1c] m' λn m'=>br (!n == 0) (rtM m m' R
 (tuple (.mk [slice none 0 0,int i64 n]))) (kS pG 79 [agg (.mk xL),slice p1a p1n p1c,int u8 p2] m' λa n c m'=>rtM m m' R (tuple (.mk [slice a n c,int i64 0])))):CX Try.prog 27 #[.agg #[.slice aO aJ aY,.slice aP aK bE,.slice aR aQ aW,.slice aS aT aU,.bool aA],.slice p1a p1n p1c,.int .u8 p2] m [] R:=
 Zaj (E:=Znu) ZaB mix Try.func27 [.v (.agg #[.slice aO aJ aY,.slice aP aK bE,.slice aR aQ aW,.slice aS aT aU,.bool aA]),.v (.slice p1a p1n p1c),.v (.int .u8 p2)] [] (by kernel_rfl) (Eq.mp (by kernel_rfl) h)
def ZpL:Env:={ EB with
 loops:=swI nLa [(8,⟨[(9,.slice),(26,.int .i64)],[100000],[(38,1),(900,1)],false⟩)]
 tokOf:=swI 0 [(38,38)]
 borrow:=swI [] [(23,[100000]),(43,[100000])]
 frzNew:=[4]
 thaw:=true
 tails:=true
 lentC:=swI none [(23,some [(900,1)]),(43,some [(900,1)])] }
theorem Zmf(aO:Option Addr)(aJ aY:Nat)(aP:Option Addr)(aK bE:Nat)(aR:Option Addr)(aQ aW:Nat)(aS:Option Addr)(aT aU:Nat)(aA:Bool)(p1a:Option Addr)(p1n p1c:Nat)(p2:Bool)(p3g:Nat)(p3fi p3ca:List Value)(ca:Option Addr)(cn cc cb:Nat)(t0a:Option Addr)(t0n t0c:Nat)(m:Mem)(Y:Nat->Prop)(R:RTY)(h:
 lX (slice t0a t0n t0c) λyL=>lM (Mem.off m Y) λmL=>lV [slice ca cn cc] λxL=>lE [Tok.mk yL 1] λaq=>lE [some (Box.mk cb [] 24 1 false true)] λax=>lE (Box.mk cb xL 24 1 false true) λah=>lV [slice aO
 aJ aY,slice aP aK bE,slice aR aQ aW,slice aS aT aU,bool aA] λan=>fzM m an λb m'=>lE (some (Box.mk b an 26 5 true true)::ax) λay=>m.free b->(∀(b' o:Nat)(u:Value),m' b'
 o=some u->m b' o=some u\/b'=b)->kB pG 21 [agg (.mk an)] m' λaz m'=>br (!az) (ah=ah/\R (int i64 171) m' [xL] [yL]) (br (decide ((↑p1n:Int) > 4096)) (ah=ah/\R (int i64 3) m' [xL] [yL]) (∀(af:Nat),lX (slice
 (some (Addr.mk af 0 none)) 1 1) λyL=>lM (m'.add af [int i64 (-1)]) λaj=>lE (some (Box.mk af [int i64 (-1)] 3 1 true true)::ay) λxL=>m'.free af->∃(Y:Nat->Prop),∃(R_1:Value->Mem->List (List Value)->List
 Value->Prop),CXY pG p3g (Array.mk (List.append (List.append p3fi [int i64 0,yL]) p3ca)) aj Y [ah] aq R_1/\(∀(t:Tok),t∈aq->∀(b:Nat),Tok.blk t=some b->Y b)/\(∀(ag:Nat),Y ag->(∃(t:Tok),t∈aq/\Tok.blk t =
 some ag)\/mL.free ag/\(∃(o:Nat),∃(v:Value),aj ag o=some v)/\af≠ag/\b≠ag/\True)/\(∀(v:Value)(m':Mem) (css:List (List Value)) (tvs:List Value),R_1 v m' css tvs->Shape.fits (.tup []) v=true)/\∀(m'
 : Mem),Mem.le (Mem.off aj Y) m'->(∀(b o:Nat)(u:Value),m' b o=some u->aj b o=some u\/Y b\/aj.free b)->∀(cs:List Value) a c d,R_1 (tuple (.mk [])) m' [cs] [slice a c d]->∃I,inI I [yL,int i64 0] [cs] [slice
 none 0 0,slice a c d] m'/\∀a n c (ak:Int) (cs:List Value) a0 a1 a2 a3 a4 a5 (m':Mem) (ao:Nat),lX (slice a3 a4 a5) λyL=>lX (slice a0 a1 a2) λal=>lE (Tok.blk (Tok.mk al 1)) λar=>lE [Box.mk cb cs 24 1 false
 true] λau=>lX (int i64 (i64.wrap (ak+1))) λai=>lE [Tok.mk yL 1] λac=>True->I [slice a n c,int i64 ak] [cs] [al,yL] m' ao->br (decide (ak < (↑p1n:Int))) (atA p1a λag o=>Zaf ak p1n/\∃(v:Value),m'
 ag (o+Int.toNat ak*1)=some v/\kS pG 79 [agg (.mk an),slice a n c,v] m' λa n c m'=>lE (1+n) λyL=>br p2 (∀(ab:Nat),lX (slice (some (Addr.mk ab 0 none)) 1 1) λap=>lM (m'.add ab [int i64 (-1)]) λad=>
 m'.free ab->br (Nat.beq n 0) (∃(Y:Nat->Prop),∃(R:Value->Mem->List (List Value)->List Value->Prop),CXY pG p3g (Array.mk (List.append (List.append p3fi [ai,ap]) p3ca)) ad Y au ac R/\(∀(t:Tok),t∈ac->∀(b:
 Nat),Tok.blk t=some b->Y b)/\(∀(aa:Nat),Y aa->(∃(t:Tok),t∈ac/\Tok.blk t=some aa)\/mL.free aa/\(∃(o:Nat),∃(v:Value),ad aa o=some v)/\ab≠aa/\af≠aa/\b≠aa/\ar≠some aa/\ar≠some aa/\True)/\
 (∀(v:Value)(m':Mem) (css:List (List Value)) (tvs:List Value),R v m' css tvs->Shape.fits (.tup []) v=true)/\∀(m':Mem),Mem.le (Mem.off ad Y) m'->(∀(b o:Nat)(u:Value),m' b o=some u->ad b o=some u\/Y b
 \/ ad.free b)->∀(cs:List Value) a c d,R (tuple (.mk [])) m' [cs] [slice a c d]->Zac xL/\([none,none]:List (Option Tok))=[none,none]/\nxI ao I [ap,ai] [cs] [al,slice a c d] m') (((∃a,∃n,∃c,∃(k:Nat),
 Tok.mk al 1=Tok.mk (slice a n c) 1/\k<=n/\ap=slice (Zbq a k c 1) (n - k) (c - k))\/ap=slice none 0 0\/1 < yL)/\∃(xs:List Value),∃(ys:List Value),xs.length=1*1/\ys.length=n*1/\rowRd ad (some
 (Addr.mk ab 0 none)) xs/\rowRd ad a ys/\(∀(u:Value),u∈ys->u.oneCell'=true)/\yL*8<=140737488355328/\yL<=9223372036854775807/\∀a' c' m',lX (slice a' yL c') λam=>ad.le m'->rowRd m' a' (List.append xs ys)->
 TokFact ad (some (Addr.mk ab 0 none)) a' yL c'->∃(Y:Nat->Prop),∃(R:Value->Mem->List (List Value)->List Value->Prop),CXY pG p3g (Array.mk (List.append (List.append p3fi [ai,am]) p3ca)) m' Y au ac R/\(∀(t:Tok),t
 ∈ ac->∀(b:Nat),Tok.blk t=some b->Y b)/\(∀(aa:Nat),Y aa->(∃(t:Tok),t∈ac/\Tok.blk t=some aa)\/mL.free aa/\(∃(o:Nat),∃(v:Value),m' aa o=some v)/\ab≠aa/\af≠aa/\b≠aa/\Tok.blk (Tok.mk am 1) ≠
 some aa/\Tok.blk (Tok.mk am 1)≠some aa/\True)/\(∀(v:Value)(m':Mem) (css:List (List Value)) (tvs:List Value),R v m' css tvs->Shape.fits (.tup []) v=true)/\∀(ae:Mem),Mem.le (Mem.off m' Y) ae->(∀(b o:Nat)
 (u:Value),ae b o=some u->m' b o=some u\/Y b\/m'.free b)->∀(cs:List Value) a c d,R (tuple (.mk [])) ae [cs] [slice a c d]->Zac xL/\([none,none]:List (Option Tok))=[none,none]/\nxI ao I [am,ai] [cs] [am,
 slice a c d] ae)) (∃(Y:Nat->Prop),∃(R:Value->Mem->List (List Value)->List Value->Prop),CXY pG p3g (Array.mk (List.append (List.append p3fi [ai,slice a n c]) p3ca)) m' Y au ac R/\(∀(t:Tok),t∈ac->∀(b:Nat),
 Tok.blk t=some b->Y b)/\(∀(ab:Nat),Y ab->(∃(t:Tok),t∈ac/\Tok.blk t=some ab)\/mL.free ab/\(∃(o:Nat),∃(v:Value),m' ab o=some v)/\af≠ab/\b≠ab/\ar≠some ab/\True)/\(∀(v:Value)(m':Mem) (css
 : List (List Value)) (tvs:List Value),R v m' css tvs->Shape.fits (.tup []) v=true)/\∀(ae:Mem),Mem.le (Mem.off m' Y) ae->(∀(b o:Nat)(u:Value),ae b o=some u->m' b o=some u\/Y b\/m'.free b)->∀(cs:List
 Value) av aw d,R (tuple (.mk [])) ae [cs] [slice av aw d]->Zac xL/\([none,none]:List (Option Tok))=[none,none]/\nxI ao I [slice a n c,ai] [cs] [al,slice av aw d] ae)) (ah=ah/\R (int i64 0) m' [cs] [yL])))):CXY Try.prog 80 #[.agg #[.slice aO aJ aY,.slice aP aK bE,.slice aR aQ aW,.slice aS aT aU,.bool aA],.slice p1a p1n p1c,.bool p2,.func (.func p3g) p3fi.toArray p3ca.toArray] m Y [⟨cb,[.slice ca cn cc],24,1,false,true⟩] [⟨.slice t0a t0n t0c,1⟩] R:=
 ZaK (E:=ZpL) ZaB mix Try.func80 [.v (.agg #[.slice aO aJ aY,.slice aP aK bE,.slice aR aQ aW,.slice aS aT aU,.bool aA]),.v (.slice p1a p1n p1c),.v (.bool p2),.v (.func (.func p3g) p3fi.toArray p3ca.toArray)] [⟨cb,[.slice ca cn cc],24,1,false,true⟩] [900] [⟨.slice t0a t0n t0c,1⟩] (by decide) (by kernel_rfl) (Eq.mp (by kernel_rfl) h)
def Zmg:Env:={ EB with
 thaw:=true }
theorem ZiS(p0:Int)(p1a:Option Addr)(p1n p1c c0b:Nat)(c0_0a:Option Addr)(c0_0n c0_0c:Nat)(t0a:Option Addr)(t0n t0c:Nat)(m:Mem)(Y:Nat->Prop)(R:RTY)(h:
 lE (Box.mk c0b [slice c0_0a c0_0n c0_0c] 24 1 false true) λyL=>yL=yL/\R (tuple (.mk [])) m [[slice p1a p1n p1c]] [slice t0a t0n t0c]):CXY Try.prog 81 #[.int .i64 p0,.slice p1a p1n p1c,.pointer (some ⟨c0b,0,none⟩)] m Y [⟨c0b,[.slice c0_0a c0_0n c0_0c],24,1,false,true⟩] [⟨.slice t0a t0n t0c,1⟩] R:=
 ZaK (E:=Zmg) ZaB mix Try.func81 [.v (.int .i64 p0),.v (.slice p1a p1n p1c),.loc 100000 0] [⟨c0b,[.slice c0_0a c0_0n c0_0c],24,1,false,true⟩] [900] [⟨.slice t0a t0n t0c,1⟩] (by decide) (by kernel_rfl) (Eq.mp (by kernel_rfl) h)
def ZpM:Env:={ EB with
 borrow:=swI [] [(11,[6])]
 frzNew:=[2]
 thaw:=true
 lentC:=swI none [(11,some [(900,1)])] }
theorem Znv(aO:Option Addr)(aJ aY:Nat)(aP:Option Addr)(aK bE:Nat)(aR:Option Addr)(aQ aW:Nat)(aS:Option Addr)(aT aU:Nat)(aA:Bool)(p1a:Option Addr)(p1n p1c:Nat)(m:Mem)(R:RT)(h:
 lV [slice aO aJ aY,slice aP aK bE,slice aR aQ aW,slice aS aT aU,bool aA] λxL=>fzM m xL λb m'=>m.free b->(∀(b' o:Nat)(u:Value),m' b' o=some u->m b' o=some u\/b'=b)
 -> ∀(b_1:Nat),∃(Y:Nat->Prop),∃(R_1:Value->Mem->List (List Value)->List Value->Prop),CXY pG 80 (.mk [agg (.mk xL),slice p1a p1n p1c,bool false,func (Fn.func 81) (Array.mk []) (Array.mk [Value.pointer (some
 (Addr.mk b_1 0 none))])]) m' Y [Box.mk b_1 [slice none 0 0] 24 1 false true] [Tok.mk (slice none 0 0) 1] R_1/\(∀(t:Tok),t∈[Tok.mk (slice none 0 0) 1]->∀(b:Nat),Tok.blk t=some b->Y b)/\(∀(b_2:Nat),Y b_2->(∃(t
 : Tok),t∈[Tok.mk (slice none 0 0) 1]/\Tok.blk t=some b_2)\/m.free b_2/\(∃(o:Nat),∃(v:Value),m' b_2 o=some v)/\b≠b_2/\True)/\(∀(v:Value)(m':Mem) (css:List (List Value)) (tvs:List Value),R_1 v m'
 css tvs->Shape.fits (.int i64) v=true)/\∀n (m'_1:Mem),Mem.le (Mem.off m' Y) m'_1->(∀(b o:Nat)(u:Value),m'_1 b o=some u->m' b o=some u\/Y b\/m'.free b)->∀(cs:List Value) a c d,R_1 (int i64 n) m'_1 [cs]
 [slice a c d]->Eng.Zp3 cs 0 λv=>rtM m m'_1 R (tuple (.mk [v,int i64 n]))):CX Try.prog 29 #[.agg #[.slice aO aJ aY,.slice aP aK bE,.slice aR aQ aW,.slice aS aT aU,.bool aA],.slice p1a p1n p1c] m [] R:=
 Zaj (E:=ZpM) ZaB mix Try.func29 [.v (.agg #[.slice aO aJ aY,.slice aP aK bE,.slice aR aQ aW,.slice aS aT aU,.bool aA]),.v (.slice p1a p1n p1c)] [] (by kernel_rfl) (Eq.mp (by kernel_rfl) h)
def Zho:Env:={ EB with
 tokOf:=swI 0 [(12,900)]
 thaw:=true }
theorem ZfK(p0:Int)(p1a:Option Addr)(p1n p1c c0b c0o c1b:Nat)(c1_0a:Option Addr)(c1_0n c1_0c:Nat)(t0a:Option Addr)(t0n t0c:Nat)(m:Mem)(Y:Nat->Prop)(R:RTY)(h:
 ∃v v_1 v_2 v_3 v_4:Value,lX (slice c1_0a c1_0n c1_0c) λyL=>lV [int i64 p0] λxL=>lE (c1_0n+1) λyL_1=>lE (Box.mk c1b [yL] 24 1 false true) λyL_2=>m.reads c0b c0o [v,v_1,v_2,v_3,v_4]/\kB pG 68 [agg (.mk
 [v,v_1,v_2,v_3,v_4]),slice p1a p1n p1c] m λb m'=>br b (∀b,lM (m'.add b xL) λmL=>m'.free b->(Tok.mk (slice t0a t0n t0c) 1=Tok.mk yL 1\/yL=slice none 0 0\/c1_0c < yL_1)/\∃(xs:List Value),∃(ys:List
 Value),xs.length=c1_0n*1/\ys.length=1*1/\rowRd mL c1_0a xs/\rowRd mL (some (Addr.mk b 0 none)) ys/\(∀(u:Value),u∈ys->u.oneCell'=true)/\yL_1*8<=140737488355328/\yL_1<=9223372036854775807/\∀(a':Option
 Addr) (c':Nat) m',mL.le m'->rowRd m' a' (List.append xs ys)->TokFact mL c1_0a a' yL_1 c'->yL_2=yL_2/\R (tuple (.mk [])) m' [[slice a' yL_1 c']] [slice a' yL_1 c']) (yL_2=yL_2/\R (tuple (.mk [])) m' [[yL]] [slice t0a
 t0n t0c])):CXY Try.prog 82 #[.int .i64 p0,.slice p1a p1n p1c,.pointer (some ⟨c0b,c0o,none⟩),.pointer (some ⟨c1b,0,none⟩)] m Y [⟨c1b,[.slice c1_0a c1_0n c1_0c],24,1,false,true⟩] [⟨.slice t0a t0n t0c,1⟩] R:=
 ZaK (E:=Zho) ZaB mix Try.func82 [.v (.int .i64 p0),.v (.slice p1a p1n p1c),.v (.pointer (some ⟨c0b,c0o,none⟩)),.loc 100000 0] [⟨c1b,[.slice c1_0a c1_0n c1_0c],24,1,false,true⟩] [900] [⟨.slice t0a t0n t0c,1⟩] (by decide) (by kernel_rfl) (Eq.mp (by kernel_rfl) h)
def Zki:Env:={ EB with
 borrow:=swI [] [(11,[6])]
 frzNew:=[2]
 thaw:=true
 lentC:=swI none [(11,some [(900,1)])] }
theorem ZiT(aO:Option Addr)(aJ aY:Nat)(aP:Option Addr)(aK bE:Nat)(aR:Option Addr)(aQ aW:Nat)(aS:Option Addr)(aT aU:Nat)(aA:Bool)(p1a:Option Addr)(p1n p1c:Nat)(m:Mem)(R:RT)(h:
 lV [slice aO aJ aY,slice aP aK bE,slice aR aQ aW,slice aS aT aU,bool aA] λxL=>fzM m xL λb m'=>m.free b->(∀(b' o:Nat)(u:Value),m' b' o=some u->m b' o=some u\/b'=b)
 -> ∀(b_1:Nat),∃(Y:Nat->Prop),∃(R_1:Value->Mem->List (List Value)->List Value->Prop),CXY pG 80 (.mk [agg (.mk xL),slice p1a p1n p1c,bool true,func (Fn.func 82) (Array.mk []) (Array.mk [Value.pointer (some
 (Addr.mk b 0 none)),Value.pointer (some (Addr.mk b_1 0 none))])]) m' Y [Box.mk b_1 [slice none 0 0] 24 1 false true] [Tok.mk (slice none 0 0) 1] R_1/\(∀(t:Tok),t∈[Tok.mk (slice none 0 0) 1]->∀(b:Nat),Tok.blk t=some
 b->Y b)/\(∀(b_2:Nat),Y b_2->(∃(t:Tok),t∈[Tok.mk (slice none 0 0) 1]/\Tok.blk t=some b_2)\/m.free b_2/\(∃(o:Nat),∃(v:Value),m' b_2 o=some v)/\b≠b_2/\True)/\(∀(v:Value)(m':Mem) (css:List
 (List Value)) (tvs:List Value),R_1 v m' css tvs->Shape.fits (.int i64) v=true)/\∀n (m'_1:Mem),Mem.le (Mem.off m' Y) m'_1->(∀(b o:Nat)(u:Value),m'_1 b o=some u->m' b o=some u\/Y b\/m'.free b)->∀(cs:
 List Value) a c d,R_1 (int i64 n) m'_1 [cs] [slice a c d]->Eng.Zp3 cs 0 λv=>rtM m m'_1 R (tuple (.mk [v,int i64 n]))):CX Try.prog 30 #[.agg #[.slice aO aJ aY,.slice aP aK bE,.slice aR aQ aW,.slice aS aT aU,.bool aA],.slice p1a p1n p1c] m [] R:=
 Zaj (E:=Zki) ZaB mix Try.func30 [.v (.agg #[.slice aO aJ aY,.slice aP aK bE,.slice aR aQ aW,.slice aS aT aU,.bool aA]),.v (.slice p1a p1n p1c)] [] (by kernel_rfl) (Eq.mp (by kernel_rfl) h)
def ZiU:Env:={ EB with
 joins:=swI none [(2,some [(4,.bool),(5,.int .i64)])]
 frzNew:=[2] }
theorem Zhp(aO:Option Addr)(aJ aY:Nat)(aP:Option Addr)(aK bE:Nat)(aR:Option Addr)(aQ aW:Nat)(aS:Option Addr)(aT aU:Nat)(aA:Bool)(p1a:Option Addr)(p1n p1c:Nat)(m:Mem)(R:RT)(h:
 lV [slice aO aJ aY,slice aP aK bE,slice aR aQ aW,slice aS aT aU,bool aA] λxL=>fzM m xL λb m'=>∃R_1,lE [some (Box.mk b xL 26 5 true true)] λxL_1=>True/\CX pG 29 (.mk [agg
 (.mk xL),slice p1a p1n p1c]) m' [] R_1/\Zdv (.tup [.slice,.int i64]) R_1/\∀a n c n_1 m'_1,lV [int i64 n_1] λxL_2=>m'.le m'_1->R_1 (tuple (.mk (slice a n c::xL_2))) m'_1 []->∃(b:Bool),∃n_2,lV [bool b,int i64
 n_2] λxL_3=>br (n_1 == 0) (kB pG 68 [agg (.mk xL),slice a n c] m'_1 λb m'=>Zac xL_1/\bool b::xL_2=xL_3) (Zac xL_1/\bool false::xL_2=xL_3)/\rtM m m'_1 R (tuple (.mk xL_3))):CX Try.prog 18 #[.agg #[.slice aO aJ aY,.slice aP aK bE,.slice aR aQ aW,.slice aS aT aU,.bool aA],.slice p1a p1n p1c] m [] R:=
 Zaj (E:=ZiU) ZaB mix Try.func18 [.v (.agg #[.slice aO aJ aY,.slice aP aK bE,.slice aR aQ aW,.slice aS aT aU,.bool aA]),.v (.slice p1a p1n p1c)] [] (by kernel_rfl) (Eq.mp (by kernel_rfl) h)
end Go.Proofs.Ytplacemlpkhmfaa
end
