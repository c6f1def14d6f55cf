/- Part of the proof: functions of the program. No condition. -/
import Derived.Test.YtpjepnkiiojgfaaGreatPEnv
import Derived.Test.YtpjepnkiiojgfaaGreatMc
import Derived.Test.YtpjepnkiiojgfaaGreatPC25AT
import Derived.Test.YtpjepnkiiojgfaaGreatPVM
set_option linter.unusedVariables false
set_option linter.unusedSimpArgs false
set_option linter.unusedSectionVars false
noncomputable section
namespace Go.Proofs.YtpjepnkiiojgfaaGreat
open Go Go.Eng Go.Proofs Go.RowKit
open Go.Value (int slice agg bool string tuple func)
open Go.IntKind (u8 u64 i64)
set_option maxRecDepth 100000
def ZjY:Env:={ EB with
 loops:=swI nLa [(5,⟨[(15,.int .i64)],[],[],false⟩)]
 frzNew:=[1]
 frzAt:=swI [] [(37,[3])]
 thaw:=true
 kF:=true }
theorem Zh7(aA:Int)(aY:Option Addr)(aT bF:Nat)(aO:Option Addr)(aI aW:Nat)(m:Mem)(R:RT)(h:
 lV [int i64 aA,slice aY aT bF,slice aO aI aW] λxL=>fzM m xL λb m'=>lE [some (Box.mk b xL 32 3 true true)] λxL_1=>m.free b->(∀(b' o:Nat)(u:Value),m' b' o=some u->m b' o=some u\/b'
 = b)->Mem.k m b=none->kB pG 19 [agg (.mk xL)] m' λb m'=>br (!b) (rtM m m' R (slice none 0 0)) (∀(b:Nat),lX (Value.map (some b)) λyL=>m'.free b->Mem.k m' b=none->∀b_1,∃I,lE (some (Box.mk b_1 [yL] 146 1
 false true)::xL_1) λxL=>inI I [int i64 0] [] [] (Mem.updK m' b [])/\∀(n:Int)(m':Mem)(n_1:Nat),lV [int i64 (i64.wrap (n+1))] λxL_2=>True->I [int i64 n] [] [] m' n_1->br (decide (n < (↑aI:Int))) (atA
 aO λb o=>Zae n aI/\∃v v_1:Value,m'.reads b (o+Int.toNat n*2) [v,v_1]/\∀(b:Nat),chk (v.oneCell'&&(v_1.oneCell'&&true)) (∃(b:Nat),∃(es:List (Value×Value)),∃(v_2:Value),∃(o:Bool),yL
 = Value.map (some b)/\Mem.k m' b=some es/\ZtF pG 9 v/\LookIs pG 9 v es (int i64 0) v_2 o/\br (!o) (∃(b:Nat),∃(es:List (Value×Value)),∃(es':List (Value×Value)),yL=Value.map (some b)/\Mem.k m' b=some es
 /\ ZtF pG 9 v/\ZiR pG 9 v (int i64 n) es es'/\Mem.k m b=none/\Zac xL/\nxI n_1 I xL_2 [] [] (Mem.updK m' b es')) (Zac xL/\nxI n_1 I xL_2 [] [] m'))) (∀m'_1,m'.le m'_1->m'_1.reads b_1 0 [yL]->kS pG 77 [slice
 aO aI aW,func (Fn.func 78) (Array.mk []) (Array.mk [Value.pointer (some (Addr.mk b_1 0 none))])] m'_1 λa n c m'=>rtM m m' R (slice a n c)))):CX Tryz.prog 32 #[.agg #[.int .i64 aA,.slice aY aT bF,.slice aO aI aW]] m [] R:=
 Zad (E:=ZjY) Zap mix Tryz.func32 (by kernel_rfl) (Eq.mp (by kernel_rfl) h)
def Zhc:Env:={ EB with
 loops:=swI nLa [(3,⟨[(4,.slice),(12,.int .i64)],[],[(32,1)],false⟩)]
 joins:=swI none [(6,some [(28,.bool)])]
 tokOf:=swI 0 [(32,32)]
 frzNew:=[2]
 thaw:=true
 lentC:=swI none [(35,some [(32,1)]),(37,some [(32,1)])] }
theorem Zf9(aA:ByteArray)(aY:Option Addr)(aT bF c0b c0o:Nat)(m:Mem)(R:RT)(h:
 lV [string aA,slice aY aT bF] λxL=>fzM m xL λb m'=>lE [some (Box.mk b xL 36 2 true true)] λxL=>m.free b->(∀(b' o:Nat)(u:Value),m' b' o=some u->m b' o=some u\/b'=b)->∃I,inI I [slice
 none 0 0,int i64 0] [] [slice none 0 0] m'/\∀a (n:Nat) c (af:Int) a3 a4 a5 (m':Mem) (ai:Nat),lX (slice a3 a4 a5) λyL=>lE (Tok.mk yL 1) λag=>lE [some ag] λah=>lV [int i64 (i64.wrap (af+1))] λak=>lE
 (n+1) λac=>lX (slice a n c) λad=>True->I [ad,int i64 af] [] [yL] m' ai->br (decide (af < (↑aT:Int))) (atA aY λb o=>Zae af aT/\∃v al am an ao ap aq ar au av aw ax ay az ae a0:Value,lV [v,al,
 am,an,ao,ap,aq,ar,au,av,aw,ax,ay,az,ae,a0] λa1=>m'.reads b (o+Int.toNat af*16) a1/\∀b,lE (some (Box.mk b a1 47 16 false true)::xL) λa2=>chk (v.oneCell'&&(al.oneCell'&&(am.oneCell' &&
 (an.oneCell'&&(ao.oneCell'&&(ap.oneCell'&&(aq.oneCell'&&(ar.oneCell'&&(au.oneCell'&&(av.oneCell'&&(aw.oneCell'&&(ax.oneCell'&&(ay.oneCell'&&(az.oneCell'&&(ae.oneCell'&&(a0.oneCell'&&true))))))))))))))))
 (∃(v:Value),m' c0b c0o=some v/\∃(b:Nat),∃(es:List (Value×Value)),∃(aj:Value),∃(o:Bool),lV (List.append (Array.toList (Value.cells aj)) []) λa6=>v=Value.map (some b)/\Mem.k m' b=some es/\ZtF pG
 9 ae/\LookIs pG 9 ae es (int i64 0) aj o/\∃(b:Bool),br o (chk (ZiH ae&&true) (Zac a2/\ah=ah/\[bool !ByteArray.toList (Zcp ae) == ByteArray.toList bE0]=[bool b])) (Zac a2/\ah=ah/\[bool false]=[bool b])
 /\ br b (chk (Nat.beq (List.length (Array.toList (Value.cells aj))) 1&&true) (∀b,lM (m'.add b a6) λmL=>m'.free b->(ag=Tok.mk ad 1\/ad=slice none 0 0\/c < ac)/\∃(xs:List Value),∃(ys:List Value),xs.length=n
 * 1/\ys.length=1*1/\rowRd mL a xs/\rowRd mL (some (Addr.mk b 0 none)) ys/\(∀(u:Value),u∈ys->u.oneCell'=true)/\ac*8<=140737488355328/\ac<=9223372036854775807/\∀(a':Option Addr)(c':Nat) m',mL.le m'->
 rowRd m' a' (List.append xs ys)->TokFact mL a a' ac c'->Zac xL/\nxI ai I (slice a' ac c'::ak) [] [slice a' ac c'] m')) (Zac xL/\nxI ai I (ad::ak) [] [yL] m'))) (∃(Y:Nat->Prop),∃(R_1:Value->Mem->List (List
 Value)->List Value->Prop),CXY pG 36 (.mk [ad]) m' Y [] [ag] R_1/\(∀(t:Tok),t∈[ag]->∀(b:Nat),Tok.blk t=some b->Y b)/\(∀(aa:Nat),Y aa->(∃(t:Tok),t∈[ag]/\Tok.blk t=some aa)\/(m.free aa/\Mem.k m aa =
 none)/\((∃(o:Nat),∃(v:Value),m' aa o=some v)\/∃(e:List (Value×Value)),Mem.k m' aa=some e)/\b≠aa/\True)/\(∀(v:Value)(m':Mem) (css:List (List Value)) (tvs:List Value),R_1 v m' css tvs->Shape.fits
 (.tup []) v=true)/\∀(ab:Mem),Mem.le (Mem.off m' Y) ab->(NewM m' ab λb=>Y b\/m'.free b)->∀a c d,lE [Tok.mk (slice a c d) 1] λxL=>R_1 (tuple (.mk [])) ab [] [slice a c d]->∃(Y:Nat->Prop),∃(R_2:Value->
 Mem->List (List Value)->List Value->Prop),CXY pG 37 (.mk [ad]) ab Y [] xL R_2/\(∀(t:Tok),t∈xL->∀(b:Nat),Tok.blk t=some b->Y b)/\(∀(aa:Nat),Y aa->(∃(t:Tok),t∈xL/\Tok.blk t=some aa)\/(m.free aa/\
 Mem.k m aa=none)/\((∃(o:Nat),∃(v:Value),ab aa o=some v)\/∃(e:List (Value×Value)),Mem.k ab aa=some e)/\b≠aa/\True)/\(∀(v:Value)(m':Mem) (css:List (List Value)) (tvs:List Value),R_2 v m' css tvs
 -> Shape.fits .slice v=true)/\∀a n c (m':Mem),Mem.le (Mem.off ab Y) m'->(NewM ab m' λb=>Y b\/ab.free b)->∀a7 a8 d,R_2 (slice a n c) m' [] [slice a7 a8 d]->rtM m m' R (slice a n c))):CX Tryz.prog 78 #[.agg #[.string aA,.slice aY aT bF],.pointer (some ⟨c0b,c0o,none⟩)] m [] R:=
 Zad (E:=Zhc) Zap mix Tryz.func78 (by kernel_rfl) (Eq.mp (by kernel_rfl) h)
def ZcH:Env:={ EB with
 loops:=swI nLa [(3,⟨[(5,.slice),(10,.int .i64)],[],[(19,1)],false⟩)]
 tokOf:=swI 0 [(19,19)]
 thaw:=true }
theorem Zcs(p0a:Option Addr)(p0n p0c p1g:Nat)(p1fi p1ca:List Value)(m:Mem)(R:RT)(h:
 ∃I,inI I [slice none 0 0,int i64 0] [] [slice none 0 0] m/\∀a n c n_1 a_1 n_2 c_1 (m':Mem) (n_3:Nat),lX (slice a n c) λyL=>lE (n+1) λyL_1=>True->I [yL,int i64 n_1] [] [slice a_1 n_2 c_1] m' n_3->br (decide
 (n_1 < (↑p0n:Int))) (atA p0a λb o=>Zae n_1 p0n/\∃v v_1:Value,m'.reads b (o+Int.toNat n_1*2) [v,v_1]/\∀(b:Nat),chk (v.oneCell'&&(v_1.oneCell'&&true)) (kS pG p1g (List.append (List.append p1fi [agg (.mk
 [v,v_1])]) p1ca) m' λa_4 n_4 c_2 m'=>∀b,lM (m'.add b [slice a_4 n_4 c_2]) λmL=>m'.free b->(Tok.mk (slice a_1 n_2 c_1) 1=Tok.mk yL 1\/yL=slice none 0 0\/c < yL_1)/\∃(xs:List Value),∃(ys:List Value),
 xs.length=n*1/\ys.length=1*1/\rowRd mL a xs/\rowRd mL (some (Addr.mk b 0 none)) ys/\(∀(u:Value),u∈ys->u.oneCell'=true)/\yL_1*24<=140737488355328/\yL_1<=9223372036854775807/\∀(a':Option Addr) (c':
 Nat) m',mL.le m'->rowRd m' a' (List.append xs ys)->TokFact mL a a' yL_1 c'->nxI n_3 I [slice a' yL_1 c',int i64 (i64.wrap (n_1+1))] [] [slice a' yL_1 c'] m')) (rtM m m' R yL)):CX Tryz.prog 77 #[.slice p0a p0n p0c,.func (.func p1g) p1fi.toArray p1ca.toArray] m [] R:=
 Zad (E:=ZcH) Zap mix Tryz.func77 (by kernel_rfl) (Eq.mp (by kernel_rfl) h)
def Zl2:Env:={ EB with
 loops:=swI nLa [(1,⟨[(7,.int .i64)],[100000],[(18,1),(900,1)],false⟩)]
 tokOf:=swI 0 [(18,900)]
 thaw:=true }
theorem Zh8(p0a:Option Addr)(p0n p0c c0b:Nat)(c0_0a:Option Addr)(c0_0n c0_0c:Nat)(t0a:Option Addr)(t0n t0c:Nat)(m:Mem)(Y:Nat->Prop)(R:RTY)(h:
 ∃I,lE [some (Box.mk c0b [] 80 1 false true)] λxL=>lE (Box.mk c0b [slice c0_0a c0_0n c0_0c] 80 1 false true) λyL=>inI I [int i64 0] [[slice c0_0a c0_0n c0_0c]] [slice none 0 0,slice t0a t0n t0c] m/\∀(n:Int) (cs:
 List Value) a n_1 c a_1 n_2 c_1 (m':Mem) (n_3:Nat),lX (slice a n_1 c) λyL_1=>lV [int i64 (i64.wrap (n+1))] λxL_1=>lX (slice a_1 n_2 c_1) λyL_2=>True->I [int i64 n] [cs] [yL_1,yL_2] m' n_3->br (decide (n <
 (↑p0n:Int))) (atA p0a λb o=>Zae n p0n/\∃(v:Value),lV (List.append (Array.toList (Value.cells v)) []) λxL_2=>m' b (o+Int.toNat n*1)=some v/\Eng.Ztz cs 0 λv_1=>kB pG 29 [v_1,v] m' λb m'=>br
 (!b) (Eng.Ztz cs 0 λv_2=>lE (slN v_2+1) λyL=>chk (Nat.beq (List.length (Array.toList (Value.cells v))) 1&&true) (∀b,lM (m'.add b xL_2) λmL=>m'.free b->chk (ZbQ v_2&&true) ((Tok.mk yL_2 1=Tok.mk v_2 1\/
 v_2=slice none 0 0\/slC v_2 < yL)/\∃(xs:List Value),∃(ys:List Value),xs.length=slN v_2*1/\ys.length=1*1/\rowRd mL (slA v_2) xs/\rowRd mL (some (Addr.mk b 0 none)) ys/\(∀(u:Value),u∈ys->u.oneCell' =
 true)/\yL*16<=140737488355328/\yL<=9223372036854775807/\∀(a':Option Addr)(c':Nat) m',mL.le m'->rowRd m' a' (List.append xs ys)->TokFact mL (slA v_2) a' yL c'->Zac xL/\([none]:List (Option Tok))=[none]/\
 nxI n_3 I xL_1 [[slice a' yL c']] [yL_1,slice a' yL c'] m'))) (Zac xL/\([none]:List (Option Tok))=[none]/\nxI n_3 I xL_1 [cs] [yL_1,yL_2] m')) (yL=yL/\R (tuple (.mk [])) m' [cs] [yL_2])):CXY Tryz.prog 108 #[.slice p0a p0n p0c,.pointer (some ⟨c0b,0,none⟩)] m Y [⟨c0b,[.slice c0_0a c0_0n c0_0c],80,1,false,true⟩] [⟨.slice t0a t0n t0c,1⟩] R:=
 Zdd (E:=Zl2) Zap mix Tryz.func108 [.v (.slice p0a p0n p0c),.loc 100000 0] [⟨c0b,[.slice c0_0a c0_0n c0_0c],80,1,false,true⟩] [900] [⟨.slice t0a t0n t0c,1⟩] (by decide) (by kernel_rfl) (Eq.mp (by kernel_rfl) h)
def Zp4:Env:={ EB with
 loops:=swI nLa [(7,⟨[(18,.agg [.int .u8,.str,.slice,.int .u8,.any,.str,.int .i64,.slice])],[5],[(900,1)],false⟩),(13,⟨[(44,.int .i64)],[5],[(900,1)],false⟩)]
 joins:=swI none [(8,some [(27,.bool)])]
 dr:=swI [] [(11,[⟨0,[6],[],none,[],[]⟩,⟨1,[7],[],none,[],[]⟩,⟨2,[7],[],none,[1],[]⟩,dO 3 [1,2]]),(19,[⟨0,[6],[],none,[],[]⟩,⟨1,[9],[],none,[],[]⟩,⟨2,[9],[],none,[1],[]⟩,dO 3 [1,2]])]
 borrow:=swI [] [(32,[5]),(40,[5]),(56,[5]),(63,[5])]
 frzNew:=[2,3]
 last:=swI false [(11,true),(19,true)]
 lastK:=swI 1 [(11,1),(19,1)]
 thaw:=true
 cuts:=swI none [(12,some ⟨[],[5],[(900,1)],false⟩)]
 lentC:=swI none [(32,some [(900,1)]),(40,some [(900,1)]),(56,some [(900,1)]),(63,some [(900,1)])] }
theorem ZoM(aA:Int)(aD aF:Bool)(aE bA bB bC di dj dk:Int)(bY:Option Addr)(bZ cu:Nat)(cK:ByteArray)(cL:Int)(bQ:Option Addr)(bP cv:Nat)(cM:ByteArray)(cN:Int)(p1:Bool)(m:Mem)(R:RT)(h:
 lV [bool p1] λxL=>lV [int u8 aA,bool aD,bool aF,int u8 aE,int u64 bA,int u64 bB,int u64 bC,int u64 di,int i64 dj,int i64 dk,slice bY bZ cu,string cK,int i64 cL,slice bQ
 bP cv,string cM,int i64 cN] λan=>fzM m an λb m'=>lE [some (Box.mk b an 47 16 true true)] λbc=>m.free b->(∀(b' o:Nat)(u:Value),m' b' o=some u->m b' o=some u\/b'=b)->fzM m' xL λae
 aw=>lE (some (Box.mk ae xL 4 1 true true)::bc) λxL=>m'.free ae->(∀(b' o:Nat)(u:Value),aw b' o=some u->m' b' o=some u\/b'=ae)->∃R_1,True/\CX pG 75 (.mk [agg (.mk an)]) aw [] R_1/\Zbp (.agg [.int i64,
 .slice,.slice]) R_1/\∀n a bd c be bf bg m',lX (agg (.mk [int i64 n,slice a bd c,slice be bf bg])) λyL=>aw.le m'->R_1 yL m' []->kB pG 19 [yL] m' λbh m'=>br (!bh) (rtM m m' R (slice none 0 0)) (∀(ao:Nat) bi,∃
 R_2,lV [Value.pointer (some (Addr.mk ao 0 none))] λaj=>lE (some (Box.mk bi [func (Fn.func 108) (Array.mk []) (Array.mk aj)] 180 1 false true)) λyL=>lE (yL::some (Box.mk ao [] 80 1 false true)::xL) λad=>True/\
 CX pG 75 (.mk [agg (.mk an)]) m' [] R_2/\Zbp (.agg [.int i64,.slice,.slice]) R_2/\∀n a bj c bk bl bm ax,lX (agg (.mk [int i64 n,slice a bj c,slice bk bl bm])) λa2=>m'.le ax->R_2 a2 ax []->kF pG 71 [a2] ax λg fi
 ca m'=>∃(mi:Mem),mi.le m'/\∃(xs:List (List Value)),IX pG g fi ca mi xs/\(∀(x:List Value),x∈xs->Shape.fitsL [.agg [.int u8,.str,.slice,.int u8,.any,.str,.int i64,.slice]] x=true)/\∃(I:IT),I []
 [[slice none 0 0]] [slice none 0 0] m' 0/\(∀n s a ay c bn (v:Value) bo bp bq bs bt (cs:List Value) bu bv bw m' (ak:Nat),lX (slice bu bv bw) λap=>lE (Tok.mk ap 1) λaf=>lE [some af] λaq=>lV [string s] λbx
 => lE (Box.mk ao cs 80 1 false true) λar=>lV [int u8 bn,v,string bo,int i64 bp,slice bq bs bt] λaz=>lV (int u8 n::string s::slice a ay c::az) λa3=>mi.le m'->List.get?Internal xs ak=some [agg (.mk a3)]->
 I [] [cs] [ap] m' ak->∀bz,lE (some (Box.mk bz a3 54 8 false true)) λag=>chk (v.oneCell'&&true) (br p1 (∃(ab:Bool),br (n == 2) (Zac (ag::yL::some ar::xL)/\aq=aq/\[bool true]=[bool ab]) (Zac (ag::yL
 :: some ar::xL)/\aq=aq/\[bool (n == 3)]=[bool ab])/\br ab (∀al,lM (m'.add al bx) λmL=>m'.free al->∃(Y:Nat->Prop),∃(R:Value->Mem->List (List Value)->List Value->Prop),CXY pG 108 (.mk (slice (some
 (Addr.mk al 0 none)) 1 1::aj)) mL Y [ar] [af] R/\(∀(t:Tok),t∈[af]->∀(b:Nat),Tok.blk t=some b->Y b)/\(∀(aa:Nat),Y aa->(∃(t:Tok),t∈[af]/\Tok.blk t=some aa)\/(m.free aa/\Mem.k m aa=none)/\((∃(o:
 Nat),∃(v:Value),mL aa o=some v)\/∃(e:List (Value×Value)),Mem.k mL aa=some e)/\al≠aa/\ae≠aa/\b≠aa/\True)/\(∀(v:Value)(m':Mem) (css:List (List Value)) (tvs:List Value),R v m' css tvs->
 Shape.fits (.tup []) v=true)/\∀(m':Mem),Mem.le (Mem.off mL Y) m'->(NewM mL m' λb=>Y b\/mL.free b)->∀(cs:List Value) a c d,R (tuple (.mk [])) m' [cs] [slice a c d]->mi.le m'/\Zac ad/\I [] [cs] [slice a c d]
 m' (ak+1)) (mi.le m'/\Zac ad/\I [] [cs] [ap] m' (ak+1))) (∃(J:JT),br (n == 3) (∃(f:Fx),∃R,R=f 3 [agg (.mk az)] m'/\CX pG 109 (.mk [agg (.mk az)]) m' [] R/\Zbp .slice R/\∀a n c ah,m'.le ah->R (slice a n
 c) ah []->∀M,m'.le M->ah.le M->∃(Y:Nat->Prop),∃(R:Value->Mem->List (List Value)->List Value->Prop),CXY pG 108 (.mk (slice a n c::aj)) M Y [ar] [af] R/\(∀(t:Tok),t∈[af]->∀(b:Nat),Tok.blk t=some b->
 Y b)/\(∀(ab:Nat),Y ab->(∃(t:Tok),t∈[af]/\Tok.blk t=some ab)\/(m.free ab/\Mem.k m ab=none)/\((∃(o:Nat),∃(v:Value),M ab o=some v)\/∃(e:List (Value×Value)),Mem.k M ab=some e)/\ae≠ab/\b≠ab
 /\ True)/\(∀(v:Value)(m':Mem) (css:List (List Value)) (tvs:List Value),R v m' css tvs->Shape.fits (.tup []) v=true)/\∀(m':Mem),Mem.le (Mem.off M Y) m'->(NewM M m' λb=>Y b\/M.free b)->∀(cs:List Value)
 a c d,R (tuple (.mk [])) m' [cs] [slice a c d]->Zac (ag::ad)/\([none]:List (Option Tok))=[none]/\J [] [cs] [slice a c d] m') (Zac (ag::ad)/\([none]:List (Option Tok))=[none]/\J [] [cs] [ap] m')/\∀(cs:
 List Value) a4 n c (m':Mem),True->J [] [cs] [slice a4 n c] m'->∃am,inI am [int i64 0] [cs] [slice a4 n c] m'/\∀(n:Int)(cs:List Value) cb cc c (m':Mem) (au:Nat),lE [Box.mk ao cs 80 1 false true] λxL=>lX
 (slice cb cc c) λyL=>lV [int i64 (i64.wrap (n+1))] λa0=>lE [Tok.mk yL 1] λai=>True->am [int i64 n] [cs] [yL] m' au->br (decide (n < (↑ay:Int))) (atA a λab o=>Zae n ay/\∃v av a5 a6 a7 a8 a9 ba:
 Value,lV [a6,a7,a8,a9,ba] λa1=>lE (Zbb u8 v&&decide (u8=u8)) λbb=>lV (List.append (Array.toList (Value.cells av)) []) λcd=>m'.reads ab (o+Int.toNat n*8) (v::av::a5::a1)/\∀(al:Nat),chk
 (v.oneCell'&&(av.oneCell'&&(a5.oneCell'&&(a6.oneCell'&&(a7.oneCell'&&(a8.oneCell'&&(a9.oneCell'&&(ba.oneCell'&&true)))))))) (chk bb (br (RowKit.intOf v == 2) (chk (Nat.beq (List.length (Array.toList (Value.cells
 av))) 1&&true) (∀aa,lM (m'.add aa cd) λmL=>m'.free aa->∃(Y:Nat->Prop),∃(R:Value->Mem->List (List Value)->List Value->Prop),CXY pG 108 (.mk (slice (some (Addr.mk aa 0 none)) 1 1::aj)) mL Y xL ai R/\(∀(t:
 Tok),t∈ai->∀(b:Nat),Tok.blk t=some b->Y b)/\(∀(ac:Nat),Y ac->(∃(t:Tok),t∈ai/\Tok.blk t=some ac)\/(m.free ac/\Mem.k m ac=none)/\((∃(o:Nat),∃(v:Value),mL ac o=some v)\/∃(e:List (Value ×
 Value)),Mem.k mL ac=some e)/\aa≠ac/\ae≠ac/\b≠ac/\True)/\(∀(v:Value)(m':Mem) (css:List (List Value)) (tvs:List Value),R v m' css tvs->Shape.fits (.tup []) v=true)/\∀(m':Mem),Mem.le (Mem.off mL Y) m'
 -> (NewM mL m' λb=>Y b\/mL.free b)->∀(cs:List Value) a c d,R (tuple (.mk [])) m' [cs] [slice a c d]->Zac (ag::ad)/\([none,none]:List (Option Tok))=[none,none]/\nxI au am a0 [cs] [slice a c d] m')) (chk bb
 (br (RowKit.intOf v == 4) (∃(f:Fx),∃R,R=f 3 [agg (.mk a1)] m'/\CX pG 109 (.mk [agg (.mk a1)]) m' [] R/\Zbp .slice R/\∀a n c ah,m'.le ah->R (slice a n c) ah []->∀M,m'.le M->ah.le M->∃(Y:Nat->Prop),∃(R:
 Value->Mem->List (List Value)->List Value->Prop),CXY pG 108 (.mk (slice a n c::aj)) M Y xL ai R/\(∀(t:Tok),t∈ai->∀(b:Nat),Tok.blk t=some b->Y b)/\(∀(aa:Nat),Y aa->(∃(t:Tok),t∈ai/\Tok.blk t=some
 aa)\/(m.free aa/\Mem.k m aa=none)/\((∃(o:Nat),∃(v:Value),M aa o=some v)\/∃(e:List (Value×Value)),Mem.k M aa=some e)/\ae≠aa/\b≠aa/\True)/\(∀(v:Value)(m':Mem) (css:List (List Value)) (tvs:
 List Value),R v m' css tvs->Shape.fits (.tup []) v=true)/\∀(m':Mem),Mem.le (Mem.off M Y) m'->(NewM M m' λb=>Y b\/M.free b)->∀(cs:List Value) a c d,R (tuple (.mk [])) m' [cs] [slice a c d]->Zac (ag::ad)/\
 ([none,none]:List (Option Tok))=[none,none]/\nxI au am a0 [cs] [slice a c d] m') (Zac (ag::ad)/\([none,none]:List (Option Tok))=[none,none]/\nxI au am a0 [cs] [yL] m')))))) (mi.le m'/\Zac ad/\I [] [cs]
 [yL] m' (ak+1)))))/\∀(cs:List Value) a n c m',mi.le m'->I [] [cs] [slice a n c] m' (xs.length)->Eng.Ztz cs 0 λv=>rtM m m' R v)):CX Tryz.prog 74 #[.agg #[.int .u8 aA,.bool aD,.bool aF,.int .u8 aE,.int .u64 bA,.int .u64 bB,.int .u64 bC,.int .u64 di,.int .i64 dj,.int .i64 dk,.slice bY bZ cu,.string cK,.int .i64 cL,.slice bQ bP cv,.string cM,.int .i64 cN],.bool p1] m [] R:=
 Zad (E:=Zp4) Zap mix Tryz.func74 (by kernel_rfl) (Eq.mp (by kernel_rfl) h)
def ZoN:Env:={ EB with
 frzNew:=[1] }
theorem Zl3(aA:Int)(aD aF:Bool)(aE bA bB bC di dj dk:Int)(bY:Option Addr)(bZ cu:Nat)(cK:ByteArray)(cL:Int)(bQ:Option Addr)(bP cv:Nat)(cM:ByteArray)(cN:Int)(m:Mem)(R:RT)(h:
 lV [int u8 aA,bool aD,bool aF,int u8 aE,int u64 bA,int u64 bB,int u64 bC,int u64 di,int i64 dj,int i64 dk,slice bY bZ cu,string cK,int i64 cL,slice bQ bP cv,string
 cM,int i64 cN] λxL=>fzM m xL λb m'=>kS pG 74 [agg (.mk xL),bool false] m' λa n c m'=>rtM m m' R (slice a n c)):CX Tryz.prog 27 #[.agg #[.int .u8 aA,.bool aD,.bool aF,.int .u8 aE,.int .u64 bA,.int .u64 bB,.int .u64 bC,.int .u64 di,.int .i64 dj,.int .i64 dk,.slice bY bZ cu,.string cK,.int .i64 cL,.slice bQ bP cv,.string cM,.int .i64 cN]] m [] R:=
 Zad (E:=ZoN) Zap mix Tryz.func27 (by kernel_rfl) (Eq.mp (by kernel_rfl) h)
def Zl4:Env:={ EB with
 frzNew:=[1] }
theorem ZjZ(aA:Int)(aD aF:Bool)(aE bA bB bC di dj dk:Int)(bY:Option Addr)(bZ cu:Nat)(cK:ByteArray)(cL:Int)(bQ:Option Addr)(bP cv:Nat)(cM:ByteArray)(cN:Int)(m:Mem)(R:RT)(h:
 lV [int u8 aA,bool aD,bool aF,int u8 aE,int u64 bA,int u64 bB,int u64 bC,int u64 di,int i64 dj,int i64 dk,slice bY bZ cu,string cK,int i64 cL,slice bQ bP cv,string
 cM,int i64 cN] λxL=>fzM m xL λb m'=>kS pG 74 [agg (.mk xL),bool true] m' λa n c m'=>rtM m m' R (slice a n c)):CX Tryz.prog 28 #[.agg #[.int .u8 aA,.bool aD,.bool aF,.int .u8 aE,.int .u64 bA,.int .u64 bB,.int .u64 bC,.int .u64 di,.int .i64 dj,.int .i64 dk,.slice bY bZ cu,.string cK,.int .i64 cL,.slice bQ bP cv,.string cM,.int .i64 cN]] m [] R:=
 Zad (E:=Zl4) Zap mix Tryz.func28 (by kernel_rfl) (Eq.mp (by kernel_rfl) h)
def Zp5:Env:={ EB with
 loops:=swI nLa [(6,⟨[(14,.agg [.int .u8,.str,.slice,.int .u8,.any,.str,.int .i64,.slice])],[3],[],false⟩),(9,⟨[(26,.int .i64)],[3],[],false⟩)]
 dr:=swI [] [(7,[⟨0,[3],[],none,[],[]⟩,⟨1,[4],[],none,[],[]⟩,⟨2,[4],[],none,[1],[]⟩,dO 3 [1,2],dO 4 [0,1,2,3],⟨5,[3],[3],none,[0,1,2,3,4],[]⟩]),(15,[⟨0,[3],[],none,[],[]⟩,⟨1,[6],[],none,[],[]⟩,⟨2,[6],[],none,[1],[]⟩,dO 3 [1,2],dO 4 [0,1,2,3],⟨5,[3],[3],none,[0,1,2,3,4],[]⟩])]
 frzNew:=[1]
 cuts:=swI none [(8,some ⟨[],[3],[],false⟩)] }
theorem ZoO(aA:Int)(aD aF:Bool)(aE bA bB bC di dj dk:Int)(bY:Option Addr)(bZ cu:Nat)(cK:ByteArray)(cL:Int)(bQ:Option Addr)(bP cv:Nat)(cM:ByteArray)(cN:Int)(m:Mem)(R:RT)(h:
 lV [int u8 aA,bool aD,bool aF,int u8 aE,int u64 bA,int u64 bB,int u64 bC,int u64 di,int i64 dj,int i64 dk,slice bY bZ cu,string cK,int i64 cL,slice bQ bP cv,string
 cM,int i64 cN] λxL=>fzM m xL λb m'=>∃R_1,lE [some (Box.mk b xL 47 16 true true)] λav=>True/\CX pG 75 (.mk [agg (.mk xL)]) m' [] R_1/\Zbp (.agg [.int i64,.slice,.slice]) R_1/\∀n a aw c ax ay az ag,lX
 (agg (.mk [int i64 n,slice a aw c,slice ax ay az])) λyL=>m'.le ag->R_1 yL ag []->kB pG 19 [yL] ag λb m'=>br (!b) (rtM m m' R (int i64 0)) (∀b,∃R_2,lE (some (Box.mk b [] 3 1 false true)::av) λal=>True/\CX
 pG 75 (.mk [agg (.mk xL)]) m' [] R_2/\Zbp (.agg [.int i64,.slice,.slice]) R_2/\∀n a a0 c a1 a2 a3 ah,lX (agg (.mk [int i64 n,slice a a0 c,slice a1 a2 a3])) λyL=>m'.le ah->R_2 yL ah []->kF pG 71 [yL] ah λg fi ca
 m'=>∃(xs:List (List Value)),IX pG g fi ca m' xs/\(∀(x:List Value),x∈xs->Shape.fitsL [.agg [.int u8,.str,.slice,.int u8,.any,.str,.int i64,.slice]] x=true)/\∃(I:IT),I [] [[int i64 (-1)]] [] m' 0/\(∀n s
 a ai c a4 (v:Value) a5 a6 a7 a8 a9 (cs:List Value) aa (aj:Nat),lV [int u8 a4,v,string a5,int i64 a6,slice a7 a8 a9] λxL=>lV (int u8 n::string s::slice a ai c::xL) λam=>m'.le aa->List.get?Internal xs aj
 = some [agg (.mk am)]->I [] [cs] [] aa aj->∀b,lE (some (Box.mk b am 54 8 false true)::al) λac=>chk (v.oneCell'&&true) (∃(J:JT),br (n == 3) (∃(f:Fx),Eng.Ztz cs 0 λv=>∃R,R=f 3 [agg (.mk xL)] aa/\CX pG
 76 (.mk [agg (.mk xL)]) aa [] R/\Zbp (.int i64) R/\∀n m',aa.le m'->R (int i64 n) m' []->chk (Zbb i64 v&&decide (i64=i64)) (∀M,aa.le M->m'.le M->Zac ac/\J [] [[int i64 (if n > RowKit.intOf v then n else
 RowKit.intOf v)]] [] M)) (Zac ac/\J [] [cs] [] aa)/\∀(cs:List Value) m',aa.le m'->J [] [cs] [] m'->∃ad,inI ad [int i64 0] [cs] [] m'/\∀(n:Int)(cs:List Value) ab (af:Nat),lV [int i64 (i64.wrap (n+1))] fun
 xL=>m'.le ab->ad [int i64 n] [cs] [] ab af->br (decide (n < (↑ai:Int))) (atA a λb o=>Zae n ai/\∃v an ae ao ap aq ar au:Value,lV [ao,ap,aq,ar,au] λak=>lE (Zbb u8 v&&decide (u8=u8)) λyL=>
 ab.reads b (o+Int.toNat n*8) (v::an::ae::ak)/\∀(b:Nat),chk (v.oneCell'&&(an.oneCell'&&(ae.oneCell'&&(ao.oneCell'&&(ap.oneCell'&&(aq.oneCell'&&(ar.oneCell'&&(au.oneCell'&&true)))))))) (chk yL (br
 (RowKit.intOf v == 3) (Eng.Ztz cs 0 λv=>chk (Zbb i64 v&&Zbb i64 ae) (Zac ac/\nxI af ad xL [[int i64 (if RowKit.intOf ae > RowKit.intOf v then RowKit.intOf ae else RowKit.intOf v)]] [] ab)) (chk yL (br (RowKit.intOf
 v == 4) (∃(f:Fx),Eng.Ztz cs 0 λv=>∃R,R=f 3 [agg (.mk ak)] ab/\CX pG 76 (.mk [agg (.mk ak)]) ab [] R/\Zbp (.int i64) R/\∀n m',ab.le m'->R (int i64 n) m' []->chk (Zbb i64 v&&decide (i64=i64)) (∀M,ab.le
 M->m'.le M->Zac ac/\nxI af ad xL [[int i64 (if n > RowKit.intOf v then n else RowKit.intOf v)]] [] M)) (Zac ac/\nxI af ad xL [cs] [] ab)))))) (Zac al/\I [] [cs] [] ab (aj+1))))/\∀(cs:List Value) aa,m'.le aa->
 I [] [cs] [] aa (xs.length)->Eng.Ztz cs 0 λv=>rtM m aa R v)):CX Tryz.prog 30 #[.agg #[.int .u8 aA,.bool aD,.bool aF,.int .u8 aE,.int .u64 bA,.int .u64 bB,.int .u64 bC,.int .u64 di,.int .i64 dj,.int .i64 dk,.slice bY bZ cu,.string cK,.int .i64 cL,.slice bQ bP cv,.string cM,.int .i64 cN]] m [] R:=
 Zad (E:=Zp5) Zap mix Tryz.func30 (by kernel_rfl) (Eq.mp (by kernel_rfl) h)
def Zc4:Env:={ EB with
 loops:=swI nLa [(4,⟨[(13,.int .i64)],[],[],false⟩)]
 dr:=swI [] [(6,[dO 0 [],dO 1 [],dO 2 [0,1],dO 3 [0,1,2],dO 4 [],dO 5 [],dO 6 [4,5],dO 7 [4,5,6],dO 8 [0,1,2,3,4,5,6,7]])] }
theorem ZcZ(p0a:Option Addr)(p0n p0c:Nat)(p1a:Option Addr)(p1n p1c:Nat)(m:Mem)(R:RT)(h:
 br (!(↑p0n:Int) == (↑p1n:Int)) (rtM m m R (bool false)) (∃I,inI I [int i64 0] [] [] m/\∀n m' (n_1:Nat),m.le m'->I [int i64 n] [] [] m' n_1->br (decide (n < (↑p0n:Int))) (atA p0a λb o=>Zae n p0n/\∃(v:
 Value),m' b (o+Int.toNat n*1)=some v/\atA p1a λb o=>Zae n p1n/\∃(v_1:Value),m' b (o+Int.toNat n*1)=some v_1/\chk (Zbb i64 v&&Zbb i64 v_1) (br (!RowKit.intOf v == RowKit.intOf v_1) (rtM m m' R
 (bool false)) (nxI n_1 I [int i64 (i64.wrap (n+1))] [] [] m'))) (rtM m m' R (bool true)))):CX Tryz.prog 38 #[.slice p0a p0n p0c,.slice p1a p1n p1c] m [] R:=
 Zad (E:=Zc4) Zap mix Tryz.func38 (by kernel_rfl) (Eq.mp (by kernel_rfl) h)
def Zb6:Env:={ EB with
 loops:=swI nLa [(4,⟨[(13,.int .i64)],[],[],false⟩)]
 dr:=swI [] [(6,[dO 0 [],dO 1 [],dO 2 [0,1],dO 3 [0,1,2],dO 4 [],dO 5 [],dO 6 [4,5],dO 7 [4,5,6],dO 8 [0,1,2,3,4,5,6,7]])] }
theorem Zb0(p0a:Option Addr)(p0n p0c:Nat)(p1a:Option Addr)(p1n p1c:Nat)(m:Mem)(R:RT)(h:
 br (!(↑p0n:Int) == (↑p1n:Int)) (rtM m m R (bool false)) (∃I,inI I [int i64 0] [] [] m/\∀n m' (n_1:Nat),m.le m'->I [int i64 n] [] [] m' n_1->br (decide (n < (↑p0n:Int))) (atA p0a λb o=>Zae n p0n/\∃(v:
 Value),m' b (o+Int.toNat n*1)=some v/\atA p1a λb o=>Zae n p1n/\∃(v_1:Value),m' b (o+Int.toNat n*1)=some v_1/\chk (ZiH v&&ZiH v_1) (br (!ByteArray.toList (Zcp v) == ByteArray.toList (Zcp v_1))
 (rtM m m' R (bool false)) (nxI n_1 I [int i64 (i64.wrap (n+1))] [] [] m'))) (rtM m m' R (bool true)))):CX Tryz.prog 42 #[.slice p0a p0n p0c,.slice p1a p1n p1c] m [] R:=
 Zad (E:=Zb6) Zap mix Tryz.func42 (by kernel_rfl) (Eq.mp (by kernel_rfl) h)
end Go.Proofs.YtpjepnkiiojgfaaGreat
namespace Go.Proofs.YtpjepnkiiojgfaaGreat
open Go Go.Eng Go.Rx Go.Proofs Go.RowKit
set_option maxRecDepth 100000
def iC(z:Int):List Value:=[.int .i64 z]
theorem ZAc(z:Int):(iC z).length=1:=rfl
theorem ZAd(z:Int):∀u∈iC z,u.oneCell'=true:=λu hu=>by
 obtain rfl:u=.int .i64 z:=by simpa[iC]using hu
 rfl
theorem ZrE:∀l:List Int,(l.map iC).flatten=Zej l
 | []=>rfl
 | z::l=>by
  have:=ZrE l
  simp only[List.map_cons,List.flatten_cons,this];rfl
theorem ZBw(a b:ByteArray):(a == b)=decide (a=b):=by
 rw[Bool.eq_iff_iff,decide_eq_true_eq]
 cases a with|mk x=>cases b with|mk y=>
 show(x == y)=true↔_
 rw[beq_iff_eq,ByteArray.mk.injEq]
theorem Zv7(a b:ByteArray):EqIs Tryz.prog 9 (.string a) (.string b) (decide (a=b)):=by
 rw[<-ZBw]
 exact ZuK Tryz.underlying9 (by simp[Instr.sameNow]) (λop ox oy w=>by cases op <;> simp[eqGuard])
abbrev gN(k:Nat):Value:=.int .i64 k
def ZwE(m:Mem)(bm:Nat)(L:List Sta)(i:Nat):Prop:=m.k bm=some (ZAG Value.string gN (ZcV L i))
theorem ZoP{m:Mem}{bm:Nat}{L:List Sta}{i:Nat}(hm:ZwE m bm L i)(n:ByteArray):∃r:Option Nat,LookIs Tryz.prog 9 (.string n) (ZAG Value.string gN (ZcV L i)) (.int .i64 0) ((r.map gN).getD (.int .i64 0)) r.isSome/\(∀k,r=some k->(n,k)∈ZcV L i)/\(r=none->n ∉ (ZcV L i).map (·.1)):=by
 by_cases h:n∈(ZcV L i).map (·.1)
 ·obtain⟨q,hq,gB⟩:=List.mem_map.1 h
  obtain⟨n',k⟩:=q
  obtain rfl:n'=n:=gB
  exact⟨some k,⟨some (gN k),Zuh Zv7 n' k _ hq (ZkQ L i),rfl,rfl⟩,(λk' e=>by cases e;exact hq),λe=>by cases e⟩
 ·exact⟨none,⟨none,Zq7 Zv7 n _ h,rfl,rfl⟩,(λk' e=>by cases e),λ_=>h⟩
theorem Zv8{L:List Sta}{n:ByteArray}{r:Option Nat}(h1:∀k,r=some k->(n,k)∈ZcV L L.length)(h2:r=none->n ∉ (ZcV L L.length).map (·.1)):goI L n=r:=by
 cases r with
 | some k=>exact Zmy.2 (h1 k rfl)
 | none=>
  cases e:goI L n with
  | none=>rfl
  | some k=>exact absurd (List.mem_map.2 ⟨_,Zmy.1 e,rfl⟩) (h2 rfl)
structure Il where
 a:Option Addr
 c:Nat
 l:List Int
def Il.cs(y:Il):List Value:=[.slice y.a y.l.length y.c]
theorem Il.len(y:Il):y.cs.length=1:=rfl
theorem Il.one(y:Il):∀u∈y.cs,u.oneCell'=true:=λu hu=>by
 obtain rfl:u=_:=by simpa[Il.cs]using hu
 rfl
def QT(L:List Sta)(x:Sta)(y:Il)(μ:Mem):Prop:=y.l=ZyQ L x/\rowRd μ y.a (Zej y.l)
def TgI(L:List Sta)(m:Mem)(x:Sta):Value->Mem->List (List Value)->Prop:=λv m' _=>∃y:Il,v=.slice y.a y.l.length y.c/\QT L x y (nw m m')
theorem ZoQ(L:List Sta)(x:Sta)(m:Mem)(c0b bm:Nat)(hx:RepS m x)(hc:m.reads c0b 0 [.map (some bm)])(hk:ZwE m bm L L.length):
  CX Tryz.prog 78 #[.agg x.cs.toArray,.pointer (some ⟨c0b,0,none⟩)] m [] (TgI L m x):=by
 have iA:x.rules.length<=100000:=hx.len
 apply Zf9 (c0b:=c0b) (c0o:=0)
 intro b m1 aG io fO px
 refine⟨λxs css tvs mm q=>∃(i:Nat)(a:Option Addr)(c:Nat),i<=x.rules.length/\xs=[.slice a (Zlw L (x.rules.take i)).length c,.int .i64 i]/\tvs=[.slice a (Zlw L (x.rules.take i)).length c]/\m1.le mm/\rowRd mm a (Zej (Zlw L (x.rules.take i)))/\(∀b',Yi (.slice a (Zlw L (x.rules.take i)).length c) b'->m1.free b'/\m1.k b'=none)/\q=x.rules.length - i,⟨_,0,none,0,by omega,rfl,rfl,Mem.le_refl _,.inl rfl,(λb' h=>by simp[Yi,Tok.blk]at h),rfl⟩,?_⟩
 rintro a n c z a2 n2 c2 mm q _ ⟨i,a',c',hi,cC,cQ,hM,aC,bN,rfl⟩
 simp only[List.cons.injEq,Value.slice.injEq,Value.int.injEq,true_and,and_true]at cC cQ
 obtain⟨⟨rfl,rfl,rfl⟩,rfl⟩:=cC
 obtain⟨rfl,rfl,rfl⟩:=cQ
 have aH:=ZxE L (x.rules.take i)
 rw[List.length_take]at aH
 have kt:IntKind.i64.wrap ((i:Int)+1)=((i+1:Nat):Int):=by rw[Zal (by omega) (by omega)];rfl
 have i5:=mLt aG hM
 refine ZaB (λaB=>?_) (λbO=>?_)
 ·have aB:(i:Int) < (x.rules.length:Nat):=aB
  obtain⟨r,hr⟩:=Zfi (show i < x.rules.length by omega)
  obtain⟨b2,o2,eX,fe⟩:=Zaj Ru.len (hx.mono i5).row hr (by omega)
  have cB:=Zvv (L:=L) hr
  obtain⟨ro,tl,iW,ly⟩:=ZoP (m:=m) hk r.go
  have tq:=Zv8 iW ly
  refine⟨b2,o2,eX,⟨by omega,aB⟩,_,_,_,_,_,_,_,_,_,_,_,_,_,_,_,_,fe,λb3=>Zaa rfl ⟨_,(hc.mono i5) 0 _ rfl,bm,_,_,_,rfl,i5.k _ _ hk,ZiS Tryz.underlying9 _,tl,?_⟩⟩
  have iP:ZyP L r=none->nxI (x.rules.length - i) (λxs css tvs mm q=>∃(i:Nat)(a:Option Addr)(c:Nat),i<=x.rules.length/\xs=[.slice a (Zlw L (x.rules.take i)).length c,.int .i64 i]/\tvs=[.slice a (Zlw L (x.rules.take i)).length c]/\m1.le mm/\rowRd mm a (Zej (Zlw L (x.rules.take i)))/\(∀b',Yi (.slice a (Zlw L (x.rules.take i)).length c) b'->m1.free b'/\m1.k b'=none)/\q=x.rules.length - i) [.slice a2 (Zlw L (x.rules.take i)).length c2,.int .i64 (IntKind.i64.wrap ((i:Int)+1))] [] [.slice a2 (Zlw L (x.rules.take i)).length c2] mm:=λhe=>by
   rw[he,Option.toList_none,List.append_nil]at cB
   exact⟨x.rules.length - (i+1),by omega,i+1,a2,c2,by omega,by rw[kt,cB],by rw[cB],hM,by rw[cB];exact aC,by rw[cB];exact bN,rfl⟩
  cases ro with
  | none=>
   have ht:ZyP L r=none:=by unfold ZyP;rw[tq];split <;> rfl
   exact⟨false,Zor rfl ⟨rfl,rfl,rfl⟩,Zor rfl ⟨rfl,iP ht⟩⟩
  | some k=>
   by_cases hz:r.go.size=0
   ·have ht:ZyP L r=none:=by unfold ZyP;rw[if_pos hz]
    refine⟨false,ZwD rfl (Zaa rfl ⟨rfl,rfl,?_⟩),Zor rfl ⟨rfl,iP ht⟩⟩
    show[Value.bool (!(r.go.toList == ByteArray.toList ⟨#[]⟩))]=_
    rw[Zxf,hz];rfl
   ·have ht:ZyP L r=some (k:Int):=by unfold ZyP;rw[if_neg hz,tq];rfl
    have ot:=ZzO tq
    refine⟨true,ZwD rfl (Zaa rfl ⟨rfl,rfl,?_⟩),ZwD rfl (Zaa rfl λb4 fy=>?_)⟩
    ·show[Value.bool (!(r.go.toList == ByteArray.toList ⟨#[]⟩))]=_
     rw[Zxf,show(r.go.size == 0)=false by simpa using hz];rfl
    rw[ht,Option.toList_some]at cB
    refine ZcY ZAc ZAd (ts:=Zlw L (x.rules.take i)) fy (k:Int) (by rw[ZrE];exact aC) 8 (by omega) (by omega) (.inl rfl) λa5 c5 m5 cP cw iM=>?_
    have tu:=mLt (Mem.le_add fy _) cP
    refine⟨rfl,x.rules.length - (i+1),by omega,i+1,a5,c5,by omega,by rw[kt,cB,zA1];rfl,by rw[cB,zA1];rfl,mLt hM tu,by rw[cB,<-ZrE];exact cw,λb' hb'=>?_,rfl⟩
    rcases iM.2 with h|⟨bb,oo,ha',h⟩
    ·rw[h]at hb';simp[Yi,Tok.blk]at hb'
    ·subst ha'
     obtain rfl:bb=b':=by simpa[Yi,Tok.blk]using hb'
     rcases h with h|⟨_,h2,h3⟩
     ·exact bN _ (by rw[h];simp[Yi,Tok.blk])
     ·have uY:=mLt hM (Mem.le_add fy (iC k))
      exact⟨Zbo uY h2,Zfa uY h3⟩
 ·have bO:¬(i:Int) < (x.rules.length:Nat):=bO
  have hi:i=x.rules.length:=by omega
  subst hi
  rw[List.take_length]at aC bN aH ⊢
  have d5:=Zob (Zlw L x.rules)
  have tw:∀b',Yi (.slice a2 (Zlw L x.rules).length c2) b'->m.free b'/\m.k b'=none:=λb' h=>⟨Zbo aG (bN b' h).1,Zfa aG (bN b' h).2⟩
  refine⟨_,_,Zl0 (Zlw L x.rules) a2 c2 mm aC (by omega),(λt ht bb dT=>by
   obtain rfl:t=_:=by simpa using ht
   exact dT),(λbb dT=>.inl ⟨_,by simp,dT⟩),(λv _ _ _ h=>by rw[h.1];rfl),?_⟩
  rintro m2 aK _ a3 c3 d3 ⟨_,_,cQ,cX⟩
  simp only[List.cons.injEq,Value.slice.injEq,and_true]at cQ
  obtain⟨rfl,rfl,rfl⟩:=cQ
  have uZ:=Zhb (Zq8 (Zlw L x.rules)) a3 d3 m2 cX (by omega)
  rw[d5]at uZ
  refine⟨_,_,uZ,(λt ht bb dT=>by
   obtain rfl:t=_:=by simpa using ht
   exact dT),(λbb dT=>.inl ⟨_,by simp,dT⟩),(λv _ _ _ h=>by rw[h.1];rfl),?_⟩
  rintro a4 n4 c4 m3 aR _ a6 c6 d6 ⟨hv,_,_,jO⟩
  simp only[Value.slice.injEq]at hv
  obtain⟨rfl,rfl,rfl⟩:=hv
  have fw:m.le m2:=mLt (ZhO i5 tw) aK
  have gu:m.le m3:=mLt (ZhO fw tw) aR
  refine ZaN gu ⟨⟨a4,c4,ZyQ L x⟩,rfl,rfl,Zmu ?_ ?_⟩
  ·rcases jO with h|⟨b5,o5,mZ,h⟩
   ·refine .inl ?_
    unfold Zej at h ⊢
    rw[List.map_append]at h
    exact(List.append_eq_nil_iff.1 h).1
   ·refine .inr ⟨b5,o5,mZ,λj v hj=>h j v ?_⟩
    have hj:(Zej (Go.Lib.compact (Zq8 (Zlw L x.rules))))[j]?=some v:=hj
    unfold Zej at hj ⊢
    rw[List.map_append,zA5 (zA0 hj).1]
    exact hj
  ·refine .inr λb o e=>(tw b ?_).1
   have e:a4=some ⟨b,o,none⟩:=e
   rw[e];simp[Yi,Tok.blk]
theorem Zv9(cb:Nat)(ca:List Value)(Q:Sta->Il->Mem->Prop)(L:List Sta)(a:Option Addr)(d:Nat)(m:Mem)(aC:rowRd m a (L.map Sta.cs).flatten)(hl:L.length<=few)(gx:∀x∈L,∀m2,m.le m2->CX Tryz.prog cb (Array.mk (.agg x.cs.toArray::ca)) m2 [] (λv m3 _=>∃y:Il,v=.slice y.a y.l.length y.c/\Q x y (nw m2 m3))):
  CX Tryz.prog 77 #[.slice a L.length d,.func (.func cb) #[] (Array.mk ca)] m [] (ZqU Il.cs Q m L):=by
 have hl:L.length<=100000:=hl
 apply Zcs (p1fi:=[]) (p1ca:=ca)
 refine⟨λxs css tvs m' q=>∃(k:Nat)(a':Option Addr)(c':Nat)(L':List Il)(μ:Nat->Mem),k<=L.length/\q=L.length - k/\xs=[.slice a' L'.length c',.int .i64 k]/\tvs=[.slice a' L'.length c']/\Each Il.cs Q m m' (L.take k) a' c' L' μ,⟨_,0,none,0,[],_,by omega,rfl,rfl,rfl,Each.nil m⟩,?_⟩
 rintro a1 n1 c1 z a2 n2 c2 m2 q _ ⟨k,a',c',L',μ,hk,hq,cC,cQ,hE⟩
 simp only[List.cons.injEq,Value.slice.injEq,Value.int.injEq,true_and,and_true]at cC cQ
 obtain⟨⟨rfl,rfl,rfl⟩,rfl⟩:=cC
 obtain⟨rfl,rfl,rfl⟩:=cQ
 have iN:L'.length=k:=by rw[hE.len,List.length_take];omega
 refine Zab (λaB=>?_) (λbO=>?_)
 ·have aJ:k < L.length:=by have:=zA6 aB;omega
  obtain⟨x,hx⟩:=Zao aJ
  obtain⟨b,o,ha,cz⟩:=Zaj Sta.len aC hx (by omega)
  have hw:IntKind.i64.wrap ((k:Int)+1)=((k+1:Nat):Int):=by rw[Zal (by omega) (by omega)];rfl
  refine⟨b,o,ha,⟨by omega,by omega⟩,_,_,cz.mono hE.le,λb3=>Zaa rfl ⟨_,trivial,gx x (zA2 hx) m2 hE.le,(λv _ _ ⟨y,h,_⟩=>by rw[h];rfl),?_⟩⟩
  rintro ya yn yc m3 aR ⟨y,hv,hQ⟩ b4 fy
  simp only[Value.slice.injEq]at hv
  obtain⟨rfl,rfl,rfl⟩:=hv
  refine ZcY Il.len Il.one fy y (hE.row.mono aR) 24 (by omega) (by omega) (.inl rfl) λa5 c5 m5 cP cw aS=>?_
  have cB:=hE.step Il.len (by omega) hx aR hQ fy cP cw aS
  exact⟨L.length - (k+1),by omega,k+1,a5,c5,L'++[y],_,by omega,rfl,by rw[hw,zA1];rfl,by rw[zA1];rfl,cB⟩
 ·have cY:k=L.length:=by have:=of_decide_eq_false bO;omega
  rw[cY,List.take_length]at hE
  exact⟨m2,hE.le,Mem.le_refl _,_,_,L',μ,rfl,hE⟩
def TgR(s:Sc):Value->Mem->List (List Value)->Prop:=λv m' _=>∃(a:Option Addr)(c:Nat)(L':List Il),v=.slice a L'.length c/\L'.map Il.l=(if s.light then s.states.map (ZyQ s.states)else[])/\rowRd m' a (L'.map Il.cs).flatten/\∀y∈L',rowRd m' y.a (Zej y.l)
theorem Zwa{s}:∀(v:Value)(m':Mem) (css:List (List Value)),TgR s v m' css->Shape.fits .slice v=true:=λv _ _ ⟨_,_,_,h,_⟩=>by rw[h];rfl
theorem Zp6(s:Sc)(m:Mem)(hr:RepC m s):CX Tryz.prog 32 #[s.v] m [] (TgR s):=by
 have d5:s.states.length<=100000:=hr.len
 apply Zh7
 intro b m1 aG _ fO _ _
 refine Zah (Zcc s m1 (hr.mono aG)) λm2 aK=>Zab (λh=>Zaf (mLt aG aK) ?_) (λh=>?_)
 ·have hl:s.light=false:=by simpa using h
  exact⟨none,0,[],rfl,by rw[hl];rfl,.inl rfl,λy hy=>by cases hy⟩
 have hl:s.light=true:=by simpa using h
 have cV:=mLt aG aK
 intro bm hf hk b1
 have gT:m.k bm=none:=Zfa cV hk
 refine⟨λxs _ _ mm q=>∃i:Nat,i<=s.states.length/\xs=[.int .i64 i]/\m2.le mm/\ZwE mm bm s.states i/\q=s.states.length - i,⟨_,0,by omega,rfl,Mem.le_updK (Mem.le_refl _) hk _,Mem.updK_same _ _ _,rfl⟩,?_⟩
 rintro z mm q _ ⟨i,hi,hz,hM,hE,rfl⟩
 obtain rfl:z=i:=by simpa using hz
 have kt:IntKind.i64.wrap ((i:Int)+1)=((i+1:Nat):Int):=by rw[Zal (by omega) (by omega)];rfl
 have i5:=mLt cV hM
 refine ZaB (λaB=>?_) (λbO=>?_)
 ·have aB:(i:Int) < (s.states.length:Nat):=aB
  obtain⟨x,hx⟩:=Zfi (show i < s.states.length by omega)
  obtain⟨b2,o2,eX,fe⟩:=Zaj Sta.len (hr.mono i5).row hx (by omega)
  obtain⟨ro,tl,iW,ly⟩:=ZoP hE x.s
  have cB:=ZsP hx
  refine⟨b2,o2,eX,⟨by omega,aB⟩,_,_,fe,λb3=>Zaa rfl ⟨bm,_,_,_,rfl,hE,ZiS Tryz.underlying9 _,tl,?_⟩⟩
  cases ro with
  | some k=>
   have eO:ZzN (ZcV s.states i) x.s=true:=ZfP.2 (List.mem_map.2 ⟨_,iW k rfl,rfl⟩)
   rw[if_pos eO]at cB
   exact Zor rfl ⟨rfl,s.states.length - (i+1),by omega,i+1,by omega,by rw[kt],hM,by unfold ZwE;rw[cB];exact hE,rfl⟩
  | none=>
   have jA:=ly rfl
   have eO:ZzN (ZcV s.states i) x.s=false:=by
    cases e:ZzN (ZcV s.states i) x.s with
    | false=>rfl
    | true=>exact absurd (ZfP.1 e) jA
   rw[eO,if_neg (by decide)]at cB
   exact ZwD rfl ⟨bm,_,_,rfl,hE,ZiS Tryz.underlying9 _,Zug (g:=gN) Zv7 x.s i _ jA,gT,rfl,s.states.length - (i+1),by omega,i+1,by omega,by rw[kt],Mem.le_updK hM hk _,by unfold ZwE;rw[cB];exact Mem.updK_same _ _ _,rfl⟩
 ·have bO:¬(i:Int) < (s.states.length:Nat):=bO
  have hi:i=s.states.length:=by omega
  subst hi
  intro m3 aR eL
  have dA:=mLt i5 aR
  have je:=hr.mono dA
  refine Zan (Zv9 78 _ (QT s.states) s.states s.sa s.sc m3 je.row hr.len λx hx m4 cE=>?_) Zfb ?_
  ·exact ZoQ s.states x m4 b1 bm ((je.all x hx).mono cE) (eL.mono cE) (cE.k _ _ (aR.k _ _ hE))
  ·rintro a n c m5 cP ⟨a',c',L',μ,hv,tx⟩
   simp only[Value.slice.injEq]at hv
   obtain⟨rfl,rfl,rfl⟩:=hv
   refine ZaN (mLt dA cP) ⟨_,_,L',rfl,?_,tx.row,λy hy=>?_⟩
   ·rw[hl,if_pos rfl]
    exact tx.same λx y μ hq=>hq.1
   ·obtain⟨i,x,_,_,hq,hs⟩:=tx.at hy
    exact hq.2.mono (mLt hs (ZgM _ _))
end Go.Proofs.YtpjepnkiiojgfaaGreat
namespace Go.Proofs.YtpjepnkiiojgfaaGreat
open Go Go.Eng Go.Proofs Go.RowKit
open Go.Value (int slice agg bool string tuple func)
open Go.IntKind (u8 u64 i64)
set_option maxRecDepth 100000
def Zwb:Env:={ EB with
 frzNew:=[1] }
theorem Zti(aA:Int)(aD aF:Bool)(aE bA bB bC di dj dk:Int)(bY:Option Addr)(bZ cu:Nat)(cK:ByteArray)(cL:Int)(bQ:Option Addr)(bP cv:Nat)(cM:ByteArray)(cN:Int)(m:Mem)(R:RT)(h:
 lV [int u8 aA,bool aD,bool aF,int u8 aE,int u64 bA,int u64 bB,int u64 bC,int u64 di,int i64 dj,int i64 dk,slice bY bZ cu,string cK,int i64 cL,slice bQ bP cv,string
 cM,int i64 cN] λxL=>fzM m xL λb m'=>∀(b:Nat) b,m'.free b->∀(b_1:Nat),Mem.free (m'.add b xL) b_1->rtM m (Mem.add (m'.add b xL) b_1 [string bE0,slice (some (Addr.mk b 0 none)) 1 1]) R (agg (.mk [int i64
 0,slice none 0 0,slice (some (Addr.mk b_1 0 none)) 1 1]))):CX Tryz.prog 75 #[.agg #[.int .u8 aA,.bool aD,.bool aF,.int .u8 aE,.int .u64 bA,.int .u64 bB,.int .u64 bC,.int .u64 di,.int .i64 dj,.int .i64 dk,.slice bY bZ cu,.string cK,.int .i64 cL,.slice bQ bP cv,.string cM,.int .i64 cN]] m [] R:=
 Zad (E:=Zwb) Zap mix Tryz.func75 (by kernel_rfl) (Eq.mp (by kernel_rfl) h)
def Zh9:Env:={ EB with
 joins:=swI none [(1,some [(4,.bool)])]
 frzNew:=[2,3] }
theorem Zhd(aA:Int)(aD:ByteArray)(aF aE:Int)(bA:Value)(bB:ByteArray)(bC:Int)(aX:Option Addr)(aU bK:Nat)(bM:Int)(cA:ByteArray)(cD cF:Int)(dK:Value)(dM:ByteArray)(dN:Int)(du:Option Addr)(dv dw:Nat)(m:Mem)(R:RT)(h:
 lV [int u8 aE,bA,string bB,int i64 bC,slice aX aU bK] λxL=>lV [int u8 cF,dK,string dM,int i64 dN,slice du dv dw] λxL_1=>lV (int u8 bM::string cA::int i64 cD::xL_1)
 λxL_2=>lV (int u8 aA::string aD::int i64 aF::xL) λxL_3=>fzM m xL_3 λb m'=>lE [some (Box.mk b xL_3 130 8 true true)] λxL_4=>fzM m' xL_2 λb m'=>∃(b_1:Bool),lV [bool b_1] λxL_5=>lE (some
 (Box.mk b xL_2 130 8 true true)::xL_4) λxL_6=>br (aA == bM) (br (ByteArray.toList aD == ByteArray.toList cA) (br (aF == cD) (kB pG 140 [agg (.mk xL),agg (.mk xL_1)] m' λb m'=>Zac xL_6/\[bool b]=xL_5)
 (Zac xL_6/\[bool false]=xL_5)) (Zac xL_6/\[bool false]=xL_5)) (Zac xL_6/\[bool false]=xL_5)/\rtM m m' R (bool b_1)):CX Tryz.prog 139 #[.agg #[.int .u8 aA,.string aD,.int .i64 aF,.int .u8 aE,bA,.string bB,.int .i64 bC,.slice aX aU bK],.agg #[.int .u8 bM,.string cA,.int .i64 cD,.int .u8 cF,dK,.string dM,.int .i64 dN,.slice du dv dw]] m [] R:=
 Zad (E:=Zh9) Zap mix Tryz.func139 (by kernel_rfl) (Eq.mp (by kernel_rfl) h)
def ZaL:Env:={ EB with
 loops:=swI nLa [(4,⟨[(17,.int .i64)],[],[],false⟩)] }
theorem ZaJ(p0a:Option Addr)(p0n p0c:Nat)(p1a:Option Addr)(p1n p1c p2g:Nat)(p2fi p2ca:List Value)(m:Mem)(R:RT)(h:
 br (!(↑p0n:Int) == (↑p1n:Int)) (rtM m m R (bool false)) (∃I,inI I [int i64 0] [] [] m/\∀n m' (n_1:Nat),m.le m'->I [int i64 n] [] [] m' n_1->br (decide (n < (↑p0n:Int))) (atA p0a λb o=>Zae n p0n/\∃v v_1
 v_2 v_3 v_4 v_5 v_6 v_7:Value,lV [v,v_1,v_2,v_3,v_4,v_5,v_6,v_7] λxL=>m'.reads b (o+Int.toNat n*8) xL/\∀(b:Nat),chk (v.oneCell'&&(v_1.oneCell'&&(v_2.oneCell'&&(v_3.oneCell'&&(v_4.oneCell' &&
 (v_5.oneCell'&&(v_6.oneCell'&&(v_7.oneCell'&&true)))))))) (atA p1a λb o=>Zae n p1n/\∃v v_8 v_9 v_10 v_11 v_12 v_13 v_14:Value,lV [v,v_8,v_9,v_10,v_11,v_12,v_13,v_14] λxL_1=>m'.reads b (o+Int.toNat
 n*8) xL_1/\∀(b:Nat),chk (v.oneCell'&&(v_8.oneCell'&&(v_9.oneCell'&&(v_10.oneCell'&&(v_11.oneCell'&&(v_12.oneCell'&&(v_13.oneCell'&&(v_14.oneCell'&&true)))))))) (kB pG p2g (List.append (List.append p2fi [agg
 (.mk xL),agg (.mk xL_1)]) p2ca) m' λb m'=>br (!b) (rtM m m' R (bool false)) (nxI n_1 I [int i64 (i64.wrap (n+1))] [] [] m')))) (rtM m m' R (bool true)))):CX Tryz.prog 159 #[.slice p0a p0n p0c,.slice p1a p1n p1c,.func (.func p2g) p2fi.toArray p2ca.toArray] m [] R:=
 Zad (E:=ZaL) Zap mix Tryz.func159 (by kernel_rfl) (Eq.mp (by kernel_rfl) h)
def ZdC:Env:=EB
theorem Zdm(p0a:Option Addr)(p0n p0c:Nat)(p1a:Option Addr)(p1n p1c p2g:Nat)(p2fi p2ca:List Value)(m:Mem)(R:RT)(h:
 kB pG 159 [slice p0a p0n p0c,slice p1a p1n p1c,func (Fn.func p2g) (Array.mk p2fi) (Array.mk p2ca)] m λb m'=>rtM m m' R (bool b)):CX Tryz.prog 138 #[.slice p0a p0n p0c,.slice p1a p1n p1c,.func (.func p2g) p2fi.toArray p2ca.toArray] m [] R:=
 Zad (E:=ZdC) Zap mix Tryz.func138 (by kernel_rfl) (Eq.mp (by kernel_rfl) h)
def Zga:Env:={ EB with
 joins:=swI none [(1,some [(4,.bool)])]
 frzNew:=[2,3] }
theorem Zfj(aA:Int)(aD:ByteArray)(aO:Option Addr)(aI aW:Nat)(aE:Int)(bA:Value)(bB:ByteArray)(bC:Int)(aX:Option Addr)(aU bK:Nat)(bM:Int)(cA:ByteArray)(eE:Option Addr)(eG eH:Nat)(cF:Int)(dK:Value)(dM:ByteArray)(dN:Int)(du:Option Addr)(dv dw:Nat)(m:Mem)(R:RT)(h:
 lV [int u8 aE,bA,string bB,int i64 bC,slice aX aU bK] λxL=>lV [int u8 cF,dK,string dM,int i64 dN,slice du dv dw] λxL_1=>lV (int u8 aA::string aD::slice aO aI aW
 :: xL) λxL_2=>lV (int u8 bM::string cA::slice eE eG eH::xL_1) λxL_3=>fzM m xL_2 λb m'=>lE [some (Box.mk b xL_2 54 8 true true)] λxL_4=>fzM m' xL_3 λb m'=>∃(b_1:Bool),lV [bool b_1]
 λxL_5=>lE (some (Box.mk b xL_3 54 8 true true)::xL_4) λxL_6=>br (aA == bM) (br (ByteArray.toList aD == ByteArray.toList cA) (kB pG 138 [slice aO aI aW,slice eE eG eH,func (Fn.func 139)
 (Array.mk []) (Array.mk [])] m' λb m'=>br b (kB pG 140 [agg (.mk xL),agg (.mk xL_1)] m' λb m'=>Zac xL_6/\[bool b]=xL_5) (Zac xL_6/\[bool false]=xL_5)) (Zac xL_6/\[bool false]=xL_5)) (Zac xL_6/\
 [bool false]=xL_5)/\rtM m m' R (bool b_1)):CX Tryz.prog 102 #[.agg #[.int .u8 aA,.string aD,.slice aO aI aW,.int .u8 aE,bA,.string bB,.int .i64 bC,.slice aX aU bK],.agg #[.int .u8 bM,.string cA,.slice eE eG eH,.int .u8 cF,dK,.string dM,.int .i64 dN,.slice du dv dw]] m [] R:=
 Zad (E:=Zga) Zap mix Tryz.func102 (by kernel_rfl) (Eq.mp (by kernel_rfl) h)
def Zaz:Env:={ EB with
 loops:=swI nLa [(4,⟨[(17,.int .i64)],[],[],false⟩)] }
theorem Zay(p0a:Option Addr)(p0n p0c:Nat)(p1a:Option Addr)(p1n p1c p2g:Nat)(p2fi p2ca:List Value)(m:Mem)(R:RT)(h:
 br (!(↑p0n:Int) == (↑p1n:Int)) (rtM m m R (bool false)) (∃I,inI I [int i64 0] [] [] m/\∀n m' (n_1:Nat),m.le m'->I [int i64 n] [] [] m' n_1->br (decide (n < (↑p0n:Int))) (atA p0a λb o=>Zae n p0n/\∃v v_1
 v_2 v_3 v_4 v_5 v_6 v_7:Value,lV [v,v_1,v_2,v_3,v_4,v_5,v_6,v_7] λxL=>m'.reads b (o+Int.toNat n*8) xL/\∀(b:Nat),chk (v.oneCell'&&(v_1.oneCell'&&(v_2.oneCell'&&(v_3.oneCell'&&(v_4.oneCell' &&
 (v_5.oneCell'&&(v_6.oneCell'&&(v_7.oneCell'&&true)))))))) (atA p1a λb o=>Zae n p1n/\∃v v_8 v_9 v_10 v_11 v_12 v_13 v_14:Value,lV [v,v_8,v_9,v_10,v_11,v_12,v_13,v_14] λxL_1=>m'.reads b (o+Int.toNat
 n*8) xL_1/\∀(b:Nat),chk (v.oneCell'&&(v_8.oneCell'&&(v_9.oneCell'&&(v_10.oneCell'&&(v_11.oneCell'&&(v_12.oneCell'&&(v_13.oneCell'&&(v_14.oneCell'&&true)))))))) (kB pG p2g (List.append (List.append p2fi [agg
 (.mk xL),agg (.mk xL_1)]) p2ca) m' λb m'=>br (!b) (rtM m m' R (bool false)) (nxI n_1 I [int i64 (i64.wrap (n+1))] [] [] m')))) (rtM m m' R (bool true)))):CX Tryz.prog 137 #[.slice p0a p0n p0c,.slice p1a p1n p1c,.func (.func p2g) p2fi.toArray p2ca.toArray] m [] R:=
 Zad (E:=Zaz) Zap mix Tryz.func137 (by kernel_rfl) (Eq.mp (by kernel_rfl) h)
def Zc5:Env:=EB
theorem Zc0(p0a:Option Addr)(p0n p0c:Nat)(p1a:Option Addr)(p1n p1c p2g:Nat)(p2fi p2ca:List Value)(m:Mem)(R:RT)(h:
 kB pG 137 [slice p0a p0n p0c,slice p1a p1n p1c,func (Fn.func p2g) (Array.mk p2fi) (Array.mk p2ca)] m λb m'=>rtM m m' R (bool b)):CX Tryz.prog 101 #[.slice p0a p0n p0c,.slice p1a p1n p1c,.func (.func p2g) p2fi.toArray p2ca.toArray] m [] R:=
 Zad (E:=Zc5) Zap mix Tryz.func101 (by kernel_rfl) (Eq.mp (by kernel_rfl) h)
def Zia:Env:={ EB with
 joins:=swI none [(1,some [(4,.bool)])]
 frzNew:=[2,3] }
theorem Zhe(aA:Int)(aD aF:Bool)(aE bA bB bC di dj dk:Int)(bY:Option Addr)(bZ cu:Nat)(cK:ByteArray)(cL:Int)(bQ:Option Addr)(bP cv:Nat)(cM:ByteArray)(cN bM:Int)(cA cD:Bool)(cF dK dM dN nq nr nt:Int)(ip:Option Addr)(iq ir:Nat)(jP:ByteArray)(jQ:Int)(iu:Option Addr)(iv iw:Nat)(jR:ByteArray)(jS:Int)(m:Mem)(R:RT)(h:
 lV [int u8 bM,bool cA,bool cD,int u8 cF,int u64 dK,int u64 dM,int u64 dN,int u64 nq,int i64 nr,int i64 nt,slice ip iq ir,string jP,int i64 jQ,slice iu iv iw,string
 jR,int i64 jS] λxL=>lV [int u8 aA,bool aD,bool aF,int u8 aE,int u64 bA,int u64 bB,int u64 bC,int u64 di,int i64 dj,int i64 dk,slice bY bZ cu,string cK,int i64 cL,slice
 bQ bP cv,string cM,int i64 cN] λxL_1=>fzM m xL_1 λb m'=>lE [some (Box.mk b xL_1 47 16 true true)] λxL_2=>fzM m' xL λb m'=>∃(b_1:Bool),lV [bool b_1] λxL_3=>lE (some (Box.mk b xL 47
 16 true true)::xL_2) λxL=>br (aA == bM) (br (aD == cA) (br (aF == cD) (kB pG 100 [agg (.mk [int u8 aE,int u64 bA,int u64 bB,int u64 bC,int u64 di,int i64 dj,int i64 dk,slice bY bZ
 cu]),agg (.mk [int u8 cF,int u64 dK,int u64 dM,int u64 dN,int u64 nq,int i64 nr,int i64 nt,slice ip iq ir])] m' λb m'=>br b (br (ByteArray.toList cK == ByteArray.toList jP) (br
 (cL == jQ) (kB pG 101 [slice bQ bP cv,slice iu iv iw,func (Fn.func 102) (Array.mk []) (Array.mk [])] m' λb m'=>br b (br (ByteArray.toList cM == ByteArray.toList jR) (Zac xL/\[bool
 (cN == jS)]=xL_3) (Zac xL/\[bool false]=xL_3)) (Zac xL/\[bool false]=xL_3)) (Zac xL/\[bool false]=xL_3)) (Zac xL/\[bool false]=xL_3)) (Zac xL/\[bool false]=xL_3)) (Zac xL/\[bool false] =
 xL_3)) (Zac xL/\[bool false]=xL_3)) (Zac xL/\[bool false]=xL_3)/\rtM m m' R (bool b_1)):CX Tryz.prog 67 #[.agg #[.int .u8 aA,.bool aD,.bool aF,.int .u8 aE,.int .u64 bA,.int .u64 bB,.int .u64 bC,.int .u64 di,.int .i64 dj,.int .i64 dk,.slice bY bZ cu,.string cK,.int .i64 cL,.slice bQ bP cv,.string cM,.int .i64 cN],.agg #[.int .u8 bM,.bool cA,.bool cD,.int .u8 cF,.int .u64 dK,.int .u64 dM,.int .u64 dN,.int .u64 nq,.int .i64 nr,.int .i64 nt,.slice ip iq ir,.string jP,.int .i64 jQ,.slice iu iv iw,.string jR,.int .i64 jS]] m [] R:=
 Zad (E:=Zia) Zap mix Tryz.func67 (by kernel_rfl) (Eq.mp (by kernel_rfl) h)
end Go.Proofs.YtpjepnkiiojgfaaGreat
end
