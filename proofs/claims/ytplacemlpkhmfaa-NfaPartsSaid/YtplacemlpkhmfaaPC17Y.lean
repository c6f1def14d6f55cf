/- Part of the proof: conditions and contracts of functions of this program. No condition of its own. -/
import Derived.Test.YtplacemlpkhmfaaPEnv
import Derived.Test.YtplacemlpkhmfaaMc
import Derived.Test.YtplacemlpkhmfaaPC17X
import Derived.Test.YtplacemlpkhmfaaPC13S
import Derived.Shelf.Spec.SlicesGrow
import Derived.Test.YtplacemlpkhmfaaMr
set_option linter.unusedVariables false
set_option linter.unusedSimpArgs false
set_option linter.unusedSectionVars false
noncomputable section
namespace Go.Proofs.Ytplacemlpkhmfaa
open Go Go.Eng Go.Proofs Go.RowKit
open Go.Value (int slice agg bool string tuple func)
open Go.IntKind (u8 u64 i64)
set_option maxRecDepth 100000
def Zb4:Env:={ EB with
 loops:=swI nLa [(3,⟨[(3,.int .i64),(11,.int .i64)],[],[],false⟩),(11,⟨[(6,.slice),(27,.int .i64)],[],[(33,1)],false⟩)]
 tokOf:=swI 0 [(33,33)]
 tokC:=swI none [(24,some (33,1))] }
theorem ZbX(p0a:Option Addr)(p0n p0c:Nat)(m:Mem)(R:RT)(h:
 ∃(I:IT),(∃(n:Nat),I [int i64 0,int i64 0] [] [] m n)/\∀n n_1 m' (n_2:Nat),m.le m'->I [int i64 n,int i64 n_1] [] [] m' n_2->br (decide (n_1 < (↑p0n:Int))) (∃(b:Nat),∃(o:Nat),p0a=some (Addr.mk b o none)
 /\ Zaf n_1 p0n/\∃(v:Value),m' b (o+Int.toNat n_1*1)=some v/\chk (ZdK v) (br (decide (i64.wrap (n+(↑(slN v):Int)) < 0)) False (∃(n':Nat),n' < n_2/\I [int i64 (i64.wrap (n+(↑(slN v):Int))),int i64
 (i64.wrap (n_1+1))] [] [] m' n'))) (∃R_1,CXT pG 95 (.mk [slice none 0 0,int i64 n]) m' 1 R_1/\Zdv .slice R_1/\∀a n c m'_1,m'.le m'_1->R_1 (slice a n c) m'_1 []->∃(I:IT),(∃(n_3:Nat),I [slice a n c,int i64 0] []
 [slice a n c] m'_1 n_3)/\∀a n c n_3 a_3 n_4 c_1 m' (n_5:Nat),m'_1.le m'->I [slice a n c,int i64 n_3] [] [slice a_3 n_4 c_1] m' n_5->br (decide (n_3 < (↑p0n:Int))) (∃(b:Nat),∃(o:Nat),p0a=some (Addr.mk b o none)
 /\ Zaf n_3 p0n/\∃(v:Value),m' b (o+Int.toNat n_3*1)=some v/\chk (ZdK v&&true) ((Tok.mk (slice a_3 n_4 c_1) 1=Tok.mk (slice a n c) 1\/slice a n c=slice none 0 0\/c < n+slN v)/\∃(xs:List Value),∃(ys:
 List Value),xs.length=n*1/\ys.length=slN v*1/\rowRd m' a xs/\rowRd m' (slA v) ys/\(∀(u:Value),u∈ys->u.oneCell'=true)/\(n+slN v)*1<=140737488355328/\n+slN v<=9223372036854775807/\∀(a':Option
 Addr) (c':Nat) m'_2,m'.le m'_2->rowRd m'_2 a' (List.append xs ys)->([none]:List (Option Tok))=[none]/\∃(n':Nat),n' < n_5/\I [slice a' (n+slN v) c',int i64 (i64.wrap (n_3+1))] [] [slice a' (n+slN v) c'] m'_2
 n')) (∃m'',m.le m''/\m''.le m'/\R (slice a n c) m'' []))):CX Try.prog 39 #[.slice p0a p0n p0c] m [] R:=
 Zaj (E:=Zb4) ZaB mix Try.func39 [.v (.slice p0a p0n p0c)] [] (by kernel_rfl) (Eq.mp (by kernel_rfl) h)
def Zi1:Env:={ EB with
 frzNew:=[2] }
theorem Zhv(aO:Option Addr)(aJ aY:Nat)(aP:Option Addr)(aK bE:Nat)(aR:Option Addr)(aQ aW:Nat)(aS:Option Addr)(aT aU:Nat)(aA:Bool)(p1a:Option Addr)(p1n p1c:Nat)(m:Mem)(R:RT)(h:
 ∀(b:Nat) m',m.le m'->m'.reads b 0 [slice aO aJ aY,slice aP aK bE,slice aR aQ aW,slice aS aT aU,bool aA]->∃R_1,True/\CX pG 78 (.mk [agg (.mk [slice aO aJ aY,slice aP
 aK bE,slice aR aQ aW,slice aS aT aU,bool aA]),slice p1a p1n p1c]) m' [] R_1/\Zdv (.int i64) R_1/\∀n m'_1,m'.le m'_1->R_1 (int i64 n) m'_1 []->br (!n == 0) (∃m'',m.le m''/\m''.le m'_1/\R
 (tuple (.mk [bool false,int i64 n])) m'' []) (∃R_2,True/\CX pG 68 (.mk [agg (.mk [slice aO aJ aY,slice aP aK bE,slice aR aQ aW,slice aS aT aU,bool aA]),slice p1a p1n p1c]) m'_1 [] R_2
 /\ Zdv .bool R_2/\∀(b:Bool) m',m'_1.le m'->R_2 (bool b) m' []->∃m'',m.le m''/\m''.le m'/\R (tuple (.mk [bool b,int i64 0])) m'' [])):CX Try.prog 28 #[.agg #[.slice aO aJ aY,.slice aP aK bE,.slice aR aQ aW,.slice aS aT aU,.bool aA],.slice p1a p1n p1c] m [] R:=
 Zaj (E:=Zi1) ZaB mix Try.func28 [.v (.agg #[.slice aO aJ aY,.slice aP aK bE,.slice aR aQ aW,.slice aS aT aU,.bool aA]),.v (.slice p1a p1n p1c)] [] (by kernel_rfl) (Eq.mp (by kernel_rfl) h)
def ZfQ:Env:={ EB with
 loops:=swI nLa [(13,⟨[(10,.slice),(73,.int .i64)],[],[],false⟩),(17,⟨[(16,.slice),(79,.int .i64)],[],[(95,1)],false⟩),(37,⟨[(172,.int .i64)],[],[],false⟩)]
 joins:=swI none [(34,some [(169,.bool)])]
 dr:=swI [] [(6,[dO 0 [],dO 1 [],dO 2 [1],dO 3 [1,2],dO 4 [0,1,2,3],dO 5 [],dO 6 [],dO 7 [6],dO 8 [6,7],dO 9 [5,6,7,8],dO 10 [0,1,2,3,4],dO 11 [0,1,2,3,4,5,6,7,8,9,10]])]
 tokOf:=swI 0 [(95,95)]
 gb:=true
 thaw:=true
 cuts:=swI none [(27,some ⟨[(114,.bool)],[],[(95,1)],false⟩)]
 lentC:=swI none [(98,some [(95,1)]),(111,some [(95,1)])] }
theorem Zfa(p0a:Option Addr)(p0n p0c:Nat)(p1a:Option Addr)(p1n p1c:Nat)(p2a:Option Addr)(p2n p2c:Nat)(m:Mem)(R:RT)(h:
 lE (if(30:Int) < (↑p2n:Int)then(30:Int)else(↑p2n:Int)) λyL=>lE (Int.toNat yL - 0) λau=>lE (if(30:Int) < (↑p1n:Int)then(30:Int)else(↑p1n:Int)) λan=>lX (slice (Zbq p1a 0 p1c 1) (Int.toNat
 an - 0) (p1c - 0)) λa1=>lV [slice (Zbq p2a 0 p2c 1) au (p2c - 0)] λxL=>lV (a1::xL) λa2=>kB pG 12 [] m λb m'=>br (!b) (rtM m m' R (bool false)) (kN pG 15 [slice p0a p0n p0c] m' λn bf bg bh bi bj bk a bl
 c m'=>∃R_1,True/\CX pG 14 (.mk [agg (.mk [int u8 n,int u64 bf,int u64 bg,int u64 bh,int u64 bi,int i64 bj,int i64 bk,slice a bl c])]) m' [] R_1/\Zdv (.tup [.agg [.slice,.slice,.slice,.slice,.bool],.int i64]) R_1
 /\ ∀a n c bm bn bo bp bq bs bt bu bv (b:Bool) a3 ak,lV [slice a n c,slice bm bn bo,slice bp bq bs,slice bt bu bv,bool b] λa4=>lX (agg (.mk a4)) λai=>m'.le ak->R_1 (tuple (.mk [ai,int i64 a3])) ak []->∀b,lE
 [some (Box.mk b a4 26 5 false true)] λbw=>br (!a3 == 0) (rtM m ak R (bool false)) (((0:Int)<=an/\an<=(↑p1c:Int))/\((0:Int)<=yL/\yL<=(↑p2c:Int))/\∀b,lE (some (Box.mk b a2 30 2 true true)::bw) λac=>
 ak.free b->kS pG 39 [slice (some (Addr.mk b 0 none)) 2 2] (ak.add b a2) λa n c m'=>∃R_2,lV [ai,slice a n c] λav=>True/\CX pG 29 (.mk [ai,a1]) m' [] R_2/\Zdv (.tup [.slice,.int i64]) R_2/\∀a a5 c a6 ao,m'.le
 ao->R_2 (tuple (.mk [slice a a5 c,int i64 a6])) ao []->∃R_3,True/\CX pG 29 (.mk av) ao [] R_3/\Zdv (.tup [.slice,.int i64]) R_3/\∀bx bz ca a7 m',lX (slice bx bz ca) λyL=>ao.le m'->R_3 (tuple (.mk [yL,int i64
 a7])) m' []->br (!i64.wrap (a6+a7) == 0) (rtM m m' R (bool false)) (∃I,inI I [slice a a5 c,int i64 0] [] [] m'/\∀a aw c al (m':Mem) (a8:Nat),lX (slice a aw c) λax=>True->I [ax,int i64 al] [] [] m' a8->br
 (decide (al < (↑au:Int))) (atA (Zbq p2a 0 p2c 1) λap o=>Zaf al au/\∃(v:Value),m' ap (o+Int.toNat al*1)=some v/\∃ay,inI ay [slice none 0 0,int i64 0] [] [slice none 0 0] m'/\∀az n c ag a9 am ba (m':
 Mem) (aj:Nat),lX (slice az n c) λyL=>lE (Tok.mk (slice a9 am ba) 1) λah=>True->ay [yL,int i64 ag] [] [slice a9 am ba] m' aj->br (decide (ag < (↑aw:Int))) (atA a λb o=>Zaf ag aw/\∃(bb:Value),lV
 (Array.toList (Value.cells bb)) λxL=>m' b (o+Int.toNat ag*1)=some bb/\chk (Nat.beq (xL.length) 1&&true) (∀b,m'.free b->∃R_4,True/\CX pG 27 (.mk [ai,slice (some (Addr.mk b 0 none)) 1 1,v]) (m'.add b
 (List.append xL [])) [] R_4/\Zdv (.tup [.slice,.int i64]) R_4/\∀a (ae:Nat) aq ar (aa:Mem),lE (n+ae) λad=>Mem.le (m'.add b (List.append xL [])) aa->R_4 (tuple (.mk [slice a ae aq,int i64 ar])) aa []->br (!ar ==
 0) (rtM m aa R (bool false)) ((ah=Tok.mk yL 1\/yL=slice none 0 0\/c < ad)/\∃(xs:List Value),∃(ys:List Value),xs.length=n*1/\ys.length=ae*1/\rowRd aa az xs/\rowRd aa a ys/\(∀(u:Value),u∈ys->
 u.oneCell'=true)/\ad*8<=140737488355328/\ad<=9223372036854775807/\∀(a':Option Addr)(c':Nat) m',aa.le m'->rowRd m' a' (List.append xs ys)->TokFact aa az a' ad c'->Zac ac/\nxI aj ay [slice a' ad c',int i64
 (i64.wrap (ag+1))] [] [slice a' ad c'] m'))) (∃(Y:Nat->Prop),∃(R_4:Value->Mem->List (List Value)->List Value->Prop),CXY pG 40 (.mk [yL]) m' Y [] [ah] R_4/\(∀(t:Tok),t∈[ah]->∀(b:Nat),Tok.blk t=some b->
 Y b)/\(∀(ab:Nat),Y ab->(∃(t:Tok),t∈[ah]/\Tok.blk t=some ab)\/m.free ab/\(∃(o:Nat),∃(v:Value),m' ab o=some v)/\b≠ab/\True)/\(∀(v:Value)(m':Mem) (css:List (List Value)) (tvs:List Value),R_4
 v m' css tvs->Shape.fits (.tup []) v=true)/\∀(aa:Mem),Mem.le (Mem.off m' Y) aa->(∀(b o:Nat)(u:Value),aa b o=some u->m' b o=some u\/Y b\/m'.free b)->∀a c d,lX (slice a c d) λad=>lE [Tok.mk ad 1] fun
 xL=>R_4 (tuple (.mk [])) aa [] [ad]->∃R_5,True/\CX pG 27 (.mk [ai,ax,v]) aa [] R_5/\Zdv (.tup [.slice,.int i64]) R_5/\∀a n c ae m',lX (slice a n c) λa0=>aa.le m'->R_5 (tuple (.mk [a0,int i64 ae])) m' []->∃(J
 : JT),br (!ae == 0) (Zac ac/\([none,none]:List (Option Tok))=[none,none]/\J [bool true] [] [ad] m') (∃(Y:Nat->Prop),∃(R:Value->Mem->List (List Value)->List Value->Prop),CXY pG 41 (.mk [yL]) m' Y [] xL R/\
 (∀(t:Tok),t∈xL->∀(b:Nat),Tok.blk t=some b->Y b)/\(∀(ab:Nat),Y ab->(∃(t:Tok),t∈xL/\Tok.blk t=some ab)\/m.free ab/\(∃(o:Nat),∃(v:Value),m' ab o=some v)/\b≠ab/\True)/\(∀(v:Value) (m':
 Mem) (css:List (List Value)) (tvs:List Value),R v m' css tvs->Shape.fits .slice v=true)/\∀a n c (af:Mem),Mem.le (Mem.off m' Y) af->(∀(b o:Nat)(u:Value),af b o=some u->m' b o=some u\/Y b\/m'.free b)->∀
 bc aq d,R (slice a n c) af [] [slice bc aq d]->kB pG 23 [a0,slice a n c] af λb m'=>Zac ac/\([none,none]:List (Option Tok))=[none,none]/\J [bool !b] [] [slice bc aq d] m')/\∀(b:Bool) a n c (m':Mem),True->
 J [bool b] [] [slice a n c] m'->br b (rtM m m' R (bool false)) (Zac ac/\nxI a8 I [a0,int i64 (i64.wrap (al+1))] [] [] m'))) (∃R_4,True/\CX pG 28 (.mk [ai,yL]) m' [] R_4/\Zdv (.tup [.bool,.int i64]) R_4/\∀(b:
 Bool) ag aa,m'.le aa->R_4 (tuple (.mk [bool b,int i64 ag])) aa []->∃R_5,True/\CX pG 18 (.mk av) aa [] R_5/\Zdv (.tup [.bool,.int i64]) R_5/\∀(ap:Bool) am m',aa.le m'->R_5 (tuple (.mk [bool ap,int i64 am])) m' []->
 ∃R_6,True/\CX pG 30 (.mk (ai::xL)) m' [] R_6/\Zdv (.tup [.slice,.int i64]) R_6/\∀a aj c ae af,m'.le af->R_6 (tuple (.mk [slice a aj c,int i64 ae])) af []->∃R_7,True/\CX pG 30 (.mk av) af [] R_7/\Zdv (.tup
 [.slice,.int i64]) R_7/\∀cb ar c bd m',lX (slice cb ar c) λah=>af.le m'->R_7 (tuple (.mk [ah,int i64 bd])) m' []->∃(ab:Bool),lV [bool ab] λxL=>br (!i64.wrap (i64.wrap (i64.wrap (ag+am)+ae)+bd) == 0)
 (Zac ac/\[bool true]=xL) (kB pG 23 [ax,yL] m' λcc m'=>br (!cc) (Zac ac/\[bool true]=xL) (br (!b == ap) (Zac ac/\[bool true]=xL) (br b (kB pG 42 [ah,int i64 (↑n:Int)] m' λb m'=>Zac ac/\[bool !b]
 = xL) (Zac ac/\[bool false]=xL))))/\br ab (rtM m m' R (bool false)) (∃I,inI I [int i64 0] [] [] m'/\∀n (m':Mem) (be:Nat),True->I [int i64 n] [] [] m' be->br (decide (n < (↑aj:Int))) (atA a λb o=>Zaf n
 aj/\∃(v:Value),m' b (o+Int.toNat n*1)=some v/\chk (Zbw i64 v) (kB pG 42 [ah,int i64 (i64.wrap ((↑(Int.toNat an - 0):Int)+RowKit.intOf v))] m' λb m'=>br (!b) (rtM m m' R (bool false)) (Zac ac/\nxI be I
 [int i64 (i64.wrap (n+1))] [] [] m'))) (rtM m m' R (bool true)))))))):CX Try.prog 9 #[.slice p0a p0n p0c,.slice p1a p1n p1c,.slice p2a p2n p2c] m [] R:=
 Zaj (E:=ZfQ) ZaB mix Try.func9 [.v (.slice p0a p0n p0c),.v (.slice p1a p1n p1c),.v (.slice p2a p2n p2c)] [] (by kernel_rfl) (Eq.mp (by kernel_rfl) h)
end Go.Proofs.Ytplacemlpkhmfaa
namespace Go.Proofs.Ytplacemlpkhmfaa
open Go Go.Eng Go.Rx Go.Proofs Go.RowKit Go.Shelf
set_option maxRecDepth 100000
def ZfD(g s e:Nat):Ren:=⟨fun|4=>g|n=>n,fun|0=>0|3=>3|4=>4|9=>9|20=>20|22=>s|25=>e|n=>n,λn=>n⟩
theorem ZtI:Lays8.n4 Try.prog (ZfD 95 30 5):=
 {mixed:=mix,f4:=⟨Try.f95.name,by kernel_rfl,by kernel_rfl⟩
  t0:=by kernel_rfl,a0:=Try.isAgg0,z0:=Try.sizeOf0,v0:=Try.zeroValue0
  t3:=Try.underlying3,a3:=Try.isAgg3,z3:=Try.sizeOf3,v3:=Try.zeroValue3
  t4:=Try.underlying4,a4:=Try.isAgg4,z4:=Try.sizeOf4,v4:=Try.zeroValue4
  t9:=Try.underlying9,a9:=Try.isAgg9,z9:=Try.sizeOf9,v9:=Try.zeroValue9
  t20:=Try.underlying20,a20:=Try.isAgg20,z20:=Try.sizeOf20,v20:=Try.zeroValue20
  t22:=Try.underlying30,a22:=Try.isAgg30,z22:=Try.sizeOf30,v22:=Try.zeroValue30 }
theorem Zkp{P:Program}{g s e esz by':Nat}{fn:Func}(L:Lays8.n4 P (ZfD g s e))(jA:Zeh P g)(hi:(P.info? e).map (λi=>(i.size,i.bytes))=some (esz,by'))(hz:((P.info? e).bind (·.zero)).map (·.cells.size)=some esz)(fU:0 < esz)(n:Nat)(m:Mem)(hn:n*by'<=140737488355328)(kb:n<=4611686018427387904):
  CXT P g #[.slice none 0 0,.int .i64 n] m esz (λv _ _=>∃a c,v=.slice a 0 c):=by
 refine⟨jA,λw hs=>?_⟩
 obtain⟨i0,h0,qB⟩:=Option.map_eq_some_iff.1 hi
 obtain⟨z,lU,i6⟩:=Option.map_eq_some_iff.1 hz
 rw[h0]at lU
 simp only[Option.bind_some]at lU
 have e1:i0.size=esz:=congrArg Prod.fst qB
 have e2:i0.bytes=by':=congrArg Prod.snd qB
 by_cases kd:n=0
 ·subst kd
  refine(Any8.slices_Grow_room L none 0 0 0 w (by omega) (by omega) (by omega) (by omega)).mono ?_
  rintro e w' ⟨rfl,rfl⟩
  exact⟨_,m,rfl,Mem.le_refl _,hs,λb o v h=>.inl h,Keep.refl _ _ _,.inl rfl,λb hb=>by simp[Tok.blk]at hb,none,0,rfl⟩
 ·refine(Any8.slices_Grow_grow L i0 z h0 lU (by omega) none 0 0 n [] w (by omega) (by omega) (by rw[e2,Nat.zero_add];exact hn) (by omega) (by simp) (λ_=>rfl) (λa h=>by cases h)).mono ?_
  rintro e w' ⟨rfl,hw'⟩
  have cC:w'.heap=w.heap.push (.cells (#[]++Builtin.zeroCells z.cells (0+n - 0)++Builtin.zeroCells z.cells (grownCap w (0+n) 0 ((ZfD g s e).t 25) - (0+n))) ((ZfD g s e).t 25) (0,0)):=by rw[hw'];rfl
  have hb:w'.heap[w.heap.size]?=some (.cells (#[]++Builtin.zeroCells z.cells (0+n - 0)++Builtin.zeroCells z.cells (grownCap w (0+n) 0 ((ZfD g s e).t 25) - (0+n))) ((ZfD g s e).t 25) (0,0)):=by
   rw[cC,Array.getElem?_push_size]
  have hk:Keep w.heap.size [] w w':=by
   rw[hw']
   exact(Keep.drew w).trans (Keep.alloc (B:=w.heap.size) (w:=w.drew) (show w.heap.size<=w.drew.heap.size from Nat.le_refl _) (ZdJ _ _))
  have cL:=grownCap_ge w (0+n) 0 ((ZfD g s e).t 25)
  refine⟨_,m,rfl,Mem.le_refl _,λb o v hv=>?_,λb o v h=>.inl h,hk,.inr ⟨w.heap.size,0,0,_,_,_,_,rfl,by omega,hb,?_,?_,?_⟩,?_,_,_,rfl⟩
  ·have aH:=hs.lt hv
   rw[ZaY (hk.block b aH (by simp))];exact hs b o v hv
  ·generalize grownCap w (0+n) 0 ((ZfD g s e).t 25)=G at *
   simp only[Array.size_append,size_zeroCells,i6]
   have:G*esz=(0+n - 0)*esz+(G - (0+n))*esz:=by rw[<-Nat.add_mul];congr 1;omega
   simp only[List.size_toArray,List.length_nil]
   omega
  ·intro o _
   simp
  ·intro o _ _
   cases hm:m w.heap.size o with
   | none=>rfl
   | some v=>have:=hs.lt hm;omega
  ·intro b hb'
   simp[Tok.blk]at hb'
   omega
theorem Zmt(n:Nat)(m:Mem)(hn:n<=1000000):CXT Try.prog 95 #[.slice none 0 0,.int .i64 n] m 1 (λv _ _=>∃a c,v=.slice a 0 c):=
 Zkp (by':=1) (fn:=Try.f95) ZtI (Go.Eng.ZfV Try.func95 (by kernel_rfl) (by kernel_rfl)) (by kernel_rfl) (by kernel_rfl) (by decide) n m (by omega) (by omega)
structure Part where
 a:Option Addr
 n:Nat
 c:Nat
 xs:List Value
def Zkq(L:List Part):Nat:=(L.map Part.n).sum
def ZsY(L:List Part):List Value:=(L.map Part.xs).flatten
theorem Zfb(L:List Part)(q:Part):Zkq (L++[q])=Zkq L+q.n:=by simp[Zkq]
theorem Zp0(L:List Part)(q:Part):ZsY (L++[q])=ZsY L++q.xs:=by simp[ZsY]
theorem Zi2(L:List Part)(k:Nat):Zkq (L.take k)<=Zkq L:=by
 have e:L=L.take k++L.drop k:=(List.take_append_drop k L).symm
 have:Zkq L=Zkq (L.take k)+Zkq (L.drop k):=by
  have e2:=congrArg Zkq e
  simp only[Zkq,List.map_append,List.sum_append]at e2 ⊢
  exact e2
 omega
structure Lies (m:Mem)(pa:Option Addr)(esz:Nat)(L:List Part):Prop where
 at':∀i q,L[i]?=some q->∃b o,pa=some ⟨b,o,none⟩/\m b (o+i)=some (.slice q.a q.n q.c)
 row:∀q∈L,rowRd m q.a q.xs/\q.xs.length=q.n*esz/\∀u∈q.xs,u.oneCell'=true
theorem Lies.len{m:Mem}{pa:Option Addr}{esz:Nat}:∀{L:List Part},(∀q∈L,q.xs.length=q.n*esz)->(ZsY L).length=Zkq L*esz
 | [],_=>by simp[ZsY,Zkq]
 | q::L,h=>by
  have:=Lies.len (m:=m) (pa:=pa) (L:=L) λx hx=>h x (by simp[hx])
  simp only[ZsY,Zkq,List.map_cons,List.flatten_cons,zA1,List.sum_cons,h q (by simp),Nat.add_mul]at *
  omega
theorem Zkr(L:List Part)(pa:Option Addr)(pc:Nat)(m:Mem)(h:Lies m pa 1 L)(pq:Zkq L<=100000)(hL:L.length<=1000):CX Try.prog 39 #[.slice pa L.length pc] m [] (λv m' _=>∃a c,v=.slice a (Zkq L) c/\rowRd m' a (ZsY L)):=by
 apply ZbX
 refine⟨λxs css tvs m' q=>∃k:Nat,k<=L.length/\xs=[.int .i64 (Zkq (L.take k):Nat),.int .i64 k]/\q=L.length - k,⟨L.length,0,by omega,rfl,rfl⟩,?_⟩
 rintro z1 z2 m1 q aD ⟨k,hk,eJ,hq⟩
 obtain⟨rfl,rfl⟩:z1=(Zkq (L.take k):Nat)/\z2=k:=by simpa using eJ
 have fW:=Zi2 L k
 refine Zab (λaH=>?_) (λcL=>?_)
 ·have aF:k < L.length:=by have:=zA6 aH;omega
  obtain⟨p,hp⟩:=ZjG aF
  obtain⟨b,o,ha,hv⟩:=h.at' k p hp
  have mI:=Zi2 L (k+1)
  rw[Zgj hp,Zfb]at mI
  have hw:IntKind.i64.wrap ((k:Int)+1)=((k+1:Nat):Int):=by rw[Zat (by omega) (by omega)];rfl
  have dT:IntKind.i64.wrap (((Zkq (L.take k):Nat):Int)+((slN (.slice p.a p.n p.c):Nat):Int))=((Zkq (L.take (k+1)):Nat):Int):=by
   rw[Zgj hp,Zfb]
   simp only[slN]
   rw[Zat (by omega) (by omega)];push_cast;rfl
  simp only[zA8,Nat.mul_one]
  refine⟨b,o,ha,⟨by omega,by omega⟩,.slice p.a p.n p.c,aD _ _ _ hv,Zaa rfl ?_⟩
  simp only[dT,hw]
  exact Zab (λs4=>absurd (zA6 s4) (by omega)) (λ_=>⟨L.length - (k+1),by omega,k+1,by omega,rfl,rfl⟩)
 ·have wP:k=L.length:=by have:=of_decide_eq_false cL;omega
  subst wP
  rw[List.take_length]
  refine⟨_,Zmt (Zkq L) m1 (by omega),(λv _ _ ⟨a,c,e⟩=>by rw[e];rfl),?_⟩
  rintro a n c m2 bN ⟨a0,c0,qh⟩
  simp only[Value.slice.injEq]at qh
  obtain⟨rfl,rfl,rfl⟩:=qh
  refine⟨λxs css tvs m' q=>∃(k:Nat)(a:Option Addr)(c:Nat),k<=L.length/\xs=[.slice a (Zkq (L.take k)) c,.int .i64 k]/\tvs=[.slice a (Zkq (L.take k)) c]/\rowRd m' a (ZsY (L.take k))/\q=L.length - k,⟨L.length,0,_,_,by omega,rfl,rfl,.inl rfl,rfl⟩,?_⟩
  rintro a4 n4 c4 z5 a5 n5 c5 m3 q3 bW ⟨j,a',c',hj,pr,jX,eO,qZ⟩
  simp only[List.cons.injEq,Value.slice.injEq,Value.int.injEq,true_and,and_true]at pr jX
  obtain⟨⟨rfl,rfl,rfl⟩,rfl⟩:=pr
  obtain⟨rfl,rfl,rfl⟩:=jX
  have f6:=mLt aD (mLt bN bW)
  refine Zab (λaH=>?_) (λcL=>?_)
  ·have aF:j < L.length:=by have:=zA6 aH;omega
   obtain⟨p,hp⟩:=ZjG aF
   obtain⟨b,o,ha,hv⟩:=h.at' j p hp
   obtain⟨fG,oC,wQ⟩:=h.row p (zA2 hp)
   have mI:=Zi2 L (j+1)
   rw[Zgj hp,Zfb]at mI
   have hw:IntKind.i64.wrap ((j:Int)+1)=((j+1:Nat):Int):=by rw[Zat (by omega) (by omega)];rfl
   simp only[zA8,Nat.mul_one,hw]
   refine⟨b,o,ha,⟨by omega,by omega⟩,.slice p.a p.n p.c,f6 _ _ _ hv,Zaa rfl ⟨by first|exact .inl trivial|exact .inl rfl,ZsY (L.take j),p.xs,?_,by simpa[slN]using oC,eO,fG.mono f6,wQ,?_,?_,λa6 c6 m6 gM iY=>⟨by trivial,L.length - (j+1),by omega,j+1,a6,c6,by omega,?_,?_,?_,rfl⟩⟩⟩
   ·simpa using Lies.len (m:=m) (pa:=pa) (L:=L.take j) λx hx=>(h.row x (List.mem_of_mem_take hx)).2.1
   ·simp only[slN];omega
   ·simp only[slN];omega
   ·rw[Zgj hp,Zfb];rfl
   ·rw[Zgj hp,Zfb];rfl
   ·rw[Zgj hp,Zp0];exact iY
  ·have wR:j=L.length:=by have:=of_decide_eq_false cL;omega
   subst wR
   rw[List.take_length]at eO ⊢
   exact⟨m3,f6,Mem.le_refl _,_,_,rfl,eO⟩
end Go.Proofs.Ytplacemlpkhmfaa
namespace Go.Proofs.Ytplacemlpkhmfaa
open Go Go.Eng Go.Proofs Go.RowKit
open Go.Value (int slice agg bool string tuple func)
open Go.IntKind (u8 u64 i64)
set_option maxRecDepth 100000
def ZcK:Env:={ EB with
 loops:=swI nLa [(2,⟨[(8,.int .i64)],[],[],false⟩)] }
theorem ZcE(p0a:Option Addr)(p0n p0c:Nat)(p1:Int)(m:Mem)(R:RT)(h:
 ∃I,inI I [int i64 0] [] [] m/\∀n m' (n_1:Nat),m.le m'->I [int i64 n] [] [] m' n_1->br (decide (n < (↑p0n:Int))) (atA p0a λb o=>Zaf n p0n/\∃(v:Value),m' b (o+Int.toNat n*1)=some v/\chk (Zbw i64 v)
 (br (p1 == RowKit.intOf v) (rtM m m' R (int i64 n)) (nxI n_1 I [int i64 (i64.wrap (n+1))] [] [] m'))) (rtM m m' R (int i64 (-1)))):CX Try.prog 98 #[.slice p0a p0n p0c,.int .i64 p1] m [] R:=
 Zaj (E:=ZcK) ZaB mix Try.func98 [.v (.slice p0a p0n p0c),.v (.int .i64 p1)] [] (by kernel_rfl) (Eq.mp (by kernel_rfl) h)
def Zb5:Env:=EB
theorem ZbY(p0a:Option Addr)(p0n p0c:Nat)(p1:Int)(m:Mem)(R:RT)(h:
 kI pG 98 [slice p0a p0n p0c,int i64 p1] m λn m'=>rtM m m' R (bool (decide (n ≥ 0)))):CX Try.prog 42 #[.slice p0a p0n p0c,.int .i64 p1] m [] R:=
 Zaj (E:=Zb5) ZaB mix Try.func42 [.v (.slice p0a p0n p0c),.v (.int .i64 p1)] [] (by kernel_rfl) (Eq.mp (by kernel_rfl) h)
end Go.Proofs.Ytplacemlpkhmfaa
namespace Go.Proofs.Ytplacemlpkhmfaa
open Go Go.Eng Go.Rx Go.Proofs Go.RowKit
set_option maxRecDepth 100000
theorem ZrF{A:Nf}{l:List Int}(he:A.err l=0):A.right=true/\A.states l=true:=by
 unfold Nf.err at he
 cases hr:A.right with
 | false=>rw[hr]at he;simp at he
 | true=>
  cases hs:A.states l with
  | false=>rw[hr,hs]at he;simp at he
  | true=>exact⟨rfl,rfl⟩
theorem ZoD{A:Nf}{l:List Int}(hr:A.right=true)(hs:A.states l=true):A.err l=0:=by
 unfold Nf.err
 rw[hr,hs];simp
theorem Zmu{st:Bool}(A:Nf)(v:Value)(l:List Int)(a:Option Addr)(c:Nat)(m:Mem)(h:NfR st A v m)(hl:rowRd m a (Zan l))(dU:l.length<=1000000)(he:A.err l=0):
  CX Try.prog 28 #[v,.slice a l.length c] m [] (Ret (.tuple #[.bool (A.accepts l),.int .i64 0])):=by
 have h':=h
 obtain⟨s,f,x,y,rfl,⟨sa,sc,rfl,hs',dM,iq⟩,⟨fa,fc,vs,rfl,hf,gE,i9,ia⟩,⟨xa,xc,rfl,hx,fB,hU⟩,⟨ya,yc,rfl,hy,dL,ir⟩⟩:=h
 apply Zhv
 intro b m1 aD _
 refine Zem (Zoz A _ l a c m1 (h'.mono aD) (hl.mono aD) dU) λm2 bN=>Zab (λh1=>?_) (λh1=>?_)
 ·exact absurd he (by simpa using h1)
 ·obtain⟨hr,hs⟩:=ZrF he
  have f8:=mLt aD bN
  exact Zai (Zg5 A (Zeo.1 hr) _ l a c m2 (h'.mono f8) (hl.mono f8) dU hs) λm3 bW=>Zag (mLt f8 bW) rfl
theorem ZoE{m:Mem}{a:Option Addr}{l:List Int}(h:rowRd m a (Zan l)){i:Nat}{x:Int}(hi:l[i]?=some x):∃b o,a=some ⟨b,o,none⟩/\m b (o+i)=some (.int .i64 x):=by
 rcases h with h|⟨b,o,h1,h2⟩
 ·rw[show l=[] by simpa[Zan]using h]at hi;simp at hi
 ·exact⟨b,o,h1,h2 i (.int .i64 x) (by rw[Zan,List.getElem?_map,hi];rfl)⟩
theorem ZnH(l:List Int)(a:Option Addr)(c:Nat)(x:Int)(m:Mem)(h:rowRd m a (Zan l))(hl:l.length<=1000000000000000):CX Try.prog 98 #[.slice a l.length c,.int .i64 x] m [] (λv _ _=>∃z:Int,v=.int .i64 z/\(z ≥ 0↔x∈l)):=by
 apply ZcE
 refine⟨λxs css _ m' q=>∃k:Nat,k<=l.length/\xs=[.int .i64 k]/\x ∉ l.take k/\q=l.length - k,⟨_,0,by omega,rfl,by simp,rfl⟩,?_⟩
 rintro z m1 q aD ⟨k,hk,hz,gX,hq⟩
 obtain rfl:z=k:=by simpa using hz
 refine Zab (λaH=>?_) (λcL=>⟨m1,aD,Mem.le_refl _,_,rfl,?_⟩)
 ·have aF:k < l.length:=by have:=zA6 aH;omega
  obtain⟨u,hu⟩:=Zau aF
  have gL:IntKind.i64.wrap ((k:Int)+1)=((k+1:Nat):Int):=by rw[Zat (by omega) (by omega)];rfl
  obtain⟨b,o,h1,h2⟩:=ZoE (h.mono aD) hu
  simp only[gL,zA8,Nat.mul_one]
  refine⟨b,o,h1,⟨by omega,by omega⟩,_,h2,Zaa rfl (Zab (λhc=>⟨m1,aD,Mem.le_refl _,_,rfl,?_⟩) (λhc=>⟨l.length - (k+1),by omega,k+1,by omega,rfl,?_,rfl⟩))⟩
  ·have:x=u:=by simp[RowKit.intOf]at hc;omega
   subst this
   exact⟨λ_=>zA2 hu,λ_=>by omega⟩
  ·rw[List.take_add_one,hu,List.mem_append]
   rintro(h|h)
   ·exact gX h
   ·simp at h;subst h;simp[RowKit.intOf]at hc
 ·have:k=l.length:=by have:=of_decide_eq_false cL;omega
  subst this
  rw[List.take_length]at gX
  exact⟨λh=>by omega,λh=>absurd h gX⟩
theorem ZgH(l:List Int)(a:Option Addr)(c:Nat)(x:Int)(m:Mem)(h:rowRd m a (Zan l))(hl:l.length<=1000000000000000):CX Try.prog 42 #[.slice a l.length c,.int .i64 x] m [] (Ret (.bool (decide (x∈l)))):=by
 apply ZbY
 refine Zak (ZnH l a c x m h hl) (λv _ _ ⟨z,e,_⟩=>by rw[e];rfl) ?_
 rintro z m1 aD ⟨z',e,hz⟩
 obtain rfl:z=z':=by simpa using e
 refine Zag aD ?_
 show _=_
 congr 1
 exact decide_eq_decide.2 hz
theorem ZoF{hi:Int}:∀{l:List Int} {lo:Int},l.Pairwise (· < ·)->(∀x∈l,lo < x/\x<=hi)->(l.length:Int)<=max 0 (hi - lo)
 | [],_,_,_=>by simp;omega
 | p::l,lo,h,hx=>by
  rw[List.pairwise_cons]at h
  have h1:=ZoF (lo:=p) h.2 λx hm=>⟨h.1 x hm,(hx x (by simp[hm])).2⟩
  have h2:=hx p (by simp)
  rw[List.length_cons]
  omega
theorem ZjK{A:Nf}(hA:A.Ok){l:List Int}(h:A.states l=true):l.length<=401:=by
 unfold Nf.states at h
 obtain⟨h1,h2⟩:=ZbH.1 h
 have:=ZoF h1 h2
 have hn:=hA.n
 unfold Nf.top at this
 omega
theorem ZnI{A:Nf}{l:List Int}(h:A.states l=true){p:Int}(hp:p∈l):A.states [p]=true:=by
 unfold Nf.states at h ⊢
 rw[ZbH]at h ⊢
 exact⟨by simp,λx hx=>by rw[List.mem_singleton]at hx;subst hx;exact h.2 x hp⟩
theorem ZjL(l r:List Int):Zan (l++r)=Zan l++Zan r:=by simp[Zan]
theorem ZsZ{m:Mem}{a:Option Addr}{xs ys:List Value}(h:rowRd m a (xs++ys)):rowRd m a xs:=by
 rcases h with h|⟨b,o,h1,h2⟩
 ·exact .inl (List.append_eq_nil_iff.1 h).1
 ·exact .inr ⟨b,o,h1,λj v hj=>h2 j v (by rw[zA5 (zA0 hj).1];exact hj)⟩
def Zux(m:Mem)(a:Option Addr):Prop:=∀ad:Addr,a=some ad->m.free ad.block
theorem Zp1{M m:Mem}{a a':Option Addr}{n c:Nat}(h:TokFact m a a' n c)(hm:M.le m)(ha:Zux M a):Zux M a':=λad e=>by
 rcases h.2 with h|⟨b',o',h1,h2|⟨_,h2⟩⟩
 ·rw[h]at e;cases e
 ·exact ha ad (h2.trans e)
 ·rw[h1]at e;cases e
  exact λo=>by
   cases hu:M b' o with
   | none=>rfl
   | some u=>have:=hm _ _ _ hu;rw[h2 o]at this;cases this
theorem ZtJ{M:Mem}{a:Option Addr}{n c:Nat}(h:Zux M a):∀b,Yi (.slice a n c) b->M.free b:=λb hb=>by
 cases a with
 | none=>simp[Yi,Tok.blk]at hb
 | some ad=>
  have hb:some ad.block=some b:=hb
  cases hb
  exact h ad rfl
theorem ZqR{M m:Mem}{Y:Nat->Prop}(h:M.le m)(hY:∀b,Y b->M.free b):M.le (m.off Y):=λb o v hv=>by
 rw[Mem.off_at λhy=>by rw[hY b hy o]at hv;cases hv]
 exact h _ _ _ hv
end Go.Proofs.Ytplacemlpkhmfaa
namespace Go.Proofs.Ytplacemlpkhmfaa
open Go Go.Eng Go.Proofs Go.RowKit
open Go.Value (int slice agg bool string tuple func)
open Go.IntKind (u8 u64 i64)
set_option maxRecDepth 100000
def Zmv:Env:=EB
theorem Zks(p0:Int)(m:Mem)(R:RT)(h:
 ∀(b b:Nat),lE (u8.wrap (Int.tdiv p0 (64:Int))) λyL=>lE (0+Int.toNat yL*1) λyL_1=>lV (Zaw [int u64 0,int u64 0,int u64 0,int u64 0] yL_1 [int u64 (u64.wrap ((1:Int)*(2:Int) ^ min (Int.toNat (Int.tmod
 p0 (64:Int))) 64))]) λxL=>(64:Int)≠0/\(64:Int)≠0/\(0:Int)<=Int.tmod p0 (64:Int)/\Zaf yL 4/\chk (Nat.ble yL_1 (nat_lit 3)) (chk (Nat.beq (xL.length) 4&&Zcr xL) (rtM m m R (agg (.mk xL))))):CX Try.prog 52 #[.int .u8 p0] m [] R:=
 Zaj (E:=Zmv) ZaB mix Try.func52 [.v (.int .u8 p0)] [] (by kernel_rfl) (Eq.mp (by kernel_rfl) h)
def Zhw:Env:=EB
theorem ZgI(p0:Int)(m:Mem)(R:RT)(h:
 ∀(b:Nat),∃R_1,True/\CX pG 52 (.mk [int u8 p0]) m [] R_1/\Zdv (.agg [.int u64,.int u64,.int u64,.int u64]) R_1/\∀n n_1 n_2 n_3 m',m.le m'->R_1 (agg (.mk [int u64 n,int u64 n_1,int u64 n_2,int u64 n_3])) m' []->
 rtM m m' R (agg (.mk [int u8 2,int u64 n,int u64 n_1,int u64 n_2,int u64 n_3,int i64 0,int i64 0,slice none 0 0]))):CX Try.prog 51 #[.int .u8 p0] m [] R:=
 Zaj (E:=Zhw) ZaB mix Try.func51 [.v (.int .u8 p0)] [] (by kernel_rfl) (Eq.mp (by kernel_rfl) h)
def Zi3:Env:={ EB with
 dr:=swI [] [(2,[⟨0,[1],[],none,[],[]⟩,dO 1 [],⟨2,[26],[26],none,[0,1],[1]⟩,⟨3,[26],[],none,[0,1,2],[]⟩,⟨4,[28],[28],none,[0,1,2,3],[2]⟩,⟨5,[28],[],none,[0,1,2,3,4],[]⟩,⟨6,[2],[2],none,[],[]⟩,⟨7,[2],[2],none,[0,1,2,3,4,5,6],[]⟩])] }
theorem Zhx  (m:Mem)(R:RT)(h:
 kN pG 51 [int u8 97] m λn cf cg ch ci cj ck a cl c m'=>kN pG 51 [int u8 98] m' λcm cn co cp cq cr cs ct cu cv m'=>∀(b:Nat),lX (slice (some (Addr.mk b 0 none)) 2 2) λyL=>lM (m'.add b [int u8 n,int u64 cf,int
 u64 cg,int u64 ch,int u64 ci,int i64 cj,int i64 ck,slice a cl c,int u8 cm,int u64 cn,int u64 co,int u64 cp,int u64 cq,int i64 cr,int i64 cs,slice ct cu cv]) λmL=>m'.free b->∀(b:Nat),∃(f:Fx),dN f 1 pG 51
 [int u8 99] mL λn cw cx cy cz da db a dc c m'=>∀b,lM (m'.add b [int u8 3,int u64 0,int u64 0,int u64 0,int u64 0,int i64 0,int i64 0,yL,int u8 n,int u64 cw,int u64 cx,int u64 cy,int u64 cz,int i64 da,int i64
 db,slice a dc c]) λag=>m'.free b->∀ah,ag.free ah->∀(fr:Nat) M,mL.le M->m'.le M->ag.le M->Mem.le (ag.add ah [int u8 4,int u64 0,int u64 0,int u64 0,int u64 0,int i64 0,int i64 0,slice (some (Addr.mk b 0
 none)) 2 2]) M->∃R_1,True/\CX pG 14 (.mk [agg (.mk [int u8 5,int u64 0,int u64 0,int u64 0,int u64 0,int i64 0,int i64 (-1),slice (some (Addr.mk ah 0 none)) 1 1])]) M [] R_1/\Zdv (.tup [.agg [.slice,.slice,.slice,
 .slice,.bool],.int i64]) R_1/\∀a n c dd de df dg dh di dj dk dl (b:Bool) a8 m',lX (agg (.mk [slice a n c,slice dd de df,slice dg dh di,slice dj dk dl,bool b])) λaa=>M.le m'->R_1 (tuple (.mk [aa,int i64 a8])) m'
 []->∀(b:Nat),∃R_2,True/\CX pG 52 (.mk [int u8 97]) m' [] R_2/\Zdv (.agg [.int u64,.int u64,.int u64,.int u64]) R_2/\∀n dm dn dp ab,lX (int u64 n) λa9=>lX (int u64 dp) λba=>lX (int u64 dm) λbb=>lX
 (int u64 dn) λbc=>m'.le ab->R_2 (agg (.mk [a9,bb,bc,ba])) ab []->∃R_3,True/\CX pG 52 (.mk [int u8 98]) ab [] R_3/\Zdv (.agg [.int u64,.int u64,.int u64,.int u64]) R_3/\∀n dq dr ds m',lX (int u64 ds) λbd=>
 lX (int u64 n) λbe=>lX (int u64 dq) λbf=>lX (int u64 dr) λbg=>ab.le m'->R_3 (agg (.mk [be,bf,bg,bd])) m' []->∃R_4,True/\CX pG 52 (.mk [int u8 99]) m' [] R_4/\Zdv (.agg [.int u64,.int u64,.int u64,.int
 u64]) R_4/\∀n dt du dv ac,lV [int u64 n,int u64 dt,int u64 du,int u64 dv] λxL=>lV (a9::bb::bc::ba::be::bf::bg::bd::xL) λdw=>m'.le ac->R_4 (agg (.mk xL)) ac []->∀b,lM (ac.add b dw) λmL=>
 ac.free b->∀ai,lM (mL.add ai [int i64 0,int i64 2]) λbh=>mL.free ai->∀aj,lM (bh.add aj [int i64 1,int i64 2]) λmL=>bh.free aj->∀ak,lM (mL.add ak [int i64 1]) λbi=>mL.free ak->∀al,lM (bi.add al [int i64
 0,int i64 2]) λmL=>bi.free al->∀am,lM (mL.add am [int i64 0,int i64 2]) λbj=>mL.free am->∀an,bj.free an->∀(fs:Nat),kN pG 51 [int u8 97] (bj.add an [slice (some (Addr.mk ak 0 none)) 1 1,slice (some (Addr.mk
 al 0 none)) 2 2,slice (some (Addr.mk am 0 none)) 2 2]) λn dx dy dz d0 d1 d2 a d3 c m'=>∀ao,lM (m'.add ao [int u8 n,int u64 dx,int u64 dy,int u64 dz,int u64 d0,int i64 d1,int i64 d2,slice a d3 c]) λmL=>m'.free
 ao->∃R_5,True/\CX pG 14 (.mk [agg (.mk [int u8 5,int u64 0,int u64 0,int u64 0,int u64 0,int i64 2,int i64 3,slice (some (Addr.mk ao 0 none)) 1 1])]) mL [] R_5/\Zdv (.tup [.agg [.slice,.slice,.slice,.slice,.bool],
 .int i64]) R_5/\∀a n c d4 d5 d6 d7 d8 d9 ea eb ec (ed:Bool) bk m',lX (agg (.mk [slice a n c,slice d4 d5 d6,slice d7 d8 d9,slice ea eb ec,bool ed])) λbl=>mL.le m'->R_5 (tuple (.mk [bl,int i64 bk])) m' []->∀(ft:
 Nat),kN pG 51 [int u8 97] m' λn ee ef eg eh ei ej a ek c m'=>∀ap,lM (m'.add ap [int u8 n,int u64 ee,int u64 ef,int u64 eg,int u64 eh,int i64 ei,int i64 ej,slice a ek c]) λmL=>m'.free ap->∃R_6,True/\CX pG 14
 (.mk [agg (.mk [int u8 5,int u64 0,int u64 0,int u64 0,int u64 0,int i64 2,int i64 (-1),slice (some (Addr.mk ap 0 none)) 1 1])]) mL [] R_6/\Zdv (.tup [.agg [.slice,.slice,.slice,.slice,.bool],.int i64]) R_6/\∀a n c
 el em en eo ep eq er es et (eu:Bool) bm m',lX (agg (.mk [slice a n c,slice el em en,slice eo ep eq,slice er es et,bool eu])) λbn=>mL.le m'->R_6 (tuple (.mk [bn,int i64 bm])) m' []->∀(fu:Nat),∃R_7,True/\CX pG
 52 (.mk [int u8 97]) m' [] R_7/\Zdv (.agg [.int u64,.int u64,.int u64,.int u64]) R_7/\∀n ev ew ex ad,lX (int u64 ev) λaq=>lX (int u64 ew) λar=>lX (int u64 ex) λau=>lX (int u64 n) λav=>lV [av,aq,ar,
 au] λxL=>lV (av::aq::ar::au::xL) λbo=>lV (av::aq::ar::au::bo) λey=>m'.le ad->R_7 (agg (.mk xL)) ad []->∀(fv:Nat),br (!i64.wrap (i64.wrap (a8+bk)+bm) == 0) (rtM m ad R (bool false)) (kB pG
 22 [aa,agg (.mk [slice (some (Addr.mk b 0 none)) 3 3,slice (some (Addr.mk an 0 none)) 3 3,slice (some (Addr.mk ai 0 none)) 2 2,slice (some (Addr.mk aj 0 none)) 2 2,bool true])] ad λb m'=>br (!b) (rtM m m' R (bool false))
 (∀b,lM (m'.add b ey) λmL=>m'.free b->∀aw,lM (mL.add aw [int i64 0]) λbp=>mL.free aw->∀ax,lM (bp.add ax [int i64 1,int i64 2]) λmL=>bp.free ax->∀ay,lM (mL.add ay [int i64 1]) λbq=>mL.free ay->∀az,
 lM (bq.add az [int i64 2]) λmL=>bq.free az->∀a0,mL.free a0->kB pG 22 [bl,agg (.mk [slice (some (Addr.mk b 0 none)) 3 3,slice (some (Addr.mk a0 0 none)) 3 3,slice (some (Addr.mk aw 0 none)) 1 1,slice (some (Addr.mk ax
 0 none)) 2 2,bool false])] (mL.add a0 [slice (some (Addr.mk ay 0 none)) 1 1,slice (some (Addr.mk az 0 none)) 1 1,slice none 0 0]) λb m'=>br (!b) (rtM m m' R (bool false)) (∀b,lM (m'.add b bo) λmL=>m'.free b->∀a1,
 lM (mL.add a1 [int i64 0]) λbs=>mL.free a1->∀a2,lM (bs.add a2 [int i64 1]) λmL=>bs.free a2->∀a3,lM (mL.add a3 [int i64 1]) λbt=>mL.free a3->∀a4,lM (bt.add a4 [int i64 1]) λmL=>bt.free a4->∀a5,
 mL.free a5->kB pG 22 [bn,agg (.mk [slice (some (Addr.mk b 0 none)) 2 2,slice (some (Addr.mk a5 0 none)) 2 2,slice (some (Addr.mk a1 0 none)) 1 1,slice (some (Addr.mk a2 0 none)) 1 1,bool false])] (mL.add a5 [slice (some
 (Addr.mk a3 0 none)) 1 1,slice (some (Addr.mk a4 0 none)) 1 1]) λb m'=>br (!b) (rtM m m' R (bool false)) (∀b,lM (m'.add b [int i64 (-1)]) λmL=>m'.free b->∃R_8,True/\CX pG 27 (.mk [aa,slice (some (Addr.mk b 0
 none)) 1 1,int u8 97]) mL [] R_8/\Zdv (.tup [.slice,.int i64]) R_8/\∀a n c bu m',mL.le m'->R_8 (tuple (.mk [slice a n c,int i64 bu])) m' []->∀b,lM (m'.add b [int i64 (-1)]) λmL=>m'.free b->∃R_9,True/\CX pG 27
 (.mk [aa,slice (some (Addr.mk b 0 none)) 1 1,int u8 98]) mL [] R_9/\Zdv (.tup [.slice,.int i64]) R_9/\∀ez bv e0 bw m',mL.le m'->R_9 (tuple (.mk [slice ez bv e0,int i64 bw])) m' []->∃R_10,True/\CX pG 14 (.mk [agg (.mk
 [int u8 3,int u64 0,int u64 0,int u64 0,int u64 0,int i64 0,int i64 0,yL])]) m' [] R_10/\Zdv (.tup [.agg [.slice,.slice,.slice,.slice,.bool],.int i64]) R_10/\∀e1 e2 e3 e4 e5 e6 e7 e8 e9 fa fb fc (b:Bool) bx ae,
 lX (agg (.mk [slice e1 e2 e3,slice e4 e5 e6,slice e7 e8 e9,slice fa fb fc,bool b])) λyL=>m'.le ae->R_10 (tuple (.mk [yL,int i64 bx])) ae []->∀(b:Nat) b,lM (ae.add b [int u8 97,int u8 98,int u8 97,int u8 98]) fun
 mL=>ae.free b->∃R_11,True/\CX pG 30 (.mk [yL,slice (some (Addr.mk b 0 none)) 4 4]) mL [] R_11/\Zdv (.tup [.slice,.int i64]) R_11/\∀bz ca cb cc m',mL.le m'->R_11 (tuple (.mk [slice bz ca cb,int i64 cc])) m' []->∃
 R_12,True/\CX pG 16 (.mk [yL]) m' [] R_12/\Zdv (.tup [.agg [.slice,.slice,.slice,.slice,.bool],.int i64]) R_12/\∀fd fe ff fg fh fi fj fk fl fm fn fo (b:Bool) cd af,lX (agg (.mk [slice fd fe ff,slice fg fh fi,slice
 fj fk fl,slice fm fn fo,bool b])) λyL=>m'.le af->R_12 (tuple (.mk [yL,int i64 cd])) af []->∀(b:Nat) b,lM (af.add b [int u8 98,int u8 97]) λmL=>af.free b->∃R_13,True/\CX pG 18 (.mk [yL,slice (some (Addr.mk
 b 0 none)) 2 2]) mL [] R_13/\Zdv (.tup [.bool,.int i64]) R_13/\∀(b:Bool) ce m',mL.le m'->R_13 (tuple (.mk [bool b,int i64 ce])) m' []->br (i64.wrap (i64.wrap (i64.wrap (i64.wrap (i64.wrap (bu+bw)+bx)+cc)+cd) +
 ce) == 0) (∀a6,m'.free a6->kB pG 23 [slice a n c,slice (some (Addr.mk a6 0 none)) 1 1] (m'.add a6 [int i64 0]) λfp m'=>br fp (br ((↑bv:Int) == 0) (∀a7,m'.free a7->kB pG 23 [slice bz ca cb,slice (some (Addr.mk a7 0
 none)) 2 2] (m'.add a7 [int i64 2,int i64 4]) λfq m'=>br fq (rtM m m' R (bool b)) (rtM m m' R (bool false))) (rtM m m' R (bool false))) (rtM m m' R (bool false))) (rtM m m' R (bool false))))))):CX Try.prog 12 #[] m [] R:=
 Zaj (E:=Zi3) ZaB mix Try.func12 [] [] (by kernel_rfl) (Eq.mp (by kernel_rfl) h)
end Go.Proofs.Ytplacemlpkhmfaa
namespace Go.Proofs.Ytplacemlpkhmfaa
open Go Go.Eng Go.Rx Go.Proofs Go.RowKit
set_option maxRecDepth 100000
open Classical in
theorem ZfE{A:Nf}{e:Int}:∀(v:Value)(m':Mem) (css:List (List Value)),NfE A e v m' css->Shape.fits (.tup [.agg [.slice,.slice,.slice,.slice,.bool],.int .i64]) v=true:=by
 rintro v m' css ⟨w,rfl,s,f,x,y,rfl,⟨_,_,rfl,_⟩,⟨_,_,_,rfl,_⟩,⟨_,_,rfl,_⟩,⟨_,_,rfl,_⟩⟩;rfl
end Go.Proofs.Ytplacemlpkhmfaa
namespace Go.Proofs.Ytplacemlpkhmfaa
open Go Go.Eng Go.Rx Go.Proofs Go.RowKit
set_option maxRecDepth 100000
def q1(c:Nat):QS:=(ZbJ c 0,ZbJ c 1,ZbJ c 2,ZbJ c 3)
theorem ZjM(c:Nat)(hc:c < 256)(m:Mem):CX Try.prog 52 #[.int .u8 c] m [] (Ret (.agg #[.int .u64 (ZbJ c 0),.int .u64 (ZbJ c 1),.int .u64 (ZbJ c 2),.int .u64 (ZbJ c 3)])):=by
 apply Zks
 intro b b1
 have hq:IntKind.u8.wrap (Int.tdiv (c:Int) 64)=((c / 64:Nat):Int):=by rw[Zt5];exact Zt6 (by omega) (by omega)
 have hr:IntKind.u64.wrap (1*2 ^ min (Int.toNat (Int.tmod (c:Int) 64)) 64)=((2 ^ (c % 64):Nat):Int):=by
  rw[ZsG,zA8,Nat.min_eq_left (by omega),Int.one_mul]
  have:=ZrS (2 ^ (c % 64)) (by
   have:2 ^ (c % 64) < 2 ^ 64:=Nat.pow_lt_pow_right (by omega) (by omega)
   exact this)
  rw[<-this];push_cast;rfl
 simp only[hq,hr,zA8,Nat.zero_add,Nat.mul_one]
 refine⟨by omega,by omega,by rw[ZsG];omega,⟨by omega,by omega⟩,Zaa (by rw[Nat.ble_eq];omega) ?_⟩
 have:c / 64=0\/c / 64=1\/c / 64=2\/c / 64=3:=by omega
 rcases this with e|e|e|e <;>
 ·rw[e]
  refine Zaa rfl (Zag (Mem.le_refl _) ?_)
  unfold ZbJ
  rw[e]
  rfl
theorem Zg6(c:Nat)(hc:c < 256)(m:Mem):CX Try.prog 51 #[.int .u8 c] m [] (Ret (Za4 c).v):=by
 apply ZgI
 intro b
 refine Zak (ZjM c hc m) (by rintro v m' css rfl;rfl) ?_
 intro n n1 n2 n3 m1 aD hv
 simp only[Ret,Value.agg.injEq,Array.mk.injEq,List.cons.injEq,Value.int.injEq,true_and,and_true]at hv
 obtain⟨rfl,rfl,rfl,rfl⟩:=hv
 exact Zag aD rfl
theorem ZcT{c:Nat}:∀(v:Value)(m':Mem) (css:List (List Value)),Ret (Za4 c).v v m' css->Shape.fits (.agg [.int .u8,.int .u64,.int .u64,.int .u64,.int .u64,.int .i64,.int .i64,.slice]) v=true:=by
 rintro v m' css rfl;rfl
theorem Zg7{c:Nat}{m:Mem}{K:TRK}(k:∀m',m.le m'->K 2 (ZbJ c 0) (ZbJ c 1) (ZbJ c 2) (ZbJ c 3) 0 0 none 0 0 m'):
  ∀(n0 n1 n2 n3 n4 n5 n6:Int)(a:Option Addr)(n cc:Nat)(m':Mem),m.le m'->Ret (Za4 c).v (.agg #[.int .u8 n0,.int .u64 n1,.int .u64 n2,.int .u64 n3,.int .u64 n4,.int .i64 n5,.int .i64 n6,.slice a n cc]) m' []->K n0 n1 n2 n3 n4 n5 n6 a n cc m':=by
 intro n0 n1 n2 n3 n4 n5 n6 a n cc m' hm hv
 have hL:(Za4 c).v=(Value.agg #[.int .u8 2,.int .u64 (ZbJ c 0),.int .u64 (ZbJ c 1),.int .u64 (ZbJ c 2),.int .u64 (ZbJ c 3),.int .i64 0,.int .i64 0,.slice none 0 0]):=rfl
 rw[Ret,hL]at hv
 simp only[Value.agg.injEq,Array.mk.injEq,List.cons.injEq,Value.int.injEq,Value.slice.injEq,true_and,and_true]at hv
 obtain⟨rfl,rfl,rfl,rfl,rfl,rfl,rfl,rfl,rfl,rfl⟩:=hv
 exact k m' hm
theorem Zs0{c:Nat}{m:Mem}{K:Int->Int->Int->Int->Mem->Prop}(k:∀m',m.le m'->K (ZbJ c 0) (ZbJ c 1) (ZbJ c 2) (ZbJ c 3) m'):
  ∀(n0 n1 n2 n3:Int)(m':Mem),m.le m'->Ret (.agg #[.int .u64 (ZbJ c 0),.int .u64 (ZbJ c 1),.int .u64 (ZbJ c 2),.int .u64 (ZbJ c 3)]) (.agg #[.int .u64 n0,.int .u64 n1,.int .u64 n2,.int .u64 n3]) m' []->K n0 n1 n2 n3 m':=by
 intro n0 n1 n2 n3 m' hm hv
 simp only[Ret,Value.agg.injEq,Array.mk.injEq,List.cons.injEq,Value.int.injEq,true_and,and_true]at hv
 obtain⟨rfl,rfl,rfl,rfl⟩:=hv
 exact k m' hm
theorem Zi4{c:Nat}:∀(v:Value)(m':Mem) (css:List (List Value)),Ret (.agg #[.int .u64 (ZbJ c 0),.int .u64 (ZbJ c 1),.int .u64 (ZbJ c 2),.int .u64 (ZbJ c 3)]) v m' css->Shape.fits (.agg [.int .u64,.int .u64,.int .u64,.int .u64]) v=true:=by
 rintro v m' css rfl;rfl
theorem Zas{m M:Mem}{b:Nat}{cs:List Value}(h:(m.add b cs).le M):rowRd M (some ⟨b,0,none⟩) cs:=
 .inr ⟨b,0,rfl,λj v hj=>h _ _ _ (by rw[Nat.zero_add,Mem.add_same];exact hj)⟩
theorem ZcU{m M:Mem}{b:Nat}{l:List T}(hM:(m.add b (Rx.Zcg l)).le M)(hr:∀t∈l,Rep M t)(hl:l.length<=1000000000000000):RepL M (some ⟨b,0,none⟩) l:=
 Zqp (Zas hM) hr hl
abbrev NfK:=Option Addr->Nat->Nat->Option Addr->Nat->Nat->Option Addr->Nat->Nat->Option Addr->Nat->Nat->Bool->Int->Mem->Prop
theorem ZqS{A:Nf}{e:Int}{m:Mem}{K:NfK}(k:∀(sa fa xa ya:Option Addr)(sc fc xc yc:Nat)(m':Mem),m.le m'->NfR true A (.agg #[.slice sa A.sets.length sc,.slice fa A.fol.length fc,.slice xa A.first.length xc,.slice ya A.last.length yc,.bool A.empty]) m'->K sa A.sets.length sc fa A.fol.length fc xa A.first.length xc ya A.last.length yc A.empty e m'):
  ∀(a:Option Addr)(n c:Nat)(a1:Option Addr)(n1 c1:Nat)(a2:Option Addr)(n2 c2:Nat)(a3:Option Addr)(n3 c3:Nat)(b:Bool)(e':Int)(m':Mem),m.le m'->NfE A e (.tuple #[.agg #[.slice a n c,.slice a1 n1 c1,.slice a2 n2 c2,.slice a3 n3 c3,.bool b],.int .i64 e']) m' []->K a n c a1 n1 c1 a2 n2 c2 a3 n3 c3 b e' m':=by
 rintro a n c a1 n1 c1 a2 n2 c2 a3 n3 c3 b e' m' hm ⟨w,hv,hR⟩
 simp only[Value.tuple.injEq,Array.mk.injEq,List.cons.injEq,Value.int.injEq,true_and,and_true]at hv
 obtain⟨rfl,rfl⟩:=hv
 have hR':=hR
 obtain⟨s,f,x,y,hv,⟨sa,sc,rfl,_⟩,⟨fa,fc,vs,rfl,_⟩,⟨xa,xc,rfl,_⟩,⟨ya,yc,rfl,_⟩⟩:=hR
 simp only[Value.agg.injEq,Array.mk.injEq,List.cons.injEq,Value.slice.injEq,Value.bool.injEq,and_true]at hv
 obtain⟨⟨rfl,rfl,rfl⟩,⟨rfl,rfl,rfl⟩,⟨rfl,rfl,rfl⟩,⟨rfl,rfl,rfl⟩,rfl⟩:=hv
 exact k _ _ _ _ _ _ _ _ m' hm hR'
theorem ZnJ{l:List Int}{e:Int}{m:Mem}{K:Option Addr->Nat->Nat->Int->Mem->Prop}(k:∀(a:Option Addr)(c:Nat)(m':Mem),m.le m'->rowRd m' a (Zan l)->l.length<=1000000->K a l.length c e m'):
  ∀(a:Option Addr)(n c:Nat)(e':Int)(m':Mem),m.le m'->Zuv l e (.tuple #[.slice a n c,.int .i64 e']) m' []->K a n c e' m':=by
 rintro a n c e' m' hm ⟨w,hv,a',c',rfl,hr,hl,_⟩
 simp only[Value.tuple.injEq,Array.mk.injEq,List.cons.injEq,Value.slice.injEq,Value.int.injEq,true_and,and_true]at hv
 obtain⟨⟨rfl,rfl,rfl⟩,rfl⟩:=hv
 exact k a c m' hm hr hl
theorem ZkK{m:Mem}{a:Option Addr}{c:Nat}{fol:List (List Int)}{vs:List Value}(h:rowRd m a vs)(hl:vs.length=fol.length)(hn:fol.length<=1000000)(hv:∀(i:Nat)(v:Value)(l:List Int),vs[i]?=some v->fol[i]?=some l->SlI false l v m):FolR false fol (.slice a fol.length c) m:=⟨a,c,vs,rfl,h,hl,hn,hv⟩
theorem Zcf{m:Mem}{a:Option Addr}{c:Nat}{l:List Int}(h:rowRd m a (Zan l))(hl:l.length<=1000000):SlI false l (.slice a l.length c) m:=⟨a,c,rfl,h,hl,λh=>by cases h⟩
def nfS:Nf:=⟨[q1 97,q1 98,q1 99],[[1],[0,2],[0,2]],[0,2],[1,2],true⟩
def nfF:Nf:=⟨[q1 97,q1 97,q1 97],[[1],[2],[]],[0],[1,2],false⟩
def nfM:Nf:=⟨[q1 97,q1 97],[[1],[1]],[0],[1],false⟩
def nfC:Nf:=⟨[q1 97,q1 98],[[1],[]],[0],[1],false⟩
def ZtK(a:Option Addr)(c:Nat):T:=Zbg 3 0 0 a c [Za4 97,Za4 98]
def Zto(a a1 a2:Option Addr)(c c1 c2:Nat):T:=Zbg 5 0 (-1) a c [Zbg 4 0 0 a1 c1 [ZtK a2 c2,Za4 99]]
def Zmw(mn mx:Int)(a:Option Addr)(c:Nat):T:=Zbg 5 mn mx a c [Za4 97]
theorem ZqT(a a1 a2:Option Addr)(c c1 c2:Nat):(Zto a a1 a2 c c1 c2).ofN=nfS/\(Zto a a1 a2 c c1 c2).ofE=0:=⟨by kernel_rfl,by kernel_rfl⟩
theorem Zs1(a:Option Addr)(c:Nat):(Zmw 2 3 a c).ofN=nfF/\(Zmw 2 3 a c).ofE=0:=⟨by kernel_rfl,by kernel_rfl⟩
theorem ZqU(a:Option Addr)(c:Nat):(Zmw 2 (-1) a c).ofN=nfM/\(Zmw 2 (-1) a c).ofE=0:=⟨by kernel_rfl,by kernel_rfl⟩
theorem Zs2(a:Option Addr)(c:Nat):(ZtK a c).ofN=nfC/\(ZtK a c).ofE=0:=⟨by kernel_rfl,by kernel_rfl⟩
theorem Zfc:nfS.err [-1]=0/\nfS.step [-1] 97=[0]/\nfS.step [-1] 98=[]:=⟨by kernel_rfl,by kernel_rfl,by kernel_rfl⟩
theorem Zg8:nfC.right=true/\nfC.search [97,98,97,98]=[2,4]/\nfC.turn.right=true/\nfC.turn.matches [98,97]=true:=⟨by kernel_rfl,by kernel_rfl,by kernel_rfl,by kernel_rfl⟩
theorem Zub{c:Nat}(h:c < 256):QOk (q1 c):=⟨Zdu c 0,Zdu c 1,Zdu c 2,Zdu c 3⟩
theorem ZnK(m:Mem):CX Try.prog 12 #[] m [] (Ret (.bool true)):=by
 apply Zhx
 refine Zak (Zg6 97 (by omega) m) ZcT (Zg7 λm1 aD=>?_)
 refine Zak (Zg6 98 (by omega) m1) ZcT (Zg7 λm2 bN=>?_)
 intro b jO b1
 refine⟨λ_ _ _=>Ret (Za4 99).v,_,rfl,Zg6 99 (by omega) _,ZcT,Zg7 λm3 bW b2 l9 b3 wS b4 M eB dW f6 gN=>?_⟩
 have kK:∀M':Mem,M.le M'->Rep M' (ZtK (some ⟨b,0,none⟩) 2):=λM' h=>
  ZbB (ZcU (l:=[Za4 97,Za4 98]) (mLt eB h) (by intro x hx;simp at hx;rcases hx with rfl|rfl <;> exact ZeZ _ _) (by simp)) (by omega) (by omega) (by omega)
 have halt:Rep M (Zbg 4 0 0 (some ⟨b2,0,none⟩) 2 [ZtK (some ⟨b,0,none⟩) 2,Za4 99]):=
  ZbB (ZcU (l:=[ZtK (some ⟨b,0,none⟩) 2,Za4 99]) f6 (by intro x hx;simp at hx;rcases hx with rfl|rfl;exact kK M (Mem.le_refl _);exact ZeZ _ _) (by simp)) (by omega) (by omega) (by omega)
 have pu:Rep M (Zto (some ⟨b3,0,none⟩) (some ⟨b2,0,none⟩) (some ⟨b,0,none⟩) 1 2 2):=
  ZbB (ZcU (l:=[Zbg 4 0 0 (some ⟨b2,0,none⟩) 2 [ZtK (some ⟨b,0,none⟩) 2,Za4 99]]) gN (by intro x hx;simp at hx;subst hx;exact halt) (by simp)) (by omega) (by omega) (by omega)
 have pv:=ZrU _ M pu
 rw[(ZqT _ _ _ _ _ _).1,(ZqT _ _ _ _ _ _).2]at pv
 refine Zak pv ZfE (ZqS λsa fa xa ya sc fc xc yc m4 cP hA b6=>?_)
 refine Zak (ZjM 97 (by omega) m4) Zi4 (Zs0 λm5 cY=>?_)
 refine Zak (ZjM 98 (by omega) m5) Zi4 (Zs0 λm6 gM=>?_)
 refine Zak (ZjM 99 (by omega) m6) Zi4 (Zs0 λm7 pb=>?_)
 intro b7 wT b8 wU b9 wV b10 s5 b11 s6 b12 s7 b13 s8 b14
 have g7:=Mem.le_add wT (Zbs [q1 97,q1 98,q1 99])
 have g8:=Mem.le_add wU (Zan [0,2])
 have g9:=Mem.le_add wV (Zan [1,2])
 have g10:=Mem.le_add s5 (Zan [1])
 have g11:=Mem.le_add s6 (Zan [0,2])
 have g12:=Mem.le_add s7 (Zan [0,2])
 have g13:=Mem.le_add s8 [Value.slice (some ⟨b10,0,none⟩) 1 1,Value.slice (some ⟨b11,0,none⟩) 2 2,Value.slice (some ⟨b12,0,none⟩) 2 2]
 have hk:m7.le _:=mLt g7 (mLt g8 (mLt g9 (mLt g10 (mLt g11 (mLt g12 g13)))))
 have pw:NfR false nfS (.agg #[.slice (some ⟨b7,0,none⟩) 3 3,.slice (some ⟨b13,0,none⟩) 3 3,.slice (some ⟨b8,0,none⟩) 2 2,.slice (some ⟨b9,0,none⟩) 2 2,.bool true]) _:=
  ⟨_,_,_,_,rfl,⟨_,3,rfl,Zas (cs:=Zbs [q1 97,q1 98,q1 99]) (mLt g8 (mLt g9 (mLt g10 (mLt g11 (mLt g12 g13))))),by decide,λh=>by cases h⟩,
   ZkK (fol:=[[1],[0,2],[0,2]]) (Zas (Mem.le_refl _)) rfl (by decide) (λi v l hv hl=>by
    match i with
    | 0=>simp at hv hl;subst hv hl;exact Zcf (l:=[1]) (Zas (cs:=Zan [1]) (mLt g11 (mLt g12 g13))) (by decide)
    | 1=>simp at hv hl;subst hv hl;exact Zcf (l:=[0,2]) (Zas (cs:=Zan [0,2]) (mLt g12 g13)) (by decide)
    | 2=>simp at hv hl;subst hv hl;exact Zcf (l:=[0,2]) (Zas (cs:=Zan [0,2]) g13) (by decide)
    | i+3=>simp at hv),
   Zcf (l:=[0,2]) (Zas (cs:=Zan [0,2]) (mLt g9 (mLt g10 (mLt g11 (mLt g12 g13))))) (by decide),
   Zcf (l:=[1,2]) (Zas (cs:=Zan [1,2]) (mLt g10 (mLt g11 (mLt g12 g13)))) (by decide)⟩
 refine Zak (Zg6 97 (by omega) _) ZcT (Zg7 λm8 mz b15 s9=>?_)
 have g15:=Mem.le_add s9 (Rx.Zcg [Za4 97])
 have td:Rep (m8.add b15 (Rx.Zcg [Za4 97])) (Zmw 2 3 (some ⟨b15,0,none⟩) 1):=ZbB (ZcU (l:=[Za4 97]) (Mem.le_refl _) (by intro x hx;simp at hx;subst hx;exact ZeZ _ _) (by simp)) (by omega) (by omega) (by omega)
 have px:=ZrU _ _ td
 rw[(Zs1 _ _).1,(Zs1 _ _).2]at px
 refine Zak px ZfE (ZqS λsa2 fa2 xa2 ya2 sc2 fc2 xc2 yc2 m9 sJ hF b17=>?_)
 refine Zak (Zg6 97 (by omega) _) ZcT (Zg7 λm10 mA b18 te=>?_)
 have g18:=Mem.le_add te (Rx.Zcg [Za4 97])
 have py:Rep (m10.add b18 (Rx.Zcg [Za4 97])) (Zmw 2 (-1) (some ⟨b18,0,none⟩) 1):=ZbB (ZcU (l:=[Za4 97]) (Mem.le_refl _) (by intro x hx;simp at hx;subst hx;exact ZeZ _ _) (by simp)) (by omega) (by omega) (by omega)
 have pz:=ZrU _ _ py
 rw[(ZqU _ _).1,(ZqU _ _).2]at pz
 refine Zak pz ZfE (ZqS λsa3 fa3 xa3 ya3 sc3 fc3 xc3 yc3 m11 pA wW b20=>?_)
 refine Zak (ZjM 97 (by omega) m11) Zi4 (Zs0 λm12 mJ b21=>ZaZ rfl ?_)
 have tf:m7.le m8:=mLt hk mz
 have lq:m8.le m12:=mLt g15 (mLt sJ (mLt mA (mLt g18 (mLt pA mJ))))
 have h4_12:m4.le m12:=mLt cY (mLt gM (mLt pb (mLt tf lq)))
 refine Zai (ZkI nfS nfS _ _ m12 (hA.mono h4_12) (pw.mono (mLt mz lq))) λm13 mK=>ZaZ (by decide) ?_
 intro b23 tg b24 ti b25 tj b26 tq b27 tr b28 tu
 have k23:=Mem.le_add tg (Zbs [q1 97,q1 97,q1 97])
 have k24:=Mem.le_add ti (Zan [0])
 have k25:=Mem.le_add tj (Zan [1,2])
 have k26:=Mem.le_add tq (Zan [1])
 have k27:=Mem.le_add tr (Zan [2])
 have k28:=Mem.le_add tu [Value.slice (some ⟨b26,0,none⟩) 1 1,Value.slice (some ⟨b27,0,none⟩) 1 1,Value.slice none 0 0]
 have dG:m13.le _:=mLt k23 (mLt k24 (mLt k25 (mLt k26 (mLt k27 k28))))
 have mM:NfR false nfF (.agg #[.slice (some ⟨b23,0,none⟩) 3 3,.slice (some ⟨b28,0,none⟩) 3 3,.slice (some ⟨b24,0,none⟩) 1 1,.slice (some ⟨b25,0,none⟩) 2 2,.bool false]) _:=
  ⟨_,_,_,_,rfl,⟨_,3,rfl,Zas (cs:=Zbs [q1 97,q1 97,q1 97]) (mLt k24 (mLt k25 (mLt k26 (mLt k27 k28)))),by decide,λh=>by cases h⟩,
   ZkK (fol:=[[1],[2],[]]) (Zas (Mem.le_refl _)) rfl (by decide) (λi v l hv hl=>by
    match i with
    | 0=>simp at hv hl;subst hv hl;exact Zcf (l:=[1]) (Zas (cs:=Zan [1]) (mLt k27 k28)) (by decide)
    | 1=>simp at hv hl;subst hv hl;exact Zcf (l:=[2]) (Zas (cs:=Zan [2]) k28) (by decide)
    | 2=>simp at hv hl;subst hv hl;exact Zcf (l:=[]) (.inl rfl) (by decide)
    | i+3=>simp at hv),
   Zcf (l:=[0]) (Zas (cs:=Zan [0]) (mLt k25 (mLt k26 (mLt k27 k28)))) (by decide),
   Zcf (l:=[1,2]) (Zas (cs:=Zan [1,2]) (mLt k26 (mLt k27 k28))) (by decide)⟩
 have h9_13:m9.le m13:=mLt mA (mLt g18 (mLt pA (mLt mJ mK)))
 refine Zai (ZkI nfF nfF _ _ _ ((hF.mono h9_13).mono dG) mM) λm14 pB=>ZaZ (by decide) ?_
 intro b30 tw b31 tx b32 tz b33 tA b34 tB b35 tC
 have l30:=Mem.le_add tw (Zbs [q1 97,q1 97])
 have l31:=Mem.le_add tx (Zan [0])
 have l32:=Mem.le_add tz (Zan [1])
 have l33:=Mem.le_add tA (Zan [1])
 have l34:=Mem.le_add tB (Zan [1])
 have l35:=Mem.le_add tC [Value.slice (some ⟨b33,0,none⟩) 1 1,Value.slice (some ⟨b34,0,none⟩) 1 1]
 have dU:m14.le _:=mLt l30 (mLt l31 (mLt l32 (mLt l33 (mLt l34 l35))))
 have mN:NfR false nfM (.agg #[.slice (some ⟨b30,0,none⟩) 2 2,.slice (some ⟨b35,0,none⟩) 2 2,.slice (some ⟨b31,0,none⟩) 1 1,.slice (some ⟨b32,0,none⟩) 1 1,.bool false]) _:=
  ⟨_,_,_,_,rfl,⟨_,2,rfl,Zas (cs:=Zbs [q1 97,q1 97]) (mLt l31 (mLt l32 (mLt l33 (mLt l34 l35)))),by decide,λh=>by cases h⟩,
   ZkK (fol:=[[1],[1]]) (Zas (Mem.le_refl _)) rfl (by decide) (λi v l hv hl=>by
    match i with
    | 0=>simp at hv hl;subst hv hl;exact Zcf (l:=[1]) (Zas (cs:=Zan [1]) (mLt l34 l35)) (by decide)
    | 1=>simp at hv hl;subst hv hl;exact Zcf (l:=[1]) (Zas (cs:=Zan [1]) l35) (by decide)
    | i+2=>simp at hv),
   Zcf (l:=[0]) (Zas (cs:=Zan [0]) (mLt l32 (mLt l33 (mLt l34 l35)))) (by decide),
   Zcf (l:=[1]) (Zas (cs:=Zan [1]) (mLt l33 (mLt l34 l35))) (by decide)⟩
 have h11_14:m11.le m14:=mLt mJ (mLt mK (mLt dG pB))
 refine Zai (ZkI nfM nfM _ _ _ ((wW.mono h11_14).mono dU) mN) λm15 tD=>ZaZ (by decide) ?_
 have h4_15:m4.le m15:=mLt h4_12 (mLt mK (mLt dG (mLt pB (mLt dU tD))))
 have uz:∀q∈nfS.sets,QOk q:=by
  intro q hq
  simp only[nfS,List.mem_cons,List.not_mem_nil,or_false]at hq
  rcases hq with rfl|rfl|rfl <;> exact Zub (by omega)
 have uA:∀q∈nfC.sets,QOk q:=by
  intro q hq
  simp only[nfC,List.mem_cons,List.not_mem_nil,or_false]at hq
  rcases hq with rfl|rfl <;> exact Zub (by omega)
 intro b37 tE
 have j37:=Mem.le_add tE (Zan [-1])
 have oJ:=ZqP nfS uz _ [-1] (some ⟨b37,0,none⟩) 1 97 (by omega) _ ((hA.mono h4_15).mono j37) (Zas (cs:=Zan [-1]) (Mem.le_refl _)) (by decide)
 rw[Zfc.1,if_pos rfl,Zfc.2.1]at oJ
 refine Zak oJ (by rintro v m' css ⟨w,rfl,a,c,rfl,_⟩;rfl) ?_
 rintro a71 n70 c16 n71 m16 pC ⟨w,hv,a,c,rfl,pD,_⟩
 simp only[Value.tuple.injEq,Array.mk.injEq,List.cons.injEq,Value.slice.injEq,Value.int.injEq,true_and,and_true]at hv
 obtain⟨⟨rfl,rfl,rfl⟩,rfl⟩:=hv
 intro b38 tF
 have j38:=Mem.le_add tF (Zan [-1])
 have eU:=ZqP nfS uz _ [-1] (some ⟨b38,0,none⟩) 1 98 (by omega) _ ((hA.mono (mLt h4_15 (mLt j37 pC))).mono j38) (Zas (cs:=Zan [-1]) (Mem.le_refl _)) (by decide)
 rw[Zfc.1,if_pos rfl,Zfc.2.2]at eU
 refine Zak eU (by rintro v m' css ⟨w,rfl,a,c,rfl,_⟩;rfl) ?_
 rintro a72 n72 c17 n73 m17 pE ⟨w,hv,a,c,rfl,eY,_⟩
 simp only[Value.tuple.injEq,Array.mk.injEq,List.cons.injEq,Value.slice.injEq,Value.int.injEq,true_and,and_true]at hv
 obtain⟨⟨rfl,rfl,rfl⟩,rfl⟩:=hv
 have h15_17:m15.le m17:=mLt j37 (mLt pC (mLt j38 pE))
 have pF:M.le m17:=mLt cP (mLt h4_15 h15_17)
 have pH:=ZrU _ _ (kK m17 pF)
 rw[(Zs2 _ _).1,(Zs2 _ _).2]at pH
 refine Zak pH ZfE (ZqS λsa4 fa4 xa4 ya4 sc4 fc4 xc4 yc4 m18 pI hC b39 b40 tG=>?_)
 have j40:=Mem.le_add tG ([97,98,97,98].map λc:Nat=>Value.int .u8 c)
 have pJ:=ZeE nfC Zg8.1 uA _ [97,98,97,98] (some ⟨b40,0,none⟩) 4 _ (hC.mono j40) (ZqE _ (by decide))
 have pK:nfC.runE [97,98,97,98].length=0:=by kernel_rfl
 rw[pK,if_pos rfl,Zg8.2.1]at pJ
 refine Zak pJ Zee (ZnJ λa82 c20 m19 mO eO _=>?_)
 refine Zak (ZnG nfC _ m19 (hC.mono (mLt j40 mO)) Zg8.1) ZfE (ZqS λsa5 fa5 xa5 ya5 sc5 fc5 xc5 yc5 m20 pL hT b41 b42 tH=>?_)
 have j42:=Mem.le_add tH ([98,97].map λc:Nat=>Value.int .u8 c)
 have uB:=Zh7 nfC.turn uA _ [98,97] (some ⟨b42,0,none⟩) 2 _ (hT.mono j42) (ZqE _ (by decide)) (by decide)
 rw[Zg8.2.2.1,Zg8.2.2.2,if_pos rfl]at uB
 refine Zak uB (by rintro v m' css rfl;rfl) ?_
 rintro bb n85 m21 pM hv
 simp only[Ret,Value.tuple.injEq,Array.mk.injEq,List.cons.injEq,Value.bool.injEq,Value.int.injEq,true_and,and_true]at hv
 obtain⟨rfl,rfl⟩:=hv
 have h16_21:m16.le m21:=mLt j38 (mLt pE (mLt pI (mLt j40 (mLt mO (mLt pL (mLt j42 pM))))))
 have h19_21:m19.le m21:=mLt pL (mLt j42 pM)
 have h0_1:m.le M:=mLt aD (mLt bN (mLt (Mem.le_add jO _) eB))
 have h0_21:m.le m21:=mLt h0_1 (mLt pF (mLt pI (mLt j40 (mLt mO h19_21))))
 refine ZbZ rfl λb43 tI=>?_
 have j43:=Mem.le_add tI (Zan [0])
 refine Zai (Zkm [0] [0] a71 (some ⟨b43,0,none⟩) c16 1 _ ((pD.mono h16_21).mono j43) (Zas (cs:=Zan [0]) (Mem.le_refl _)) (by decide)) λm22 pN=>ZbZ (by decide) (ZbZ rfl λb45 tJ=>?_)
 have j45:=Mem.le_add tJ (Zan [2,4])
 refine Zai (Zkm [2,4] [2,4] a82 (some ⟨b45,0,none⟩) c20 2 _ ((eO.mono (mLt h19_21 (mLt j43 pN))).mono j45) (Zas (cs:=Zan [2,4]) (Mem.le_refl _)) (by decide)) λm23 mq=>ZbZ (by decide) ?_
 exact Zag (mLt h0_21 (mLt j43 (mLt pN (mLt j45 mq)))) rfl
theorem ZrG{p:Prop} [Decidable p]{A B:Prop}(ht:p->A)(hf:¬p->B):br (decide p) A B:=Zab (λh=>ht (zA6 h)) (λh=>hf (of_decide_eq_false h))
theorem Zmx{m:Mem}{a:Option Addr}{s:List Nat}(h:Byt m a s)(k:Nat):Byt m a (s.take k):=by
 refine⟨?_,λc hc=>h.2 c (List.mem_of_mem_take hc)⟩
 rcases h.1 with h1|⟨b,o,h1,h2⟩
 ·left;rw[h1];simp
 ·exact .inr ⟨b,o,h1,λj v hj=>h2 j v (by
   rw[List.map_take,List.getElem?_take]at hj
   split at hj
   ·exact hj
   ·cases hj)⟩
abbrev byC(l:List Nat):List Value:=l.map λc:Nat=>Value.int .u8 c
theorem ZoG{m:Mem}{a:Option Addr}{s:List Nat}(h:Byt m a s):rowRd m a (byC s):=by
 rcases h.1 with h1|h1
 ·exact .inl (by rw[h1];rfl)
 ·exact .inr h1
theorem ZrH{m:Mem}{a:Option Addr}{s:List Nat}(h:rowRd m a (byC s))(hs:∀c∈s,c < 256):Byt m a s:=by
 refine⟨?_,hs⟩
 rcases h with h1|h1
 ·left
  simpa[byC]using h1
 ·exact .inr h1
def ZeM(A:Nf)(l:List Int)(x:Nat):List Int:=l.flatMap λp=>A.step [p] x
theorem Zp2(A:Nf)(l:List Int)(x:Nat){j:Nat}{p:Int}(h:l[j]?=some p):ZeM A (l.take (j+1)) x=ZeM A (l.take j) x++A.step [p] x:=by
 unfold ZeM
 rw[List.take_add_one,h]
 simp
set_option maxHeartbeats 1600000 in
theorem Zmy(L:List (Nat×Nat×Nat))(pa:Option Addr)(pc:Nat)(s1:List Nat)(a1:Option Addr)(c1:Nat)(s2:List Nat)(a2:Option Addr)(c2:Nat)(m:Mem)(hL:Sm m pa L)(mf:L.length<=pc)(oJ:Byt m a1 s1)(vP:s1.length<=c1)(eU:Byt m a2 s2)(xr:s2.length<=c2):
  CX Try.prog 9 #[.slice pa L.length pc,.slice a1 s1.length c1,.slice a2 s2.length c2] m [] (Ret (.bool true)):=by
 apply Zfa
 dsimp only[lE,lX,lV,lM]
 refine Zai (ZnK m) λm1 aD=>ZaZ rfl ?_
 refine Zak (ZsK L pa pc m1 (hL.mono aD) mf) Zgk (Zpn λt m2 bN hr ht=>?_)
 have il:(if(30:Int) < (s1.length:Int)then(30:Int)else(s1.length:Int))=((s1.take 30).length:Nat):=by
  rw[List.length_take];split <;> omega
 have wX:(if(30:Int) < (s2.length:Int)then(30:Int)else(s2.length:Int))=((s2.take 30).length:Nat):=by
  rw[List.length_take];split <;> omega
 have dE:Zbq a1 0 c1 1=a1:=rfl
 have gj:Zbq a2 0 c2 1=a2:=rfl
 simp only[il,wX,dE,gj,zA8,Nat.sub_zero]
 have wY:(s1.take 30).length<=30/\(s1.take 30).length<=c1:=by rw[List.length_take];omega
 have wZ:(s2.take 30).length<=30/\(s2.take 30).length<=c2:=by rw[List.length_take];omega
 have uC:=(Zmx oJ 30).mono (mLt aD bN)
 have uD:=(Zmx eU 30).mono (mLt aD bN)
 generalize s1.take 30=B at *
 generalize s2.take 30=C at *
 have pv:=ZrU t m2 hr
 rw[(ZlY ht).1,(ZlY ht).2]at pv
 have dF:=(ZjF ht).1
 have hA:=ZqB dF
 have nu:=Zng dF
 have hq:=ZtC hr
 generalize t.auto=A at *
 refine Zak pv ZfE (ZqS λna nb nc nd ne nf ng nh m3 bW hN b2=>?_)
 generalize ub:Value.agg #[Value.slice na A.sets.length ne,.slice nb A.fol.length nf,.slice nc A.first.length ng,.slice nd A.last.length nh,.bool A.empty]=VA at *
 have mP:=uC.mono bW
 have pO:=uD.mono bW
 refine ZrY rfl ⟨⟨by omega,by omega⟩,⟨by omega,by omega⟩,λb3 lg=>?_⟩
 have eM:=Mem.le_add lg [Value.slice a1 B.length c1,.slice a2 C.length c2]
 have dH:∀l:List Nat,∀u∈byC l,u.oneCell'=true:=λl u hu=>by
  obtain⟨c,_,rfl⟩:=List.mem_map.1 hu
  rfl
 have pP:Lies (m3.add b3 [Value.slice a1 B.length c1,.slice a2 C.length c2]) (some ⟨b3,0,none⟩) 1 [⟨a1,B.length,c1,byC B⟩,⟨a2,C.length,c2,byC C⟩]:=by
  refine⟨λi q hi=>⟨b3,0,rfl,?_⟩,λq hq=>?_⟩
  ·rw[Mem.add_same,Nat.zero_add]
   match i,hi with
   | 0,hi=>cases hi;rfl
   | 1,hi=>cases hi;rfl
   | n+2,hi=>simp at hi
  ·simp only[List.mem_cons,List.not_mem_nil,or_false]at hq
   rcases hq with rfl|rfl
   ·exact⟨(ZoG mP).mono eM,by simp[byC],dH B⟩
   ·exact⟨(ZoG pO).mono eM,by simp[byC],dH C⟩
 have kK:=Zkr [⟨a1,B.length,c1,byC B⟩,⟨a2,C.length,c2,byC C⟩] (some ⟨b3,0,none⟩) 2 _ pP (by simp[Zkq];omega) (by simp)
 refine Zak kK (λv _ _ ⟨_,_,e,_⟩=>by rw[e];rfl) ?_
 rintro ga gn gc m4 cP ⟨ga',gc',hv,pQ⟩
 have pq:Zkq [⟨a1,B.length,c1,byC B⟩,⟨a2,C.length,c2,byC C⟩]=(B++C).length:=by simp[Zkq]
 rw[pq]at hv
 simp only[Value.slice.injEq]at hv
 obtain⟨rfl,rfl,rfl⟩:=hv
 have qE:=mLt eM cP
 have uE:Byt m4 ga (B++C):=ZrH (by simpa[ZsY,byC]using pQ) λc hc=>by
  rcases List.mem_append.1 hc with hc|hc
  ·exact uC.2 c hc
  ·exact uD.2 c hc
 have uF:(B++C).length<=60:=by rw[zA1];omega
 have qF:∀l:List Nat,l.length<=60->A.runE l.length=0:=λl hl=>by unfold Nf.runE;rw[if_neg (by rw[nu];simp),if_neg (by omega)]
 have pR:=ZrE A hq VA B a1 c1 m4 (hN.mono qE) (mP.mono qE)
 rw[qF B (by omega),if_pos rfl]at pR
 refine Zak pR Zee (ZnJ λla lc m5 cY pS xt=>?_)
 have pT:=ZrE A hq VA (B++C) ga gc m5 (hN.mono (mLt qE cY)) (uE.mono cY)
 rw[qF _ uF,if_pos rfl]at pT
 refine Zak pT Zee (ZnJ λwa wc m6 gM iY uG=>?_)
 have qG:=mLt qE (mLt cY gM)
 have sZ:=mLt aD (mLt bN (mLt bW qG))
 have pU:=hN.mono qG
 have w4:=mP.mono qG
 have pV:=pO.mono qG
 have pW:=uE.mono (mLt cY gM)
 have i4:A.states (A.run B [-1])=true:=ZdH hA B _ (Zeq A)
 have w5:A.states (A.run (B++C) [-1])=true:=ZdH hA _ _ (Zeq A)
 have hw:∀k:Nat,k < 1000000->IntKind.i64.wrap ((k:Int)+1)=((k+1:Nat):Int):=λk hk=>by rw[Zat (by omega) (by omega)];rfl
 refine ZrY rfl ?_
 refine⟨λxs css tvs m' q=>∃(k:Nat)(l:List Int)(a:Option Addr)(c:Nat),k<=C.length/\xs=[.slice a l.length c,.int .i64 k]/\l=A.run (C.take k) (A.run B [-1])/\rowRd m' a (Zan l)/\m6.le m'/\q=C.length - k,⟨_,0,_,la,lc,by omega,rfl,rfl,pS.mono gM,Mem.le_refl _,rfl⟩,?_⟩
 rintro xa xn xc z M q - ⟨k,l,xa',xc',hk,eJ,hl,j2,hM,hq'⟩
 simp only[List.cons.injEq,Value.slice.injEq,Value.int.injEq,and_true,true_and]at eJ
 obtain⟨⟨rfl,rfl,rfl⟩,rfl⟩:=eJ
 subst hq'
 have dM:A.states l=true:=by rw[hl];exact ZdH hA _ _ i4
 have dU:=ZjK hA dM
 refine ZrG (λaH=>?_) (λcL=>?_)
 ·have tK:k < C.length:=by omega
  obtain⟨x,hx⟩:=Zau tK
  obtain⟨⟨bz,oz,w6,w7⟩,pX⟩:=(pV.mono hM).get hx
  simp only[hw k (by omega),zA8,Nat.mul_one]
  refine⟨bz,oz,w6,⟨by omega,by omega⟩,.int .u8 x,w7,?_⟩
  have dC:∀(l':List Int)(a':Option Addr)(c':Nat)(m':Mem),m6.le m'->rowRd m' a' (Zan l')->A.states l'=true->l'.length<=1000000->CX Try.prog 27 #[VA,.slice a' l'.length c',.int .u8 x] m' [] (λv m'' _=>∃w,v=.tuple #[w,.int .i64 0]/\SlI true (A.step l' x) w m''/\NewS m' w):=λl' a' c' m' hm' hr' hs' hl'=>by
   have:=ZoB A hq VA l' a' c' x pX m' (pU.mono hm') hr' hl'
   rw[ZoD nu hs',if_pos rfl]at this
   exact this
  have lr:∀(l':List Int)(m':Mem)(v:Value)(m'':Mem) (css:List (List Value)),(∃w,v=.tuple #[w,.int .i64 0]/\SlI true (A.step l' x) w m''/\NewS m' w)->Shape.fits (.tup [.slice,.int .i64]) v=true:=by
   rintro l' m' v m'' css ⟨w,rfl,⟨a,c,rfl,_⟩,_⟩;rfl
  refine⟨λxs css tvs m' q=>∃(j:Nat)(a:Option Addr)(c:Nat),j<=l.length/\xs=[.slice a (ZeM A (l.take j) x).length c,.int .i64 j]/\tvs=[.slice a (ZeM A (l.take j) x).length c]/\rowRd m' a (Zan (ZeM A (l.take j) x))/\(ZeM A (l.take j) x).length<=c/\(ZeM A (l.take j) x).length<=j*401/\Zux M a/\M.le m'/\q=l.length - j,⟨_,0,none,0,by omega,rfl,rfl,.inl rfl,Nat.le_refl _,Nat.le_refl _,(λad e=>by cases e),Mem.le_refl _,rfl⟩,?_⟩
  rintro ea en ec z ta tn tc M1 q - ⟨j,ea',ec',hj,eJ,cO,ls,xu,xv,cF,eB,hq'⟩
  simp only[List.cons.injEq,Value.slice.injEq,Value.int.injEq,and_true,true_and]at eJ cO
  obtain⟨⟨rfl,rfl,rfl⟩,rfl⟩:=eJ
  obtain⟨rfl,rfl,rfl⟩:=cO
  subst hq'
  refine ZrG (λgp=>?_) (λim=>?_)
  ·have ma:j < l.length:=by omega
   obtain⟨p,hp⟩:=Zau ma
   obtain⟨bp,op,dP,tL⟩:=ZoE (j2.mono eB) hp
   simp only[hw j (by omega),zA8,Nat.mul_one]
   refine⟨bp,op,dP,⟨by omega,by omega⟩,.int .i64 p,tL,Zaa rfl λb5 w8=>?_⟩
   have w9:=zA2 hp
   have jR:=Mem.le_add w8 (Zan [p])
   refine Zak (dC [p] (some ⟨b5,0,none⟩) 1 (M1.add b5 (Zan [p])) (mLt hM (mLt eB jR)) (.inr ⟨b5,0,rfl,λj v hj=>by rw[Nat.zero_add,Mem.add_same];exact hj⟩) (ZnI dM w9) (by simp)) (lr _ _) ?_
   rintro na' nn nc' ne' M2 dW ⟨w,hv,⟨sa,sc,rfl,j3,pY,_⟩,-⟩
   simp only[Value.tuple.injEq,Array.mk.injEq,List.cons.injEq,Value.slice.injEq,Value.int.injEq,true_and,and_true]at hv
   obtain⟨⟨rfl,rfl,rfl⟩,rfl⟩:=hv
   have iq:=ZjK hA (ZcS hA [p] x)
   have f8:=mLt jR dW
   have lu:=Zp2 A l x hp
   have bG:(ZeM A (l.take (j+1)) x).length=(ZeM A (l.take j) x).length+(A.step [p] x).length:=by rw[lu,zA1]
   refine ZrY rfl ⟨.inl trivial,Zan (ZeM A (l.take j) x),Zan (A.step [p] x),by simp[Zan],by simp[Zan],ls.mono f8,j3,(λu hu=>by
    obtain⟨y,_,rfl⟩:=List.mem_map.1 hu
    rfl),by omega,by omega,λa' c' M3 f6 eO pg=>⟨by trivial,l.length - (j+1),by omega,j+1,a',c',by omega,by rw[bG],by rw[bG],?_,by rw[bG];exact pg.1,by rw[bG];omega,Zp1 pg (mLt eB f8) cF,mLt eB (mLt f8 f6),rfl⟩⟩
   rw[lu,ZjL];exact eO
  ·have ma:j=l.length:=by omega
   subst ma
   rw[List.take_length]at *
   have uH:(ZeM A l x).length<=1000000:=by omega
   have uI:∀b,Yi (.slice ta (ZeM A l x).length tc) b->M.free b:=ZtJ cF
   refine ZiZ (Zkn (ZeM A l x) ta tc M1 ls uH) (by rintro v m' css tvs ⟨rfl,_⟩;rfl) ?_
   rintro M2 dW _ ya yn yc ⟨_,_,cO,eY⟩
   simp only[List.cons.injEq,Value.slice.injEq,and_true]at cO
   obtain⟨rfl,rfl,rfl⟩:=cO
   have mQ:M.le M2:=mLt (ZqR eB uI) dW
   refine Zak (dC l xa xc M2 (mLt hM mQ) (j2.mono mQ) dM (by omega)) (lr _ _) ?_
   rintro na' nn nc' ne' M3 f6 ⟨w,hv,⟨sa,sc,rfl,j3,pY,_⟩,xb⟩
   simp only[Value.tuple.injEq,Array.mk.injEq,List.cons.injEq,Value.slice.injEq,Value.int.injEq,true_and,and_true]at hv
   obtain⟨⟨rfl,rfl,rfl⟩,rfl⟩:=hv
   have tM:=mLt mQ f6
   have xw:=ZcS hA l x
   have lw:ZmE (ZeM A l x)=A.step l x:=ZpB hA l x
   refine⟨λxs css tvs m'=>xs=[.bool false]/\M.le m'/\rowRd m' na' (Zan (A.step l x)),ZrY rfl ?_,?_⟩
   ·have qo:=ZgG (ZlU (ZeM A l x)) ya yc M3 (eY.mono f6) (by rw[Zd1];exact uH)
    rw[Zd1]at qo
    refine ZiZ qo (by rintro v m' css tvs ⟨rfl,_⟩;rfl) ?_
    rintro ca cn cc M4 gN _ ka kn kc ⟨hv,_,cO,cG⟩
    simp only[Value.slice.injEq]at hv
    obtain⟨rfl,rfl,rfl⟩:=hv
    have tN:M.le M4:=mLt (ZqR tM uI) gN
    have j4:rowRd M4 na' (Zan (A.step l x)):=by
     rcases j3 with h|⟨b9,o9,e9,h9⟩
     ·exact .inl h
     ·by_cases hE:ZeM A l x=[]
      ·left
       have:ZmE ([]:List Int)=[]:=List.eq_nil_of_length_eq_zero (Nat.le_zero.1 (Zrp []))
       rw[<-lw,hE,this];rfl
      ·refine .inr ⟨b9,o9,e9,λi v hi=>gN _ _ _ ?_⟩
       rw[Mem.off_at]
       ·exact h9 i v hi
       ·intro hy
        have bO:=xb b9 o9 (by rw[e9];rfl)
        rcases eY with h|⟨b8,o8,e8,h8⟩
        ·have:=congrArg List.length h
         rw[Zb3,Zd1]at this
         exact hE (List.eq_nil_of_length_eq_zero (by simpa using this))
        ·subst e8
         have hb:b8=b9:=by simpa[Yi,Tok.blk]using hy
         subst hb
         obtain⟨u,hu⟩:=Zau (l:=Zan (ZlU (ZeM A l x))) (k:=0) (by rw[Zb3,Zd1];exact List.length_pos_iff.2 hE)
         have:=h8 0 u hu
         rw[bO]at this;cases this
    have pZ:rowRd M4 ca (Zan (ZmE (ZeM A l x))):=ZsZ (by rw[ZjL]at cG;exact cG)
    have heq:=Zkm (A.step l x) (ZmE (ZeM A l x)) na' ca nc' cc M4 j4 pZ pY
    rw[decide_eq_true lw.symm]at heq
    refine Zai heq λM5 jd=>⟨by trivial,by trivial,rfl,mLt tN jd,j4.mono jd⟩
   ·rintro bb ja jn jc M5 - ⟨hb,jd,mR⟩
    obtain rfl:bb=false:=by simpa using hb
    refine ZrY rfl ⟨by trivial,C.length - (k+1),by omega,k+1,A.step l x,na',nc',by omega,rfl,?_,mR,mLt hM jd,rfl⟩
    rw[hl,List.take_add_one,hx]
    show A.step _ x=A.run (C.take k++[x]) _
    rw[Zqw];rfl
 ·have tK:k=C.length:=by omega
  subst tK
  rw[List.take_length,<-Zqw]at hl
  subst hl
  have mS:=Zmu A VA (A.run (B++C) [-1]) wa wc M (pU.mono hM) (iY.mono hM) uG (ZoD nu w5)
  refine Zak mS (by rintro v m' css rfl;rfl) ?_
  rintro b1' n1' M1 eB hv
  simp only[Ret,Value.tuple.injEq,Array.mk.injEq,List.cons.injEq,Value.bool.injEq,Value.int.injEq,true_and,and_true]at hv
  obtain⟨rfl,rfl⟩:=hv
  have p6:=Zh7 A hq VA (B++C) ga gc M1 (pU.mono (mLt hM eB)) (pW.mono (mLt hM eB)) (by omega)
  rw[nu,if_pos rfl,Bool.true_and]at p6
  refine Zak p6 (by rintro v m' css rfl;rfl) ?_
  rintro b2' n2' M2 dW hv
  simp only[Ret,Value.tuple.injEq,Array.mk.injEq,List.cons.injEq,Value.bool.injEq,Value.int.injEq,true_and,and_true]at hv
  obtain⟨rfl,rfl⟩:=hv
  have qH:=mLt hM (mLt eB dW)
  have p7:=ZeE A nu hq VA C a2 c2 M2 (pU.mono qH) (pV.mono qH)
  rw[qF C (by omega),if_pos rfl]at p7
  refine Zak p7 Zee (ZnJ λpa' pc' M3 f6 p8 xx=>?_)
  have p9:=ZeE A nu hq VA (B++C) ga gc M3 (pU.mono (mLt qH f6)) (pW.mono (mLt qH f6))
  rw[qF _ uF,if_pos rfl]at p9
  refine Zak p9 Zee (ZnJ λqa' qc' M4 gN lx xz=>?_)
  have tO:=mLt f6 gN
  have mT:=mLt eB (mLt dW tO)
  refine⟨false,ZrY rfl ?_,ZrY rfl ?_⟩
  ·have heq:=Zkm (A.run (B++C) [-1]) (A.run (B++C) [-1]) xa wa xc wc M4 (j2.mono mT) (iY.mono (mLt hM mT)) uG
   rw[decide_eq_true rfl]at heq
   refine Zai heq λM5 jd=>ZrY rfl (ZrY ?_ (Zab (λmS=>?_) (λ_=>⟨by trivial,rfl⟩)))
   ·show(!(A.accepts (A.run (B++C) [-1]) == A.accepts (A.run (B++C) [-1])))=false
    simp
   ·have hc:=ZgH (A.search (B++C)) qa' qc' ((B++C).length:Nat) M5 (lx.mono jd) (by omega)
    rw[decide_eq_true (Znd hA (B++C) mS)]at hc
    exact Zai hc λM6 mt=>⟨by trivial,rfl⟩
  ·refine⟨λxs css tvs m' q=>∃i:Nat,i<=(A.search C).length/\xs=[.int .i64 i]/\q=(A.search C).length - i/\M4.le m',⟨_,0,by omega,rfl,rfl,Mem.le_refl _⟩,?_⟩
   rintro z M5 q - ⟨i,hi,hz,hq',jd⟩
   obtain rfl:z=i:=by simpa using hz
   subst hq'
   refine ZrG (λaH=>?_) (λcL=>Zag (mLt sZ (mLt hM (mLt mT jd))) rfl)
   have xd:i < (A.search C).length:=by omega
   obtain⟨y,hy⟩:=Zau xd
   obtain⟨bp,op,dP,tL⟩:=ZoE (p8.mono (mLt gN jd)) hy
   have oP:=zA2 hy
   have ir:=Zne C oP
   have qz:IntKind.i64.wrap (((B.length:Nat):Int)+y)=(B.length:Int)+y:=Zat (by omega) (by omega)
   simp only[hw i (by omega),zA8,Nat.mul_one]
   refine⟨bp,op,dP,⟨by omega,by omega⟩,.int .i64 y,tL,Zaa rfl ?_⟩
   have hc:=ZgH (A.search (B++C)) qa' qc' ((B.length:Int)+y) M5 (lx.mono jd) (by omega)
   rw[decide_eq_true (ZiK hA B C oP)]at hc
   simp only[RowKit.intOf,qz]
   refine Zai hc λM6 mt=>ZrY rfl ⟨by trivial,_,?_,i+1,by omega,rfl,rfl,mLt jd mt⟩
   omega
end Go.Proofs.Ytplacemlpkhmfaa
end
