/- Part of the proof: conditions and contracts of functions of this program. No condition of its own. -/
import Derived.Test.YtfgfahnakepegaaGreatPC13P
import Derived.Test.YtfgfahnakepegaaGreatMr
import Derived.Test.YtfgfahnakepegaaGreatPEnv
import Derived.Test.YtfgfahnakepegaaGreatMc
set_option linter.unusedVariables false
set_option linter.unusedSimpArgs false
set_option linter.unusedSectionVars false
noncomputable section
namespace Go.Proofs.YtfgfahnakepegaaGreat
open Go Go.Eng Go.Rx Go.Proofs Go.RowKit
set_option maxRecDepth 100000
def Zd8(b:Nat):Value:=.pointer (some ⟨b,0,none⟩)
theorem Zws{α β:Type}{ys:α->List β}{l:List α}{i:Nat}{x:α}(h:l[i]?=some x){j:Nat}{v:β}(hj:(ys x)[j]?=some v):(l.flatMap ys)[((l.take i).flatMap ys).length+j]?=some v:=by
 obtain⟨aS,e⟩:=zA0 h
 have h1:l=l.take i++x::l.drop (i+1):=by
  rw[<-e,<-List.drop_eq_getElem_cons aS,List.take_append_drop]
 rw[h1,List.flatMap_append,zA4 (by simp[List.take_append,Nat.min_eq_left (Nat.le_of_lt aS)]),List.flatMap_cons]
 have xh:=(zA0 hj).1
 rw[<-h1,show(List.flatMap ys (List.take i l)).length+j - (List.flatMap ys (List.take i l)).length=j by omega,zA5 xh]
 exact hj
theorem ZnG(l:List T)(a:Option Addr)(c:Nat)(g:Nat)(ca:List Value)(ys:T->List (List Value))(m:Mem)(lab:Nat)(hl:RepL m a l)
  (hp:∀x∈l,∀m',m.le m'->Rep m' x->CY Tryz.prog g (x.v::ca) m' lab (ys x) (λv=>v=.bool false) (λv=>v=.bool true)):
  CY Tryz.prog 102 [.slice a l.length c,.func (.func g) #[] ca.toArray] m lab (l.flatMap ys) (λv=>v=.int .i64 (-1)) (λv=>∃i:Nat,v=.int .i64 i):=by
 apply Zbx a l.length c g [] ca
 have aP:=Zaw hl
 have cA:=Zbb hl
 have aU:=hl.1
 refine⟨λxs _ _ m'' q=>∃i:Nat,i<=l.length/\xs=[.int .i64 (((l.take i).flatMap ys).length:Nat),.int .i64 i]/\q=l.length - i,⟨_,0,by omega,rfl,rfl⟩,?_⟩
 rintro y n m' q hm ⟨i,hi,aZ,hq⟩
 simp only[List.cons.injEq,Value.int.injEq,true_and,and_true]at aZ
 obtain⟨rfl,rfl⟩:=aZ
 refine Zac (λaS=>?_) (λbI=>?_)
 ·have aN:i < l.length:=by have:=zA6 aS;omega
  obtain⟨x,hx⟩:=ZbU aN
  have bP:=zA2 hx
  obtain⟨b0,o0,eO,bA⟩:=Zct (aP.mono hm) hx
  refine⟨b0,o0,eO,⟨by omega,by omega⟩,_,_,_,_,_,_,_,_,bA,lab,ys x,_,_,hp x bP m' hm ((cA x bP).mono hm),λj v hj=>⟨rfl,by omega,?_⟩,λv hv=>by rcases hv with rfl|rfl <;> rfl,λb=>⟨λhb=>?_,λhb=>?_⟩⟩
  ·rw[show(((((l.take i).flatMap ys).length:Nat):Int)+(j:Int)).toNat=((l.take i).flatMap ys).length+j by omega]
   exact Zws hx hj
  ·cases hb
   have hw:IntKind.i64.wrap ((i:Int)+1)=((i+1:Nat):Int):=by rw[Zas (by omega) (by omega)];rfl
   rw[hw]
   refine Zf0 rfl ⟨l.length - (i+1),by omega,i+1,by omega,?_,rfl⟩
   rw[ZbR hx,List.flatMap_append,zA1]
   simp
  ·cases hb
   exact ZsS rfl (.inr ⟨rfl,i,rfl⟩)
 ·have:i=l.length:=by have:=of_decide_eq_false bI;omega
  subst this
  rw[List.take_length]
  exact .inl ⟨rfl,rfl⟩
theorem Zh1(l:List T)(a:Option Addr)(c:Nat)(g:Nat)(ca:List Value)(ys:T->List (List Value))(m:Mem)(lab:Nat)(hl:RepL m a l)
  (hp:∀x∈l,∀m',m.le m'->Rep m' x->CY Tryz.prog g (x.v::ca) m' lab (ys x) (λv=>v=.bool false) (λv=>v=.bool true)):
  CY Tryz.prog 110 [.slice a l.length c,.func (.func g) #[] ca.toArray] m lab (l.flatMap ys) (λv=>v=.bool false) (λv=>v=.bool true):=by
 apply Zbl a l.length c g [] ca
 refine⟨lab,l.flatMap ys,_,_,ZnG l a c g ca ys m lab hl hp,λj v hj=>⟨rfl,by omega,?_⟩,λv hv=>?_,λn=>⟨λhn=>?_,λhn=>?_⟩⟩
 ·rw[show((0:Int)+(j:Int)).toNat=j by omega];exact hj
 ·rcases hv with rfl|⟨i,rfl⟩ <;> rfl
 ·cases hn
  exact .inl ⟨by omega,rfl⟩
 ·obtain⟨i,hi⟩:=hn
  cases hi
  exact .inr ⟨rfl,by rw[decide_eq_true (by omega)]⟩
theorem ZAL(l:List T):(l.flatMap λx=>x.alts.map λa=>[a.v])=(Zax l).map λa=>[a.v]:=by
 induction l with
 | nil=>rfl
 | cons t l ih=>rw[List.flatMap_cons,ih,Zax,List.map_append]
theorem Zvr(m:Mem)(yb wb lab:Nat)(hy:m yb 0=some (.func (.yield lab) #[] #[]))(hw:m wb 0=some (.func (.func 109) #[] #[Zd8 yb,Zd8 wb]))(t:T)(m':Mem)(hm:m.le m')(hr:Rep m' t):
  CY Tryz.prog 109 [t.v,Zd8 yb,Zd8 wb] m' lab (t.alts.map λa=>[a.v]) (λv=>v=.bool true) (λv=>v=.bool false):=by
 apply Zff
 intro b m1 aK hb
 have bC:=mLt hm aK
 have ih:∀x∈t.subs,∀m2,m1.le m2->Rep m2 x->CY Tryz.prog 111 (x.v::[Zd8 wb]) m2 lab (x.alts.map λa=>[a.v]) (λv=>v=.bool false) (λv=>v=.bool true):=by
  intro x hx m2 aO cO
  apply Zer
  intro b2 m3 aX iM
  refine⟨_,mLt bC (mLt aO aX) _ _ _ hw,_,[],[Zd8 yb,Zd8 wb],rfl,lab,_,_,_,Zvr m yb wb lab hy hw x m3 (mLt bC (mLt aO aX)) (cO.mono aX),λj v hj=>⟨rfl,by omega,?_⟩,λv hv=>by rcases hv with rfl|rfl <;> rfl,λb=>⟨λhb=>?_,λhb=>?_⟩⟩
  ·rw[show((0:Int)+(j:Int)).toNat=j by omega];exact hj
  ·cases hb;exact .inl ⟨by omega,rfl⟩
  ·cases hb;exact .inr ⟨rfl,rfl⟩
 have oC:=Zh1 t.subs t.a t.c 111 [Zd8 wb] (λx=>x.alts.map λa=>[a.v]) m1 lab (hr.mono aK).subs ih
 rw[ZAL]at oC
 have iP:=Zel t
 refine Zac (λhk=>?_) (λhk=>?_)
 ·have hk':t.k=4:=by simpa using hk
  rw[if_pos hk']at iP
  rw[iP]
  refine⟨_,bC _ _ _ hy,lab,rfl,⟨rfl,by omega,rfl⟩,⟨lab,_,_,_,oC,λj v hj=>⟨rfl,by omega,?_⟩,λv hv=>by rcases hv with rfl|rfl <;> rfl,λb=>⟨λhb=>?_,λhb=>?_⟩⟩,.inr ⟨rfl,rfl⟩⟩
  ·rw[show((0:Int)+1+(j:Int)).toNat=j+1 by omega]
   simpa using hj
  ·cases hb;exact .inl ⟨by simp;omega,rfl⟩
  ·cases hb;exact .inr ⟨rfl,rfl⟩
 ·have hk':¬t.k=4:=by simpa using hk
  rw[if_neg hk',List.nil_append]at iP
  rw[iP]
  refine⟨lab,_,_,_,oC,λj v hj=>⟨rfl,by omega,?_⟩,λv hv=>by rcases hv with rfl|rfl <;> rfl,λb=>⟨λhb=>?_,λhb=>?_⟩⟩
  ·rw[show((0:Int)+(j:Int)).toNat=j by omega];exact hj
  ·cases hb;exact .inl ⟨by omega,rfl⟩
  ·cases hb;exact .inr ⟨rfl,rfl⟩
termination_by SizeOf.sizeOf t
decreasing_by exact Zdi hx
theorem Zx9(t:T)(m:Mem)(c0b:Nat)(bA:m.reads c0b 0 t.cs)(hr:Rep m t):IX Tryz.prog 108 [] [Zd8 c0b] m (t.alts.map λa=>[a.v]):=by
 apply Zhc 0 [] [] c0b 0
 intro l b m1 aK hb b2
 refine⟨_,_,_,_,_,_,_,_,λj v hj=>aK _ _ _ (bA j v hj),λm2 aO iM=>?_⟩
 refine⟨l,_,_,_,Zvr m2 b b2 l (aO _ _ _ (by have:=hb 0 _ rfl;simpa using this)) (by have:=iM 0 _ rfl;rw[Nat.zero_add]at this;exact this) t m2 (Mem.le_refl _) (hr.mono (mLt aK aO)),λj v hj=>⟨rfl,by omega,?_⟩,λv hv=>by rcases hv with rfl|rfl <;> rfl,λb=>⟨λhb=>.inl (by omega),λhb=>.inr rfl⟩⟩
 rw[show((0:Int)+(j:Int)).toNat=j by omega];exact hj
end Go.Proofs.YtfgfahnakepegaaGreat
namespace Go.Proofs.YtfgfahnakepegaaGreat
open Go Go.Eng Go.Proofs Go.RowKit
open Go.Value (int slice agg bool string tuple func)
open Go.IntKind (u8 u64 i64)
set_option maxRecDepth 100000
def Zus:Env:={ EB with
 joins:=swI none [(1,some [(2,.bool)])]
 frzNew:=[1] }
theorem Zrt(aD aE aF aG aJ aH aI:Int)(aB:Option Addr)(aA aC:Nat)(m:Mem)(R:RT)(h:
 lV [int u8 aD,int u64 aE,int u64 aF,int u64 aG,int u64 aJ,int i64 aH,int i64 aI,slice aB aA aC] λxL=>fzM m xL λb m'=>∃(b_1:Bool),lE [some (Box.mk b xL 27 8 true true)] λxL_1=>(kB pG
 72 [agg (.mk xL),agg (.mk [int u8 0,int u64 0,int u64 0,int u64 0,int u64 0,int i64 0,int i64 0,slice none 0 0])] m' λb m'=>br b (Zab xL_1/\[bool true]=[bool b_1]) (kB pG 26 [agg (.mk xL)] m' λb m'=>Zab
 xL_1/\[bool b]=[bool b_1]))/\rtM m m' R (bool b_1)):CX Tryz.prog 29 #[.agg #[.int .u8 aD,.int .u64 aE,.int .u64 aF,.int .u64 aG,.int .u64 aJ,.int .i64 aH,.int .i64 aI,.slice aB aA aC]] m [] R:=
 Zad (E:=Zus) Zay mix Tryz.func29 [.v (.agg #[.int .u8 aD,.int .u64 aE,.int .u64 aF,.int .u64 aG,.int .u64 aJ,.int .i64 aH,.int .i64 aI,.slice aB aA aC])] [] (by kernel_rfl) (Eq.mp (by kernel_rfl) h)
def ZnH:Env:={ EB with
 frzNew:=[1] }
theorem Zlq(aD aE aF aG aJ aH aI:Int)(aB:Option Addr)(aA aC:Nat)(m:Mem)(R:RT)(h:
 lV [int u8 aD,int u64 aE,int u64 aF,int u64 aG,int u64 aJ,int i64 aH,int i64 aI,slice aB aA aC] λxL=>fzM m xL λb m'=>∀(b:Nat),kB pG 26 [agg (.mk xL)] m' λb m'=>br (!b) (rtM m m' R
 (agg (.mk [int u8 0,int u64 0,int u64 0,int u64 0,int u64 0,int i64 0,int i64 0,slice none 0 0]))) (kN pG 31 [agg (.mk xL)] m' λn n_1 n_2 n_3 n_4 n_5 n_6 a n_7 c m'=>rtM m m' R (agg (.mk [int u8 n,int u64 n_1,int u64
 n_2,int u64 n_3,int u64 n_4,int i64 n_5,int i64 n_6,slice a n_7 c])))):CX Tryz.prog 32 #[.agg #[.int .u8 aD,.int .u64 aE,.int .u64 aF,.int .u64 aG,.int .u64 aJ,.int .i64 aH,.int .i64 aI,.slice aB aA aC]] m [] R:=
 Zad (E:=ZnH) Zay mix Tryz.func32 [.v (.agg #[.int .u8 aD,.int .u64 aE,.int .u64 aF,.int .u64 aG,.int .u64 aJ,.int .i64 aH,.int .i64 aI,.slice aB aA aC])] [] (by kernel_rfl) (Eq.mp (by kernel_rfl) h)
def Zut:Env:={ EB with
 loops:=swI nLa [(3,⟨[(7,.slice),(12,.int .i64)],[],[(28,8)],false⟩)]
 tokOf:=swI 0 [(21,28),(28,28)] }
theorem Zru(p0 p1:Int)(p2a:Option Addr)(p2n p2c:Nat)(m:Mem)(R:RT)(h:
 ∃I,inI I [slice none 0 0,int i64 0] [] [slice none 0 0] m/\∀a (n:Nat) c (n_1:Int) a_1 n_2 c_1 m' (n_3:Nat),lX (slice a_1 n_2 c_1) λyL=>lE (n+1) λyL_1=>lV [int i64 (i64.wrap (n_1+1))] λxL=>lX (slice a
 n c) λyL_2=>m.le m'->I [yL_2,int i64 n_1] [] [yL] m' n_3->br (decide (n_1 < (↑p2n:Int))) (atA p2a λb o=>Zaf n_1 p2n/\∃v v_1 v_2 v_3 v_4 v_5 v_6 v_7:Value,lE (ZaE u8 v&&decide (u8=u8)) λyL_3=>lE
 (n+slN v_7) λyL_4=>lV [v,v_1,v_2,v_3,v_4,v_5,v_6,v_7] λxL_1=>m'.reads b (o+Int.toNat n_1*8) xL_1/\∀(b:Nat),chk (v.oneCell'&&(v_1.oneCell'&&(v_2.oneCell'&&(v_3.oneCell'&&(v_4.oneCell' &&
 (v_5.oneCell'&&(v_6.oneCell'&&(v_7.oneCell'&&true)))))))) (chk yL_3 (br (RowKit.intOf v == p0) (chk (Zck v_7&&true) ((Tok.mk yL 8=Tok.mk yL_2 8\/yL_2=slice none 0 0\/c < yL_4)/\∃(xs:List Value),∃(ys:List
 Value),xs.length=n*8/\ys.length=slN v_7*8/\rowRd m' a xs/\rowRd m' (slA v_7) ys/\(∀(u:Value),u∈ys->u.oneCell'=true)/\yL_4*80<=140737488355328/\yL_4<=9223372036854775807/\∀(a':Option Addr) c' m'_1,
 m'.le m'_1->rowRd m'_1 a' (List.append xs ys)->nxI n_3 I (slice a' yL_4 c'::xL) [] [slice a' yL_4 c'] m'_1)) (chk yL_3 (br (RowKit.intOf v == p1) (nxI n_3 I (yL_2::xL) [] [yL] m') (∀b,lM (m'.add b xL_1) λmL=>m'.free b
 -> (Tok.mk yL 8=Tok.mk yL_2 8\/yL_2=slice none 0 0\/c < yL_1)/\∃(xs:List Value),∃(ys:List Value),xs.length=n*8/\ys.length=1*8/\rowRd mL a xs/\rowRd mL (some (Addr.mk b 0 none)) ys/\(∀(u:Value),u∈ys
 -> u.oneCell'=true)/\yL_1*80<=140737488355328/\yL_1<=9223372036854775807/\∀(a':Option Addr) c' m',mL.le m'->rowRd m' a' (List.append xs ys)->nxI n_3 I (slice a' yL_1 c'::xL) [] [slice a' yL_1 c'] m')))))) (rtM m m'
 R yL_2)):CX Tryz.prog 28 #[.int .u8 p0,.int .u8 p1,.slice p2a p2n p2c] m [] R:=
 Zad (E:=Zut) Zay mix Tryz.func28 [.v (.int .u8 p0),.v (.int .u8 p1),.v (.slice p2a p2n p2c)] [] (by kernel_rfl) (Eq.mp (by kernel_rfl) h)
def ZpV:Env:={ EB with
 frzNew:=[5] }
theorem ZnI(p0:Int)(p1a:Option Addr)(p1n p1c:Nat)(qX qY qZ rA rB rC rD:Int)(mC:Option Addr)(mD mE:Nat)(m:Mem)(R:RT)(h:
 lV [int u8 qX,int u64 qY,int u64 qZ,int u64 rA,int u64 rB,int i64 rC,int i64 rD,slice mC mD mE] λxL=>fzM m xL λb m'=>∀(b:Nat),br ((↑p1n:Int) == 0) (rtM m m' R (agg (.mk xL))) (br
 ((↑p1n:Int) == 1) (atA p1a λb o=>Zaf (0:Int) p1n/\∃v v_1 v_2 v_3 v_4 v_5 v_6 v_7:Value,lV [v,v_1,v_2,v_3,v_4,v_5,v_6,v_7] λxL=>m'.reads b (o+0) xL/\kN pG 32 [agg (.mk xL)] m' λn n_1 n_2 n_3 n_4
 n_5 n_6 a n_7 c m'=>rtM m m' R (agg (.mk [int u8 n,int u64 n_1,int u64 n_2,int u64 n_3,int u64 n_4,int i64 n_5,int i64 n_6,slice a n_7 c]))) (kN pG 32 [agg (.mk [int u8 p0,int u64 0,int u64 0,int u64 0,int u64 0,int
 i64 0,int i64 0,slice p1a p1n p1c])] m' λn n_1 n_2 n_3 n_4 n_5 n_6 a n_7 c m'=>rtM m m' R (agg (.mk [int u8 n,int u64 n_1,int u64 n_2,int u64 n_3,int u64 n_4,int i64 n_5,int i64 n_6,slice a n_7 c]))))):CX Tryz.prog 27 #[.int .u8 p0,.slice p1a p1n p1c,.agg #[.int .u8 qX,.int .u64 qY,.int .u64 qZ,.int .u64 rA,.int .u64 rB,.int .i64 rC,.int .i64 rD,.slice mC mD mE]] m [] R:=
 Zad (E:=ZpV) Zay mix Tryz.func27 [.v (.int .u8 p0),.v (.slice p1a p1n p1c),.v (.agg #[.int .u8 qX,.int .u64 qY,.int .u64 qZ,.int .u64 rA,.int .u64 rB,.int .i64 rC,.int .i64 rD,.slice mC mD mE])] [] (by kernel_rfl) (Eq.mp (by kernel_rfl) h)
def Zya:Env:={ EB with
 loops:=swI nLa [(2,⟨[(7,.int .i64)],[2],[],false⟩)] }
theorem Zwt(p0a:Option Addr)(p0n p0c:Nat)(m:Mem)(R:RT)(h:
 ∀b,∃I,inI I [int i64 0] [[int u8 0,int u64 0,int u64 0,int u64 0,int u64 0,int i64 0,int i64 0,slice none 0 0]] [] m/\∀n (cs:List Value) m' (n_1:Nat),m.le m'->I [int i64 n] [cs] [] m' n_1->br (decide (n < (↑p0n
 : Int))) (atA p0a λb_1 o=>Zaf n p0n/\∃v v_1 v_2 v_3 v_4 v_5 v_6 v_7:Value,lV [v,v_1,v_2,v_3,v_4,v_5,v_6,v_7] λxL=>m'.reads b_1 (o+Int.toNat n*8) xL/\∀(b_2:Nat),chk (v.oneCell'&&(v_1.oneCell' &&
 (v_2.oneCell'&&(v_3.oneCell'&&(v_4.oneCell'&&(v_5.oneCell'&&(v_6.oneCell'&&(v_7.oneCell'&&true)))))))) (kB pG 29 [agg (.mk xL)] m' λb_3 m'=>br (!b_3) (rtM m m' R (agg (.mk [int u8 0,int u64 0,int u64 0,int u64
 0,int u64 0,int i64 0,int i64 0,slice none 0 0]))) (Zab [some (Box.mk b [] 27 8 false true)]/\nxI n_1 I [int i64 (i64.wrap (n+1))] [cs] [] m'))) (kS pG 28 [int u8 4,int u8 0,slice p0a p0n p0c] m' λa n c m'=>kN pG
 27 [int u8 4,slice a n c,agg (.mk [int u8 0,int u64 0,int u64 0,int u64 0,int u64 0,int i64 0,int i64 0,slice none 0 0])] m' λn n_2 n_3 n_4 n_5 n_6 n_7 a n_8 c m'=>rtM m m' R (agg (.mk [int u8 n,int u64 n_2,int u64
 n_3,int u64 n_4,int u64 n_5,int i64 n_6,int i64 n_7,slice a n_8 c])))):CX Tryz.prog 7 #[.slice p0a p0n p0c] m [] R:=
 Zad (E:=Zya) Zay mix Tryz.func7 [.v (.slice p0a p0n p0c)] [] (by kernel_rfl) (Eq.mp (by kernel_rfl) h)
def Zwu:Env:={ EB with
 loops:=swI nLa [(2,⟨[(7,.int .i64)],[2],[],false⟩)]
 joins:=swI none [(4,some [(18,.bool)])] }
theorem Zuu(p0a:Option Addr)(p0n p0c:Nat)(m:Mem)(R:RT)(h:
 ∀b,∃I,inI I [int i64 0] [[int u8 0,int u64 0,int u64 0,int u64 0,int u64 0,int i64 0,int i64 0,slice none 0 0]] [] m/\∀n (cs:List Value) m' (n_1:Nat),lE [some (Box.mk b cs 27 8 false true)] λxL=>m.le m'->I
 [int i64 n] [cs] [] m' n_1->br (decide (n < (↑p0n:Int))) (atA p0a λb_1 o=>Zaf n p0n/\∃v v_1 v_2 v_3 v_4 v_5 v_6 v_7:Value,lV [v,v_1,v_2,v_3,v_4,v_5,v_6,v_7] λxL_1=>m'.reads b_1 (o+Int.toNat n*8)
 xL_1/\∀b_2,lE (some (Box.mk b_2 xL_1 27 8 false true)::xL) λxL=>chk (v.oneCell'&&(v_1.oneCell'&&(v_2.oneCell'&&(v_3.oneCell'&&(v_4.oneCell'&&(v_5.oneCell'&&(v_6.oneCell'&&(v_7.oneCell'&&true)))))))) (∃
 (b_3:Bool),chk (ZaE u8 v&&decide (u8=u8)) (br (RowKit.intOf v == 0) (Zab xL/\[bool true]=[bool b_3]) (kB pG 26 [agg (.mk xL_1)] m' λb m'=>Zab xL/\[bool !b]=[bool b_3]))/\br b_3 (rtM m m' R (agg (.mk [int
 u8 0,int u64 0,int u64 0,int u64 0,int u64 0,int i64 0,int i64 0,slice none 0 0]))) (Zab [some (Box.mk b [] 27 8 false true)]/\nxI n_1 I [int i64 (i64.wrap (n+1))] [cs] [] m'))) (kS pG 28 [int u8 3,int u8 1,slice
 p0a p0n p0c] m' λa n c m'=>kN pG 27 [int u8 3,slice a n c,agg (.mk [int u8 1,int u64 0,int u64 0,int u64 0,int u64 0,int i64 0,int i64 0,slice none 0 0])] m' λn n_2 n_3 n_4 n_5 n_6 n_7 a n_8 c m'=>rtM m m' R
 (agg (.mk [int u8 n,int u64 n_2,int u64 n_3,int u64 n_4,int u64 n_5,int i64 n_6,int i64 n_7,slice a n_8 c])))):CX Tryz.prog 6 #[.slice p0a p0n p0c] m [] R:=
 Zad (E:=Zwu) Zay mix Tryz.func6 [.v (.slice p0a p0n p0c)] [] (by kernel_rfl) (Eq.mp (by kernel_rfl) h)
def Zrv:Env:={ EB with
 joins:=swI none [(1,some [(7,.bool),(8,.bool)]),(2,some [(21,.bool)]),(4,some [(40,.bool)]),(6,some [(49,.bool)])]
 frzNew:=[3] }
theorem ZpW(aD aE aF aG aJ aH aI:Int)(aB:Option Addr)(aA aC:Nat)(p1 p2:Int)(m:Mem)(R:RT)(h:
 lV [int u8 aD,int u64 aE,int u64 aF,int u64 aG,int u64 aJ,int i64 aH,int i64 aI,slice aB aA aC] λxL=>fzM m xL λb m'=>∀am,∃(ad:Bool),∃(ae:Bool),lV [bool ad,bool ae] λab=>lE
 [some (Box.mk am [int u8 0,int u64 0,int u64 0,int u64 0,int u64 0,int i64 0,int i64 0,slice none 0 0] 27 8 false true),some (Box.mk b xL 27 8 true true)] λaa=>br (p1 == 0) (br (p1 == 1) (Zab aa/\[bool (p2 == 0),
 bool (p2 == 1)]=ab) (Zab aa/\[bool (p2 == 0),bool false]=ab)) (br (p1 == 1) (Zab aa/\[bool false,bool (p2 == 1)]=ab) (Zab aa/\[bool false,bool false]=ab))/\∃(b:Bool),lV [bool b] λac=>(kB pG 29 [agg
 (.mk xL)] m' λb m'=>br (!b) (Zab aa/\[bool true]=ac) (br (!ad) (br (!ae) (kB pG 30 [int i64 p1,int i64 p2] m' λb m'=>Zab aa/\[bool !b]=ac) (Zab aa/\[bool false]=ac)) (Zab aa/\[bool false]=ac)))/\
 br b (rtM m m' R (agg (.mk [int u8 0,int u64 0,int u64 0,int u64 0,int u64 0,int i64 0,int i64 0,slice none 0 0]))) (∃(b:Bool),br (aD == 0) (Zab aa/\[bool (decide (p1 > 0))]=[bool b]) (Zab aa/\[bool false] =
 [bool b])/\br b (rtM m m' R (agg (.mk [int u8 0,int u64 0,int u64 0,int u64 0,int u64 0,int i64 0,int i64 0,slice none 0 0]))) (∃(b:Bool),br ad (Zab aa/\[bool true]=[bool b]) (br (aD == 0) (Zab aa/\[bool
 true]=[bool b]) (Zab aa/\[bool (aD == 1)]=[bool b]))/\br b (rtM m m' R (agg (.mk [int u8 1,int u64 0,int u64 0,int u64 0,int u64 0,int i64 0,int i64 0,slice none 0 0]))) (br ae (kN pG 31 [agg (.mk xL)] m' λn
 af ag ah ai aj ak a al c m'=>rtM m m' R (agg (.mk [int u8 n,int u64 af,int u64 ag,int u64 ah,int u64 ai,int i64 aj,int i64 ak,slice a al c]))) (∀b,m'.free b->kN pG 32 [agg (.mk [int u8 5,int u64 0,int u64 0,int u64
 0,int u64 0,int i64 p1,int i64 p2,slice (some (Addr.mk b 0 none)) 1 1])] (m'.add b xL) λn af ag ah ai aj ak a al c m'=>rtM m m' R (agg (.mk [int u8 n,int u64 af,int u64 ag,int u64 ah,int u64 ai,int i64 aj,int i64
 ak,slice a al c]))))))):CX Tryz.prog 8 #[.agg #[.int .u8 aD,.int .u64 aE,.int .u64 aF,.int .u64 aG,.int .u64 aJ,.int .i64 aH,.int .i64 aI,.slice aB aA aC],.int .i64 p1,.int .i64 p2] m [] R:=
 Zad (E:=Zrv) Zay mix Tryz.func8 [.v (.agg #[.int .u8 aD,.int .u64 aE,.int .u64 aF,.int .u64 aG,.int .u64 aJ,.int .i64 aH,.int .i64 aI,.slice aB aA aC]),.v (.int .i64 p1),.v (.int .i64 p2)] [] (by kernel_rfl) (Eq.mp (by kernel_rfl) h)
def ZnJ:Env:={ EB with
 frzNew:=[1] }
theorem Zlr(aD aE aF aG aJ aH aI:Int)(aB:Option Addr)(aA aC:Nat)(m:Mem)(R:RT)(h:
 lV [int u8 aD,int u64 aE,int u64 aF,int u64 aG,int u64 aJ,int i64 aH,int i64 aI,slice aB aA aC] λxL=>fzM m xL λb m'=>∀(b:Nat) b,m'.free b->kN pG 32 [agg (.mk [int u8 6,int u64 0,int
 u64 0,int u64 0,int u64 0,int i64 0,int i64 0,slice (some (Addr.mk b 0 none)) 1 1])] (m'.add b xL) λn n_1 n_2 n_3 n_4 n_5 n_6 a n_7 c m'=>rtM m m' R (agg (.mk [int u8 n,int u64 n_1,int u64 n_2,int u64 n_3,int u64
 n_4,int i64 n_5,int i64 n_6,slice a n_7 c]))):CX Tryz.prog 9 #[.agg #[.int .u8 aD,.int .u64 aE,.int .u64 aF,.int .u64 aG,.int .u64 aJ,.int .i64 aH,.int .i64 aI,.slice aB aA aC]] m [] R:=
 Zad (E:=ZnJ) Zay mix Tryz.func9 [.v (.agg #[.int .u8 aD,.int .u64 aE,.int .u64 aF,.int .u64 aG,.int .u64 aJ,.int .i64 aH,.int .i64 aI,.slice aB aA aC])] [] (by kernel_rfl) (Eq.mp (by kernel_rfl) h)
def ZpX:Env:={ EB with
 loops:=swI nLa [(3,⟨[(12,.int .i64)],[],[],false⟩)]
 dr:=swI [] [(5,[⟨0,[1],[],none,[],[]⟩,⟨1,[1],[],none,[0],[]⟩,dO 2 [],⟨3,[4],[],none,[],[]⟩,dO 4 [3],dO 5 [0,1,2,3,4]])]
 thaw:=true
 stAt:=swI none [(22,some 7)]
 last:=swI false [(5,true)]
 tokC:=swI none [(7,some (7,8))] }
theorem ZnK(aD aE aF aG aJ aH aI:Int)(aB:Option Addr)(aA aC:Nat)(m:Mem)(R:RT)(h:
 ∀b b_1,∃R_1,CXT pG 14 (.mk [slice aB aA aC]) m 8 R_1/\ZbT .slice R_1/\∀a n c m',lX (slice a n c) λyL=>lV [int u8 aD,int u64 aE,int u64 aF,int u64 aG,int u64 aJ,int i64 aH,int i64 aI,yL]
 λxL=>m.le m'->R_1 yL m' []->∃I,inI I [int i64 0] [] [] m'/\∀(n_1:Int)(m':Mem)(n_2:Nat),lE (Int.toNat n_1*8) λyL_1=>True->I [int i64 n_1] [] [] m' n_2->br (decide (n_1 < (↑n:Int))) (atA a λb_2 o=>
 Zaf n_1 n/\∃v v_1 v_2 v_3 v_4 v_5 v_6 v_7:Value,lV [v,v_1,v_2,v_3,v_4,v_5,v_6,v_7] λxL_1=>m'.reads b_2 (o+yL_1) xL_1/\∀(b_3:Nat),chk (v.oneCell'&&(v_1.oneCell'&&(v_2.oneCell'&&(v_3.oneCell' &&
 (v_4.oneCell'&&(v_5.oneCell'&&(v_6.oneCell'&&(v_7.oneCell'&&true)))))))) (∃(f:Fx),dN f 4 pG 31 [agg (.mk xL_1)] m' λn_3 n_4 n_5 n_6 n_7 n_8 n_9 a_5 n_10 c_1 m'_1=>atA a λb_4 o=>Zaf n_1 n/\∀M,m'.le M->
 m'_1.le M->yL=slice (some (Addr.mk b_4 0 none)) n c/\o+yL_1+8<=n*8/\Zab [some (Box.mk b_1 [int u8 0,int u64 0,int u64 0,int u64 0,int u64 0,int i64 0,int i64 0,slice none 0 0] 27 8 false true),some (Box.mk b
 xL 27 8 false true)]/\[some (Tok.mk yL 8)]=[some (Tok.mk yL 8)]/\nxI n_2 I [int i64 (i64.wrap (n_1+1))] [] [] (Mem.upd M b_4 (o+yL_1) [int u8 n_3,int u64 n_4,int u64 n_5,int u64 n_6,int u64 n_7,int i64 n_8,int i64
 n_9,slice a_5 n_10 c_1]))) (rtM m m' R (agg (.mk xL)))):CX Tryz.prog 31 #[.agg #[.int .u8 aD,.int .u64 aE,.int .u64 aF,.int .u64 aG,.int .u64 aJ,.int .i64 aH,.int .i64 aI,.slice aB aA aC]] m [] R:=
 Zad (E:=ZpX) Zay mix Tryz.func31 [.v (.agg #[.int .u8 aD,.int .u64 aE,.int .u64 aF,.int .u64 aG,.int .u64 aJ,.int .i64 aH,.int .i64 aI,.slice aB aA aC])] [] (by kernel_rfl) (Eq.mp (by kernel_rfl) h)
def Zcf:Env:={ EB with
 tokOf:=swI 0 [(2,7),(7,7)]
 tokC:=swI none [(5,some (7,8))]
 thaw:=true }
theorem Zbk(p0a:Option Addr)(p0n p0c:Nat)(m:Mem)(R:RT)(h:
 lE (0+p0n) λyL=>br (Option.isNone p0a) (slice none 0 0=slice none 0 0/\R (slice none 0 0) m []) (((0:Int)=(0:Int)/\(0:Int)<=0/\(0:Int)*(↑(80:Nat):Int)<=281474976710656/\(0:Int) <=
 9223372036854775807)/\∀(b:Nat),lX (slice (some (Addr.mk b 0 none)) 0 (Int.toNat (0:Int))) λyL_1=>m.free b->(Tok.mk yL_1 8=Tok.mk yL_1 8\/yL_1=slice none 0 0\/Int.toNat (0:Int) < yL)/\∃(xs:List Value),∃
 (ys:List Value),xs.length=0*8/\ys.length=p0n*8/\rowRd m (some (Addr.mk b 0 none)) xs/\rowRd m p0a ys/\(∀(u:Value),u∈ys->u.oneCell'=true)/\yL*80<=140737488355328/\yL<=9223372036854775807/\∀a' c' m',
 lE (some (Tok.mk (slice a' yL c') 8)) λyL_2=>m.le m'->rowRd m' a' (List.append xs ys)->TokFact m (some (Addr.mk b 0 none)) a' yL c'->yL_2=yL_2/\R (slice a' yL c') m' [])):CXT Tryz.prog 14 #[.slice p0a p0n p0c] m 8 R:=
 ZqX (E:=Zcf) Zay mix Tryz.func14 [.v (.slice p0a p0n p0c)] (by kernel_rfl) (Eq.mp (by kernel_rfl) h)
end Go.Proofs.YtfgfahnakepegaaGreat
namespace Go.Proofs.YtfgfahnakepegaaGreat
open Go Go.Eng Go.Rx Go.Proofs Go.RowKit
set_option maxRecDepth 100000
theorem Zyb(l:List T):∀u∈Rx.Zcx l,u.oneCell'=true:=by
 intro u hu
 simp only[Rx.Zcx,List.mem_flatten,List.mem_map]at hu
 obtain⟨_,⟨t,_,rfl⟩,h⟩:=hu
 simp only[T.cs,T.sl,List.mem_cons,List.not_mem_nil,or_false]at h
 rcases h with rfl|rfl|rfl|rfl|rfl|rfl|rfl|rfl <;> rfl
theorem Zh2(a:Option Addr)(c:Nat)(l:List T)(m:Mem)(h:rowRd m a (Rx.Zcx l))(hl:l.length<=1000000000000):CXT Tryz.prog 14 #[.slice a l.length c] m 8 (λv m' _=>∃a' c',v=.slice a' l.length c'/\rowRd m' a' (Rx.Zcx l)/\l.length<=c'/\(l.length=0\/∃b,a'=some ⟨b,0,none⟩/\m.free b)):=by
 apply Zbk
 have aU:=Zat l
 refine Zac (λha=>?_) (λha=>⟨⟨rfl,Int.le_refl _,by decide,by decide⟩,λb hf=>⟨.inl rfl,[],Rx.Zcx l,rfl,aU,.inl rfl,h,Zyb l,by omega,by omega,λa' c' m' hm aP pI=>⟨rfl,?_⟩⟩⟩)
 ·obtain rfl:a=none:=by simpa using ha
  have h0:l=[]:=by
   rcases h with h|⟨_,_,h,_⟩
   ·rw[h]at aU;exact List.eq_nil_of_length_eq_zero (by simp at aU;omega)
   ·cases h
  subst h0
  exact⟨rfl,none,0,rfl,.inl rfl,Nat.le_refl _,.inl rfl⟩
 ·simp only[Nat.zero_add]at pI ⊢
  refine⟨a',c',rfl,aP,pI.1,?_⟩
  rcases(pI.old (λ_ _ e=>by cases e;rfl)).2 with h1|⟨b',h1,h2|h2⟩
  ·subst h1
   left
   rcases aP with h3|⟨_,_,h3,_⟩
   ·have h4:(Rx.Zcx l).length=0:=congrArg List.length h3
    omega
   ·cases h3
  ·right;rw[<-h2];exact⟨b,rfl,hf⟩
  ·exact .inr ⟨b',h1,h2⟩
theorem Zwv{m:Mem}{b:Nat}{ts r:List T}{x t:T}(h:rowRd m (some ⟨b,0,none⟩) (Rx.Zcx (ts++x::r))):rowRd (m.upd b (0+ts.length*8) t.cs) (some ⟨b,0,none⟩) (Rx.Zcx (ts++t::r)):=by
 rcases h with h|⟨b',o',ha,h⟩
 ·have hl:(Rx.Zcx (ts++x::r)).length=0:=by rw[h];rfl
  rw[Zat,zA1,List.length_cons]at hl
  omega
 cases ha
 have e:∀y:T,Rx.Zcx (ts++y::r)=Rx.Zcx ts++(y.cs++Rx.Zcx r):=λy=>by simp[Rx.Zcx]
 have h8:∀y:T,y.cs.length=8:=λ_=>rfl
 refine .inr ⟨b,0,rfl,λj v hj=>?_⟩
 rw[e]at hj
 unfold Mem.upd
 rw[Nat.zero_add,Nat.zero_add,h8]
 rcases Nat.lt_or_ge j (ts.length*8)with aS|bI
 ·rw[if_neg (by omega)]
  rw[zA5 (by rw[Zat];exact aS)]at hj
  have:=h j v (by rw[e,zA5 (by rw[Zat];exact aS)];exact hj)
  rwa [Nat.zero_add]at this
 ·rw[zA4 (by rw[Zat];exact bI),Zat]at hj
  rcases Nat.lt_or_ge j (ts.length*8+8)with aS|mF
  ·rw[if_pos ⟨rfl,bI,aS⟩]
   rw[zA5 (by rw[h8];omega)]at hj
   exact hj
  ·rw[if_neg (by omega)]
   rw[zA4 (by rw[h8];omega),h8]at hj
   have:=h j v (by
    rw[e,zA4 (by rw[Zat];exact bI),Zat,zA4 (by rw[h8];omega),h8];exact hj)
   rwa [Nat.zero_add]at this
theorem Zww{m m':Mem}(h:m.le m'){b:Nat}(hf:m'.free b):m.free b:=λo=>by
 cases he:m b o with
 | none=>rfl
 | some v=>have:=h _ _ _ he;rw[hf o]at this;cases this
def NewT(m:Mem)(t:T):Prop:=∀x∈t.nodes,x.subs=[]\/∃b,x.a=some ⟨b,0,none⟩/\m.free b
theorem NewT.less{m m':Mem}{t:T}(hn:NewT m' t)(h:m.le m'):NewT m t:=λx hx=>(hn x hx).imp id λ⟨b,e,hf⟩=>⟨b,e,Zww h hf⟩
theorem Zuv{m:Mem}{k s0 s1 s2 s3 mn mx:Int}{a:Option Addr}{c:Nat}{l:List T}(h:l=[]\/∃b,a=some ⟨b,0,none⟩/\m.free b)(hl:∀x∈l,NewT m x):NewT m (.node k s0 s1 s2 s3 mn mx a c l):=by
 intro x hx
 simp only[T.nodes,List.mem_cons]at hx
 rcases hx with rfl|hx
 ·exact h
 ·have:∀l:List T,(∀x∈l,NewT m x)->∀x∈Zaq l,x.subs=[]\/∃b,x.a=some ⟨b,0,none⟩/\m.free b:=by
   intro l
   induction l with
   | nil=>intro _ x hx;simp[Zaq]at hx
   | cons y l ih=>
    intro h x hx
    simp only[Zaq,List.mem_append]at hx
    rcases hx with hx|hx
    ·exact h y (by simp) x hx
    ·exact ih (λz hz=>h z (by simp[hz])) x hx
  exact this l hl x hx
theorem ZgM{m:Mem}{t:T}(h:t.subs=[]):NewT m t:=by
 intro x hx
 rw[Zbf,h]at hx
 simp[Zaq]at hx
 subst hx;exact .inl h
set_option maxHeartbeats 800000 in
theorem Zf1(t:T)(m:Mem)(hr:Rep m t)(hz:t.nodes.length<=10000):CX Tryz.prog 31 #[t.v] m [] (Za9 λt'=>t'.er=t.er/\(t'.caps/\NewT m t')):=by
 have bE:szL t.subs<=10000:=by rw[Zb9]at hz;omega
 have eA:t.subs.length<=10000:=Nat.le_trans (Zbo _) bE
 apply ZnK
 intro b b1
 refine⟨_,Zh2 t.a t.c t.subs m (Zaw hr.subs) (by omega),(λv _ _ ⟨a,c,e,_⟩=>by rw[e];rfl),?_⟩
 rintro a n c m1 aK ⟨a',c',hv,aP,gW,aY⟩
 simp only[Value.slice.injEq]at hv
 obtain⟨rfl,rfl,rfl⟩:=hv
 have cA:∀x∈t.subs,Rep m x:=Zbb hr.subs
 refine⟨λxs css tvs m' q=>∃(k:Nat)(L:List T)(mb:Mem),k<=t.subs.length/\xs=[.int .i64 k]/\q=t.subs.length - k/\L.length=k/\L.map T.er=(t.subs.take k).map T.er/\m.le mb/\mb.le m'/\(t.subs.length=0\/∃b,a=some ⟨b,0,none⟩/\mb.free b)/\(∀x∈L,Rep mb x/\(x.caps/\NewT m x))/\(t.subs.length=0\/∃b,a=some ⟨b,0,none⟩/\m.free b)/\rowRd m' a (Rx.Zcx (L++t.subs.drop k)),⟨_,0,[],m,by omega,rfl,rfl,rfl,rfl,Mem.le_refl _,aK,aY,by simp,aY,aP⟩,?_⟩
 rintro z m2 q _ ⟨k,L,mb,hk,aZ,hq,vN,fG,vO,rE,eJ,kR,cW,dV⟩
 obtain rfl:z=k:=by simpa using aZ
 refine Zac (λaS=>?_) (λbI=>?_)
 ·have aN:k < t.subs.length:=by have:=zA6 aS;omega
  obtain⟨x,hx⟩:=ZbU aN
  have cO:=cA x (zA2 hx)
  have iO:x.nodes.length<=10000:=by
   obtain⟨h1,h2⟩:=zA0 hx
   have:=congrArg List.length (Zdh hx)
   unfold szL at bE
   simp only[zA1]at this
   omega
  have fX:t.subs.drop k=x::t.subs.drop (k+1):=by
   rw[List.drop_eq_getElem_cons aN,(zA0 hx).2]
  rcases eJ with eJ|⟨bk,rfl,dG⟩
  ·omega
  obtain⟨b0,o0,eO,bA⟩:=Zct dV (i:=k) (t:=x) (by rw[zA4 (by omega),vN,Nat.sub_self,fX];rfl)
  cases eO
  have hw:IntKind.i64.wrap ((k:Int)+1)=((k+1:Nat):Int):=by rw[Zas (by omega) (by omega)];rfl
  simp only[hw,zA8]
  have iI:CX Tryz.prog 31 #[x.v] m2 [] (Zw6 mb m2 λt'=>t'.er=x.er/\(t'.caps/\NewT mb t')):=(Zf1 x mb (Rep.mono vO x cO) iO).frame2 rE
  refine⟨bk,0,rfl,⟨by omega,by omega⟩,_,_,_,_,_,_,_,_,bA,λb3=>Zaa rfl ⟨λ_ _ _=>Zw6 mb m2 λt'=>t'.er=x.er/\(t'.caps/\NewT mb t'),Zw6 mb m2 λt'=>t'.er=x.er/\(t'.caps/\NewT mb t'),rfl,iI,Zrs,Zx8 λt' m0 m3 aX h0 bQ dF hr' ht'=>⟨bk,0,rfl,⟨by omega,by omega⟩,λM cS dM=>⟨rfl,by omega,by trivial,by trivial,t.subs.length - (k+1),by omega,k+1,L++[t'],m0,by omega,rfl,rfl,by simp[vN],?_,mLt vO h0,?_,.inr ⟨bk,rfl,?_⟩,?_,cW,?_⟩⟩⟩⟩
  ·rw[List.map_append,fG,ZbR hx,List.map_append]
   simp[ht'.1]
  ·refine Mem.le_upd (mLt bQ dM) ?_ _ _
   intro o'
   have hc:m2 bk (0+k*8+0)=some (.int .u8 x.k):=bA 0 _ rfl
   rw[dF _ _ _ hc o'];exact dG o'
  ·intro o'
   have hc:m2 bk (0+k*8+0)=some (.int .u8 x.k):=bA 0 _ rfl
   rw[dF _ _ _ hc o'];exact dG o'
  ·intro y hy
   rcases List.mem_append.1 hy with hy|hy
   ·exact⟨Rep.mono h0 y (kR y hy).1,(kR y hy).2⟩
   ·simp at hy;subst hy;exact⟨hr',ht'.2.1,ht'.2.2.less vO⟩
  ·rw[fX]at dV
   have h5:=Zwv (t:=t') (dV.mono cS)
   rw[vN]at h5
   rw[List.append_assoc]
   exact h5
 ·have dR:k=t.subs.length:=by have:=of_decide_eq_false bI;omega
  subst dR
  rw[List.drop_length,List.append_nil]at dV
  rw[List.take_length]at fG
  have bD:=Zv0 hr
  refine⟨m2,mLt vO rE,Mem.le_refl _,.node t.k t.s0 t.s1 t.s2 t.s3 t.mn t.mx a c L,?_,?_,?_⟩
  ·simp only[T.v,T.k,T.s0,T.s1,T.s2,T.s3,T.mn,T.mx,T.a,T.c,T.subs,vN]
  ·have:=Zcs dV (λx hx=>Rep.mono rE x (kR x hx).1) (by omega)
   exact ZxH this.1 this.2 bD
  ·have:=Zsu (k:=t.k) (s0:=t.s0) (s1:=t.s1) (s2:=t.s2) (s3:=t.s3) (mn:=t.mn) (mx:=t.mx) (a:=a) (a':=t.a) (c:=c) (c':=t.c) fG
   refine⟨this.trans ?_,ZfO (by omega) λx hx=>(kR x hx).2.1,Zuv (cW.imp (λh=>List.eq_nil_of_length_eq_zero (by omega)) id) λx hx=>(kR x hx).2.2⟩
   cases t;rfl
termination_by SizeOf.sizeOf t
decreasing_by exact Zdi (zA2 hx)
theorem Zjn(m:Mem):Rep m T0:=Zc7 (k:=0) (mn:=0) (mx:=0) (a:=none) (c:=0) (l:=[]) ⟨by simp,.inl rfl⟩ (by omega) (by omega) (by omega)
theorem Zt4(m:Mem):Rep m T1:=Zc7 (k:=1) (mn:=0) (mx:=0) (a:=none) (c:=0) (l:=[]) ⟨by simp,.inl rfl⟩ (by omega) (by omega) (by omega)
theorem Zvs(t:T)(m:Mem)(hr:Rep m t)(hc:t.clean=true):CX Tryz.prog 29 #[t.v] m [] (Ret (.bool true)):=by
 apply Zrt
 intro b m1 aK _
 refine⟨true,Zai (ZsR t T0 m1 (hr.mono aK) (Zjn _)) λm2 aO=>Zac (λ_=>⟨by trivial,rfl⟩) (λ_=>?_),Zah aK rfl⟩
 have h:=Zi0 t m2 (hr.mono (mLt aK aO))
 rw[hc]at h
 exact Zai h λm3 aX=>⟨by trivial,rfl⟩
theorem ZeY(t:T)(m:Mem)(hr:Rep m t):CX Tryz.prog 32 #[t.v] m [] (Za9 λt'=>Zxd t t'/\NewT m t'):=by
 apply Zlq
 intro b m1 aK _ b1
 refine Zai (Zi0 t m1 (hr.mono aK)) λm2 aO=>Zac (λh=>?_) (λh=>?_)
 ·exact⟨m2,mLt aK aO,Mem.le_refl _,T0,rfl,Zjn _,⟨.inr ⟨by simpa using h,rfl⟩,ZhM⟩,ZgM rfl⟩
 ·have hc:t.clean=true:=by simpa using h
  refine Zae (Zf1 t m2 (hr.mono (mLt aK aO)) (ZgG hc)) Zaj (ZaD λt' m3 aX hr' ht'=>?_)
  exact⟨m3,mLt aK (mLt aO aX),Mem.le_refl _,t',rfl,hr',⟨.inl ⟨hc,ht'.1⟩,ht'.2.1⟩,ht'.2.2.less (mLt aK aO)⟩
theorem Zvt(k w:Int)(L:List T)(a:Option Addr)(c:Nat)(m:Mem)(hL:RepL m a L)(hl:L.length<=1000)(hs:∀x∈L,x.subs.length<=10000):CX Tryz.prog 28 #[.int .u8 k,.int .u8 w,.slice a L.length c] m [] (λv m' _=>∃a' c',v=.slice a' (ZaV k w L).length c'/\RepL m' a' (ZaV k w L)):=by
 apply Zru
 have aP:=Zaw hL
 have cA:=Zbb hL
 have fY:∀i,(ZaV k w (L.take i)).length<=10001000:=λi=>by
  have:=ZhN k w (L.take i) λx hx=>hs x (List.mem_of_mem_take hx)
  have h2:(L.take i).length<=1000:=by rw[List.length_take];omega
  omega
 refine⟨λxs css tvs m' q=>∃(i:Nat)(a:Option Addr)(c:Nat),i<=L.length/\xs=[.slice a (ZaV k w (L.take i)).length c,.int .i64 i]/\tvs=[.slice a (ZaV k w (L.take i)).length c]/\rowRd m' a (Rx.Zcx (ZaV k w (L.take i)))/\q=L.length - i,⟨_,0,none,0,by omega,rfl,rfl,.inl rfl,rfl⟩,?_⟩
 rintro a1 n1 c1 z a2 n2 c2 m1 q aK ⟨i,a',c',hi,aZ,bY,cF,hq⟩
 simp only[List.cons.injEq,Value.slice.injEq,Value.int.injEq,true_and,and_true]at aZ bY
 obtain⟨⟨rfl,rfl,rfl⟩,rfl⟩:=aZ
 obtain⟨rfl,rfl,rfl⟩:=bY
 refine Zac (λaS=>?_) (λbI=>?_)
 ·have aN:i < L.length:=by have:=zA6 aS;omega
  obtain⟨x,hx⟩:=ZbU aN
  obtain⟨b0,o0,eO,bA⟩:=Zct (aP.mono aK) hx
  have cO:=(cA x (zA2 hx)).mono aK
  have aZ:=hs x (zA2 hx)
  have hw:IntKind.i64.wrap ((i:Int)+1)=((i+1:Nat):Int):=by rw[Zas (by omega) (by omega)];rfl
  have bU:=Zq2 k w (L.take i) x
  rw[<-ZbR hx]at bU
  have qH:=fY i
  simp only[hw,zA8]
  refine⟨b0,o0,eO,⟨by omega,by omega⟩,_,_,_,_,_,_,_,_,bA,λb3=>Zaa rfl (Zaa rfl (Zac (λhk=>?_) (λhk=>Zaa rfl (Zac (λhw'=>?_) (λhw' b4 oG=>?_)))))⟩
  ·have hk':x.k=k:=by simpa[RowKit.intOf]using hk
   have iD:ZbH k w x=x.subs:=by unfold ZbH;rw[if_pos hk']
   rw[iD]at bU
   refine Zaa rfl ⟨.inl trivial,Rx.Zcx (ZaV k w (L.take i)),Rx.Zcx x.subs,Zat _,Zat _,cF,Zaw cO.subs,Zyb _,?_,?_,λa5 c5 m5 cC iV=>⟨L.length - (i+1),by omega,i+1,a5,c5,by omega,?_,?_,?_,rfl⟩⟩
   ·simp only[T.sl,slN];omega
   ·simp only[T.sl,slN];omega
   ·rw[bU,zA1];rfl
   ·rw[bU,zA1];rfl
   ·rw[bU,Za3];exact iV
  ·have hk':¬x.k=k:=by simpa[RowKit.intOf]using hk
   have fN:x.k=w:=by simpa[RowKit.intOf]using hw'
   have iD:ZbH k w x=[]:=by unfold ZbH;rw[if_neg hk',if_pos fN]
   rw[iD,List.append_nil]at bU
   exact⟨L.length - (i+1),by omega,i+1,a2,c2,by omega,by rw[bU],by rw[bU],by rw[bU];exact cF,rfl⟩
  ·have hk':¬x.k=k:=by simpa[RowKit.intOf]using hk
   have fN:¬x.k=w:=by simpa[RowKit.intOf]using hw'
   have iD:ZbH k w x=[x]:=by unfold ZbH;rw[if_neg hk',if_neg fN]
   rw[iD]at bU
   refine⟨.inl trivial,Rx.Zcx (ZaV k w (L.take i)),x.cs,Zat _,rfl,cF.mono (Mem.le_add oG _),.inr ⟨b4,0,rfl,λj v hj=>by rw[Nat.zero_add,Mem.add_same];exact hj⟩,by have:=Zyb [x];simpa[Rx.Zcx]using this,by omega,by omega,λa5 c5 m5 cC iV=>⟨L.length - (i+1),by omega,i+1,a5,c5,by omega,?_,?_,?_,rfl⟩⟩
   ·rw[bU,zA1];rfl
   ·rw[bU,zA1];rfl
   ·rw[bU,ZdO];exact iV
 ·have oD:i=L.length:=by have:=of_decide_eq_false bI;omega
  subst oD
  rw[List.take_length]at cF ⊢
  have qH:=fY L.length
  rw[List.take_length]at qH
  refine⟨m1,aK,Mem.le_refl _,a2,c2,rfl,Zcs cF (λt ht=>?_) (by omega)⟩
  simp only[ZaV,List.mem_flatten,List.mem_map]at ht
  obtain⟨_,⟨x,hx,rfl⟩,ht⟩:=ht
  have cO:=(cA x hx).mono aK
  unfold ZbH at ht
  split at ht
  ·exact Zbb cO.subs t ht
  ·split at ht
   ·simp at ht
   ·simp at ht;subst ht;exact cO
theorem Zi1(k:Int)(hk:k=3\/k=4)(a:Option Addr)(c:Nat)(l:List T)(u:T)(m:Mem)(hl:RepL m a l)(hu:Rep m u)(fS:l.length<=1000000000)(nO:u.subs=[]):CX Tryz.prog 27 #[.int .u8 k,.slice a l.length c,u.v] m [] (Za9 λt'=>Zw1 k a c u l t'/\NewT m t'):=by
 apply ZnI
 intro b m1 aK _ b1
 have aP:=Zaw (hl.mono aK)
 match l,hl,fS,aP with
 | [],hl,fS,aP=>exact ZsS rfl ⟨m1,aK,Mem.le_refl _,u,rfl,hu.mono aK,rfl,ZgM nO⟩
 | [x],hl,fS,aP=>
  refine Zf0 rfl (ZsS rfl ?_)
  obtain⟨b0,o0,eO,bA⟩:=Zct aP (i:=0) (t:=x) rfl
  refine⟨b0,o0,eO,⟨by omega,by simp⟩,_,_,_,_,_,_,_,_,bA,Zae (ZeY x m1 ((Zbb hl x (by simp)).mono aK)) Zaj (ZaD λt' m2 aO hr' ht'=>?_)⟩
  exact⟨m2,mLt aK aO,Mem.le_refl _,t',rfl,hr',ht'.1,ht'.2.less aK⟩
 | x::y::l,hl,fS,aP=>
  refine Zf0 (by simp;omega) (Zf0 (by simp;omega) ?_)
  have eR:Rep m1 (Zba k 0 0 a c (x::y::l)):=Zc7 (hl.mono aK) (by omega) (by omega) (by omega)
  refine Zae (ZeY (Zba k 0 0 a c (x::y::l)) m1 eR) Zaj (ZaD λt' m2 aO hr' ht'=>?_)
  exact⟨m2,mLt aK aO,Mem.le_refl _,t',rfl,hr',ht'.1,ht'.2.less aK⟩
theorem Zuw(k:Int)(hk:k=3\/k=4)(a:Option Addr)(c:Nat)(l:List T)(u:T)(m:Mem)(hl:RepL m a l)(hu:Rep m u)(fS:l.length<=1000000000)(nO:u.subs=[]):CX Tryz.prog 27 #[.int .u8 k,.slice a l.length c,u.v] m [] (Za9 (Zw1 k a c u l)):=
 (Zi1 k hk a c l u m hl hu fS nO).mono λ_ _ _ _ ⟨t',e,hr',h⟩=>⟨t',e,hr',h.1⟩
theorem Zf2{t:T}(h:t.clean=true):t.subs.length<=10000:=by
 have h1:=ZgG h
 rw[Zb9]at h1
 have:=Zbo t.subs
 omega
theorem Zyc(L:List T)(a:Option Addr)(c:Nat)(m:Mem)(hL:RepL m a L)(hl:L.length<=1000)(hc:∀x∈L,x.clean=true):CX Tryz.prog 7 #[.slice a L.length c] m [] (Za9 λt'=>(∃a c,Zw1 4 a c T0 (ZaV 4 0 L) t')/\NewT m t'):=by
 apply Zwt
 intro b
 have aP:=Zaw hL
 have cA:=Zbb hL
 refine⟨λxs css tvs m' q=>∃i:Nat,i<=L.length/\xs=[.int .i64 i]/\q=L.length - i,⟨_,0,by omega,rfl,rfl⟩,?_⟩
 rintro z cs m1 q aK ⟨i,hi,aZ,hq⟩
 obtain rfl:z=i:=by simpa using aZ
 refine Zac (λaS=>?_) (λbI=>?_)
 ·have aN:i < L.length:=by have:=zA6 aS;omega
  obtain⟨x,hx⟩:=ZbU aN
  obtain⟨b0,o0,eO,bA⟩:=Zct (aP.mono aK) hx
  have cO:=(cA x (zA2 hx)).mono aK
  have hw:IntKind.i64.wrap ((i:Int)+1)=((i+1:Nat):Int):=by rw[Zas (by omega) (by omega)];rfl
  simp only[hw,zA8]
  exact⟨b0,o0,eO,⟨by omega,by omega⟩,_,_,_,_,_,_,_,_,bA,λb3=>Zaa rfl (Zai (Zvs x m1 cO (hc x (zA2 hx))) λm2 aO=>Zf0 rfl ⟨by trivial,L.length - (i+1),by omega,i+1,by omega,rfl,rfl⟩)⟩
 ·refine Zae (Zvt 4 0 L a c m1 (hL.mono aK) hl λx hx=>Zf2 (hc x hx)) (λv _ _ ⟨a,c,e,_⟩=>by rw[e];rfl) ?_
  rintro a2 n2 c2 m2 aO ⟨a',c',hv,hF⟩
  simp only[Value.slice.injEq]at hv
  obtain⟨rfl,rfl,rfl⟩:=hv
  have fY:=ZhN 4 0 L λx hx=>Zf2 (hc x hx)
  refine Zae (Zi1 4 (.inr rfl) a2 c2 (ZaV 4 0 L) T0 m2 hF (Zjn _) (by omega) rfl) Zaj (ZaD λt' m3 aX hr' ht'=>?_)
  exact⟨m3,mLt aK (mLt aO aX),Mem.le_refl _,t',rfl,hr',⟨a2,c2,ht'.1⟩,ht'.2.less (mLt aK aO)⟩
theorem Zyd(L:List T)(a:Option Addr)(c:Nat)(m:Mem)(hL:RepL m a L)(hl:L.length<=1000)(hc:∀x∈L,x.clean=true):CX Tryz.prog 7 #[.slice a L.length c] m [] (Za9 λt'=>∃a c,Zw1 4 a c T0 (ZaV 4 0 L) t'):=
 (Zyc L a c m hL hl hc).mono λ_ _ _ _ ⟨t',e,hr',h⟩=>⟨t',e,hr',h.1⟩
theorem Zvu(L:List T)(a:Option Addr)(c:Nat)(m:Mem)(hL:RepL m a L)(hl:L.length<=1000)(hc:∀x∈L,x.clean=true):CX Tryz.prog 6 #[.slice a L.length c] m [] (Za9 λt'=>(∃a c,Zw1 3 a c T1 (ZaV 3 1 L) t')/\NewT m t'):=by
 apply Zuu
 intro b
 have aP:=Zaw hL
 have cA:=Zbb hL
 refine⟨λxs css tvs m' q=>∃i:Nat,i<=L.length/\xs=[.int .i64 i]/\q=L.length - i,⟨_,0,by omega,rfl,rfl⟩,?_⟩
 rintro z cs m1 q aK ⟨i,hi,aZ,hq⟩
 obtain rfl:z=i:=by simpa using aZ
 refine Zac (λaS=>?_) (λbI=>?_)
 ·have aN:i < L.length:=by have:=zA6 aS;omega
  obtain⟨x,hx⟩:=ZbU aN
  obtain⟨b0,o0,eO,bA⟩:=Zct (aP.mono aK) hx
  have cO:=(cA x (zA2 hx)).mono aK
  have s5:=hc x (zA2 hx)
  have hk:=Zvj s5
  have dA:=Zi0 x m1 cO
  rw[s5]at dA
  have hw:IntKind.i64.wrap ((i:Int)+1)=((i+1:Nat):Int):=by rw[Zas (by omega) (by omega)];rfl
  simp only[hw,zA8]
  refine⟨b0,o0,eO,⟨by omega,by omega⟩,_,_,_,_,_,_,_,_,bA,λb3=>Zaa rfl ⟨false,?_,Zf0 rfl ⟨by trivial,L.length - (i+1),by omega,i+1,by omega,rfl,rfl⟩⟩⟩
  refine Zaa rfl (Zf0 (by simpa[RowKit.intOf]using hk) ?_)
  exact Zai dA λm2 aO=>⟨by trivial,rfl⟩
 ·refine Zae (Zvt 3 1 L a c m1 (hL.mono aK) hl λx hx=>Zf2 (hc x hx)) (λv _ _ ⟨a,c,e,_⟩=>by rw[e];rfl) ?_
  rintro a2 n2 c2 m2 aO ⟨a',c',hv,hF⟩
  simp only[Value.slice.injEq]at hv
  obtain⟨rfl,rfl,rfl⟩:=hv
  have fY:=ZhN 3 1 L λx hx=>Zf2 (hc x hx)
  refine Zae (Zi1 3 (.inl rfl) a2 c2 (ZaV 3 1 L) T1 m2 hF (Zt4 _) (by omega) rfl) Zaj (ZaD λt' m3 aX hr' ht'=>?_)
  exact⟨m3,mLt aK (mLt aO aX),Mem.le_refl _,t',rfl,hr',⟨a2,c2,ht'.1⟩,ht'.2.less (mLt aK aO)⟩
theorem Zrw(L:List T)(a:Option Addr)(c:Nat)(m:Mem)(hL:RepL m a L)(hl:L.length<=1000)(hc:∀x∈L,x.clean=true):CX Tryz.prog 6 #[.slice a L.length c] m [] (Za9 λt'=>∃a c,Zw1 3 a c T1 (ZaV 3 1 L) t'):=
 (Zvu L a c m hL hl hc).mono λ_ _ _ _ ⟨t',e,hr',h⟩=>⟨t',e,hr',h.1⟩
theorem Zks(t:T)(m:Mem)(hr:Rep m t):CX Tryz.prog 9 #[t.v] m [] (Za9 λt'=>(∃a c,Zxd (Zba 6 0 0 a c [t]) t')/\NewT m t'):=by
 apply Zlr
 intro b m1 aK _ b1 b2 jG
 have bC:=mLt aK (Mem.le_add jG t.cs)
 have hL:RepL (m1.add b2 t.cs) (some ⟨b2,0,none⟩) [t]:=Zon (λj v hj=>by rw[Nat.zero_add,Mem.add_same];exact hj) (hr.mono bC)
 have eR:Rep (m1.add b2 t.cs) (Zba 6 0 0 (some ⟨b2,0,none⟩) 1 [t]):=Zc7 hL (by omega) (by omega) (by omega)
 refine Zae (ZeY (Zba 6 0 0 (some ⟨b2,0,none⟩) 1 [t]) (m1.add b2 t.cs) eR) Zaj (ZaD λt' m2 aO hr' ht'=>?_)
 exact⟨m2,mLt bC aO,Mem.le_refl _,t',rfl,hr',⟨_,_,ht'.1⟩,ht'.2.less bC⟩
theorem Zm2(t:T)(m:Mem)(hr:Rep m t):CX Tryz.prog 9 #[t.v] m [] (Za9 λt'=>∃a c,Zxd (Zba 6 0 0 a c [t]) t'):=
 (Zks t m hr).mono λ_ _ _ _ ⟨t',e,hr',h⟩=>⟨t',e,hr',h.1⟩
set_option maxHeartbeats 1600000 in
theorem ZpY(t:T)(lo hi:Int)(m:Mem)(hr:Rep m t)(hc:t.clean=true):CX Tryz.prog 8 #[t.v,.int .i64 lo,.int .i64 hi] m [] (Za9 λt'=>Zvk t lo hi t'/\NewT m t'):=by
 apply ZpW
 intro b m1 aK _ b1
 have hk:=Zvj hc
 have hk':(t.k == 0)=false:=by simpa using hk
 have s7:=ZpT lo hi
 generalize hB:Zb7 lo hi=B at s7
 have hz:∃z,(lo == 0&&hi == 0)=z:=⟨_,rfl⟩
 have ho:∃o,(lo == 1&&hi == 1)=o:=⟨_,rfl⟩
 obtain⟨z,hz⟩:=hz
 obtain⟨o,ho⟩:=ho
 have Bq:z=true->lo=0/\hi=0:=λh=>by rw[h]at hz;simpa using hz
 have sX:o=true->lo=1/\hi=1:=λh=>by rw[h]at ho;simpa using ho
 refine⟨z,o,?_,!z&&(!o&&!B),?_,Zac (λh=>?_) (λh=>⟨false,?_,Zf0 rfl ⟨z||t.k == 1,?_,Zac (λh2=>?_) (λh2=>Zac (λh3=>?_) (λh3 b4 oG=>?_))⟩⟩)⟩
 ·rw[<-hz,<-ho]
  refine Zac (λh=>Zac (λh2=>⟨by trivial,?_⟩) (λh2=>⟨by trivial,?_⟩)) (λh=>Zac (λh2=>⟨by trivial,?_⟩) (λh2=>⟨by trivial,?_⟩)) <;> rw[h,h2] <;> rfl
 ·refine Zai (Zvs t m1 (hr.mono aK) hc) λm2 aO=>Zf0 rfl (Zac (λh=>Zac (λh2=>?_) (λh2=>?_)) (λh=>?_))
  ·refine Zai (s7 m2) λm3 aX=>⟨by trivial,?_⟩
   rw[h,h2];rfl
  ·refine⟨by trivial,?_⟩
   rw[h,h2];rfl
  ·refine⟨by trivial,?_⟩
   rw[h];rfl
 ·exact⟨m1,aK,Mem.le_refl _,T0,rfl,Zjn _,.inl ⟨rfl,by
   cases z <;> cases o <;> cases B <;> simp_all⟩,ZgM rfl⟩
 ·exact Zf0 hk' ⟨by trivial,rfl⟩
 ·refine Zac (λh3=>⟨by trivial,?_⟩) (λh3=>Zf0 hk' ⟨by trivial,?_⟩)
  ·rw[h3];rfl
  ·rw[h3];rfl
 ·refine⟨m1,aK,Mem.le_refl _,T1,rfl,Zt4 _,.inr (.inl ⟨rfl,?_⟩),ZgM rfl⟩
  cases z with
  | true=>exact .inl (Bq rfl)
  | false=>
   right
   refine⟨by simpa using h2,?_⟩
   cases o with
   | true=>exact .inl (sX rfl)
   | false=>right;simpa[hB]using h
 ·refine Zae (Zf1 t m1 (hr.mono aK) (ZgG hc)) Zaj (ZaD λt' m2 aO hr' ht'=>?_)
  have:=sX (by simpa using h3)
  exact⟨m2,mLt aK aO,Mem.le_refl _,t',rfl,hr',.inr (.inr (.inl ⟨this.1,this.2,ht'.1⟩)),ht'.2.2.less aK⟩
 ·have bC:=mLt aK (Mem.le_add oG t.cs)
  have hL:RepL (m1.add b4 t.cs) (some ⟨b4,0,none⟩) [t]:=Zon (λj v hj=>by rw[Nat.zero_add,Mem.add_same];exact hj) (hr.mono bC)
  have Br:B=true:=by
   rw[h3]at h
   have:z=false:=by
    cases z with
    | true=>simp at h2
    | false=>rfl
   rw[this]at h
   simpa using h
  have hb:=hB.trans Br
  have dC:0<=lo/\lo<=16/\-1<=hi/\hi<=16:=by
   unfold Zb7 at hb
   simp only[zA7,Bool.not_eq_true',Bool.or_eq_false_iff,Bool.or_eq_true,decide_eq_false_iff_not,decide_eq_true_eq,beq_iff_eq]at hb
   omega
  have eR:Rep (m1.add b4 t.cs) (Zba 5 lo hi (some ⟨b4,0,none⟩) 1 [t]):=Zc7 hL (by omega) (by omega) (by omega)
  refine Zae (ZeY (Zba 5 lo hi (some ⟨b4,0,none⟩) 1 [t]) (m1.add b4 t.cs) eR) Zaj (ZaD λt' m2 aO hr' ht'=>?_)
  exact⟨m2,mLt bC aO,Mem.le_refl _,t',rfl,hr',.inr (.inr (.inr ⟨_,_,ht'.1⟩)),ht'.2.less bC⟩
theorem ZsT(t:T)(lo hi:Int)(m:Mem)(hr:Rep m t)(hc:t.clean=true):CX Tryz.prog 8 #[t.v,.int .i64 lo,.int .i64 hi] m [] (Za9 (Zvk t lo hi)):=
 (ZpY t lo hi m hr hc).mono λ_ _ _ _ ⟨t',e,hr',h⟩=>⟨t',e,hr',h.1⟩
def Zy2(L:List T):Value->Mem->List (List Value)->Prop:=λv m' _=>∃a c,v=.slice a L.length c/\RepL m' a L/\L.length<=c
theorem Zf3{L:List T}:∀(v:Value)(m':Mem) (css:List (List Value)),Zy2 L v m' css->Shape.fits .slice v=true:=λv _ _ ⟨a,c,e,_⟩=>by rw[e];rfl
theorem Zf4{m:Mem}{a:Option Addr}{L:List T}(h:RepL m a L)(n:Nat):RepL m a (L.take n):=by
 have aP:=Zaw h
 refine Zcs (Zwr (r:=L.drop n) (by rw[List.take_append_drop];exact aP)) (λx hx=>Zbb h x (List.mem_of_mem_take hx)) ?_
 have:=h.1
 rw[List.length_take];omega
theorem Zls{m:Mem}{a:Option Addr}{L:List T}(h:RepL m a L){i c:Nat}(hi:i<=L.length)(hc:L.length<=c):RepL m (ZaG a i c 8) (L.drop i):=by
 have aP:=Zaw h
 refine Zcs ?_ (λx hx=>Zbb h x (List.mem_of_mem_drop hx)) (by have:=h.1;rw[List.length_drop];omega)
 by_cases hz:L.drop i=[]
 ·left;rw[hz];rfl
 have aS:i < L.length:=by
  apply Classical.byContradiction
  intro hn
  exact hz (List.drop_eq_nil_of_le (by omega))
 rcases aP with aP|⟨b,o,ha,bA⟩
 ·have:=congrArg List.length aP
  rw[Zat]at this
  simp only[List.length_nil]at this
  omega
 right
 subst ha
 have hs:ZaG (some ⟨b,o,none⟩) i c 8=some ⟨b,o+i*8,none⟩:=by
  unfold ZaG
  cases i with
  | zero=>rfl
  | succ i=>
   have e1:Nat.beq (i+1) 0=false:=rfl
   have e2:Nat.beq c (i+1)=false:=by
    cases hb:Nat.beq c (i+1)with
    | false=>rfl
    | true=>have:=Nat.eq_of_beq_eq_true hb;omega
   rw[e1,e2]
   show some (Addr.add _ ((i+1)*8))=_
   rw[Zc0]
 refine⟨b,o+i*8,hs,λj v hj=>?_⟩
 have e:Rx.Zcx L=Rx.Zcx (L.take i)++Rx.Zcx (L.drop i):=by rw[<-Za3,List.take_append_drop]
 have hl:(Rx.Zcx (L.take i)).length=i*8:=by rw[Zat,List.length_take,Nat.min_eq_left hi]
 have:=bA (i*8+j) v (by rw[e,zA4 (by omega),hl,Nat.add_sub_cancel_left];exact hj)
 rwa [Nat.add_assoc]
theorem ZpZ(t:T)(m:Mem)(hr:Rep m t)(hc:t.subs.length<=t.c):CX Tryz.prog 74 #[t.v] m [] (Zy2 (Zao t)):=by
 apply Zjo
 intro b m1 aK bA
 refine Zac (λhk=>?_) (λhk=>Zac (λeV=>?_) (λeV=>?_))
 ·have hk':t.k=2:=by simpa using hk
  intro b2 jG
  refine⟨_,mLt aK (Mem.le_add jG t.cs),Mem.le_refl _,some ⟨b2,0,none⟩,1,?_,?_,?_⟩
  ·unfold Zao;rw[if_pos hk'];rfl
  ·unfold Zao;rw[if_pos hk']
   exact Zon (λj v hj=>by rw[Nat.zero_add,Mem.add_same];exact hj) (hr.mono (mLt aK (Mem.le_add jG t.cs)))
  ·unfold Zao;rw[if_pos hk'];simp
 ·have hk':t.k=3:=by simpa using eV
  have dE:¬t.k=2:=by omega
  have bH:=(hr.mono aK).subs
  have jO:∀x∈t.subs,∀m',m1.le m'->Rep m' x->CX Tryz.prog 103 (x.v::[]).toArray m' [] (Ret (.bool (!x.isC))):=by
   intro x _ m' _ _
   apply Zg9
   intro b m2 aO _
   exact Zah aO rfl
  have xt:=ZhZ t.subs t.a t.c 103 [] (λx=>!x.isC) m1 bH.1 bH.2 jO
  have xu:Zao t=t.subs.take (t.subs.findIdx λx=>!x.isC):=by
   unfold Zao
   rw[if_neg dE,if_pos hk']
   exact List.takeWhile_eq_take_findIdx_not
  refine Zdx xt λm2 aO=>?_
  have jX:=bH.mono aO
  cases eT:t.subs.any (λx=>!x.isC)with
  | false=>
   rw[if_neg (by simp)]
   have aV:Zao t=t.subs:=by
    rw[xu]
    have:t.subs.findIdx (λx=>!x.isC)=t.subs.length:=by
     rw[List.findIdx_eq_length]
     intro x hx
     have:=List.any_eq_false.1 eT x hx
     simpa using this
    rw[this,List.take_length]
   refine ZsS rfl ⟨_,mLt aK aO,Mem.le_refl _,?_⟩
   rw[aV]
   exact⟨_,_,rfl,jX,hc⟩
  | true=>
   rw[if_pos rfl]
   have bC:t.subs.findIdx (λx=>!x.isC)<=t.subs.length:=List.findIdx_le_length
   refine Zf0 (decide_eq_false (by omega)) ⟨⟨by omega,by omega⟩,_,mLt aK aO,Mem.le_refl _,?_⟩
   have aU:(Zao t).length=t.subs.findIdx (λx=>!x.isC):=by rw[xu,List.length_take,Nat.min_eq_left bC]
   refine⟨ZaG t.a 0 t.c 8,t.c - 0,?_,?_,by omega⟩
   ·rw[aU];simp
   ·rw[xu];exact Zf4 jX _
 ·have dE:¬t.k=2:=by simpa using hk
  have rF:¬t.k=3:=by simpa using eV
  refine⟨_,aK,Mem.le_refl _,none,0,?_,?_,?_⟩
  ·unfold Zao;rw[if_neg dE,if_neg rF];rfl
  ·unfold Zao;rw[if_neg dE,if_neg rF];exact⟨by simp,.inl rfl⟩
  ·unfold Zao;rw[if_neg dE,if_neg rF];simp
theorem Zye(t:T)(n:Nat)(m:Mem)(hr:Rep m t)(hg:t.good=true)(hz:t.nodes.length<=900)(hc:t.subs.length<=t.c)(hn:n<=(Zao t).length):CX Tryz.prog 112 #[t.v,.int .i64 n] m [] (Za9 λt'=>t'.er=Zbp n t/\t'.caps):=by
 apply Zjp
 intro b m1 aK bA b2
 refine Zac (λhk=>?_) (λhk=>?_)
 ·have hk':t.k=2:=by simpa using hk
  have h:=Zrw [] none 0 m1 ⟨by simp,.inl rfl⟩ (by simp) (by simp)
  refine Zae h Zaj (ZaD λt' m2 aO hr' ⟨a,c,hj⟩=>?_)
  refine⟨m2,mLt aK aO,Mem.le_refl _,t',rfl,hr',?_,ZcV Zkn hj⟩
  have hj:t'=T1:=hj
  unfold Zbp
  rw[if_pos hk',hj];rfl
 ·have dE:¬t.k=2:=by simpa using hk
  have bC:n<=t.subs.length:=by
   unfold Zao at hn
   rw[if_neg dE]at hn
   split at hn
   ·exact Nat.le_trans hn (List.takeWhile_sublist _).length_le
   ·simp at hn;omega
  have hd:=Zls (hr.mono aK).subs bC hc
  have gM:∀x∈t.subs.drop n,x.good=true:=λx hx=>(Zan hg).2 x (List.mem_of_mem_drop hx)
  have bE:szL (t.subs.drop n)<=900:=by
   have:=Zcu t.subs n
   rw[Zb9]at hz
   omega
  have dA:∀x∈t.subs.drop n,x.clean=true:=λx hx=>ZaO (gM x hx) (by have:=Zbq hx;omega)
  have fS:(t.subs.drop n).length=t.subs.length - n:=List.length_drop
  have h:=Zrw (t.subs.drop n) (ZaG t.a n t.c 8) (t.c - n) m1 hd (by have:=Zbo (t.subs.drop n);omega) dA
  rw[fS]at h
  refine⟨⟨by omega,by omega⟩,?_⟩
  simp only[zA8]
  refine Zae h Zaj (ZaD λt' m2 aO hr' ⟨a,c,hj⟩=>?_)
  refine⟨m2,mLt aK aO,Mem.le_refl _,t',rfl,hr',?_,ZcV Zkn hj⟩
  unfold Zbp
  rw[if_neg dE]
  exact ZiQ gM (by omega) hj
theorem ZeZ(t:T)(m:Mem)(hr:Rep m t):CX Tryz.prog 57 #[t.v] m [] (Ret (.bool (t.clean&&decide (t.size<=120)))):=by
 apply ZhU
 intro b m1 aK bA
 refine⟨t.clean&&decide (t.size<=120),Zai (Zi0 t m1 (hr.mono aK)) λm2 aO=>Zac (λh=>?_) (λh=>?_),Zah aK rfl⟩
 ·refine Zdx (Zm1 t m2 (hr.mono (mLt aK aO))) λm3 aX=>⟨rfl,?_⟩
  rw[h];rfl
 ·exact⟨rfl,by rw[h];rfl⟩
theorem Zed{L R:List T}{n:Nat}{x y:T}(hx:L[n]?=some x)(hy:R[n]?=some y)(h:n<=ZaH L R):(n < ZaH L R↔ZcC x y=true):=by
 induction n generalizing L R with
 | zero=>
  match L,R with
  | [],_=>simp at hx
  | _::_,[]=>simp at hy
  | a::l,b::r=>
   simp at hx hy
   subst hx hy
   unfold ZaH
   cases hs:ZcC a b <;> simp
 | succ n ih=>
  match L,R with
  | [],_=>simp at hx
  | _::_,[]=>simp at hy
  | a::l,b::r=>
   simp at hx hy
   unfold ZaH at h ⊢
   split at h
   ·rename_i hs
    rw[if_pos hs]
    have:=ih hx hy (by omega)
    rw[<-this];omega
   ·omega
theorem Zp0{m:Mem}{b o:Nat}{t:T}(h:m.reads b o t.cs):m.reads b (o+1) [.int .u64 t.s0,.int .u64 t.s1,.int .u64 t.s2,.int .u64 t.s3]:=by
 intro j v hj
 have aS:j < 4:=(zA0 hj).1
 rw[show o+1+j=o+(1+j) by omega]
 refine h (1+j) v ?_
 have e:j=0\/j=1\/j=2\/j=3:=by omega
 rcases e with rfl|rfl|rfl|rfl <;> exact hj
theorem Zux(L R:List T)(a1 a2:Option Addr)(c1 c2:Nat)(m:Mem)(hL:RepL m a1 L)(hR:RepL m a2 R):CX Tryz.prog 90 #[.slice a1 L.length c1,.slice a2 R.length c2] m [] (Ret (.int .i64 (ZaH L R:Nat))):=by
 apply Zha
 have Bs:=Zaw hL
 have Bt:=Zaw hR
 have dA:=Zcb L R
 have h1:=hL.1
 refine⟨λxs css tvs m' q=>∃i:Nat,i<=ZaH L R/\xs=[.int .i64 i]/\q=ZaH L R - i,⟨_,0,by omega,rfl,rfl⟩,?_⟩
 rintro z m1 q aK ⟨i,hi,aZ,hq⟩
 obtain rfl:z=i:=by simpa using aZ
 have hw:i < L.length->IntKind.i64.wrap ((i:Int)+1)=((i+1:Nat):Int):=λh=>by rw[Zas (by omega) (by omega)];rfl
 refine⟨decide (i < ZaH L R),Zac (λaS=>Zac (λeN=>?_) (λmF=>?_)) (λbI=>?_),Zac (λh=>?_) (λh=>?_)⟩
 ·have aN:i < L.length:=by have:=zA6 aS;omega
  have iW:i < R.length:=by have:=zA6 eN;omega
  obtain⟨x,hx⟩:=ZbU aN
  obtain⟨y,hy⟩:=ZbU iW
  obtain⟨b0,o0,eO,dW⟩:=Zct (Bs.mono aK) hx
  obtain⟨b2,o2,kD,kT⟩:=Zct (Bt.mono aK) hy
  refine⟨b0,o0,eO,⟨by omega,by omega⟩,_,_,_,_,Zp0 dW,b2,o2,kD,⟨by omega,by omega⟩,_,_,_,_,Zp0 kT,_,Zrr _ _ _ _ _ _ _ _,Zbw ?_⟩
  have:=Zed hx hy hi
  rw[Bool.eq_iff_iff,decide_eq_true_iff,this]
  unfold ZcC
  simp[and_assoc]
 ·have:¬i < R.length:=λh=>by have:=of_decide_eq_false mF;omega
  rw[decide_eq_false (by omega)]
 ·have:¬i < L.length:=λh=>by have:=of_decide_eq_false bI;omega
  rw[decide_eq_false (by omega)]
 ·have aS:=zA6 h
  rw[hw (by omega)]
  exact⟨ZaH L R - (i+1),by omega,i+1,by omega,rfl,rfl⟩
 ·have:i=ZaH L R:=by have:=of_decide_eq_false h;omega
  subst this
  exact⟨m1,aK,Mem.le_refl _,rfl⟩
def FnR(g:Nat)(t:T):Value->Mem->List (List Value)->Prop:=λv m' _=>∃b,v=.func (.func g) #[] #[Zd8 b]/\m'.reads b 0 t.cs
theorem Zlt{g:Nat}{t:T}:∀(v:Value)(m':Mem) (css:List (List Value)),FnR g t v m' css->Shape.fits .fn v=true:=λv _ _ ⟨b,e,_⟩=>by rw[e];rfl
theorem Zyf(t:T)(m:Mem):CX Tryz.prog 89 #[t.v] m [] (FnR 108 t):=by
 apply Zjs
 intro b m1 aK bA
 exact⟨m1,aK,Mem.le_refl _,b,rfl,bA⟩
theorem ZsU(t:T)(m:Mem):CX Tryz.prog 61 #[t.v] m [] (FnR 88 t):=by
 apply Zjr
 intro b m1 aK bA
 exact⟨m1,aK,Mem.le_refl _,b,rfl,bA⟩
def Zu3(c:C4):List Value:=[c.v]
set_option maxHeartbeats 1600000 in
theorem ZsV(t:T)(m:Mem)(c0b:Nat)(bA:m.reads c0b 0 t.cs)(hr:Rep m t)(cY:t.caps)(hz:t.nodes.length<=100000):IX Tryz.prog 88 [] [Zd8 c0b] m (t.cuts.map Zu3):=by
 apply Zhb 0 [] [] c0b 0
 intro l b m1 aK fL b1
 refine⟨_,_,_,_,_,_,_,_,λj v hj=>aK _ _ _ (bA j v hj),Zae (Zyf t m1) Zlt ?_⟩
 rintro g fi ca m2 aO ⟨nb,hv,jJ⟩
 obtain⟨rfl,rfl,rfl⟩:=Zet hv
 have dQ:=hr.mono (mLt aK aO)
 generalize Bu:t.cuts.map Zu3=XS
 refine⟨_,Zx9 t m2 nb jJ dQ,λx hx=>?_,λxs css tvs m' q=>∃y:Nat,xs=[.int .i64 y]/\css=[[.int .i64 q]]/\y<=XS.length/\XS.drop y=(ZeU q (t.alts.drop q)).map Zu3,⟨0,rfl,rfl,by omega,?_⟩,?_,?_⟩
 ·obtain⟨a,_,rfl⟩:=List.mem_map.1 hx
  exact Zq0 a
 ·rw[List.drop_zero,List.drop_zero,<-Bu];rfl
 ·rintro y0 k s0 s1 s2 s3 mn mx aa nn cc cs m3 n8 aX cN ⟨y,aZ,bW,zJ,fX⟩ b2
  obtain rfl:y0=y:=by simpa using aZ
  obtain rfl:cs=[.int .i64 n8]:=by simpa using bW
  have cN:(t.alts.map λa=>[a.v])[n8]?=some [.agg #[.int .u8 k,.int .u64 s0,.int .u64 s1,.int .u64 s2,.int .u64 s3,.int .i64 mn,.int .i64 mx,.slice aa nn cc]]:=cN
  rw[List.getElem?_map]at cN
  obtain⟨al,iP,he⟩:=Option.map_eq_some_iff.1 cN
  simp only[T.v,Value.agg.injEq,Array.mk.injEq,List.cons.injEq,Value.int.injEq,Value.slice.injEq,true_and,and_true]at he
  obtain⟨rfl,rfl,rfl,rfl,rfl,rfl,rfl,rfl,rfl,rfl⟩:=he
  have bP:=Zoq t al (zA2 iP)
  have xv:=(Zk2 dQ bP.1).mono aX
  have zK:=Zq6 cY bP.1
  have bH:=xv.subs
  have aU:=bH.1
  have aP:=Zaw bH
  have cA:=Zbb bH
  have xw:t.alts.drop n8=al::t.alts.drop (n8+1):=by
   obtain⟨h1,h2⟩:=zA0 iP
   rw[List.drop_eq_getElem_cons h1,h2]
  generalize gT:ZeU (n8+1) (t.alts.drop (n8+1))=rest
  refine⟨λxs css tvs m' q=>∃y f:Nat,xs=[.int .i64 y,.int .i64 f]/\f<=al.subs.length/\y<=XS.length/\XS.drop y=(Zev n8 f (al.subs.drop f)++rest).map Zu3/\q=al.subs.length - f,⟨_,y,0,rfl,by omega,zJ,?_,rfl⟩,?_⟩
  ·rw[fX,xw,ZeU,gT];rfl
  rintro y1 f0 m4 q4 bB ⟨y1',f,uo,hf,uq,jS,wt⟩
  simp only[List.cons.injEq,Value.int.injEq,true_and,and_true]at uo
  obtain⟨rfl,rfl⟩:=uo
  refine Zac (λaS=>?_) (λbI=>?_)
  ·have aN:f < al.subs.length:=by have:=zA6 aS;omega
   obtain⟨x,hx⟩:=ZbU aN
   obtain⟨b0,o0,eO,dW⟩:=Zct (aP.mono bB) hx
   have cL:=zA2 hx
   have Bv:al.subs.drop f=x::al.subs.drop (f+1):=by
    obtain⟨h1,h2⟩:=zA0 hx
    rw[List.drop_eq_getElem_cons h1,h2]
   have nP:IntKind.i64.wrap ((f:Int)+1)=((f+1:Nat):Int):=by rw[Zas (by omega) (by omega)];rfl
   have fN:IntKind.i64.wrap ((f:Int)+2)=((f+2:Nat):Int):=by rw[Zas (by omega) (by omega)];rfl
   simp only[nP,fN]
   refine⟨b0,o0,eO,⟨by omega,by omega⟩,_,_,_,_,_,_,_,_,dW,Zae (ZpZ x m4 ((cA x cL).mono bB) (ZgE (ZgD zK cL))) Zf3 ?_⟩
   rintro a6 n11 c1 m5 cC ⟨a6',c1',ur,hS,Bw⟩
   simp only[Value.slice.injEq]at ur
   obtain⟨rfl,rfl,rfl⟩:=ur
   have xx:=mLt bB cC
   generalize pJ:Zev n8 (f+1) (al.subs.drop (f+1))++rest=next
   refine⟨λxs css tvs m' q=>∃(y to:Nat)(s:List T)(a:Option Addr)(c:Nat),xs=[.int .i64 y,.slice a s.length c,.int .i64 to]/\f+2<=to/\to<=al.subs.length+1/\RepL m' a s/\s.length<=c/\y<=XS.length/\XS.drop y=(runE n8 f s to (al.subs.drop (to - 1))++next).map Zu3/\q=al.subs.length+1 - to,⟨_,y1',f+2,Zao x,a6,c1,rfl,by omega,by omega,hS,Bw,uq,?_,rfl⟩,?_⟩
   ·rw[jS,Bv,Zev,<-pJ,List.append_assoc];rfl
   rintro y2 a9 n12 c2 to0 m6 q6 cI ⟨y2',to,s,a9',c2',ut,Bx,xy,hs,Df,xz,eF,Dg⟩
   simp only[List.cons.injEq,Value.int.injEq,Value.slice.injEq,true_and,and_true]at ut
   obtain⟨rfl,⟨rfl,rfl,rfl⟩,rfl⟩:=ut
   have vP:=mLt xx cI
   have pK:∀m':Mem,XS.drop y2'=next.map Zu3->∃n':Nat,n' < q4/\∃y f':Nat,([.int .i64 y2',.int .i64 ((f+1:Nat):Int)]:List Value)=[.int .i64 y,.int .i64 f']/\f'<=al.subs.length/\y<=XS.length/\XS.drop y=(Zev n8 f' (al.subs.drop f')++rest).map Zu3/\n'=al.subs.length - f':=λm' h=>⟨al.subs.length - (f+1),by omega,y2',f+1,rfl,by omega,xz,by rw[h,<-pJ],rfl⟩
   refine Zac (λbC=>?_) (λgV=>?_)
   ·have uu:to<=al.subs.length:=by have:=zA6 bC;omega
    obtain⟨z,hz⟩:=ZbU (l:=al.subs) (k:=to - 1) (by omega)
    obtain⟨b4,o4,xA,mG⟩:=Zct (aP.mono vP) hz
    have zL:=zA2 hz
    have By:al.subs.drop (to - 1)=z::al.subs.drop to:=by
     obtain⟨h1,h2⟩:=zA0 hz
     rw[List.drop_eq_getElem_cons h1,h2,show to - 1+1=to by omega]
    have Bz:IntKind.i64.wrap ((to:Int) - 1)=((to - 1:Nat):Int):=by rw[Zas (by omega) (by omega)];omega
    have BA:IntKind.i64.wrap ((to:Int)+1)=((to+1:Nat):Int):=by rw[Zas (by omega) (by omega)];rfl
    simp only[Bz,BA]
    refine⟨b4,o4,xA,⟨by omega,by omega⟩,_,_,_,_,_,_,_,_,mG,Zae (ZpZ z m6 ((cA z zL).mono vP) (ZgE (ZgD zK zL))) Zf3 ?_⟩
    rintro a12 n15 c3 m7 cB ⟨a12',c3',uv,hZ,Dh⟩
    simp only[Value.slice.injEq]at uv
    obtain⟨rfl,rfl,rfl⟩:=uv
    refine Zdx (Zux s (Zao z) a9 a12 c2 c3 m7 (hs.mono cB) hZ) λm8 dT=>?_
    have tE:=Zcb s (Zao z)
    rw[By,runE]at eF
    generalize ZaH s (Zao z)=kk at *
    refine⟨⟨by omega,by omega⟩,Zac (λkO=>?_) (λkO=>?_)⟩
    ·have kO:kk=0:=by have:=eq_of_beq kO;omega
     rw[if_pos kO,List.nil_append]at eF
     exact⟨trivial,pK m8 eF⟩
    ·have kO:¬kk=0:=λe=>by subst e;simp at kO
     rw[if_neg kO,List.cons_append,List.map_cons]at eF
     obtain⟨jO,tL⟩:=Zt6 eF
     have eN:=(zA0 jO).1
     refine Zap (v:=.int .i64 n8) rfl (Zaa rfl (Zaa rfl (Zaa rfl (Zaa rfl ⟨⟨trivial,by omega,?_⟩,⟨trivial,al.subs.length+1 - (to+1),by omega,y2'+1,to+1,s.take kk,ZaG a9 0 c2 8,c2 - 0,?_,by omega,by omega,Zf4 ((hs.mono cB).mono dT) kk,?_,by omega,?_,rfl⟩,trivial,.inr trivial⟩))))
     ·rw[zA8]
      exact jO.trans rfl
     ·simp[List.length_take,Nat.min_eq_left tE.1]
     ·rw[List.length_take];omega
     ·rw[tL];rfl
   ·have uu:to=al.subs.length+1:=by have:=of_decide_eq_false gV;omega
    subst uu
    rw[Nat.add_sub_cancel,List.drop_length,runE,List.nil_append]at eF
    exact⟨trivial,pK m6 eF⟩
  ·have xB:f=al.subs.length:=by have:=of_decide_eq_false bI;omega
   subst xB
   rw[List.drop_length,Zev,List.nil_append]at jS
   refine Zap (v:=.int .i64 n8) rfl (Zaa rfl ⟨rfl,y1',rfl,?_,uq,by rw[jS,<-gT]⟩)
   have Di:n8 < t.alts.length:=(zA0 iP).1
   have BB:=Zsz t
   rw[show RowKit.intOf (.int .i64 (n8:Int))=(n8:Int) from rfl,Zas (by omega) (by omega)];rfl
 ·rintro y0 cs m3 aX ⟨y,aZ,_,zJ,fX⟩
  obtain rfl:y0=y:=by simpa using aZ
  rw[List.length_map,List.drop_length,ZeU,List.map_nil]at fX
  have:=congrArg List.length fX
  rw[List.length_drop]at this
  simp at this
  exact .inl (by omega)
end Go.Proofs.YtfgfahnakepegaaGreat
end
