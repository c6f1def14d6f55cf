/- Part of the proof: functions of the program. No condition. -/
import Derived.Test.YtpjepnkiiojgfaaGreatPC25AU
import Derived.Test.YtpjepnkiiojgfaaGreatPVEP
import Derived.Test.YtpjepnkiiojgfaaGreatPC40M
import Derived.Test.YtpjepnkiiojgfaaGreatMr
import Derived.Test.YtpjepnkiiojgfaaGreatPEnv
import Derived.Test.YtpjepnkiiojgfaaGreatPC25E
import Derived.Shelf.Spec.SlicesGrow
set_option linter.unusedVariables false
set_option linter.unusedSimpArgs false
set_option linter.unusedSectionVars false
namespace Go.Proofs.YtpjepnkiiojgfaaGreat
open Go Go.Eng Go.Rx Go.Proofs Go.RowKit
set_option maxRecDepth 100000
theorem Zyp(a b c d e f a' b' c' d' e' f':Int):EqIs Tryz.prog 75 (.agg (msV a b c d e f).toArray) (.agg (msV a' b' c' d' e' f').toArray) (decide ([a,b,c,d,e,f]=[a',b',c',d',e',f'])):=by
 refine⟨λw=>?_,λop ox oy w=>Zeg (by kernel_rfl) op ox oy _ _ w⟩
 have u3:=Tryz.underlying3
 have a3:=Tryz.isAgg3
 have z3:=Tryz.sizeOf3
 unfold msV
 rw[Op.equal,Op.maxDepth,show(10000:Nat)=9999+1 from rfl]
 rw[run_equalIn_agg _ _ _ _ _ (by kernel_rfl) (by kernel_rfl)]
 have hf:(Tryz.prog.fieldsOf 75).toList=[⟨ "States",3,0,false, "", "",0⟩,⟨ "Rules",3,1,false, "", "",8⟩,⟨ "Regex",3,2,false, "", "",16⟩,⟨ "Parts",3,3,false, "", "",24⟩,⟨ "Operators",3,4,false, "", "",32⟩,⟨ "Vars",3,5,false, "", "",40⟩]:=by kernel_rfl
 rw[hf]
 go_simp
 by_cases h1:a=a' <;> by_cases h2:b=b' <;> by_cases h3:c=c' <;> by_cases h4:d=d' <;> by_cases h5:e=e' <;> by_cases h6:f=f' <;> simp[h1,h2,h3,h4,h5,h6]
theorem Zy1(a b c d e a' b' c' d' e':Int):EqIs Tryz.prog 27 (.agg #[.int .i64 a,.int .i64 b,.int .i64 c,.int .i64 d,.int .i64 e]) (.agg #[.int .i64 a',.int .i64 b',.int .i64 c',.int .i64 d',.int .i64 e']) (a == a'&&b == b'&&c == c'&&d == d'&&e == e'):=by
 refine⟨λw=>?_,λop ox oy w=>Zeg (by kernel_rfl) op ox oy _ _ w⟩
 have u3:=Tryz.underlying3
 have a3:=Tryz.isAgg3
 have z3:=Tryz.sizeOf3
 rw[Op.equal,Op.maxDepth,show(10000:Nat)=9999+1 from rfl]
 rw[run_equalIn_agg _ _ _ _ _ (by kernel_rfl) (by kernel_rfl)]
 have hf:(Tryz.prog.fieldsOf 27).toList=[⟨ "Var",3,0,false, "", "",0⟩,⟨ "State",3,1,false, "", "",8⟩,⟨ "Rule",3,2,false, "", "",16⟩,⟨ "Action",3,3,false, "", "",24⟩,⟨ "Part",3,4,false, "", "",32⟩]:=by kernel_rfl
 rw[hf]
 go_simp
 by_cases h1:a=a' <;> by_cases h2:b=b' <;> by_cases h3:c=c' <;> by_cases h4:d=d' <;> by_cases h5:e=e' <;> simp[h1,h2,h3,h4,h5]
theorem ZxO(p q:Pl):EqIs Tryz.prog 27 (.agg p.cs.toArray) (.agg q.cs.toArray) (decide (p=q)):=by
 have h:=Zy1 p.v p.s p.r p.a p.p q.v q.s q.r q.a q.p
 have e:(p.v == q.v&&p.s == q.s&&p.r == q.r&&p.a == q.a&&p.p == q.p)=decide (p=q):=by
  by_cases j1:p=q
  ·subst j1;simp
  ·rw[decide_eq_false j1,Bool.eq_false_iff]
   intro h
   simp only[zA7,beq_iff_eq]at h
   obtain⟨⟨⟨⟨h1,h2⟩,h3⟩,h4⟩,h5⟩:=h
   apply j1
   cases p;cases q
   simp only at h1 h2 h3 h4 h5
   subst h1 h2 h3 h4 h5;rfl
 rw[e]at h;exact h
theorem ZrW(l r:List Int)(a a':Option Addr)(c c':Nat)(m:Mem)(hl:l.length<=1000000000000000)(h1:rowRd m a (ZdU l))(h2:rowRd m a' (ZdU r)):
  CX Tryz.prog 38 #[.slice a l.length c,.slice a' r.length c'] m [] (Ret (.bool (decide (l=r)))):=by
 apply ZcM
 refine Zab (λh=>Zaf (Mem.le_refl _) ?_) (λh=>?_)
 ·have cS:¬(l.length:Int)=r.length:=by simpa using h
  show Value.bool false=Value.bool _
  rw[decide_eq_false (λe=>cS (by rw[e]))]
 have aH:l.length=r.length:=by
  have:(l.length:Int)=r.length:=by simpa using h
  omega
 refine⟨λxs _ _ m' q=>∃i:Nat,i<=l.length/\xs=[.int .i64 i]/\l.take i=r.take i/\q=l.length - i,⟨l.length,0,by omega,rfl,rfl,rfl⟩,?_⟩
 rintro n m1 q aG ⟨i,hi,hx,heq,rfl⟩
 obtain rfl:n=i:=by simpa using hx
 refine ZaE (λaC=>?_) (λbG=>Zaf aG ?_)
 ·obtain⟨x,hx⟩:=Zdh (show i < l.length by omega)
  obtain⟨y,hy⟩:=Zdh (show i < r.length by omega)
  obtain⟨b1,o1,gw,cY⟩:=ZxK (h1.mono aG) (show(ZdU l)[i]?=some (.int .i64 x) by unfold ZdU;rw[List.getElem?_map,hx];rfl)
  obtain⟨b2,o2,fX,gp⟩:=ZxK (h2.mono aG) (show(ZdU r)[i]?=some (.int .i64 y) by unfold ZdU;rw[List.getElem?_map,hy];rfl)
  refine⟨b1,o1,gw,⟨by omega,aC⟩,_,cY,b2,o2,fX,⟨by omega,by omega⟩,_,gp,Zaa rfl (Zab (λh=>Zaf aG ?_) (λh=>?_))⟩
  ·have cS:¬x=y:=by
    intro e
    subst e
    have h:(!(x == x))=true:=h
    simp at h
   show Value.bool false=Value.bool _
   rw[decide_eq_false (λe=>cS (by subst e;rw[hx]at hy;exact Option.some.inj hy))]
  ·have e:x=y:=by
    have h:(!(x == y))=false:=h
    simpa using h
   subst e
   exact⟨l.length - (i+1),by omega,i+1,by omega,by rw[Zak (by omega) (by omega)];rfl,by rw[List.take_add_one,List.take_add_one,hx,hy,heq],rfl⟩
 ·have hi:i=l.length:=by omega
  subst hi
  show Value.bool true=Value.bool _
  rw[List.take_length,aH,List.take_length]at heq
  rw[decide_eq_true heq]
theorem Zkb(l r:List ByteArray)(a a':Option Addr)(c c':Nat)(m:Mem)(hl:l.length<=1000000000000000)(h1:rowRd m a (Za2 l))(h2:rowRd m a' (Za2 r)):
  CX Tryz.prog 42 #[.slice a l.length c,.slice a' r.length c'] m [] (Ret (.bool (decide (l=r)))):=by
 apply ZbS
 refine Zab (λh=>Zaf (Mem.le_refl _) ?_) (λh=>?_)
 ·have cS:¬(l.length:Int)=r.length:=by simpa using h
  show Value.bool false=Value.bool _
  rw[decide_eq_false (λe=>cS (by rw[e]))]
 have aH:l.length=r.length:=by
  have:(l.length:Int)=r.length:=by simpa using h
  omega
 refine⟨λxs _ _ m' q=>∃i:Nat,i<=l.length/\xs=[.int .i64 i]/\l.take i=r.take i/\q=l.length - i,⟨l.length,0,by omega,rfl,rfl,rfl⟩,?_⟩
 rintro n m1 q aG ⟨i,hi,hx,heq,rfl⟩
 obtain rfl:n=i:=by simpa using hx
 refine ZaE (λaC=>?_) (λbG=>Zaf aG ?_)
 ·obtain⟨x,hx⟩:=Zdh (show i < l.length by omega)
  obtain⟨y,hy⟩:=Zdh (show i < r.length by omega)
  obtain⟨b1,o1,gw,cY⟩:=ZxK (h1.mono aG) (show(Za2 l)[i]?=some (.string x) by unfold Za2;rw[List.getElem?_map,hx];rfl)
  obtain⟨b2,o2,fX,gp⟩:=ZxK (h2.mono aG) (show(Za2 r)[i]?=some (.string y) by unfold Za2;rw[List.getElem?_map,hy];rfl)
  refine⟨b1,o1,gw,⟨by omega,aC⟩,_,cY,b2,o2,fX,⟨by omega,by omega⟩,_,gp,Zaa rfl (Zab (λh=>Zaf aG ?_) (λh=>?_))⟩
  ·have cS:¬x=y:=by
    intro e
    subst e
    have h:(!(x.toList == x.toList))=true:=h
    simp at h
   show Value.bool false=Value.bool _
   rw[decide_eq_false (λe=>cS (by subst e;rw[hx]at hy;exact Option.some.inj hy))]
  ·have e:x=y:=by
    have h:(!(x.toList == y.toList))=false:=h
    have h:x.toList=y.toList:=by simpa using h
    rw[baL,baL]at h
    have:x.data=y.data:=Array.toList_inj.1 h
    cases x;cases y;exact congrArg _ this
   subst e
   exact⟨l.length - (i+1),by omega,i+1,by omega,by rw[Zak (by omega) (by omega)];rfl,by rw[List.take_add_one,List.take_add_one,hx,hy,heq],rfl⟩
 ·have hi:i=l.length:=by omega
  subst hi
  show Value.bool true=Value.bool _
  rw[List.take_length,aH,List.take_length]at heq
  rw[decide_eq_true heq]
theorem ZrX(m:Mem):CX Tryz.prog 83 #[.int .u8 120] m [] (Ret aeX.v):=by
 apply Zex
 exact λb b'=>⟨by decide,by decide,by decide,⟨by decide,by decide⟩,Zaa rfl (Zaa rfl (Zaf (Mem.le_refl _) rfl))⟩
theorem ZrY(m:Mem):CX Tryz.prog 83 #[.int .u8 121] m [] (Ret aeY.v):=by
 apply Zex
 exact λb b'=>⟨by decide,by decide,by decide,⟨by decide,by decide⟩,Zaa rfl (Zaa rfl (Zaf (Mem.le_refl _) rfl))⟩
theorem Zqm{t:T}:∀(v:Value)(m':Mem) (css:List (List Value)),Ret t.v v m' css->Shape.fits (.agg [.int .u8,.int .u64,.int .u64,.int .u64,.int .u64,.int .i64,.int .i64,.slice]) v=true:=λv _ _ h=>by rw[show v=_ from h];rfl
def ExR:Value->Mem->List (List Value)->Prop:=λv m' _=>∃g r c w l s p a r1 r2 S:Option Addr,v=(aeS g r c w l s p a r1 r2 S).v/\RepC m' (aeS g r c w l s p a r1 r2 S)
theorem Zwm:∀(v:Value)(m':Mem) (css:List (List Value)),ExR v m' css->Shape.fits (.agg [.int .i64,.slice,.slice]) v=true:=λv _ _ ⟨_,_,_,_,_,_,_,_,_,_,_,h,_⟩=>by rw[h];rfl
theorem ZzA{m:Mem}{cs:List Value}{f:Nat->Value}{K:Nat->Value->Mem->Prop}(k:∀b M,(m.free b->m.le M)->rowRd M (some ⟨b,0,none⟩) cs->K b (f b) M):∀b:Nat,lX (f b) (λy=>lM (m.add b cs) (λM=>K b y M)):=λb=>k b _ (λhf=>Mem.le_add hf _) ZaU
theorem ZxP{m:Mem}{cs:List Value}{K:Nat->Mem->Prop}(k:∀b M,(m.free b->m.le M)->rowRd M (some ⟨b,0,none⟩) cs->K b M):∀b:Nat,lM (m.add b cs) (λM=>K b M):=λb=>k b _ (λhf=>Mem.le_add hf _) ZaU
theorem Zwn{M:Mem}{k:Int}{b x:Nat}(hk:0<=k/\k < 256)(h:rowRd M (some ⟨b,0,none⟩) (aeN.cs++(aeC x).cs)):RepE M (aeO k (some ⟨b,0,none⟩) x):=by
 rcases h with h|⟨b',o',ha,h⟩
 ·cases h
 cases ha
 unfold aeO
 simp only[RepE,RepEAt]
 refine⟨by show(2:Nat)<=1000000000000000;decide,.inr ⟨b,0,rfl,λj v hj=>h j v ?_,?_,λj v hj=>?_,?_,trivial⟩,⟨hk,by decide,by omega⟩⟩
 ·rw[zA5 (zA0 hj).1];exact hj
 ·simp only[aeN,RepE];exact⟨by decide,.inl trivial,⟨by decide,by decide,by decide⟩⟩
 ·rw[Nat.zero_add,Nat.add_comm,<-Nat.zero_add (j+5)]
  exact h (j+5) v (by rw[zA4 (by show 5<=j+5;omega)];exact hj)
 ·simp only[aeC,RepE];exact⟨by decide,.inl trivial,⟨by decide,by decide,by decide⟩⟩
theorem Zwo(M:Mem):RepE M aeE:=by simp only[aeE,RepE];exact⟨by decide,.inl trivial,⟨by decide,by decide,by decide⟩⟩
theorem Zwp(M:Mem):Rep M Zze:=ZkC (by decide) (.inl rfl) (by constructor <;> decide)
theorem ZxQ(M:Mem):Rep M aeX:=ZkC (by decide) (.inl rfl) (by constructor <;> decide)
theorem ZxR(M:Mem):Rep M aeY:=ZkC (by decide) (.inl rfl) (by constructor <;> decide)
theorem ZlL{M:Mem}{b:Nat}{cs:List Value}(h:rowRd M (some ⟨b,0,none⟩) cs):M.reads b 0 cs:=by
 rcases h with h|⟨b',o',ha,h⟩
 ·subst h;exact λj v hj=>by simp at hj
 ·cases ha;exact h
theorem ZxS{M:Mem}{g:Nat}(h:rowRd M (some ⟨g,0,none⟩) aeX.cs):Rep M (aeG (some ⟨g,0,none⟩)):=by
 refine ZkC (by show(1:Nat)<=1000000000000000;decide) (.inr ⟨g,0,rfl,?_⟩) (show OkN 6 0 0 0 0 0 0 by constructor <;> decide)
 show RepAt M g 0 [aeX]
 simp only[RepAt]
 exact⟨ZlL h,ZxQ M,trivial⟩
theorem ZxT{M:Mem}{g:Option Addr}{r:Nat}(hg:Rep M (aeG g))(h:rowRd M (some ⟨r,0,none⟩) (aeG g).cs):Rep M (aeR g (some ⟨r,0,none⟩)):=by
 refine ZkC (by show(1:Nat)<=1000000000000000;decide) (.inr ⟨r,0,rfl,?_⟩) (show OkN 5 0 0 0 0 1 (-1) by constructor <;> decide)
 show RepAt M r 0 [aeG g]
 simp only[RepAt]
 exact⟨ZlL h,hg,trivial⟩
theorem ZxU{M:Mem}{g r:Option Addr}{c:Nat}(hr:Rep M (aeR g r))(h:rowRd M (some ⟨c,0,none⟩) ((aeR g r).cs++aeY.cs)):Rep M (aeT g r (some ⟨c,0,none⟩)):=by
 have h:=ZlL h
 refine ZkC (by show(2:Nat)<=1000000000000000;decide) (.inr ⟨c,0,rfl,?_⟩) (show OkN 3 0 0 0 0 0 0 by constructor <;> decide)
 show RepAt M c 0 [aeR g r,aeY]
 simp only[RepAt]
 refine⟨λj v hj=>h j v ?_,hr,λj v hj=>?_,ZxR M,trivial⟩
 ·rw[zA5 (zA0 hj).1];exact hj
 ·rw[Nat.zero_add,Nat.add_comm,<-Nat.zero_add (j+8)]
  exact h (j+8) v (by rw[zA4 (by show 8<=j+8;omega)];exact hj)
theorem Zwq:I64 5/\I64 1/\I64 0:=by unfold I64;omega
theorem Zo2(m:Mem):CX Tryz.prog 41 #[] m [] ExR:=by
 apply ZfN
 intro b b'
 refine⟨_,trivial,ZrX m,Zqm,?_⟩
 rintro n n1 n2 n3 n4 n5 n6 a n7 c m1 aG hv
 have hv:Value.agg _=Value.agg _:=hv
 simp only[aeX,T.k,T.s0,T.s1,T.s2,T.s3,T.mn,T.mx,T.a,T.subs,T.c,List.length_nil,Value.agg.injEq,Array.mk.injEq,List.cons.injEq,Value.int.injEq,Value.slice.injEq,true_and,and_true]at hv
 obtain⟨rfl,rfl,rfl,rfl,rfl,rfl,rfl,rfl,rfl,rfl⟩:=hv
 refine ZxP λbg M1 l1 r1=>?_
 intro f1
 have l1:=l1 f1
 intro br f2
 have r2:=ZaU (m:=M1) (b:=br) (cs:=(aeG (some ⟨bg,0,none⟩)).cs)
 have l2:=Mem.le_add f2 (aeG (some ⟨bg,0,none⟩)).cs
 obtain⟨M2,fe⟩:∃M,M=M1.add br (aeG (some ⟨bg,0,none⟩)).cs:=⟨_,rfl⟩
 rw[<-fe]at r2 l2
 refine⟨_,trivial,ZrY _,Zqm,?_⟩
 rintro n n1 n2 n3 n4 n5 n6 a n7 c m3 aQ hv
 have hv:Value.agg _=Value.agg _:=hv
 simp only[aeY,T.k,T.s0,T.s1,T.s2,T.s3,T.mn,T.mx,T.a,T.subs,T.c,List.length_nil,Value.agg.injEq,Array.mk.injEq,List.cons.injEq,Value.int.injEq,Value.slice.injEq,true_and,and_true]at hv
 obtain⟨rfl,rfl,rfl,rfl,rfl,rfl,rfl,rfl,rfl,rfl⟩:=hv
 have aQ:M2.le m3:=by rw[fe];exact aQ
 refine ZzA λbc M4 l4 r4=>?_
 intro f4 b2
 have l4:=l4 f4
 refine ZxP λbv M5 l5 r5=>?_
 intro f5
 have l5:=l5 f5
 refine ZzA λbl M6 l6 r6=>?_
 intro f6
 have l6:=l6 f6
 refine ZxP λbs M7 l7 r7=>?_
 intro f7
 have l7:=l7 f7
 refine ZxP λbp M8 l8 r8=>?_
 intro f8
 have l8:=l8 f8
 refine ZxP λba M9 l9 r9=>?_
 intro f9
 have l9:=l9 f9
 refine ZxP λbx M10 l10 r10=>?_
 intro f10
 have l10:=l10 f10
 refine ZxP λby' M11 l11 r11=>?_
 intro f11 bS f12
 have l11:=l11 f11
 have r12:=ZaU (m:=M11) (b:=bS) (cs:=([(⟨⟨#[97]⟩,some ⟨bx,0,none⟩,2,[ZpU (some ⟨bg,0,none⟩) (some ⟨br,0,none⟩) (some ⟨bc,0,none⟩) (some ⟨bl,0,none⟩) (some ⟨bs,0,none⟩) (some ⟨bp,0,none⟩) (some ⟨ba,0,none⟩),ZuV]⟩:Sta),⟨⟨#[98]⟩,some ⟨by',0,none⟩,1,[ZvO]⟩].map Sta.cs).flatten)
 have l12:=Mem.le_add f12 ([(⟨⟨#[97]⟩,some ⟨bx,0,none⟩,2,[ZpU (some ⟨bg,0,none⟩) (some ⟨br,0,none⟩) (some ⟨bc,0,none⟩) (some ⟨bl,0,none⟩) (some ⟨bs,0,none⟩) (some ⟨bp,0,none⟩) (some ⟨ba,0,none⟩),ZuV]⟩:Sta),⟨⟨#[98]⟩,some ⟨by',0,none⟩,1,[ZvO]⟩].map Sta.cs).flatten
 obtain⟨M12,pk⟩:∃M,M=M11.add bS ([(⟨⟨#[97]⟩,some ⟨bx,0,none⟩,2,[ZpU (some ⟨bg,0,none⟩) (some ⟨br,0,none⟩) (some ⟨bc,0,none⟩) (some ⟨bl,0,none⟩) (some ⟨bs,0,none⟩) (some ⟨bp,0,none⟩) (some ⟨ba,0,none⟩),ZuV]⟩:Sta),⟨⟨#[98]⟩,some ⟨by',0,none⟩,1,[ZvO]⟩].map Sta.cs).flatten:=⟨_,rfl⟩
 rw[<-pk]at r12 l12
 suffices hS:rtM m M12 ExR (aeS (some ⟨bg,0,none⟩) (some ⟨br,0,none⟩) (some ⟨bc,0,none⟩) (some ⟨bv,0,none⟩) (some ⟨bl,0,none⟩) (some ⟨bs,0,none⟩) (some ⟨bp,0,none⟩) (some ⟨ba,0,none⟩) (some ⟨bx,0,none⟩) (some ⟨by',0,none⟩) (some ⟨bS,0,none⟩)).v by
  rw[pk]at hS;exact hS
 have k11:=l12
 have k10:=mLt l11 k11
 have k9:=mLt l10 k10
 have k8:=mLt l9 k9
 have k7:=mLt l8 k8
 have k6:=mLt l7 k7
 have k5:=mLt l6 k6
 have k4:=mLt l5 k5
 have k3:=mLt l4 k4
 have k2:=mLt aQ k3
 have k1:=mLt l2 k2
 have k0:=mLt aG (mLt l1 k1)
 have hG:=ZxS (r1.mono k1)
 have hR:=ZxT hG (r2.mono k2)
 have hT:=ZxU hR (r4.mono k4)
 refine ZaH k0 ⟨some ⟨bg,0,none⟩,some ⟨br,0,none⟩,some ⟨bc,0,none⟩,some ⟨bv,0,none⟩,some ⟨bl,0,none⟩,some ⟨bs,0,none⟩,some ⟨bp,0,none⟩,some ⟨ba,0,none⟩,some ⟨bx,0,none⟩,some ⟨by',0,none⟩,some ⟨bS,0,none⟩,rfl,?_⟩
 have wQ:RepA M12 (Zzc (some ⟨bl,0,none⟩)):=⟨by show(0:Int)<=3/\(3:Int) < 256;decide,by show(ByteArray.mk #[110]).size<=_;decide,by show 0<=few;decide,.inl rfl,(λp hp=>by cases hp),Zwn (by decide) (r6.mono k6)⟩
 have wT:RepA M12 (Zzd (some ⟨bs,0,none⟩) (some ⟨bp,0,none⟩)):=by
  refine⟨by show(0:Int)<=1/\(1:Int) < 256;decide,by show(ByteArray.mk #[]).size<=_;decide,by show 2<=few;decide,r8.mono k8,λp hp=>?_,Zwo _⟩
  have hp:p∈[Zzy,Zzz (some ⟨bs,0,none⟩)]:=hp
  simp only[List.mem_cons,List.not_mem_nil,or_false]at hp
  rcases hp with rfl|rfl
  ·exact⟨by decide,by decide,by show I64 1;unfold I64;omega,Zwo _⟩
  ·exact⟨by show(0:Int)<=4/\(4:Int) < 256;decide,by show(ByteArray.mk #[]).size<=_;decide,by show I64 0;unfold I64;omega,Zwn (by decide) (r7.mono k7)⟩
 refine⟨by show I64 9;unfold I64;omega,by show 1<=few;decide,r5.mono k5,?_,by show 2<=few;decide,r12,?_,Nat.le_refl _,Nat.le_refl _⟩
 ·intro v hv
  have hv:v∈[(⟨⟨#[110]⟩,true,⟨#[]⟩,0⟩:Va)]:=hv
  rw[List.mem_singleton]at hv;subst hv
  exact⟨by decide,by decide⟩
 ·intro x hx
  have hx:x∈[(⟨⟨#[97]⟩,some ⟨bx,0,none⟩,2,[ZpU _ _ _ _ _ _ _,ZuV]⟩:Sta),⟨⟨#[98]⟩,some ⟨by',0,none⟩,1,[ZvO]⟩]:=hx
  simp only[List.mem_cons,List.not_mem_nil,or_false]at hx
  rcases hx with rfl|rfl
  ·refine⟨by show(ByteArray.mk #[97]).size<=_;decide,by show 2<=few;decide,r10.mono k10,λr hr=>?_⟩
   simp only[List.mem_cons,List.not_mem_nil,or_false]at hr
   rcases hr with rfl|rfl
   ·refine⟨by show(0:Int)<=1/\(1:Int) < 256;decide,hT,by show(ByteArray.mk #[]).size<=_;decide,by show I64 0;unfold I64;omega,by show 2<=few;decide,r9.mono k9,λp hp=>?_,by show(ByteArray.mk #[98]).size<=_;decide,by show I64 0;unfold I64;omega⟩
    have hp:p∈[Zzc (some ⟨bl,0,none⟩),Zzd (some ⟨bs,0,none⟩) (some ⟨bp,0,none⟩)]:=hp
    simp only[List.mem_cons,List.not_mem_nil,or_false]at hp
    rcases hp with rfl|rfl
    ·exact wQ
    ·exact wT
   ·exact⟨by decide,Zwp _,by decide,Zwq.1,by decide,.inl rfl,(λp hp=>by cases hp),by decide,Zwq.2.1⟩
  ·refine⟨by show(ByteArray.mk #[98]).size<=_;decide,by show 1<=few;decide,r11.mono k11,λr hr=>?_⟩
   simp only[List.mem_cons,List.not_mem_nil,or_false]at hr
   subst hr
   exact⟨by decide,Zwp _,by decide,Zwq.2.2,by decide,.inl rfl,(λp hp=>by cases hp),by decide,Zwq.2.2⟩
theorem Zkc{a b c d e f:Int}:∀(v:Value)(m':Mem) (css:List (List Value)),Ret (.agg (msV a b c d e f).toArray) v m' css->Shape.fits (.agg [.int .i64,.int .i64,.int .i64,.int .i64,.int .i64,.int .i64]) v=true:=λv _ _ h=>by rw[show v=_ from h];rfl
set_option maxHeartbeats 1000000 in
theorem Zo3(m:Mem):CX Tryz.prog 9 #[] m [] (Ret (.bool true)):=by
 apply Zhz
 refine⟨_,trivial,Zo2 m,Zwm,?_⟩
 rintro n a n1 c a1 n2 c1 m1 aG ⟨g,r,cc,w,l,s,p,a0,r1,r2,S,hv,hr⟩ b1
 obtain⟨sc,jK⟩:∃sc,sc=aeS g r cc w l s p a0 r1 r2 S:=⟨_,rfl⟩
 rw[<-jK]at hv hr
 have hl:sc.light=true:=by rw[jK];exact ZtR g r cc w l s p a0 r1 r2 S
 have iB:sc.places.length=11:=by rw[jK];exact Zrv g r cc w l s p a0 r1 r2 S
 have wU:sc.places[5]?=some ⟨-1,0,0,1,-1⟩:=by rw[jK];exact Zrw g r cc w l s p a0 r1 r2 S
 have bE:Zj0 sc=msV 2 3 5 2 2 2:=by rw[jK];exact ZvP g r cc w l s p a0 r1 r2 S
 have tY:Zj0 (ZuQ sc 0 0)=msV 2 2 0 0 0 0:=by rw[jK];exact ZtS g r cc w l s p a0 r1 r2 S
 have jS:sc.states[0]?=some ⟨⟨#[97]⟩,r1,2,[ZpU g r cc l s p a0,ZuV]⟩:=by rw[jK];rfl
 have eh:sc.states[1]?=some ⟨⟨#[98]⟩,r2,1,[ZvO]⟩:=by rw[jK];rfl
 have iS:sc.states.length=2:=by rw[jK];rfl
 have wV:ZwE sc.states ⟨⟨#[97]⟩,r1,2,[ZpU g r cc l s p a0,ZuV]⟩=[1]:=by rw[jK];exact ZvR g r cc w l s p a0 r1 r2 S
 have wW:ZwE sc.states ⟨⟨#[98]⟩,r2,1,[ZvO]⟩=[]:=by rw[jK];exact ZvS g r cc w l s p a0 r1 r2 S
 obtain⟨rfl,rfl,rfl,rfl,rfl,rfl,rfl⟩:=Zuw hv
 obtain⟨b2,o2,fX,io⟩:=Zam Sta.len hr.row jS (by decide)
 have cI:=hr.all _ (zA2 jS)
 have fZ:(⟨⟨#[97]⟩,r1,2,[ZpU g r cc l s p a0,ZuV]⟩:Sta).rules[0]?=some (ZpU g r cc l s p a0):=rfl
 obtain⟨b3,o3,eX,jB⟩:=Zam Ru.len cI.row fZ (by decide)
 have mC:=cI.all _ (zA2 fZ)
 refine⟨b2,o2,fX,⟨by omega,by omega⟩,_,io 1 _ rfl,Zaa rfl ⟨b3,o3,eX,⟨by show(0:Int)<=0;omega,by show(0:Int) < ((2:Nat):Int);omega⟩,_,_,_,_,_,_,_,_,_,_,_,_,_,_,_,_,jB,λb4=>Zaa rfl ?_⟩⟩
 refine Zan (ZrU sc m1 hr) ZnO ?_
 rintro pa pn pc m2 aJ ⟨pa',pc',sH,pm⟩
 simp only[Value.slice.injEq]at sH
 obtain⟨rfl,rfl,rfl⟩:=sH
 rw[iB]
 refine⟨_,trivial,Zwl sc 0 0 m2 (hr.mono aJ) hl jS (Nat.zero_lt_two),ZrV,?_⟩
 rintro n3 a3 n4 c3 a4 n5 c4 n6 m3 aQ ⟨sd,ul,wX,rv⟩ b5
 have sO:(Value.agg #[.int .i64 n3,.slice a3 n4 c3,.slice a4 n5 c4]=sd.v)/\n6=0:=by
  simp only[Value.tuple.injEq,Array.mk.injEq,List.cons.injEq,Value.int.injEq,true_and,and_true]at ul
  exact ul
 obtain⟨wY,rfl⟩:=sO
 have nv:=mLt aJ aQ
 refine Zan (ZoX sc m3 (hr.mono nv)) Zur ?_
 rintro ta tn tc m4 bZ ⟨ta',tc',L',cG,gv,lO,po⟩
 simp only[Value.slice.injEq]at cG
 obtain⟨rfl,rfl,rfl⟩:=cG
 rw[hl,if_pos rfl]at gv
 have wZ:L'.length=2:=by
  have:=congrArg List.length gv
  rw[List.length_map,List.length_map,iS]at this;exact this
 obtain⟨y0,nJ⟩:=Zdh (show 0 < L'.length by omega)
 obtain⟨y1,um⟩:=Zdh (show 1 < L'.length by omega)
 have e0:y0.l=[1]:=by
  have:=congrArg (λl=>l[0]?) gv
  simp only[List.getElem?_map,nJ,jS,Option.map_some,Option.some.injEq]at this
  rw[this,wV]
 have e1:y1.l=[]:=by
  have:=congrArg (λl=>l[1]?) gv
  simp only[List.getElem?_map,um,eh,Option.map_some,Option.some.injEq]at this
  rw[this,wW]
 have ic:=mLt nv bZ
 have hz:=Zqk sc m4 (hr.mono ic)
 rw[bE]at hz
 refine⟨false,Zp3 rfl (Zp3 rfl ⟨rfl,by rw[wZ];rfl⟩),Zp3 rfl ⟨_,trivial,hz,Zkc,?_⟩⟩
 rintro z1 z2 z3 z4 z5 z6 m5 cF gH
 have gH:Value.agg _=Value.agg _:=gH
 simp only[msV,Value.agg.injEq,Array.mk.injEq,List.cons.injEq,Value.int.injEq,true_and,and_true]at gH
 obtain⟨rfl,rfl,rfl,rfl,rfl,rfl⟩:=gH
 have oQ:=mLt ic cF
 obtain⟨b6,o6,ij,sP⟩:=Zam Il.len lO nJ (by omega)
 obtain⟨b7,o7,ss,sQ⟩:=Zam Il.len lO um (by omega)
 refine⟨_,Zyp 2 3 5 2 2 2 2 3 5 2 2 2,ZrF rfl ⟨b6,o6,ij,⟨by omega,by omega⟩,_,(sP.mono cF) 0 _ rfl,λb8 jZ=>?_⟩⟩
 have hE:=ZrW y0.l [1] y0.a (some ⟨b8,0,none⟩) y0.c 1 (m5.add b8 [.int .i64 1]) (by rw[e0];decide) ((po y0 (zA2 nJ)).mono (mLt cF (Mem.le_add jZ _))) ZaU
 rw[decide_eq_true e0]at hE
 refine Zai hE λm6 eo=>ZrF rfl ⟨b7,o7,ss,⟨by omega,by omega⟩,_,(sQ.mono (mLt cF (mLt (Mem.le_add jZ _) eo))) 0 _ rfl,Zaa rfl (ZrF (by show(((y1.l.length:Nat):Int) == 0)=true;rw[e1];rfl) ?_)⟩
 have kG:=mLt oQ (mLt (Mem.le_add jZ _) eo)
 have un:=Zuu (ZpU g r cc l s p a0) m6 (mC.mono kG)
 rw[ZtT]at un
 refine Zan un ZnA ?_
 rintro ra rn rc m7 eT ⟨ra',rc',uo,pp⟩
 simp only[Value.slice.injEq]at uo
 obtain⟨rfl,rfl,rfl⟩:=uo
 intro b9 nC
 have uq:=Zkb [⟨#[110]⟩] [⟨#[110]⟩] ra (some ⟨b9,0,none⟩) rc 1 (m7.add b9 [.string ⟨#[110]⟩]) (by decide) (pp.mono (Mem.le_add nC _)) ZaU
 rw[decide_eq_true rfl]at uq
 refine Zai uq λm8 eS=>ZrF rfl ?_
 have qc:=mLt kG (mLt eT (mLt (Mem.le_add nC _) eS))
 have ur:=ZrT (ZpU g r cc l s p a0) m8 (mC.mono qc)
 rw[Zrx]at ur
 refine Zan ur ZnA ?_
 rintro wa wn wc m9 fW ⟨wa',wc',qh,pq⟩
 simp only[Value.slice.injEq]at qh
 obtain⟨rfl,rfl,rfl⟩:=qh
 intro b10 gA
 have ut:=Zkb [⟨#[110]⟩] [⟨#[110]⟩] wa (some ⟨b10,0,none⟩) wc 1 (m9.add b10 [.string ⟨#[110]⟩]) (by decide) (pq.mono (Mem.le_add gA _)) ZaU
 rw[decide_eq_true rfl]at ut
 refine Zai ut λm10 fY=>ZrF rfl ?_
 have pr:=mLt qc (mLt fW (mLt (Mem.le_add gA _) fY))
 have uu:=Zka (ZpU g r cc l s p a0) m10 (mC.mono pr)
 rw[ZvQ]at uu
 refine ZcD uu λm11 gS=>ZrF rfl ?_
 have sR:=mLt pr gS
 have w4:m2.le m11:=mLt aQ (mLt bZ (mLt cF (mLt (Mem.le_add jZ _) (mLt eo (mLt eT (mLt (Mem.le_add nC _) (mLt eS (mLt fW (mLt (Mem.le_add gA _) (mLt fY gS))))))))))
 obtain⟨b12,o12,sS,pt⟩:=Zam (λp:Pl=>(rfl:p.cs.length=5)) (pm.mono w4) wU (Nat.zero_lt_succ 4)
 refine⟨b12,o12,sS,⟨by omega,by omega⟩,_,_,_,_,_,pt,_,ZxO ⟨-1,0,0,1,-1⟩ ⟨-1,0,0,1,-1⟩,ZrF rfl ?_⟩
 have w5:m3.le m11:=mLt bZ (mLt cF (mLt (Mem.le_add jZ _) (mLt eo (mLt eT (mLt (Mem.le_add nC _) (mLt eS (mLt fW (mLt (Mem.le_add gA _) (mLt fY gS)))))))))
 have uv:=Zqk sd m11 (rv.mono w5)
 rw[ZtV wX,tY,<-wY]at uv
 refine⟨_,trivial,uv,Zkc,?_⟩
 rintro y1 y2 y3 y4 y5 y6 m12 mT qi
 have qi:Value.agg _=Value.agg _:=qi
 simp only[msV,Value.agg.injEq,Array.mk.injEq,List.cons.injEq,Value.int.injEq,true_and,and_true]at qi
 obtain⟨rfl,rfl,rfl,rfl,rfl,rfl⟩:=qi
 exact⟨_,Zyp 2 2 0 0 0 0 2 2 0 0 0 0,Zaf (mLt aG (mLt sR mT)) rfl⟩
end Go.Proofs.YtpjepnkiiojgfaaGreat
namespace Go.Proofs.YtpjepnkiiojgfaaGreat
open Go Go.Eng Go.Proofs Go.RowKit
open Go.Value (int slice agg bool string tuple func)
open Go.IntKind (u8 u64 i64)
set_option maxRecDepth 100000
noncomputable def Za4:Env:={ EB with
 loops:=(λi=>bif Nat.beq i 3 then⟨[(3,.int .i64),(11,.int .i64)],[],[],false⟩ else bif Nat.beq i 11 then⟨[(6,.slice),(27,.int .i64)],[],[(33,8)],false⟩ else⟨[],[],[],false⟩)
 tokOf:=(λi=>bif Nat.beq i 33 then 33 else 0)
 tokC:=(λi=>bif Nat.beq i 24 then some (33,8)else none) }
theorem Za0(p0a:Option Addr)(p0n p0c:Nat)(m:Mem)(R:RT)(h:
 ∃(I:IT),inI I [int i64 0,int i64 0] [] [] m/\∀(n n_1:Int)(m':Mem)(n_2:Nat),m.le m'->I [int i64 n,int i64 n_1] [] [] m' n_2->br (decide (n_1 < (↑p0n:Int))) (atA p0a λb o=>Zae n_1 p0n/\∃
 (v:Value),lE (i64.wrap (n+(↑(slN v):Int))) λyL=>m' b (o+Int.toNat n_1*1)=some v/\chk (ZbT v) (br (decide (yL < (0:Int))) False (nxI n_2 I [int i64 yL,int i64 (i64.wrap (n_1+(1:
 Int)))] [] [] m'))) (∃(R_1:RT),CXT Tryz.prog 73 (Array.mk [slice none 0 0,int i64 n]) m' 8 R_1/\Zbq Shape.slice R_1/\∀(a:Option Addr)(n c:Nat)(m'_1:Mem),lX (slice a n c) λyL=>m'.le m'_1->R_1
 yL m'_1 []->∃(I:IT),inI I [yL,int i64 0] [] [yL] m'_1/\∀(a:Option Addr)(n c:Nat)(n_3:Int)(a_1:Option Addr)(n_4 c_1:Nat)(m':Mem)(n_5:Nat),lX (slice a n c) λyL=>m'_1.le m'->I [yL,
 int i64 n_3] [] [slice a_1 n_4 c_1] m' n_5->br (decide (n_3 < (↑p0n:Int))) (atA p0a λb o=>Zae n_3 p0n/\∃(v:Value),lE (n+slN v) λyL_1=>m' b (o+Int.toNat n_3*1)=some v/\chk (ZbT v&&true)
 ((Tok.mk (slice a_1 n_4 c_1) 8=Tok.mk yL 8\/yL=slice none 0 0\/c < yL_1)/\∃(xs:List Value),∃(ys:List Value),xs.length=n*8/\ys.length=slN v*8/\rowRd m' a xs/\rowRd m' (slA v) ys/\(∀
 (u:Value),u∈ys->u.oneCell'=true)/\yL_1*112<=140737488355328/\yL_1<=9223372036854775807/\∀(a':Option Addr)(c':Nat)(m'_2:Mem),m'.le m'_2->rowRd m'_2 a' (List.append xs ys)->([none]:
 List (Option Tok))=[none]/\nxI n_5 I [slice a' yL_1 c',int i64 (i64.wrap (n_3+(1:Int)))] [] [slice a' yL_1 c'] m'_2)) (rtM m m' R yL))):CX Tryz.prog 26 #[.slice p0a p0n p0c] m [] R:=
 Zad (E:=Za4) Zap mix Tryz.func26 (by kernel_rfl) (Eq.mp (by kernel_rfl) h)
end Go.Proofs.YtpjepnkiiojgfaaGreat
namespace Go.Proofs.YtpjepnkiiojgfaaGreat
open Go Go.Eng Go.Rx Go.Proofs Go.RowKit Go.Shelf
set_option maxRecDepth 100000
def Zfw(g s e:Nat):Ren:=⟨fun|4=>g|n=>n,fun|0=>0|3=>3|4=>4|9=>9|20=>20|22=>s|25=>e|n=>n,λn=>n⟩
theorem ZxV:Lays8.n4 Tryz.prog (Zfw 73 45 54):=
 {mixed:=mix,f4:=⟨Tryz.f73.name,by kernel_rfl,by kernel_rfl⟩
  t0:=by kernel_rfl,a0:=Tryz.isAgg0,z0:=Tryz.sizeOf0,v0:=Tryz.zeroValue0
  t3:=Tryz.underlying3,a3:=Tryz.isAgg3,z3:=Tryz.sizeOf3,v3:=Tryz.zeroValue3
  t4:=Tryz.underlying4,a4:=Tryz.isAgg4,z4:=Tryz.sizeOf4,v4:=Tryz.zeroValue4
  t9:=Tryz.underlying9,a9:=Tryz.isAgg9,z9:=Tryz.sizeOf9,v9:=Tryz.zeroValue9
  t20:=Tryz.underlying20,a20:=Tryz.isAgg20,z20:=Tryz.sizeOf20,v20:=Tryz.zeroValue20
  t22:=Tryz.underlying45,a22:=Tryz.isAgg45,z22:=Tryz.sizeOf45,v22:=Tryz.zeroValue45 }
theorem Zlg{P:Program}{g s e esz by':Nat}{fn:Func}(L:Lays8.n4 P (Zfw g s e))(gZ:ZdC P g)(hi:(P.info? e).map (λi=>(i.size,i.bytes))=some (esz,by'))(hz:((P.info? e).bind (·.zero)).map (·.cells.size)=some esz)(j6:0 < esz)(n:Nat)(m:Mem)(hn:n*by'<=140737488355328)(kR:n<=4611686018427387904):
  CXT P g #[.slice none 0 0,.int .i64 n] m esz (λv _ _=>∃a c,v=.slice a 0 c):=by
 refine⟨gZ,λw hs=>?_⟩
 obtain⟨i0,h0,mD⟩:=Option.map_eq_some_iff.1 hi
 obtain⟨z,mE,w6⟩:=Option.map_eq_some_iff.1 hz
 rw[h0]at mE
 simp only[Option.bind_some]at mE
 have e1:i0.size=esz:=congrArg Prod.fst mD
 have e2:i0.bytes=by':=congrArg Prod.snd mD
 by_cases uw:n=0
 ·subst uw
  refine(Any8.slices_Grow_room L none 0 0 0 w (by omega) (by omega) (by omega) (by omega)).mono ?_
  rintro e w' ⟨rfl,rfl⟩
  exact⟨_,m,rfl,Mem.le_refl _,hs,NewM.refl _ _,Keep.refl _ _ _,.inl rfl,λb hb=>by simp[Tok.blk]at hb,none,0,rfl⟩
 ·refine(Any8.slices_Grow_grow L i0 z h0 mE (by omega) none 0 0 n [] w (by omega) (by omega) (by rw[e2,Nat.zero_add];exact hn) (by omega) (by simp) (λ_=>rfl) (λa h=>by cases h)).mono ?_
  rintro e w' ⟨rfl,hw'⟩
  have bY:w'.heap=w.heap.push (.cells (#[]++Builtin.zeroCells z.cells (0+n - 0)++Builtin.zeroCells z.cells (grownCap w (0+n) 0 ((Zfw g s e).t 25) - (0+n))) ((Zfw g s e).t 25) (0,0)):=by rw[hw'];rfl
  have hb:w'.heap[w.heap.size]?=some (.cells (#[]++Builtin.zeroCells z.cells (0+n - 0)++Builtin.zeroCells z.cells (grownCap w (0+n) 0 ((Zfw g s e).t 25) - (0+n))) ((Zfw g s e).t 25) (0,0)):=by
   rw[bY,Array.getElem?_push_size]
  have hk:Keep w.heap.size [] w w':=by
   rw[hw']
   exact(Keep.drew w).trans (Keep.alloc (B:=w.heap.size) (w:=w.drew) (show w.heap.size<=w.drew.heap.size from Nat.le_refl _) (Zey _ _))
  have bG:=grownCap_ge w (0+n) 0 ((Zfw g s e).t 25)
  refine⟨_,m,rfl,Mem.le_refl _,hs.below λk hk'=>hk.block k hk' (by simp),NewM.refl _ _,hk,.inr ⟨w.heap.size,0,_,_,_,_,(0,0),rfl,by omega,hb,?_,?_,?_⟩,?_,_,_,rfl⟩
  ·generalize grownCap w (0+n) 0 ((Zfw g s e).t 25)=G at *
   simp only[Array.size_append,size_zeroCells,w6]
   have:G*esz=(0+n - 0)*esz+(G - (0+n))*esz:=by rw[<-Nat.add_mul];congr 1;omega
   simp only[List.size_toArray,List.length_nil]
   omega
  ·intro o _
   simp
  ·intro o _
   cases hm:m w.heap.size o with
   | none=>exact λ_=>rfl
   | some v=>have:=hs.lt hm;omega
  ·intro b hb'
   simp[Tok.blk]at hb'
   omega
theorem ZnR(n:Nat)(m:Mem)(hn:n<=1000000):CXT Tryz.prog 73 #[.slice none 0 0,.int .i64 n] m 8 (λv _ _=>∃a c,v=.slice a 0 c):=
 Zlg (by':=112) (fn:=Tryz.f73) ZxV (Go.Eng.ZfU Tryz.func73 (by kernel_rfl) (by kernel_rfl)) (by kernel_rfl) (by kernel_rfl) (by decide) n m (by omega) (by omega)
structure Part where
 a:Option Addr
 n:Nat
 c:Nat
 xs:List Value
def Zlp(L:List Part):Nat:=(L.map Part.n).sum
def ZuW(L:List Part):List Value:=(L.map Part.xs).flatten
theorem Ze0(L:List Part)(q:Part):Zlp (L++[q])=Zlp L+q.n:=by simp[Zlp]
theorem ZrZ(L:List Part)(q:Part):ZuW (L++[q])=ZuW L++q.xs:=by simp[ZuW]
theorem Zjj(L:List Part)(k:Nat):Zlp (L.take k)<=Zlp L:=by
 have e:L=L.take k++L.drop k:=(List.take_append_drop k L).symm
 have:Zlp L=Zlp (L.take k)+Zlp (L.drop k):=by
  have e2:=congrArg Zlp e
  simp only[Zlp,List.map_append,List.sum_append]at e2 ⊢
  exact e2
 omega
structure Lies (m:Mem)(pa:Option Addr)(esz:Nat)(L:List Part):Prop where
 at':∀i q,L[i]?=some q->∃b o,pa=some ⟨b,o,none⟩/\m b (o+i)=some (.slice q.a q.n q.c)
 row:∀q∈L,rowRd m q.a q.xs/\q.xs.length=q.n*esz/\∀u∈q.xs,u.oneCell'=true
theorem Lies.len{m:Mem}{pa:Option Addr}{esz:Nat}:∀{L:List Part},(∀q∈L,q.xs.length=q.n*esz)->(ZuW L).length=Zlp L*esz
 | [],_=>by simp[ZuW,Zlp]
 | q::L,h=>by
  have:=Lies.len (m:=m) (pa:=pa) (L:=L) λx hx=>h x (by simp[hx])
  simp only[ZuW,Zlp,List.map_cons,List.flatten_cons,zA1,List.sum_cons,h q (by simp),Nat.add_mul]at *
  omega
theorem Zlh(L:List Part)(pa:Option Addr)(pc:Nat)(m:Mem)(h:Lies m pa 8 L)(w7:Zlp L<=100000)(hL:L.length<=1000):CX Tryz.prog 26 #[.slice pa L.length pc] m [] (λv m' _=>∃a c,v=.slice a (Zlp L) c/\rowRd m' a (ZuW L)):=by
 apply Za0
 refine⟨λxs css tvs m' q=>∃k:Nat,k<=L.length/\xs=[.int .i64 (Zlp (L.take k):Nat),.int .i64 k]/\q=L.length - k,⟨L.length,0,by omega,rfl,rfl⟩,?_⟩
 rintro z1 z2 m1 q aG ⟨k,hk,cI,hq⟩
 obtain⟨rfl,rfl⟩:z1=(Zlp (L.take k):Nat)/\z2=k:=by simpa using cI
 have eK:=Zjj L k
 refine Zab (λaC=>?_) (λbG=>?_)
 ·have aI:k < L.length:=by have:=zA6 aC;omega
  obtain⟨p,hp⟩:=Zat aI
  obtain⟨b,o,ha,hv⟩:=h.at' k p hp
  have mU:=Zjj L (k+1)
  rw[Zeu hp,Ze0]at mU
  have hw:IntKind.i64.wrap ((k:Int)+1)=((k+1:Nat):Int):=by rw[Zak (by omega) (by omega)];rfl
  have fl:IntKind.i64.wrap (((Zlp (L.take k):Nat):Int)+((slN (.slice p.a p.n p.c):Nat):Int))=((Zlp (L.take (k+1)):Nat):Int):=by
   rw[Zeu hp,Ze0]
   simp only[slN]
   rw[Zak (by omega) (by omega)];push_cast;rfl
  simp only[zA8,Nat.mul_one]
  refine⟨b,o,ha,⟨by omega,by omega⟩,.slice p.a p.n p.c,aG _ _ _ hv,Zaa rfl ?_⟩
  simp only[fl,hw]
  exact Zab (λsT=>absurd (zA6 sT) (by omega)) (λ_=>⟨L.length - (k+1),by omega,k+1,by omega,rfl,rfl⟩)
 ·have w8:k=L.length:=by have:=of_decide_eq_false bG;omega
  subst w8
  rw[List.take_length]
  refine⟨_,ZnR (Zlp L) m1 (by omega),(λv _ _ ⟨a,c,e⟩=>by rw[e];rfl),?_⟩
  rintro a n c m2 aJ ⟨a0,c0,lh⟩
  simp only[Value.slice.injEq]at lh
  obtain⟨rfl,rfl,rfl⟩:=lh
  refine⟨λxs css tvs m' q=>∃(k:Nat)(a:Option Addr)(c:Nat),k<=L.length/\xs=[.slice a (Zlp (L.take k)) c,.int .i64 k]/\tvs=[.slice a (Zlp (L.take k)) c]/\rowRd m' a (ZuW (L.take k))/\q=L.length - k,⟨L.length,0,_,_,by omega,rfl,rfl,.inl rfl,rfl⟩,?_⟩
  rintro a4 n4 c4 z5 a5 n5 c5 m3 q3 aQ ⟨j,a',c',hj,pu,pv,fI,pN⟩
  simp only[List.cons.injEq,Value.slice.injEq,Value.int.injEq,true_and,and_true]at pu pv
  obtain⟨⟨rfl,rfl,rfl⟩,rfl⟩:=pu
  obtain⟨rfl,rfl,rfl⟩:=pv
  have fx:=mLt aG (mLt aJ aQ)
  refine Zab (λaC=>?_) (λbG=>?_)
  ·have aI:j < L.length:=by have:=zA6 aC;omega
   obtain⟨p,hp⟩:=Zat aI
   obtain⟨b,o,ha,hv⟩:=h.at' j p hp
   obtain⟨gd,iB,w9⟩:=h.row p (zA2 hp)
   have mU:=Zjj L (j+1)
   rw[Zeu hp,Ze0]at mU
   have hw:IntKind.i64.wrap ((j:Int)+1)=((j+1:Nat):Int):=by rw[Zak (by omega) (by omega)];rfl
   simp only[zA8,Nat.mul_one,hw]
   refine⟨b,o,ha,⟨by omega,by omega⟩,.slice p.a p.n p.c,fx _ _ _ hv,Zaa rfl ⟨by first|exact .inl trivial|exact .inl rfl,ZuW (L.take j),p.xs,?_,by simpa[slN]using iB,fI,gd.mono fx,w9,?_,?_,λa6 c6 m6 eo ef=>⟨by trivial,L.length - (j+1),by omega,j+1,a6,c6,by omega,?_,?_,?_,rfl⟩⟩⟩
   ·simpa using Lies.len (m:=m) (pa:=pa) (L:=L.take j) λx hx=>(h.row x (List.mem_of_mem_take hx)).2.1
   ·simp only[slN];omega
   ·simp only[slN];omega
   ·rw[Zeu hp,Ze0];rfl
   ·rw[Zeu hp,Ze0];rfl
   ·rw[Zeu hp,ZrZ];exact ef
  ·have xb:j=L.length:=by have:=of_decide_eq_false bG;omega
   subst xb
   rw[List.take_length]at fI ⊢
   exact⟨m3,fx,Mem.le_refl _,_,_,rfl,fI⟩
end Go.Proofs.YtpjepnkiiojgfaaGreat
namespace Go.Proofs.YtpjepnkiiojgfaaGreat
open Go Go.Eng Go.Rx Go.Proofs Go.RowKit
set_option maxRecDepth 100000
theorem Zwr(r:Ru)(m:Mem)(hr:RepR m r):CX Tryz.prog 75 #[.agg r.cs.toArray] m [] (λv m' _=>∃s:Sc,v=s.v/\RepC m' s/\s.light=ZbU r):=by
 apply ZnI
 intro b m1 aG _ b1 b2 lp b3 fu
 have h2:m1.le (m1.add b2 r.cs):=Mem.le_add lp _
 have h3:(m1.add b2 r.cs).le ((m1.add b2 r.cs).add b3 [.string ⟨#[]⟩,.slice (some ⟨b2,0,none⟩) 1 1]):=Mem.le_add fu _
 have oZ:=mLt aG (mLt h2 h3)
 refine⟨_,oZ,Mem.le_refl _,⟨0,none,0,[],some ⟨b3,0,none⟩,1,[⟨⟨#[]⟩,some ⟨b2,0,none⟩,1,[r]⟩]⟩,rfl,⟨by show I64 0;unfold I64;omega,by show 0<=few;omega,.inl rfl,by simp,by show 1<=few;unfold few;omega,ZaU,λx hx=>?_,Nat.le_refl _,Nat.le_refl _⟩,?_⟩
 ·simp only[List.mem_singleton]at hx
  subst hx
  have aB:rowRd (m1.add b2 r.cs) (some ⟨b2,0,none⟩) ([r].map Ru.cs).flatten:=by simpa using(ZaU (m:=m1) (b:=b2) (cs:=r.cs))
  exact⟨by show(ByteArray.mk #[]).size<=_;decide,by show 1<=few;unfold few;omega,aB.mono h3,λp hp=>by
   simp only[List.mem_singleton]at hp;subst hp;exact hr.mono oZ⟩
 ·unfold Sc.light Sc.weight ZbU
  simp only[List.length_nil,List.length_singleton,List.map_cons,List.map_nil,ZaR,wS]
  congr 1
  refine propext ?_
  constructor <;> intro h <;> simp only[Int.add_zero]at h ⊢ <;> omega
theorem Zqn{r:Ru}:∀(v:Value)(m':Mem) (css:List (List Value)),(∃s:Sc,v=s.v/\RepC m' s/\s.light=ZbU r)->Shape.fits (.agg [.int .i64,.slice,.slice]) v=true:=λv _ _ ⟨t,e,_⟩=>by rw[e];rfl
theorem Zws(cb:Nat)(f:Pt->Pt->Bool)(L R:List Pt)(a b:Option Addr)(c d:Nat)(m:Mem)(h1:rowRd m a (L.map Pt.cs).flatten)(h2:rowRd m b (R.map Pt.cs).flatten)(hl:L.length<=few)(iX:∀x∈L,∀y∈R,∀m2,m.le m2->CX Tryz.prog cb #[.agg x.cs.toArray,.agg y.cs.toArray] m2 [] (Ret (.bool (f x y)))):
  CX Tryz.prog 138 #[.slice a L.length c,.slice b R.length d,.func (.func cb) #[] #[]] m [] (Ret (.bool (eqL f L R))):=by
 have hl:L.length<=100000:=hl
 apply Zc7 (p2fi:=[]) (p2ca:=[])
 refine Zai (x:=eqL f L R) ?_ λm1 aG=>Zaf aG rfl
 apply ZaF (p2fi:=[]) (p2ca:=[])
 refine Zab (λcS=>Zaf (Mem.le_refl m) ?_) (λheq=>?_)
 ·have:¬L.length=R.length:=λe=>by simp[e]at cS
  show Value.bool _=Value.bool _
  rw[ZpL this]
 have heq:L.length=R.length:=by
  have:(L.length:Int)=R.length:=by simpa using heq
  omega
 refine⟨λxs css tvs m' q=>∃k:Nat,k<=L.length/\xs=[.int .i64 k]/\q=L.length - k/\m.le m'/\eqL f (L.take k) (R.take k)=true,⟨_,0,by omega,rfl,rfl,Mem.le_refl m,by simp[eqL]⟩,?_⟩
 rintro z m1 q _ ⟨k,hk,cI,hq,aG,ht⟩
 obtain rfl:z=k:=by simpa using cI
 refine Zab (λaC=>?_) (λbG=>?_)
 ·have aI:k < L.length:=by have:=zA6 aC;omega
  obtain⟨x,hx⟩:=Zat aI
  obtain⟨y,hy⟩:=Zat (l:=R) (k:=k) (by omega)
  obtain⟨b1,o1,gw,eI⟩:=Zam Pt.len h1 hx (by omega)
  obtain⟨b2,o2,fX,eH⟩:=Zam Pt.len h2 hy (by omega)
  have hw:IntKind.i64.wrap ((k:Int)+1)=((k+1:Nat):Int):=by rw[Zak (by omega) (by omega)];rfl
  refine⟨b1,o1,gw,⟨by omega,by omega⟩,_,_,_,_,_,_,_,_,eI.mono aG,λb3=>Zaa rfl ⟨b2,o2,fX,⟨by omega,by omega⟩,_,_,_,_,_,_,_,_,eH.mono aG,λb4=>Zaa rfl (Zai (iX x (zA2 hx) y (zA2 hy) m1 aG) λm2 aJ=>Zab (λhf=>Zaf (mLt aG aJ) ?_) (λhf=>?_))⟩⟩
  ·have:f x y=false:=by simpa using hf
   show Value.bool _=Value.bool _
   rw[ZtE hx hy this]
  ·exact⟨L.length - (k+1),by omega,k+1,by omega,by rw[hw],rfl,mLt aG aJ,ZlC hx hy ht (by simpa using hf)⟩
 ·have dp:k=L.length:=by have:=of_decide_eq_false bG;omega
  refine Zaf aG ?_
  rw[dp,List.take_length,heq,List.take_length]at ht
  show Value.bool _=Value.bool _
  rw[ht]
theorem Zwt(cb:Nat)(f:Ac->Ac->Bool)(L R:List Ac)(a b:Option Addr)(c d:Nat)(m:Mem)(h1:rowRd m a (L.map Ac.cs).flatten)(h2:rowRd m b (R.map Ac.cs).flatten)(hl:L.length<=few)(iX:∀x∈L,∀y∈R,∀m2,m.le m2->CX Tryz.prog cb #[.agg x.cs.toArray,.agg y.cs.toArray] m2 [] (Ret (.bool (f x y)))):
  CX Tryz.prog 101 #[.slice a L.length c,.slice b R.length d,.func (.func cb) #[] #[]] m [] (Ret (.bool (eqL f L R))):=by
 have hl:L.length<=100000:=hl
 apply ZcN (p2fi:=[]) (p2ca:=[])
 refine Zai (x:=eqL f L R) ?_ λm1 aG=>Zaf aG rfl
 apply Zax (p2fi:=[]) (p2ca:=[])
 refine Zab (λcS=>Zaf (Mem.le_refl m) ?_) (λheq=>?_)
 ·have:¬L.length=R.length:=λe=>by simp[e]at cS
  show Value.bool _=Value.bool _
  rw[ZpL this]
 have heq:L.length=R.length:=by
  have:(L.length:Int)=R.length:=by simpa using heq
  omega
 refine⟨λxs css tvs m' q=>∃k:Nat,k<=L.length/\xs=[.int .i64 k]/\q=L.length - k/\m.le m'/\eqL f (L.take k) (R.take k)=true,⟨_,0,by omega,rfl,rfl,Mem.le_refl m,by simp[eqL]⟩,?_⟩
 rintro z m1 q _ ⟨k,hk,cI,hq,aG,ht⟩
 obtain rfl:z=k:=by simpa using cI
 refine Zab (λaC=>?_) (λbG=>?_)
 ·have aI:k < L.length:=by have:=zA6 aC;omega
  obtain⟨x,hx⟩:=Zat aI
  obtain⟨y,hy⟩:=Zat (l:=R) (k:=k) (by omega)
  obtain⟨b1,o1,gw,eI⟩:=Zam Ac.len h1 hx (by omega)
  obtain⟨b2,o2,fX,eH⟩:=Zam Ac.len h2 hy (by omega)
  have hw:IntKind.i64.wrap ((k:Int)+1)=((k+1:Nat):Int):=by rw[Zak (by omega) (by omega)];rfl
  refine⟨b1,o1,gw,⟨by omega,by omega⟩,_,_,_,_,_,_,_,_,eI.mono aG,λb3=>Zaa rfl ⟨b2,o2,fX,⟨by omega,by omega⟩,_,_,_,_,_,_,_,_,eH.mono aG,λb4=>Zaa rfl (Zai (iX x (zA2 hx) y (zA2 hy) m1 aG) λm2 aJ=>Zab (λhf=>Zaf (mLt aG aJ) ?_) (λhf=>?_))⟩⟩
  ·have:f x y=false:=by simpa using hf
   show Value.bool _=Value.bool _
   rw[ZtE hx hy this]
  ·exact⟨L.length - (k+1),by omega,k+1,by omega,by rw[hw],rfl,mLt aG aJ,ZlC hx hy ht (by simpa using hf)⟩
 ·have dp:k=L.length:=by have:=of_decide_eq_false bG;omega
  refine Zaf aG ?_
  rw[dp,List.take_length,heq,List.take_length]at ht
  show Value.bool _=Value.bool _
  rw[ht]
theorem Zux(p q:Pt)(m:Mem)(hp:RepP m p)(hq:RepP m q):CX Tryz.prog 139 #[.agg p.cs.toArray,.agg q.cs.toArray] m [] (Ret (.bool (ZmW p q))):=by
 apply ZgA
 intro b m1 aG _ b1 m2 aJ _
 have cV:=mLt aG aJ
 refine⟨ZmW p q,Zab (λh1=>Zab (λh2=>Zab (λh3=>?_) (λh3=>⟨rfl,?_⟩)) (λh2=>⟨rfl,?_⟩)) (λh1=>⟨rfl,?_⟩),Zaf cV rfl⟩
 ·refine Zai (Zqe p.e q.e m2 (hp.e.mono' cV) (hq.e.mono' cV)) λm3 aQ=>⟨rfl,?_⟩
  simp only[ZmW,eqS,h1,h2,h3,Bool.true_and]
 ·simp only[ZmW,eqS,h1,h2,h3,Bool.true_and,Bool.false_and]
 ·simp only[ZmW,eqS,h1,h2,Bool.true_and,Bool.false_and]
 ·simp only[ZmW,eqS,h1,Bool.false_and]
theorem Zuy(p q:Ac)(m:Mem)(hp:RepA m p)(hq:RepA m q):CX Tryz.prog 102 #[.agg p.cs.toArray,.agg q.cs.toArray] m [] (Ret (.bool (ZmX p q))):=by
 apply ZeX
 intro b m1 aG _ b1 m2 aJ _
 have cV:=mLt aG aJ
 refine⟨ZmX p q,Zab (λh1=>Zab (λh2=>?_) (λh2=>⟨rfl,?_⟩)) (λh1=>⟨rfl,?_⟩),Zaf cV rfl⟩
 ·refine Zai (Zws 139 ZmW p.parts q.parts p.pa q.pa p.pc q.pc m2 (hp.row.mono cV) (hq.row.mono cV) hp.n λx hx y hy m' hm'=>Zux x y m' ((hp.all x hx).mono (mLt cV hm')) ((hq.all y hy).mono (mLt cV hm'))) λm3 aQ=>Zab (λh3=>?_) (λh3=>⟨rfl,?_⟩)
  ·refine Zai (Zqe p.e q.e m3 (hp.e.mono' (mLt cV aQ)) (hq.e.mono' (mLt cV aQ))) λm4 bZ=>⟨rfl,?_⟩
   simp only[ZmX,eqS,h1,h2,h3,Bool.true_and]
  ·simp only[ZmX,eqS,h1,h2,h3,Bool.true_and,Bool.false_and]
 ·simp only[ZmX,eqS,h1,h2,Bool.true_and,Bool.false_and]
 ·simp only[ZmX,eqS,h1,Bool.false_and]
theorem Zuz(p q:Ru)(m:Mem)(hp:RepR m p)(hq:RepR m q):CX Tryz.prog 67 #[.agg p.cs.toArray,.agg q.cs.toArray] m [] (Ret (.bool (Zfr p q))):=by
 apply ZgB
 intro b m1 aG _ b1 m2 aJ _
 have cV:=mLt aG aJ
 refine⟨Zfr p q,Zab (λh1=>Zab (λh2=>Zab (λh3=>?_) (λh3=>⟨rfl,?_⟩)) (λh2=>⟨rfl,?_⟩)) (λh1=>⟨rfl,?_⟩),Zaf cV rfl⟩
 ·refine Zai (ZvV p.t q.t m2 (hp.t.mono cV) (hq.t.mono cV)) λm3 aQ=>Zab (λh4=>Zab (λh5=>Zab (λh6=>?_) (λh6=>⟨rfl,?_⟩)) (λh5=>⟨rfl,?_⟩)) (λh4=>⟨rfl,?_⟩)
  ·have dH:=mLt cV aQ
   refine Zai (Zwt 102 ZmX p.acts q.acts p.aa q.aa p.ac q.ac m3 (hp.row.mono dH) (hq.row.mono dH) hp.len λx hx y hy m' hm'=>Zuy x y m' ((hp.all x hx).mono (mLt dH hm')) ((hq.all y hy).mono (mLt dH hm'))) λm4 bZ=>Zab (λh7=>Zab (λh8=>⟨rfl,?_⟩) (λh8=>⟨rfl,?_⟩)) (λh7=>⟨rfl,?_⟩)
   ·simp only[Zfr,eqS,h1,h2,h3,h4,h5,h6,h7,h8,Bool.true_and]
   ·simp only[Zfr,eqS,h1,h2,h3,h4,h5,h6,h7,h8,Bool.true_and,Bool.false_and]
   ·simp only[Zfr,eqS,h1,h2,h3,h4,h5,h6,h7,Bool.true_and,Bool.false_and]
  ·simp only[Zfr,eqS,h1,h2,h3,h4,h5,h6,Bool.true_and,Bool.false_and]
  ·simp only[Zfr,eqS,h1,h2,h3,h4,h5,Bool.true_and,Bool.false_and]
  ·simp only[Zfr,eqS,h1,h2,h3,h4,Bool.true_and,Bool.false_and]
 ·simp only[Zfr,eqS,h1,h2,h3,Bool.true_and,Bool.false_and]
 ·simp only[Zfr,eqS,h1,h2,Bool.true_and,Bool.false_and]
 ·simp only[Zfr,eqS,h1,Bool.false_and]
theorem ZnS(p q:Ru)(m:Mem)(hp:RepR m p)(hq:RepR m q):CX Tryz.prog 31 #[.agg p.cs.toArray,.agg q.cs.toArray] m [] (Ret (.bool (ZbU p&&(ZbU q&&Zfr p q)))):=by
 apply ZgC
 intro b m1 aG _ b1 m2 aJ _
 have cV:=mLt aG aJ
 refine⟨ZbU p&&(ZbU q&&Zfr p q),Zan (Zwr p m2 (hp.mono cV)) Zqn ?_,Zaf cV rfl⟩
 rintro n a k c a1 k1 c1 m3 aQ ⟨s,hv,hs,hl⟩
 obtain⟨rfl,rfl,rfl,rfl,rfl,rfl,rfl⟩:=by simpa[Sc.v,and_assoc]using hv
 have hL:=Zce s m3 hs
 rw[hl]at hL
 refine Zai hL λm4 bZ=>Zab (λh1=>?_) (λh1=>⟨rfl,by simp only[h1,Bool.false_and]⟩)
 have gi:=mLt cV (mLt aQ bZ)
 refine Zan (Zwr q m4 (hq.mono gi)) Zqn ?_
 rintro n a k c a1 k1 c1 m5 cF ⟨s2,sB,iS,jl⟩
 obtain⟨rfl,rfl,rfl,rfl,rfl,rfl,rfl⟩:=by simpa[Sc.v,and_assoc]using sB
 have pi:=Zce s2 m5 iS
 rw[jl]at pi
 refine Zai pi λm6 eo=>Zab (λh2=>?_) (λh2=>⟨rfl,by simp only[h1,h2,Bool.true_and,Bool.false_and]⟩)
 have fy:=mLt gi (mLt cF eo)
 exact Zai (Zuz p q m6 (hp.mono fy) (hq.mono fy)) λm7 eT=>⟨rfl,by simp only[h1,h2,Bool.true_and]⟩
end Go.Proofs.YtpjepnkiiojgfaaGreat
namespace Go.Proofs.YtpjepnkiiojgfaaGreat
open Go Go.Eng Go.Proofs Go.RowKit
open Go.Value (int slice agg bool string tuple func)
open Go.IntKind (u8 u64 i64)
set_option maxRecDepth 100000
noncomputable def ZfO:Env:={ EB with
 loops:=(λi=>bif Nat.beq i 6 then⟨[(8,.slice),(32,.int .i64)],[],[(39,16)],false⟩ else bif Nat.beq i 17 then⟨[(73,.int .i64)],[],[],false⟩ else bif Nat.beq i 21 then⟨[(88,.int .i64)],[],[],false⟩ else bif Nat.beq i 27 then⟨[(107,.int .i64)],[],[],false⟩ else⟨[],[],[],false⟩)
 joins:=(λi=>bif Nat.beq i 23 then some [(103,.bool)]else bif Nat.beq i 29 then some [(122,.bool)]else bif Nat.beq i 35 then some [(6,.bool)]else none)
 dr:=(λi=>bif Nat.beq i 12 then[⟨0,[],[],none,[],[]⟩,⟨1,[],[],none,[],[]⟩,⟨2,[],[],none,[1],[]⟩,⟨3,[],[],none,[],[]⟩,⟨4,[],[],none,[3],[]⟩,⟨5,[],[],none,[1,2,3,4],[]⟩,⟨6,[],[],none,[0,1,2,3,4,5],[]⟩,⟨7,[],[],none,[0,1,2,3,4,5,6],[]⟩,⟨8,[],[],none,[],[]⟩,⟨9,[],[],none,[],[]⟩,⟨10,[],[],none,[9],[]⟩,⟨11,[],[],none,[],[]⟩,⟨12,[],[],none,[11],[]⟩,⟨13,[],[],none,[9,10,11,12],[]⟩,⟨14,[],[],none,[8,9,10,11,12,13],[]⟩,⟨15,[],[],none,[8,9,10,11,12,13,14],[]⟩,⟨16,[11],[11],none,[],[]⟩,⟨17,[12],[12],none,[],[]⟩,⟨18,[11],[11],none,[0,1,2,3,4,5,6,7,16,17],[]⟩,⟨19,[12],[12],none,rg 0 19,[]⟩]else bif Nat.beq i 19 then[⟨0,[],[],none,[],[]⟩,⟨1,[11],[],none,[],[]⟩,⟨2,[],[],none,[0,1],[]⟩,⟨3,[],[],none,[],[]⟩,⟨4,[12],[],none,[],[]⟩,⟨5,[],[],none,[0,1,2,3,4],[2]⟩,⟨6,[],[],none,[],[]⟩,⟨7,[14],[],none,[],[]⟩,⟨8,[],[],none,[0,1,2,3,4,5,6,7],[5]⟩,⟨9,[],[],none,[0,1,2,3,4,5,6,7,8],[]⟩,⟨10,[],[],none,[0,1,2,3,4,5,6,7,8,9],[]⟩,⟨11,[],[],none,[0,1,2,3,4,5,6,7,8,9,10],[]⟩]else bif Nat.beq i 35 then[⟨0,[24],[],none,[],[]⟩,⟨1,[],[],none,[0],[]⟩,⟨2,[],[],none,[0,1],[]⟩,⟨3,[24],[],none,[],[]⟩,⟨4,[],[],none,[0,1,3],[1]⟩,⟨5,[],[],none,[0,1,3,4],[]⟩,⟨6,[],[],none,[0,1,2,3,4,5],[]⟩,⟨7,[],[],none,[0,1,2,3,4,5,6],[]⟩,⟨8,[],[],none,[0,1,2,3,4,5,6,7],[]⟩,⟨9,[24],[],none,[0,1,2,3,4,5,6,7,8],[4]⟩,⟨10,[],[],none,[0,1,2,3,4,5,6,7,8,9],[4]⟩,⟨11,[],[],none,[0,1,2,3,4,5,6,7,8,9,10],[]⟩,⟨12,[],[],none,rg 0 12,[]⟩,⟨13,[],[],none,rg 0 13,[]⟩,⟨14,[14],[],none,rg 0 14,[10]⟩,⟨15,[],[],none,rg 0 15,[10]⟩,⟨16,[11],[],none,rg 0 14,[10]⟩,⟨17,[],[],none,rg 0 17,[15]⟩,⟨18,[12],[],none,rg 0 14,[10]⟩,⟨19,[],[],none,rg 0 19,[17]⟩,⟨20,[],[],none,rg 0 20,[]⟩,⟨21,[],[],none,rg 0 21,[]⟩,⟨22,[],[],none,rg 0 22,[]⟩,⟨23,[],[],none,rg 0 23,[]⟩,⟨24,[24],[],none,rg 0 24,[19]⟩,⟨25,[11],[],none,rg 0 24,[19]⟩,⟨26,[],[],none,rg 0 26,[19]⟩,⟨27,[11],[],none,rg 0 24,[]⟩,⟨28,[11],[],none,rg 0 24++[27],[19]⟩,⟨29,[],[],none,rg 0 24++[27,28],[]⟩,⟨30,[],[],none,rg 0 24++[27,28,29],[]⟩,⟨31,[],[],none,rg 0 31,[]⟩,⟨32,[],[],none,rg 0 32,[]⟩,⟨33,[],[],none,rg 0 33,[]⟩]else[])
 tokOf:=(λi=>bif Nat.beq i 39 then 39 else bif Nat.beq i 62 then 62 else 0)
 frzNew:=[3]
 gb:=true
 ldF:=(λi=>bif Nat.beq i 76 then some (.fn)else none) }
theorem Ze1(aA:Int)(bH:Option Addr)(bF bK:Nat)(aW:Option Addr)(aP bC:Nat)(p1 p2:Int)(m:Mem)(R:RT)(h:
 lV [int u8 aA,slice bH bF bK,slice aW aP bC] λxL=>fzM m xL λb m'=>lE [some (Box.mk b xL 25 3 true true)] λcy=>kB Tryz.prog 9 [] m' λb m'=>br (!b) (rtM m m' R (bool false)) (∃
 (R_1:RT),True/\CX Tryz.prog 10 (Array.mk [agg (Array.mk xL)]) m' [] R_1/\Zbq (Shape.agg [Shape.int i64,Shape.slice,Shape.slice]) R_1/\∀(n:Int)(a:Option Addr)(cz c:Nat)(bo:Option Addr)(be da:Nat)
 (aw:Mem),lV [int i64 n,slice a cz c,slice bo be da] λxL=>m'.le aw->R_1 (agg (Array.mk xL)) aw []->∀(b:Nat),∃(I:IT),lE (some (Box.mk b xL 32 3 false true)::cy) λxL=>inI I [slice none 0 0,
 int i64 0] [] [slice none 0 0] aw/\∀(a:Option Addr)(n c:Nat)(ar:Int)(db:Option Addr)(dc dd:Nat)(m':Mem)(bp:Nat),lX (slice a n c) λyL=>lX (slice db dc dd) λbf=>lE (↑n:Int) λak=>lE
 [some (Tok.mk bf 16)] λde=>aw.le m'->I [yL,int i64 ar] [] [bf] m' bp->br (decide (ar < (↑be:Int))) (atA bo λb o=>Zae ar be/\∃v af:Value,lE (n+slN af) λag=>m'.reads b
 (o+Int.toNat ar*2) [v,af]/\∀(b:Nat),chk (v.oneCell'&&(af.oneCell'&&true)) (chk (ZbT af&&true) ((Tok.mk bf 16=Tok.mk yL 16\/yL=slice none 0 0\/c < ag)/\∃(xs:List Value),∃(ys:
 List Value),xs.length=n*16/\ys.length=slN af*16/\rowRd m' a xs/\rowRd m' (slA af) ys/\(∀(u:Value),u∈ys->u.oneCell'=true)/\ag*168<=140737488355328/\ag<=9223372036854775807/\∀
 (a':Option Addr) (c':Nat) (ah:Mem),m'.le ah->rowRd ah a' (List.append xs ys)->Zac xL/\nxI bp I [slice a' ag c',int i64 (i64.wrap (ar+(1:Int)))] [] [slice a' ag c'] ah))) (br (ak == (0:
 Int)) (rtM m m' R (bool true)) (ak≠(0:Int)/\atA a λb o=>Zae (Int.tmod (i64.wrap p1) ak) n/\∃v af ax ay az a0 a1 a2 a3 a4 a5 a6 a7 au bq bs:Value,lV [bq,bs] λbg=>lV (v::af::ax::ay::az::a0::a1 ::
 a2::a3::a4::a5::a6::a7::au::bg) λbh=>lV [agg (Array.mk bh)] λao=>lV (v::af::ax::ay::az::a0::a1::a2::a3::a4::a5::a6::a7::slice none 0 0::bg) λbt=>lX (agg (Array.mk
 bt)) λyL=>lV (Array.toList (Value.cells au)) λbu=>lE (v.oneCell'&&(af.oneCell'&&(ax.oneCell'&&(ay.oneCell'&&(az.oneCell'&&(a0.oneCell'&&(a1.oneCell' &&
 (a2.oneCell'&&(a3.oneCell'&&(a4.oneCell'&&(a5.oneCell'&&(a6.oneCell'&&(a7.oneCell'&&(au.oneCell'&&(bq.oneCell'&&(bs.oneCell'&&true))))))))))))))))
 λag=>m'.reads b (o+Int.toNat (Int.tmod (i64.wrap p1) ak)*16) bh/\ak≠(0:Int)/\atA a λb o=>Zae (Int.tmod (i64.wrap p2) ak) n/\∃bv bw bx bz cb cc cd ce cf cg ch ci cj a8 ck cl:Value,lV [bv,bw,
 bx,bz,cb,cc,cd,ce,cf,cg,ch,ci,cj,a8,ck,cl] λbi=>lV [agg (Array.mk bi)] λa9=>lV (List.append bu (List.append (Array.toList (Value.cells a8)) [])) λcm=>m'.reads b (o+Int.toNat (Int.tmod
 (i64.wrap p2) ak)*16) bi/\∀(b df:Nat),lE (some (Box.mk df bi 47 16 false true)) λcn=>lE (some (Box.mk b bh 47 16 false true)) λco=>lE (co::cn::co::cn::xL) λxL=>chk ag (chk
 (bv.oneCell'&&(bw.oneCell'&&(bx.oneCell'&&(bz.oneCell'&&(cb.oneCell'&&(cc.oneCell'&&(cd.oneCell'&&(ce.oneCell'&&(cf.oneCell'&&(cg.oneCell' &&
 (ch.oneCell'&&(ci.oneCell'&&(cj.oneCell'&&(a8.oneCell'&&(ck.oneCell'&&(cl.oneCell'&&true)))))))))))))))) (kS Tryz.prog 24 [] m' λa n c m'=>kS Tryz.prog 25 [] m' fun
 dg cp dj m'=>lE (n+cp) λal=>(slice a n c=slice none 0 0\/c < al)/\∃(xs:List Value),∃(ys:List Value),xs.length=n*1/\ys.length=cp*1/\rowRd m' a xs/\rowRd m' dg ys/\(∀(u:
 Value),u∈ys->u.oneCell'=true)/\al*16<=140737488355328/\al<=9223372036854775807/\∀(a':Option Addr)(c':Nat)(ah:Mem),lE (some (Tok.mk (slice a' al c') 1)::de) λaa=>m'.le ah->rowRd
 ah a' (List.append xs ys)->∀(b:Nat),chk ag (chk (Nat.beq (bu.length) 1&&(Nat.beq (List.length (Array.toList (Value.cells a8))) 1&&true)) (∀(ba:Nat),lE (some (Box.mk ba cm 45 2 true true)) λdh=>
 ah.free ba->kS Tryz.prog 26 [slice (some (Addr.mk ba 0 none)) 2 2] (ah.add ba cm) λa n c m'=>∀(bj:Nat),lV (v::af::ax::ay::az::a0::a1::a2::a3::a4::a5::a6::a7::slice a n c ::
 bg) λcq=>lV [agg (Array.mk cq)] λbb=>lM (m'.add bj [func (Fn.func 27) (Array.mk []) (Array.mk []),func (Fn.func 28) (Array.mk []) (Array.mk [])]) λmL=>lE (some (Box.mk bj [func (Fn.func 27) (Array.mk
 []) (Array.mk []),func (Fn.func 28) (Array.mk []) (Array.mk [])] 83 2 true true)::dh::some (Box.mk b cq 47 16 false true)::xL) λxL=>m'.free bj->∃(I:IT),inI I [int i64 0] [] [] mL/\∀(n:Int) (m':
 Mem) (cr:Nat),mL.le m'->I [int i64 n] [] [] m' cr->br (decide (n < (↑(2:Nat):Int))) (Zae n 2/\Eng.Zsd [func (Fn.func 27) (Array.mk []) (Array.mk []),func (Fn.func 28) (Array.mk []) (Array.mk [])]
 (Int.toNat n*1) λv=>∃(g:Nat),∃(fi:List Value),∃(ca:List Value),v=func (Fn.func g) (Array.mk fi) (Array.mk ca)/\∃(f:Fx),∃(R_2:RT),R_2=f 2 (List.append (List.append fi ao) ca) m'/\CX
 Tryz.prog g (Array.mk (List.append (List.append fi ao) ca)) m' [] R_2/\Zbq Shape.slice R_2/\∀(a:Option Addr)(am c:Nat)(ac:Mem),m'.le ac->R_2 (slice a am c) ac []->∃(R_3:RT),R_3=f 5 (List.append
 (List.append fi a9) ca) ac/\CX Tryz.prog g (Array.mk (List.append (List.append fi a9) ca)) ac [] R_3/\Zbq Shape.slice R_3/\∀(cs:Option Addr)(ap ct:Nat)(ab:Mem),ac.le ab->R_3 (slice cs ap ct) ab []->∃
 (R_4:RT),R_4=f 8 (List.append (List.append fi bb) ca) ab/\CX Tryz.prog g (Array.mk (List.append (List.append fi bb) ca)) ab [] R_4/\Zbq Shape.slice R_4/\∀(cu:Option Addr)(aq cv:Nat)(ad:Mem),ab.le ad->R_4 (slice cu aq cv) ad []->∀(M:Mem),m'.le M->ac.le M->ab.le M->ad.le M->∃(bk:IT),inI bk [int i64 0] [] [] M/\∀(ai:Int)(m':Mem)(cw:Nat),M.le m'->bk [int i64 ai] [] [] m'
 cw->br (decide (ai < (↑am:Int))) (atA a λb o=>Zae ai am/\∃(v:Value),m' b (o+Int.toNat ai*1)=some v/\∃(b:Bool),(kB Tryz.prog 29 [slice a' al c',v] m' λbc m'=>br (!bc) (Zac xL/\aa =
 aa/\[bool true]=[bool b]) (((0:Int)<=ai/\ai<=(↑c:Int))/\kB Tryz.prog 29 [slice (ZaZ a 0 c 1) (Int.toNat ai - 0) (c - 0),v] m' λbl m'=>Zac xL/\aa=aa/\[bool bl]=[bool b]))/\br b (rtM m m' R
 (bool false)) (Zac xL/\aa=aa/\nxI cw bk [int i64 (i64.wrap (ai+(1:Int)))] [] [] m')) (∃(bm:IT),inI bm [int i64 0] [] [] m'/\∀(av:Int)(ae:Mem)(cx:Nat),m'.le ae->bm [int i64 av] []
 [] ae cx->br (decide (av < (↑al:Int))) (atA a' λb o=>Zae av al/\∃(v:Value),ae b (o+Int.toNat av*1)=some v/\∃(b:Bool),(kB Tryz.prog 29 [slice cu aq cv,v] ae λbc m'=>kB Tryz.prog 29
 [slice a am c,v] m' λbl m'=>br bl (Zac xL/\aa=aa/\[bool !bc == true]=[bool b]) (kB Tryz.prog 29 [slice cs ap ct,v] m' λdi m'=>Zac xL/\aa=aa/\[bool !bc == di]=[bool b]))/\br b (rtM m ae R
 (bool false)) (Zac xL/\aa=aa/\nxI cx bm [int i64 (i64.wrap (av+(1:Int)))] [] [] ae)) (Zac xL/\aa=aa/\nxI cr I [int i64 (i64.wrap (n+(1:Int)))] [] [] ae))) (∀(b:Nat),lE (some
 (Box.mk b bt 47 16 false true)::xL) λxL=>chk ag (∃(b:Bool),lV [bool b] λbd=>(∃(f:Fx),∃(R:RT),R=f 1 [yL] m'/\CX Tryz.prog 27 (Array.mk [yL]) m' [] R/\Zbq Shape.slice R/\∀(a:Option Addr)
 (n c:Nat) (ac:Mem),m'.le ac->R (slice a n c) ac []->∃(R:RT),R=f 4 [yL] ac/\CX Tryz.prog 28 (Array.mk [yL]) ac [] R/\Zbq Shape.slice R/\∀(a:Option Addr)(am c:Nat)(ab:Mem),ac.le ab->R
 (slice a am c) ab []->br (i64.wrap ((↑n:Int)+(↑am:Int)) == (0:Int)) (∃(R:RT),R=f 10 [yL] ab/\CX Tryz.prog 30 (Array.mk [yL]) ab [] R/\Zbq (Shape.int i64) R/\∀(n:Int)(ad:Mem),ab.le ad->R (int i64 n) ad []->br (n == (-1:Int)) (∃(R:RT),R=f 15 bb ad/\CX Tryz.prog 30 (Array.mk bb) ad [] R/\Zbq (Shape.int i64) R/\∀(n:Int)(ae:Mem),ad.le ae->R (int i64 n) ae []->∃(R:RT),R =
 f 17 ao ae/\CX Tryz.prog 30 (Array.mk ao) ae [] R/\Zbq (Shape.int i64) R/\∀(ap:Int)(an:Mem),ae.le an->R (int i64 ap) an []->∃(R:RT),R=f 19 a9 an/\CX Tryz.prog 30 (Array.mk a9) an [] R/\Zbq
 (Shape.int i64) R/\∀(aq:Int)(aj:Mem),an.le aj->R (int i64 aq) aj []->br (n == if aq > ap then aq else ap) (∃(R:RT),R=f 26 (yL::ao) aj/\CX Tryz.prog 31 (Array.mk (yL::ao)) aj [] R/\Zbq
 Shape.bool R/\∀(b:Bool)(bn:Mem),aj.le bn->R (bool b) bn []->chk (ZbT au) (∀(M:Mem),m'.le M->ac.le M->ab.le M->ad.le M->ae.le M->an.le M->aj.le M->bn.le M->
 Zac xL/\aa=aa/\[bool (b == ((↑(slN au):Int) == (0:Int)))]=bd)) (∀(M:Mem),m'.le M->ac.le M->ab.le M->ad.le M->ae.le M->an.le M->aj.le M->aj.le M->Zac xL/\aa =
 aa/\[bool false]=bd)) (∀(M:Mem),m'.le M->ac.le M->ab.le M->ad.le M->ad.le M->ad.le M->ad.le M->ad.le M->Zac xL/\aa=aa/\[bool false]=bd)) (∀(M:Mem),m'.le M
 -> ac.le M->ab.le M->ab.le M->ab.le M->ab.le M->ab.le M->ab.le M->Zac xL/\aa=aa/\[bool false]=bd))/\rtM m m' R (bool b))))))))))):CX Tryz.prog 6 #[.agg #[.int .u8 aA,.slice bH bF bK,.slice aW aP bC],.int .u8 p1,.int .u8 p2] m [] R:=
 Zad (E:=ZfO) Zap mix Tryz.func6 (by kernel_rfl) (Eq.mp (by kernel_rfl) h)
end Go.Proofs.YtpjepnkiiojgfaaGreat
namespace Go.Proofs.YtpjepnkiiojgfaaGreat
open Go Go.Eng Go.Rx Go.Proofs Go.RowKit
set_option maxRecDepth 100000
def Zzh(n:Nat)(l:List ByteArray):Value->Mem->List (List Value)->Prop:=λv m' _=>∃a,v=.slice a n n/\rowRd m' a (Za2 l)
theorem ZnT{n l}:∀(v:Value)(m':Mem) (css:List (List Value)),Zzh n l v m' css->Shape.fits .slice v=true:=λv _ _ ⟨_,e,_⟩=>by rw[e];rfl
theorem Zwu(m:Mem):CX Tryz.prog 24 #[] m [] (Zzh 4 ZdZ):=by
 apply Zdg
 intro b hf
 exact ZaH (Mem.le_add hf _) ⟨_,rfl,ZaU⟩
theorem ZuA(m:Mem):CX Tryz.prog 25 #[] m [] (Zzh 2 ZbO):=by
 apply Zew
 intro b hf
 exact ZaH (Mem.le_add hf _) ⟨_,rfl,ZaU⟩
theorem Zy2(z:ByteArray)(a:Option Addr)(c:Nat)(m:Mem)(hr:rowRd m a (Za2 (ZdZ++ZbO))):CX Tryz.prog 29 #[.slice a (4+2) c,.string z] m [] (Ret (.bool (Zhd (ZdZ++ZbO) z))):=
 Zbx (ZdZ++ZbO) a c z m (by decide) hr
theorem Zjk{α:Type}{cs:α->List Value}(h:∀x,∀u∈cs x,u.oneCell'=true)(l:List α):∀u∈(l.map cs).flatten,u.oneCell'=true:=λu hu=>by
 simp only[List.mem_flatten,List.mem_map]at hu
 obtain⟨_,⟨e,_,rfl⟩,hu⟩:=hu
 exact h e u hu
def ZzB(l k:List Ac):Value->Mem->List (List Value)->Prop:=λv m' _=>∃a c,v=.slice a (l++k).length c/\rowRd m' a ((l++k).map Ac.cs).flatten
theorem Zr0{l k}:∀(v:Value)(m':Mem) (css:List (List Value)),ZzB l k v m' css->Shape.fits .slice v=true:=λv _ _ ⟨_,_,e,_⟩=>by rw[e];rfl
theorem Zo4(l k:List Ac)(a b:Option Addr)(c d:Nat)(ba:Nat)(m:Mem)(hf:m.free ba)(h1:rowRd m a (l.map Ac.cs).flatten)(h2:rowRd m b (k.map Ac.cs).flatten)(hl:l.length<=1000)(hk:k.length<=1000):
  CX Tryz.prog 26 #[.slice (some ⟨ba,0,none⟩) 2 2] (m.add ba [.slice a l.length c,.slice b k.length d]) [] (ZzB l k):=by
 have bU:=Mem.le_add hf [.slice a l.length c,.slice b k.length d]
 have hs:Zlp [⟨a,l.length,c,(l.map Ac.cs).flatten⟩,⟨b,k.length,d,(k.map Ac.cs).flatten⟩]=(l++k).length:=by simp[Zlp]
 have hx:ZuW [⟨a,l.length,c,(l.map Ac.cs).flatten⟩,⟨b,k.length,d,(k.map Ac.cs).flatten⟩]=((l++k).map Ac.cs).flatten:=by simp[ZuW]
 refine(Zlh [⟨a,l.length,c,(l.map Ac.cs).flatten⟩,⟨b,k.length,d,(k.map Ac.cs).flatten⟩] (some ⟨ba,0,none⟩) 2 (m.add ba [.slice a l.length c,.slice b k.length d]) ⟨λi q hq=>⟨ba,0,rfl,?_⟩,λq hq=>?_⟩ (by rw[hs,zA1];omega) (by simp)).mono ?_
 ·refine Zc6 m ba [.slice a l.length c,.slice b k.length d] i _ ?_
  match i,hq with
  | 0,hq=>simp at hq;subst hq;rfl
  | 1,hq=>simp at hq;subst hq;rfl
  | n+2,hq=>simp at hq
 ·rcases List.mem_cons.1 hq with rfl|hq
  ·exact⟨h1.mono bU,ZaQ Ac.len l,Zjk Ac.one l⟩
  ·obtain rfl:=List.mem_singleton.1 hq
   exact⟨h2.mono bU,ZaQ Ac.len k,Zjk Ac.one k⟩
 ·rintro v m' css _ ⟨a',c',hv,aB⟩
  rw[hs]at hv
  rw[hx]at aB
  exact⟨a',c',hv,aB⟩
theorem ZgF{z:Int}:∀(v:Value)(m':Mem) (css:List (List Value)),Ret (.int .i64 z) v m' css->Shape.fits (.int .i64) v=true:=λv _ _ h=>by rw[show v=_ from h];rfl
theorem Zjl{z n:Int}(h:Value.int .i64 n=Value.int .i64 z):n=z:=by injection h
theorem Zo5{z:Bool}:∀(v:Value)(m':Mem) (css:List (List Value)),Ret (.bool z) v m' css->Shape.fits .bool v=true:=λv _ _ h=>by rw[show v=_ from h];rfl
theorem Zr1{z n:Bool}(h:Value.bool n=Value.bool z):n=z:=by injection h
theorem ZuB{s:Sc}{n:Int}{a a1:Option Addr}{p c p1 c1:Nat}(h:Value.agg #[.int .i64 n,.slice a p c,.slice a1 p1 c1]=s.v):n=s.n/\a=s.va/\p=s.vars.length/\c=s.vc/\a1=s.sa/\p1=s.states.length/\c1=s.sc:=Zuw h
theorem Zr2{m:Mem}{a:Option Addr}{l:List ByteArray}(i:Nat)(h:rowRd m a (Za2 l)):rowRd m a (Za2 (l.take i)):=by
 rcases h with h|⟨b,o,ha,h⟩
 ·have:l=[]:=by simpa[Za2]using h
  subst this
  exact .inl (by simp[Za2])
 ·refine .inr ⟨b,o,ha,λj v hj=>h j v ?_⟩
  unfold Za2 at hj ⊢
  rw[List.map_take,List.getElem?_take]at hj
  split at hj
  ·exact hj
  ·cases hj
theorem Zw9(w:Bool)(z:Ru)(M:Mem)(h:RepR M z):CX Tryz.prog (bif w then 28 else 27) #[.agg z.cs.toArray] M [] (ZnL (ZaX w z)):=by
 cases w with
 | true=>exact Zg1 z M h
 | false=>exact Zjg z M h
set_option maxHeartbeats 4000000 in
theorem ZnU(x:SScr)(p1 p2:Nat)(m:Mem)(hx:RepSC m x)(vB:p1 < 256)(fE:p2 < 256):CX Tryz.prog 6 #[.agg x.cs.toArray,.int .u8 (p1:Int),.int .u8 (p2:Int)] m [] (Ret (.bool true)):=by
 apply Ze1
 intro b1 m1 aG xc
 refine Zai (Zo3 m1) λm2 aJ=>Zp3 rfl ?_
 have cV:=mLt aG aJ
 refine⟨_,trivial,Zwb x m2 (hx.mono cV),Zv9,?_⟩
 rintro n a n1 c a1 n2 c1 m3 aQ ⟨s,hv,hr,hk⟩ b4
 obtain⟨rfl,rfl,rfl,rfl,rfl,rfl,rfl⟩:=ZuB hv
 have dH:=mLt cV aQ
 have eG:=hk.len
 refine⟨λxs _ tvs mm q=>∃(i:Nat)(a:Option Addr)(c:Nat)(T:List Ru),i<=s.states.length/\xs=[.slice a T.length c,.int .i64 i]/\tvs=[.slice a T.length c]/\rowRd mm a (T.map Ru.cs).flatten/\T.length<=5*i/\(∀r∈T,MkR s.states.length r/\RepR m3 r)/\q=s.states.length - i,⟨_,0,none,0,[],by omega,rfl,rfl,.inl rfl,by simp,by simp,rfl⟩,?_⟩
 rintro a n c u db dc dd mm q0 nj ⟨i,a',c',T,hi,cI,cG,aB,xH,hT,rfl⟩
 simp only[List.cons.injEq,Value.slice.injEq,Value.int.injEq,true_and,and_true]at cI cG
 obtain⟨⟨rfl,rfl,rfl⟩,rfl⟩:=cI
 obtain⟨rfl,rfl,rfl⟩:=cG
 have iK:IntKind.i64.wrap ((i:Int)+1)=((i+1:Nat):Int):=by rw[Zak (by omega) (by omega)];rfl
 refine ZaE (λaC=>?_) (λbG=>?_)
 ·have aC:(i:Int) < (s.states.length:Nat):=aC
  obtain⟨t,ht⟩:=Zdh (show i < s.states.length by omega)
  have eK:=hk.all i t ht
  have gv:=eK.len
  have ux:=hr.all t (zA2 ht)
  obtain⟨b10,o10,sU,pw⟩:=Zam Sta.len (hr.mono nj).row ht (by omega)
  refine⟨b10,o10,sU,⟨by omega,aC⟩,_,_,pw,λb11=>Zaa rfl (Zaa rfl ⟨.inl rfl,(T.map Ru.cs).flatten,(t.rules.map Ru.cs).flatten,ZaQ Ru.len T,ZaQ Ru.len t.rules,aB,ux.row.mono nj,Zjk Ru.one t.rules,?_,?_,λa' c' m5 cF bI=>⟨rfl,_,?_,i+1,a',c',T++t.rules,by omega,?_,?_,?_,?_,?_,rfl⟩⟩)⟩
  ·show(T.length+t.rules.length)*168<=_;omega
  ·show T.length+t.rules.length<=_;omega
  ·omega
  ·rw[iK,zA1];rfl
  ·rw[zA1];rfl
  ·rw[List.map_append,List.flatten_append];exact bI
  ·rw[zA1];omega
  ·intro r hr'
   rcases List.mem_append.1 hr' with h|h
   ·exact hT r h
   ·exact⟨eK.all r h,ux.all r h⟩
 have bG:¬(i:Int) < (s.states.length:Nat):=bG
 have nu:=mLt dH nj
 by_cases h0:T.length=0
 ·refine ZrF ?_ (Zaf nu rfl)
  rw[h0];rfl
 have sV:(T.length:Int)≠0:=by omega
 obtain⟨r,ky⟩:=Zdh (show p1 % T.length < T.length from Nat.mod_lt _ (by omega))
 obtain⟨q,uy⟩:=Zdh (show p2 % T.length < T.length from Nat.mod_lt _ (by omega))
 have iz:p1 % T.length < T.length:=Nat.mod_lt _ (by omega)
 have jl:p2 % T.length < T.length:=Nat.mod_lt _ (by omega)
 have fQ:Int.tmod (IntKind.i64.wrap (p1:Int)) (T.length:Int)=((p1 % T.length:Nat):Int):=by rw[Zak (by omega) (by omega)];rfl
 have fl:Int.tmod (IntKind.i64.wrap (p2:Int)) (T.length:Int)=((p2 % T.length:Nat):Int):=by rw[Zak (by omega) (by omega)];rfl
 obtain⟨kr,rr⟩:=hT r (zA2 ky)
 obtain⟨kq,rq⟩:=hT q (zA2 uy)
 obtain⟨br1,or1,sW,jF⟩:=Zam Ru.len aB ky (by omega)
 obtain⟨br2,or2,sX,io⟩:=Zam Ru.len aB uy (by omega)
 have px:mm.reads br1 (or1+Int.toNat (Int.tmod (IntKind.i64.wrap (p1:Int)) (T.length:Int))*16) r.cs:=by rw[fQ];exact jF
 have py:mm.reads br2 (or2+Int.toNat (Int.tmod (IntKind.i64.wrap (p2:Int)) (T.length:Int))*16) q.cs:=by rw[fl];exact io
 refine Zp3 (beq_eq_false_iff_ne.2 sV) ⟨sV,br1,or1,sW,⟨by rw[fQ];omega,by rw[fQ];omega⟩,_,_,_,_,_,_,_,_,_,_,_,_,_,_,_,_,px,sV,br2,or2,sX,⟨by rw[fl];omega,by rw[fl];omega⟩,_,_,_,_,_,_,_,_,_,_,_,_,_,_,_,_,py,λb5 b6=>Zaa rfl (Zaa rfl ?_)⟩
 refine⟨_,trivial,Zwu mm,ZnT,?_⟩
 rintro a3 n3 c3 m4 bZ ⟨a4,pj,cU⟩
 simp only[Value.slice.injEq]at pj
 obtain⟨rfl,rfl,rfl⟩:=pj
 refine⟨_,trivial,ZuA m4,ZnT,?_⟩
 rintro a5 n5 c5 m5 cF ⟨a6,eY,bI⟩
 simp only[Value.slice.injEq]at eY
 obtain⟨rfl,rfl,rfl⟩:=eY
 have eF:∀u∈Za2 ZbO,u.oneCell'=true:=by
  intro u hu
  obtain⟨z,_,rfl⟩:=List.mem_map.1 hu
  rfl
 refine⟨.inr (by decide),Za2 ZdZ,Za2 ZbO,rfl,rfl,cU.mono cF,bI,eF,by decide,by decide,?_⟩
 intro a7 c7 m6 eo ef b7
 have ef:rowRd m6 a7 (Za2 (ZdZ++ZbO)):=by unfold Za2 at ef ⊢;rw[List.map_append];exact ef
 refine Zaa rfl (Zaa rfl ?_)
 intro b8 jZ
 have sY:=mLt bZ (mLt cF eo)
 have sZ:=mLt nj sY
 have na:=kr.len
 have nt:=kq.len
 refine⟨_,trivial,Zo4 r.acts q.acts r.aa q.aa r.ac q.ac b8 m6 jZ (rr.row.mono sZ) (rq.row.mono sZ) (by omega) (by omega),Zr0,?_⟩
 rintro a9 n9 c9 m7 eT ⟨a10,c10,uz,pz⟩ b9 nC
 simp only[Value.slice.injEq]at uz
 obtain⟨rfl,rfl,rfl⟩:=uz
 have uA:=mLt (Mem.le_add jZ _) eT
 have s4:=mLt sZ uA
 obtain⟨bo,jU⟩:∃bo,bo=ZtX r q a9 c9:=⟨_,rfl⟩
 have rb:RepR m7 bo:=by rw[jU];exact(rr.mono s4).cat (rq.mono s4) kr kq pz
 have nq:=Mem.le_add nC [.func (.func 27) #[] #[],.func (.func 28) #[] #[]]
 have bcs:bo.cs=(ZtX r q a9 c9).cs:=by rw[jU]
 refine⟨λxs _ _ mm' q'=>∃k:Nat,k<=2/\xs=[.int .i64 k]/\q'=2 - k,⟨_,0,by omega,rfl,rfl⟩,?_⟩
 rintro n m8 q8 eS ⟨k,i6,hn,rfl⟩
 obtain rfl:n=k:=by simpa using hn
 have qj:=mLt nq eS
 have nA:=mLt uA qj
 have mV:=mLt s4 qj
 refine ZaE (λaC=>?_) (λbG=>?_)
 ·have aC:(k:Int) < ((2:Nat):Int):=aC
  have iM:IntKind.i64.wrap ((k:Int)+1)=((k+1:Nat):Int):=by rw[Zak (by omega) (by omega)];rfl
  obtain⟨w,hw⟩:∃w:Bool,k=(bif w then 1 else 0):=by
   rcases(show k=0\/k=1 by omega)with rfl|rfl
   ·exact⟨false,rfl⟩
   ·exact⟨true,rfl⟩
  have xI:=Zp1 kr w
  have lp:=Zp1 kq w
  have fu:(ZaX w bo).length<=100000:=by rw[jU];exact ZkH kr kq a9 c9 w
  have xd:∀z,Zhd (ZaX w bo) z=(Zhd (ZaX w r) z||Zhd (ZaX w q) z):=by rw[jU];exact ZtY kr kq a9 c9 w
  refine⟨⟨by omega,aC⟩,Zaj (v:=.func (.func (bif w then 28 else 27)) #[] #[]) (by subst hw;cases w <;> rfl) ⟨_,[],[],rfl,λk _ _=>bif Nat.beq k 2 then ZnL (ZaX w r)else bif Nat.beq k 5 then ZnL (ZaX w q)else ZnL (ZaX w bo),_,rfl,Zw9 w r m8 (rr.mono mV),Zcv,?_⟩⟩
  rintro a11 n11 c11 m9 fW ⟨a12,c12,iJ,gn,uB⟩
  simp only[Value.slice.injEq]at iJ
  obtain⟨rfl,rfl,rfl⟩:=iJ
  refine⟨_,rfl,Zw9 w q m9 (rq.mono (mLt mV fW)),Zcv,?_⟩
  rintro a13 n13 c13 m10 fY ⟨a14,c14,ip,mW,_⟩
  simp only[Value.slice.injEq]at ip
  obtain⟨rfl,rfl,rfl⟩:=ip
  refine⟨_,rfl,(by have:=Zw9 w bo m10 (rb.mono (mLt qj (mLt fW fY)));rw[bcs]at this;exact this),Zcv,?_⟩
  rintro a15 n15 c15 m11 gS ⟨a16,c16,pA,mX,_⟩ M _ s6 kL s7
  simp only[Value.slice.injEq]at pA
  obtain⟨rfl,rfl,rfl⟩:=pA
  have uC:=mLt nA (mLt fW s6)
  refine⟨λxs _ _ _ q'=>∃i:Nat,i<=(ZaX w r).length/\xs=[.int .i64 i]/\q'=(ZaX w r).length - i,⟨_,0,by omega,rfl,rfl⟩,?_⟩
  rintro n' m13 q13 jL ⟨i,hi,hn,rfl⟩
  obtain rfl:n'=i:=by simpa using hn
  have iK:IntKind.i64.wrap ((i:Int)+1)=((i+1:Nat):Int):=by rw[Zak (by omega) (by omega)];rfl
  refine ZaE (λaC=>?_) (λbG=>?_)
  ·have aC:(i:Int) < ((ZaX w r).length:Nat):=aC
   obtain⟨z,hz⟩:=Zdh (show i < (ZaX w r).length by omega)
   have pB:=gn.mono (mLt s6 jL)
   obtain⟨b,o,ha,hv⟩:=ZxK pB (show(Za2 (ZaX w r))[i]?=some (.string z) by unfold Za2;rw[List.getElem?_map,hz];rfl)
   refine⟨b,o,ha,⟨by omega,aC⟩,_,hv,false,?_,Zp3 rfl ⟨rfl,rfl,_,?_,i+1,by omega,by rw[iK],rfl⟩⟩
   ·refine Zai (Zy2 z a7 c7 m13 (ef.mono (mLt uC jL))) λm14 jM=>Zp3 (by rw[kr.has w (zA2 hz)];rfl) ⟨⟨by omega,by omega⟩,?_⟩
    subst ha
    have hc:=Zbx ((ZaX w r).take i) (some ⟨b,o,none⟩) (c11 - 0) z m14 (by rw[List.length_take];omega) (Zr2 i (pB.mono jM))
    rw[show((ZaX w r).take i).length=i by rw[List.length_take];omega]at hc
    refine Zai hc λm15 kM=>⟨rfl,rfl,?_⟩
    rw[show((ZaX w r).take i).any (λy=>eqS z y)=false from ZoI (Zm7 w r) hz]
   ·omega
  ·refine⟨λxs _ _ _ q'=>∃i:Nat,i<=(ZdZ++ZbO).length/\xs=[.int .i64 i]/\q'=(ZdZ++ZbO).length - i,⟨_,0,by omega,rfl,rfl⟩,?_⟩
   rintro n' m14 q14 jM ⟨j,hj,hn,rfl⟩
   obtain rfl:n'=j:=by simpa using hn
   have xJ:(ZdZ++ZbO).length=6:=rfl
   have jJ:IntKind.i64.wrap ((j:Int)+1)=((j+1:Nat):Int):=by rw[Zak (by omega) (by omega)];rfl
   have kN:=mLt jL jM
   refine ZaE (λaC=>?_) (λbG=>?_)
   ·have aC:(j:Int) < ((6:Nat):Int):=aC
    obtain⟨z,hz⟩:=Zdh (show j < (ZdZ++ZbO).length by omega)
    obtain⟨b,o,ha,hv⟩:=ZxK (ef.mono (mLt uC kN)) (show(Za2 (ZdZ++ZbO))[j]?=some (.string z) by unfold Za2;rw[List.getElem?_map,hz];rfl)
    refine⟨b,o,ha,⟨by omega,aC⟩,_,hv,false,?_,Zp3 rfl ⟨rfl,rfl,_,?_,j+1,by omega,by rw[jJ],rfl⟩⟩
    ·refine Zai (Zbx (ZaX w bo) a15 c15 z m14 (by omega) (mX.mono (mLt s7 kN))) λm15 kM=>Zai (Zbx (ZaX w r) a11 c11 z m15 (by omega) (gn.mono (mLt s6 (mLt kN kM)))) λm16 s8=>?_
     have e1:(ZaX w bo).any (λy=>eqS z y)=(Zhd (ZaX w r) z||Zhd (ZaX w q) z):=xd z
     rw[e1]
     refine Zab (λh=>⟨rfl,rfl,?_⟩) (λh=>Zai (Zbx (ZaX w q) a13 c13 z m16 (by omega) (mW.mono (mLt kL (mLt kN (mLt kM s8))))) λm17 xe=>⟨rfl,rfl,?_⟩)
     ·have h:Zhd (ZaX w r) z=true:=h
      rw[h];rfl
     ·have h:Zhd (ZaX w r) z=false:=h
      rw[h]
      show[Value.bool (!((false||Zhd (ZaX w q) z) == Zhd (ZaX w q) z))]=_
      simp
    ·omega
   ·exact⟨rfl,rfl,_,by omega,k+1,by omega,by rw[iM],rfl⟩
 ·intro b10
  have rba:RepR m8 (Zd1 r):=(rr.mono mV).bare
  have e1:=Zm8 r false
  have e2:=Zm8 r true
  refine Zaa rfl ⟨true,⟨λk _ _=>bif Nat.beq k 1 then ZnL (ZaX false (Zd1 r))else bif Nat.beq k 4 then ZnL (ZaX true (Zd1 r))else bif Nat.beq k 10 then Ret (.int .i64 (Zgi (Zd1 r)))else bif Nat.beq k 15 then Ret (.int .i64 (Zgi bo))else bif Nat.beq k 17 then Ret (.int .i64 (Zgi r))else bif Nat.beq k 19 then Ret (.int .i64 (Zgi q))else Ret (.bool (ZbU (Zd1 r)&&(ZbU r&&Zfr (Zd1 r) r))),_,rfl,Zjg (Zd1 r) m8 rba,Zcv,?_⟩,Zaf (mLt dH mV) rfl⟩
  rintro a11 n11 c11 m9 fW ⟨a12,c12,iJ,_⟩
  simp only[Value.slice.injEq]at iJ
  obtain⟨rfl,rfl,rfl⟩:=iJ
  refine⟨_,rfl,Zg1 (Zd1 r) m9 (rba.mono fW),Zcv,?_⟩
  rintro a13 n13 c13 m10 fY ⟨a14,c14,ip,_⟩
  simp only[Value.slice.injEq]at ip
  obtain⟨rfl,rfl,rfl⟩:=ip
  have uD:=mLt fW fY
  refine ZrF (by rw[e1,e2];rfl) ⟨_,rfl,Zka (Zd1 r) m10 (rba.mono uD),ZgF,?_⟩
  rintro n' m11 gS hd
  obtain rfl:=Zjl hd
  have uE:=mLt uD gS
  refine ZrF (by rw[ZrA kr];rfl) ⟨_,rfl,(by have:=Zka bo m11 (rb.mono (mLt qj uE));rw[bcs]at this;exact this),ZgF,?_⟩
  rintro n' m12 mT hd
  obtain rfl:=Zjl hd
  have uF:=mLt uE mT
  refine⟨_,rfl,Zka r m12 (rr.mono (mLt mV uF)),ZgF,?_⟩
  rintro n' m13 jL hd
  obtain rfl:=Zjl hd
  have uG:=mLt uF jL
  refine⟨_,rfl,Zka q m13 (rq.mono (mLt mV uG)),ZgF,?_⟩
  rintro n' m14 jM hd
  obtain rfl:=Zjl hd
  have uH:=mLt uG jM
  refine ZrF (by rw[jU,Zt1 kr kq];exact beq_self_eq_true _) ⟨_,rfl,ZnS (Zd1 r) r m14 (rba.mono uH) (rr.mono (mLt mV uH)),Zo5,?_⟩
  rintro bb m15 kM hd
  obtain rfl:=Zr1 hd
  refine Zaa rfl λ_ _ _ _ _ _ _ _ _=>⟨rfl,rfl,?_⟩
  rw[Zj4 kr,kr.light,ZrB kr]
  show[Value.bool ((true&&(true&&decide (r.acts.length=0))) == ((r.acts.length:Int) == 0))]=[Value.bool true]
  by_cases h:r.acts.length=0
  ·rw[h];rfl
  ·simp[h]
end Go.Proofs.YtpjepnkiiojgfaaGreat