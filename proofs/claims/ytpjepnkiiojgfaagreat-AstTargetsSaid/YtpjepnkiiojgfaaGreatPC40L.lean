/- Part of the proof: functions of the program. No condition. -/
import Derived.Test.YtpjepnkiiojgfaaGreatPC25AU
import Derived.Test.YtpjepnkiiojgfaaGreatPVEP
import Derived.Test.YtpjepnkiiojgfaaGreatPC40M
import Derived.Test.YtpjepnkiiojgfaaGreatMr
import Derived.Test.YtpjepnkiiojgfaaGreatPEnv
import Derived.Test.YtpjepnkiiojgfaaGreatPC25MA
import Derived.Test.YtpjepnkiiojgfaaGreatPC25E
set_option linter.unusedVariables false
set_option linter.unusedSimpArgs false
set_option linter.unusedSectionVars false
noncomputable section
namespace Go.Proofs.YtpjepnkiiojgfaaGreat
open Go Go.Eng Go.Rx Go.Proofs Go.RowKit
set_option maxRecDepth 100000
theorem ZyJ(a b c d e f a' b' c' d' e' f':Int):EqIs Tryz.prog 75 (.agg (msV a b c d e f).toArray) (.agg (msV a' b' c' d' e' f').toArray) (decide ([a,b,c,d,e,f]=[a',b',c',d',e',f'])):=by
 refine⟨λw=>?_,λop ox oy w=>Zet (by kernel_rfl) op ox oy _ _ w⟩
 have u3:=Tryz.underlying3
 have a3:=Tryz.isAgg3
 have z3:=Tryz.sizeOf3
 unfold msV
 rw[Op.equal,Op.maxDepth,show(10000:Nat)=9999+1 from rfl]
 rw[run_equalIn_agg _ _ _ _ _ (by kernel_rfl) (by kernel_rfl)]
 have hf:(Tryz.prog.fieldsOf 75).toList=[⟨ "States",3,0,false, "", "",0⟩,⟨ "Rules",3,1,false, "", "",8⟩,⟨ "Regex",3,2,false, "", "",16⟩,⟨ "Parts",3,3,false, "", "",24⟩,⟨ "Operators",3,4,false, "", "",32⟩,⟨ "Vars",3,5,false, "", "",40⟩]:=by kernel_rfl
 rw[hf]
 go_simp
 by_cases h1:a=a' <;> by_cases h2:b=b' <;> by_cases h3:c=c' <;> by_cases h4:d=d' <;> by_cases h5:e=e' <;> by_cases h6:f=f' <;> simp[h1,h2,h3,h4,h5,h6]
theorem ZAG(a b c d e a' b' c' d' e':Int):EqIs Tryz.prog 27 (.agg #[.int .i64 a,.int .i64 b,.int .i64 c,.int .i64 d,.int .i64 e]) (.agg #[.int .i64 a',.int .i64 b',.int .i64 c',.int .i64 d',.int .i64 e']) (a == a'&&b == b'&&c == c'&&d == d'&&e == e'):=by
 refine⟨λw=>?_,λop ox oy w=>Zet (by kernel_rfl) op ox oy _ _ w⟩
 have u3:=Tryz.underlying3
 have a3:=Tryz.isAgg3
 have z3:=Tryz.sizeOf3
 rw[Op.equal,Op.maxDepth,show(10000:Nat)=9999+1 from rfl]
 rw[run_equalIn_agg _ _ _ _ _ (by kernel_rfl) (by kernel_rfl)]
 have hf:(Tryz.prog.fieldsOf 27).toList=[⟨ "Var",3,0,false, "", "",0⟩,⟨ "State",3,1,false, "", "",8⟩,⟨ "Rule",3,2,false, "", "",16⟩,⟨ "Action",3,3,false, "", "",24⟩,⟨ "Part",3,4,false, "", "",32⟩]:=by kernel_rfl
 rw[hf]
 go_simp
 by_cases h1:a=a' <;> by_cases h2:b=b' <;> by_cases h3:c=c' <;> by_cases h4:d=d' <;> by_cases h5:e=e' <;> simp[h1,h2,h3,h4,h5]
theorem Zzs(p q:Pl):EqIs Tryz.prog 27 (.agg p.cs.toArray) (.agg q.cs.toArray) (decide (p=q)):=by
 have h:=ZAG p.v p.s p.r p.a p.p q.v q.s q.r q.a q.p
 have e:(p.v == q.v&&p.s == q.s&&p.r == q.r&&p.a == q.a&&p.p == q.p)=decide (p=q):=by
  by_cases kV:p=q
  ·subst kV;simp
  ·rw[decide_eq_false kV,Bool.eq_false_iff]
   intro h
   simp only[zA7,beq_iff_eq]at h
   obtain⟨⟨⟨⟨h1,h2⟩,h3⟩,h4⟩,h5⟩:=h
   apply kV
   cases p;cases q
   simp only at h1 h2 h3 h4 h5
   subst h1 h2 h3 h4 h5;rfl
 rw[e]at h;exact h
theorem ZjT(l r:List Int)(a a':Option Addr)(c c':Nat)(m:Mem)(hl:l.length<=1000000000000000)(h1:rowRd m a (Zcf l))(h2:rowRd m a' (Zcf r)):
  CX Tryz.prog 38 #[.slice a l.length c,.slice a' r.length c'] m [] (Ret (.bool (decide (l=r)))):=by
 apply ZcU
 refine Zab (λh=>Zaf (Mem.le_refl _) ?_) (λh=>?_)
 ·have cM:¬(l.length:Int)=r.length:=by simpa using h
  show Value.bool false=Value.bool _
  rw[decide_eq_false (λe=>cM (by rw[e]))]
 have aH:l.length=r.length:=by
  have:(l.length:Int)=r.length:=by simpa using h
  omega
 refine⟨λxs _ _ m' q=>∃i:Nat,i<=l.length/\xs=[.int .i64 i]/\l.take i=r.take i/\q=l.length - i,⟨l.length,0,by omega,rfl,rfl,rfl⟩,?_⟩
 rintro n m1 q aE ⟨i,hi,hx,heq,rfl⟩
 obtain rfl:n=i:=by simpa using hx
 refine ZaG (λaC=>?_) (λbL=>Zaf aE ?_)
 ·obtain⟨x,hx⟩:=ZcC (show i < l.length by omega)
  obtain⟨y,hy⟩:=ZcC (show i < r.length by omega)
  obtain⟨b1,o1,fH,dJ⟩:=Zz0 (h1.mono aE) (show(Zcf l)[i]?=some (.int .i64 x) by unfold Zcf;rw[List.getElem?_map,hx];rfl)
  obtain⟨b2,o2,fh,gq⟩:=Zz0 (h2.mono aE) (show(Zcf r)[i]?=some (.int .i64 y) by unfold Zcf;rw[List.getElem?_map,hy];rfl)
  refine⟨b1,o1,fH,⟨by omega,aC⟩,_,dJ,b2,o2,fh,⟨by omega,by omega⟩,_,gq,Zaa rfl (Zab (λh=>Zaf aE ?_) (λh=>?_))⟩
  ·have cM:¬x=y:=by
    intro e
    subst e
    have h:(!(x == x))=true:=h
    simp at h
   show Value.bool false=Value.bool _
   rw[decide_eq_false (λe=>cM (by subst e;rw[hx]at hy;exact Option.some.inj hy))]
  ·have e:x=y:=by
    have h:(!(x == y))=false:=h
    simpa using h
   subst e
   exact⟨l.length - (i+1),by omega,i+1,by omega,by rw[Zak (by omega) (by omega)];rfl,by rw[List.take_add_one,List.take_add_one,hx,hy,heq],rfl⟩
 ·have hi:i=l.length:=by omega
  subst hi
  show Value.bool true=Value.bool _
  rw[List.take_length,aH,List.take_length]at heq
  rw[decide_eq_true heq]
theorem ZkN(l r:List ByteArray)(a a':Option Addr)(c c':Nat)(m:Mem)(hl:l.length<=1000000000000000)(h1:rowRd m a (Zb8 l))(h2:rowRd m a' (Zb8 r)):
  CX Tryz.prog 42 #[.slice a l.length c,.slice a' r.length c'] m [] (Ret (.bool (decide (l=r)))):=by
 apply ZbW
 refine Zab (λh=>Zaf (Mem.le_refl _) ?_) (λh=>?_)
 ·have cM:¬(l.length:Int)=r.length:=by simpa using h
  show Value.bool false=Value.bool _
  rw[decide_eq_false (λe=>cM (by rw[e]))]
 have aH:l.length=r.length:=by
  have:(l.length:Int)=r.length:=by simpa using h
  omega
 refine⟨λxs _ _ m' q=>∃i:Nat,i<=l.length/\xs=[.int .i64 i]/\l.take i=r.take i/\q=l.length - i,⟨l.length,0,by omega,rfl,rfl,rfl⟩,?_⟩
 rintro n m1 q aE ⟨i,hi,hx,heq,rfl⟩
 obtain rfl:n=i:=by simpa using hx
 refine ZaG (λaC=>?_) (λbL=>Zaf aE ?_)
 ·obtain⟨x,hx⟩:=ZcC (show i < l.length by omega)
  obtain⟨y,hy⟩:=ZcC (show i < r.length by omega)
  obtain⟨b1,o1,fH,dJ⟩:=Zz0 (h1.mono aE) (show(Zb8 l)[i]?=some (.string x) by unfold Zb8;rw[List.getElem?_map,hx];rfl)
  obtain⟨b2,o2,fh,gq⟩:=Zz0 (h2.mono aE) (show(Zb8 r)[i]?=some (.string y) by unfold Zb8;rw[List.getElem?_map,hy];rfl)
  refine⟨b1,o1,fH,⟨by omega,aC⟩,_,dJ,b2,o2,fh,⟨by omega,by omega⟩,_,gq,Zaa rfl (Zab (λh=>Zaf aE ?_) (λh=>?_))⟩
  ·have cM:¬x=y:=by
    intro e
    subst e
    have h:(!(x.toList == x.toList))=true:=h
    simp at h
   show Value.bool false=Value.bool _
   rw[decide_eq_false (λe=>cM (by subst e;rw[hx]at hy;exact Option.some.inj hy))]
  ·have e:x=y:=by
    have h:(!(x.toList == y.toList))=false:=h
    have h:x.toList=y.toList:=by simpa using h
    rw[baL,baL]at h
    have:x.data=y.data:=Array.toList_inj.1 h
    cases x;cases y;exact congrArg _ this
   subst e
   exact⟨l.length - (i+1),by omega,i+1,by omega,by rw[Zak (by omega) (by omega)];rfl,by rw[List.take_add_one,List.take_add_one,hx,hy,heq],rfl⟩
 ·have hi:i=l.length:=by omega
  subst hi
  show Value.bool true=Value.bool _
  rw[List.take_length,aH,List.take_length]at heq
  rw[decide_eq_true heq]
theorem Zs4(m:Mem):CX Tryz.prog 83 #[.int .u8 120] m [] (Ret aeX.v):=by
 apply ZeL
 exact λb b'=>⟨by decide,by decide,by decide,⟨by decide,by decide⟩,Zaa rfl (Zaa rfl (Zaf (Mem.le_refl _) rfl))⟩
theorem Zs5(m:Mem):CX Tryz.prog 83 #[.int .u8 121] m [] (Ret aeY.v):=by
 apply ZeL
 exact λb b'=>⟨by decide,by decide,by decide,⟨by decide,by decide⟩,Zaa rfl (Zaa rfl (Zaf (Mem.le_refl _) rfl))⟩
theorem Zrh{t:T}:∀(v:Value)(m':Mem) (css:List (List Value)),Ret t.v v m' css->Shape.fits (.agg [.int .u8,.int .u64,.int .u64,.int .u64,.int .u64,.int .i64,.int .i64,.slice]) v=true:=λv _ _ h=>by rw[show v=_ from h];rfl
def ExR:Value->Mem->List (List Value)->Prop:=λv m' _=>∃g r c w l s p a r1 r2 S:Option Addr,v=(aeS g r c w l s p a r1 r2 S).v/\RepC m' (aeS g r c w l s p a r1 r2 S)
theorem ZxW:∀(v:Value)(m':Mem) (css:List (List Value)),ExR v m' css->Shape.fits (.agg [.int .i64,.slice,.slice]) v=true:=λv _ _ ⟨_,_,_,_,_,_,_,_,_,_,_,h,_⟩=>by rw[h];rfl
theorem ZBh{m:Mem}{cs:List Value}{f:Nat->Value}{K:Nat->Value->Mem->Prop}(k:∀b M,(m.free b->m.le M)->rowRd M (some ⟨b,0,none⟩) cs->K b (f b) M):∀b:Nat,lX (f b) (λy=>lM (m.add b cs) (λM=>K b y M)):=λb=>k b _ (λhf=>Mem.le_add hf _) Zbi
theorem Zzt{m:Mem}{cs:List Value}{K:Nat->Mem->Prop}(k:∀b M,(m.free b->m.le M)->rowRd M (some ⟨b,0,none⟩) cs->K b M):∀b:Nat,lM (m.add b cs) (λM=>K b M):=λb=>k b _ (λhf=>Mem.le_add hf _) Zbi
theorem ZxX{M:Mem}{k:Int}{b x:Nat}(hk:0<=k/\k < 256)(h:rowRd M (some ⟨b,0,none⟩) (aeN.cs++(aeC x).cs)):RepE M (aeO k (some ⟨b,0,none⟩) x):=by
 rcases h with h|⟨b',o',ha,h⟩
 ·cases h
 cases ha
 unfold aeO
 simp only[RepE,RepEAt]
 refine⟨by show(2:Nat)<=1000000000000000;decide,.inr ⟨b,0,rfl,λj v hj=>h j v ?_,?_,λj v hj=>?_,?_,trivial⟩,⟨hk,by decide,by omega⟩⟩
 ·rw[zA5 (zA0 hj).1];exact hj
 ·simp only[aeN,RepE];exact⟨by decide,.inl trivial,⟨by decide,by decide,by decide⟩⟩
 ·rw[Nat.zero_add,Nat.add_comm,<-Nat.zero_add (j+5)]
  exact h (j+5) v (by rw[zA4 (by show 5<=j+5;omega)];exact hj)
 ·simp only[aeC,RepE];exact⟨by decide,.inl trivial,⟨by decide,by decide,by decide⟩⟩
theorem ZxY(M:Mem):RepE M aeE:=by simp only[aeE,RepE];exact⟨by decide,.inl trivial,⟨by decide,by decide,by decide⟩⟩
theorem ZxZ(M:Mem):Rep M ZAS:=Zlf (by decide) (.inl rfl) (by constructor <;> decide)
theorem Zzu(M:Mem):Rep M aeX:=Zlf (by decide) (.inl rfl) (by constructor <;> decide)
theorem Zzv(M:Mem):Rep M aeY:=Zlf (by decide) (.inl rfl) (by constructor <;> decide)
theorem Zms{M:Mem}{b:Nat}{cs:List Value}(h:rowRd M (some ⟨b,0,none⟩) cs):M.reads b 0 cs:=by
 rcases h with h|⟨b',o',ha,h⟩
 ·subst h;exact λj v hj=>by simp at hj
 ·cases ha;exact h
theorem Zzw{M:Mem}{g:Nat}(h:rowRd M (some ⟨g,0,none⟩) aeX.cs):Rep M (aeG (some ⟨g,0,none⟩)):=by
 refine Zlf (by show(1:Nat)<=1000000000000000;decide) (.inr ⟨g,0,rfl,?_⟩) (show OkN 6 0 0 0 0 0 0 by constructor <;> decide)
 show RepAt M g 0 [aeX]
 simp only[RepAt]
 exact⟨Zms h,Zzu M,trivial⟩
theorem Zzx{M:Mem}{g:Option Addr}{r:Nat}(hg:Rep M (aeG g))(h:rowRd M (some ⟨r,0,none⟩) (aeG g).cs):Rep M (aeR g (some ⟨r,0,none⟩)):=by
 refine Zlf (by show(1:Nat)<=1000000000000000;decide) (.inr ⟨r,0,rfl,?_⟩) (show OkN 5 0 0 0 0 1 (-1) by constructor <;> decide)
 show RepAt M r 0 [aeG g]
 simp only[RepAt]
 exact⟨Zms h,hg,trivial⟩
theorem Zzy{M:Mem}{g r:Option Addr}{c:Nat}(hr:Rep M (aeR g r))(h:rowRd M (some ⟨c,0,none⟩) ((aeR g r).cs++aeY.cs)):Rep M (aeT g r (some ⟨c,0,none⟩)):=by
 have h:=Zms h
 refine Zlf (by show(2:Nat)<=1000000000000000;decide) (.inr ⟨c,0,rfl,?_⟩) (show OkN 3 0 0 0 0 0 0 by constructor <;> decide)
 show RepAt M c 0 [aeR g r,aeY]
 simp only[RepAt]
 refine⟨λj v hj=>h j v ?_,hr,λj v hj=>?_,Zzv M,trivial⟩
 ·rw[zA5 (zA0 hj).1];exact hj
 ·rw[Nat.zero_add,Nat.add_comm,<-Nat.zero_add (j+8)]
  exact h (j+8) v (by rw[zA4 (by show 8<=j+8;omega)];exact hj)
theorem Zx0:I64 5/\I64 1/\I64 0:=by unfold I64;omega
theorem ZpO(m:Mem):CX Tryz.prog 41 #[] m [] ExR:=by
 apply Zf8
 intro b b'
 refine⟨_,trivial,Zs4 m,Zrh,?_⟩
 rintro n n1 n2 n3 n4 n5 n6 a n7 c m1 aE hv
 have hv:Value.agg _=Value.agg _:=hv
 simp only[aeX,T.k,T.s0,T.s1,T.s2,T.s3,T.mn,T.mx,T.a,T.subs,T.c,List.length_nil,Value.agg.injEq,Array.mk.injEq,List.cons.injEq,Value.int.injEq,Value.slice.injEq,true_and,and_true]at hv
 obtain⟨rfl,rfl,rfl,rfl,rfl,rfl,rfl,rfl,rfl,rfl⟩:=hv
 refine Zzt λbg M1 l1 r1=>?_
 intro f1
 have l1:=l1 f1
 intro br f2
 have r2:=Zbi (m:=M1) (b:=br) (cs:=(aeG (some ⟨bg,0,none⟩)).cs)
 have l2:=Mem.le_add f2 (aeG (some ⟨bg,0,none⟩)).cs
 obtain⟨M2,fy⟩:∃M,M=M1.add br (aeG (some ⟨bg,0,none⟩)).cs:=⟨_,rfl⟩
 rw[<-fy]at r2 l2
 refine⟨_,trivial,Zs5 _,Zrh,?_⟩
 rintro n n1 n2 n3 n4 n5 n6 a n7 c m3 aQ hv
 have hv:Value.agg _=Value.agg _:=hv
 simp only[aeY,T.k,T.s0,T.s1,T.s2,T.s3,T.mn,T.mx,T.a,T.subs,T.c,List.length_nil,Value.agg.injEq,Array.mk.injEq,List.cons.injEq,Value.int.injEq,Value.slice.injEq,true_and,and_true]at hv
 obtain⟨rfl,rfl,rfl,rfl,rfl,rfl,rfl,rfl,rfl,rfl⟩:=hv
 have aQ:M2.le m3:=by rw[fy];exact aQ
 refine ZBh λbc M4 l4 r4=>?_
 intro f4 b2
 have l4:=l4 f4
 refine Zzt λbv M5 l5 r5=>?_
 intro f5
 have l5:=l5 f5
 refine ZBh λbl M6 l6 r6=>?_
 intro f6
 have l6:=l6 f6
 refine Zzt λbs M7 l7 r7=>?_
 intro f7
 have l7:=l7 f7
 refine Zzt λbp M8 l8 r8=>?_
 intro f8
 have l8:=l8 f8
 refine Zzt λba M9 l9 r9=>?_
 intro f9
 have l9:=l9 f9
 refine Zzt λbx M10 l10 r10=>?_
 intro f10
 have l10:=l10 f10
 refine Zzt λby' M11 l11 r11=>?_
 intro f11 bS f12
 have l11:=l11 f11
 have r12:=Zbi (m:=M11) (b:=bS) (cs:=([(⟨⟨#[97]⟩,some ⟨bx,0,none⟩,2,[ZqJ (some ⟨bg,0,none⟩) (some ⟨br,0,none⟩) (some ⟨bc,0,none⟩) (some ⟨bl,0,none⟩) (some ⟨bs,0,none⟩) (some ⟨bp,0,none⟩) (some ⟨ba,0,none⟩),Zwa]⟩:Sta),⟨⟨#[98]⟩,some ⟨by',0,none⟩,1,[Zw5]⟩].map Sta.cs).flatten)
 have l12:=Mem.le_add f12 ([(⟨⟨#[97]⟩,some ⟨bx,0,none⟩,2,[ZqJ (some ⟨bg,0,none⟩) (some ⟨br,0,none⟩) (some ⟨bc,0,none⟩) (some ⟨bl,0,none⟩) (some ⟨bs,0,none⟩) (some ⟨bp,0,none⟩) (some ⟨ba,0,none⟩),Zwa]⟩:Sta),⟨⟨#[98]⟩,some ⟨by',0,none⟩,1,[Zw5]⟩].map Sta.cs).flatten
 obtain⟨M12,jy⟩:∃M,M=M11.add bS ([(⟨⟨#[97]⟩,some ⟨bx,0,none⟩,2,[ZqJ (some ⟨bg,0,none⟩) (some ⟨br,0,none⟩) (some ⟨bc,0,none⟩) (some ⟨bl,0,none⟩) (some ⟨bs,0,none⟩) (some ⟨bp,0,none⟩) (some ⟨ba,0,none⟩),Zwa]⟩:Sta),⟨⟨#[98]⟩,some ⟨by',0,none⟩,1,[Zw5]⟩].map Sta.cs).flatten:=⟨_,rfl⟩
 rw[<-jy]at r12 l12
 suffices hS:rtM m M12 ExR (aeS (some ⟨bg,0,none⟩) (some ⟨br,0,none⟩) (some ⟨bc,0,none⟩) (some ⟨bv,0,none⟩) (some ⟨bl,0,none⟩) (some ⟨bs,0,none⟩) (some ⟨bp,0,none⟩) (some ⟨ba,0,none⟩) (some ⟨bx,0,none⟩) (some ⟨by',0,none⟩) (some ⟨bS,0,none⟩)).v by
  rw[jy]at hS;exact hS
 have k11:=l12
 have k10:=mLt l11 k11
 have k9:=mLt l10 k10
 have k8:=mLt l9 k9
 have k7:=mLt l8 k8
 have k6:=mLt l7 k7
 have k5:=mLt l6 k6
 have k4:=mLt l5 k5
 have k3:=mLt l4 k4
 have k2:=mLt aQ k3
 have k1:=mLt l2 k2
 have k0:=mLt aE (mLt l1 k1)
 have hG:=Zzw (r1.mono k1)
 have hR:=Zzx hG (r2.mono k2)
 have hT:=Zzy hR (r4.mono k4)
 refine ZaH k0 ⟨some ⟨bg,0,none⟩,some ⟨br,0,none⟩,some ⟨bc,0,none⟩,some ⟨bv,0,none⟩,some ⟨bl,0,none⟩,some ⟨bs,0,none⟩,some ⟨bp,0,none⟩,some ⟨ba,0,none⟩,some ⟨bx,0,none⟩,some ⟨by',0,none⟩,some ⟨bS,0,none⟩,rfl,?_⟩
 have xO:RepA M12 (ZAQ (some ⟨bl,0,none⟩)):=⟨by show(0:Int)<=3/\(3:Int) < 256;decide,by show(ByteArray.mk #[110]).size<=_;decide,by show 0<=few;decide,.inl rfl,(λp hp=>by cases hp),ZxX (by decide) (r6.mono k6)⟩
 have xP:RepA M12 (ZAR (some ⟨bs,0,none⟩) (some ⟨bp,0,none⟩)):=by
  refine⟨by show(0:Int)<=1/\(1:Int) < 256;decide,by show(ByteArray.mk #[]).size<=_;decide,by show 2<=few;decide,r8.mono k8,λp hp=>?_,ZxY _⟩
  have hp:p∈[ZBf,ZBg (some ⟨bs,0,none⟩)]:=hp
  simp only[List.mem_cons,List.not_mem_nil,or_false]at hp
  rcases hp with rfl|rfl
  ·exact⟨by decide,by decide,by show I64 1;unfold I64;omega,ZxY _⟩
  ·exact⟨by show(0:Int)<=4/\(4:Int) < 256;decide,by show(ByteArray.mk #[]).size<=_;decide,by show I64 0;unfold I64;omega,ZxX (by decide) (r7.mono k7)⟩
 refine⟨by show I64 9;unfold I64;omega,by show 1<=few;decide,r5.mono k5,?_,by show 2<=few;decide,r12,?_,Nat.le_refl _,Nat.le_refl _⟩
 ·intro v hv
  have hv:v∈[(⟨⟨#[110]⟩,true,⟨#[]⟩,0⟩:Va)]:=hv
  rw[List.mem_singleton]at hv;subst hv
  exact⟨by decide,by decide⟩
 ·intro x hx
  have hx:x∈[(⟨⟨#[97]⟩,some ⟨bx,0,none⟩,2,[ZqJ _ _ _ _ _ _ _,Zwa]⟩:Sta),⟨⟨#[98]⟩,some ⟨by',0,none⟩,1,[Zw5]⟩]:=hx
  simp only[List.mem_cons,List.not_mem_nil,or_false]at hx
  rcases hx with rfl|rfl
  ·refine⟨by show(ByteArray.mk #[97]).size<=_;decide,by show 2<=few;decide,r10.mono k10,λr hr=>?_⟩
   simp only[List.mem_cons,List.not_mem_nil,or_false]at hr
   rcases hr with rfl|rfl
   ·refine⟨by show(0:Int)<=1/\(1:Int) < 256;decide,hT,by show(ByteArray.mk #[]).size<=_;decide,by show I64 0;unfold I64;omega,by show 2<=few;decide,r9.mono k9,λp hp=>?_,by show(ByteArray.mk #[98]).size<=_;decide,by show I64 0;unfold I64;omega⟩
    have hp:p∈[ZAQ (some ⟨bl,0,none⟩),ZAR (some ⟨bs,0,none⟩) (some ⟨bp,0,none⟩)]:=hp
    simp only[List.mem_cons,List.not_mem_nil,or_false]at hp
    rcases hp with rfl|rfl
    ·exact xO
    ·exact xP
   ·exact⟨by decide,ZxZ _,by decide,Zx0.1,by decide,.inl rfl,(λp hp=>by cases hp),by decide,Zx0.2.1⟩
  ·refine⟨by show(ByteArray.mk #[98]).size<=_;decide,by show 1<=few;decide,r11.mono k11,λr hr=>?_⟩
   simp only[List.mem_cons,List.not_mem_nil,or_false]at hr
   subst hr
   exact⟨by decide,ZxZ _,by decide,Zx0.2.2,by decide,.inl rfl,(λp hp=>by cases hp),by decide,Zx0.2.2⟩
theorem ZkO{a b c d e f:Int}:∀(v:Value)(m':Mem) (css:List (List Value)),Ret (.agg (msV a b c d e f).toArray) v m' css->Shape.fits (.agg [.int .i64,.int .i64,.int .i64,.int .i64,.int .i64,.int .i64]) v=true:=λv _ _ h=>by rw[show v=_ from h];rfl
set_option maxHeartbeats 1000000 in
theorem ZpP(m:Mem):CX Tryz.prog 9 #[] m [] (Ret (.bool true)):=by
 apply Zh3
 refine⟨_,trivial,ZpO m,ZxW,?_⟩
 rintro n a n1 c a1 n2 c1 m1 aE ⟨g,r,cc,w,l,s,p,a0,r1,r2,S,hv,hr⟩ b1
 obtain⟨sc,kx⟩:∃sc,sc=aeS g r cc w l s p a0 r1 r2 S:=⟨_,rfl⟩
 rw[<-kx]at hv hr
 have hl:sc.light=true:=by rw[kx];exact Zu1 g r cc w l s p a0 r1 r2 S
 have jD:sc.places.length=11:=by rw[kx];exact Zsv g r cc w l s p a0 r1 r2 S
 have xQ:sc.places[5]?=some ⟨-1,0,0,1,-1⟩:=by rw[kx];exact Zsw g r cc w l s p a0 r1 r2 S
 have bE:Zir sc=msV 2 3 5 2 2 2:=by rw[kx];exact Zw6 g r cc w l s p a0 r1 r2 S
 have u5:Zir (Zv5 sc 0 0)=msV 2 2 0 0 0 0:=by rw[kx];exact Zu2 g r cc w l s p a0 r1 r2 S
 have kJ:sc.states[0]?=some ⟨⟨#[97]⟩,r1,2,[ZqJ g r cc l s p a0,Zwa]⟩:=by rw[kx];rfl
 have eL:sc.states[1]?=some ⟨⟨#[98]⟩,r2,1,[Zw5]⟩:=by rw[kx];rfl
 have js:sc.states.length=2:=by rw[kx];rfl
 have xR:Zsr sc.states ⟨⟨#[97]⟩,r1,2,[ZqJ g r cc l s p a0,Zwa]⟩=[1]:=by rw[kx];exact Zw8 g r cc w l s p a0 r1 r2 S
 have xS:Zsr sc.states ⟨⟨#[98]⟩,r2,1,[Zw5]⟩=[]:=by rw[kx];exact Zw9 g r cc w l s p a0 r1 r2 S
 obtain⟨rfl,rfl,rfl,rfl,rfl,rfl,rfl⟩:=Zs3 hv
 obtain⟨b2,o2,fh,km⟩:=Zai Sta.len hr.row kJ (by decide)
 have cK:=hr.all _ (zA2 kJ)
 have gE:(⟨⟨#[97]⟩,r1,2,[ZqJ g r cc l s p a0,Zwa]⟩:Sta).rules[0]?=some (ZqJ g r cc l s p a0):=rfl
 obtain⟨b3,o3,fu,j5⟩:=Zai Ru.len cK.row gE (by decide)
 have jE:=cK.all _ (zA2 gE)
 refine⟨b2,o2,fh,⟨by omega,by omega⟩,_,km 1 _ rfl,Zaa rfl ⟨b3,o3,fu,⟨by show(0:Int)<=0;omega,by show(0:Int) < ((2:Nat):Int);omega⟩,_,_,_,_,_,_,_,_,_,_,_,_,_,_,_,_,j5,λb4=>Zaa rfl ?_⟩⟩
 refine Zan (Zs1 sc m1 hr) ZoB ?_
 rintro pa pn pc m2 aK ⟨pa',pc',tI,p8⟩
 simp only[Value.slice.injEq]at tI
 obtain⟨rfl,rfl,rfl⟩:=tI
 rw[jD]
 refine⟨_,trivial,ZxV sc 0 0 m2 (hr.mono aK) hl kJ (Nat.zero_lt_two),Zs2,?_⟩
 rintro n3 a3 n4 c3 a4 n5 c4 n6 m3 aQ ⟨sd,vC,xU,sA⟩ b5
 have tO:(Value.agg #[.int .i64 n3,.slice a3 n4 c3,.slice a4 n5 c4]=sd.v)/\n6=0:=by
  simp only[Value.tuple.injEq,Array.mk.injEq,List.cons.injEq,Value.int.injEq,true_and,and_true]at vC
  exact vC
 obtain⟨xV,rfl⟩:=tO
 have oA:=mLt aK aQ
 refine Zan (Zht sc m3 (hr.mono oA)) Zmp ?_
 rintro ta tn tc m4 bZ ⟨ta',tc',L',cH,hO,mJ,p9⟩
 simp only[Value.slice.injEq]at cH
 obtain⟨rfl,rfl,rfl⟩:=cH
 rw[hl,if_pos rfl]at hO
 have xW:L'.length=2:=by
  have:=congrArg List.length hO
  rw[List.length_map,List.length_map,js]at this;exact this
 obtain⟨y0,oN⟩:=ZcC (show 0 < L'.length by omega)
 obtain⟨y1,oF⟩:=ZcC (show 1 < L'.length by omega)
 have e0:y0.l=[1]:=by
  have:=congrArg (λl=>l[0]?) hO
  simp only[List.getElem?_map,oN,kJ,Option.map_some,Option.some.injEq]at this
  rw[this,xR]
 have e1:y1.l=[]:=by
  have:=congrArg (λl=>l[1]?) hO
  simp only[List.getElem?_map,oF,eL,Option.map_some,Option.some.injEq]at this
  rw[this,xS]
 have im:=mLt oA bZ
 have hz:=Zmr sc m4 (hr.mono im)
 rw[bE]at hz
 refine⟨false,Zn4 rfl (Zn4 rfl ⟨rfl,by rw[xW];rfl⟩),Zn4 rfl ⟨_,trivial,hz,ZkO,?_⟩⟩
 rintro z1 z2 z3 z4 z5 z6 m5 cO ic
 have ic:Value.agg _=Value.agg _:=ic
 simp only[msV,Value.agg.injEq,Array.mk.injEq,List.cons.injEq,Value.int.injEq,true_and,and_true]at ic
 obtain⟨rfl,rfl,rfl,rfl,rfl,rfl⟩:=ic
 have pO:=mLt im cO
 obtain⟨b6,o6,iL,tP⟩:=Zai Il.len mJ oN (by omega)
 obtain⟨b7,o7,tA,tQ⟩:=Zai Il.len mJ oF (by omega)
 refine⟨_,ZyJ 2 3 5 2 2 2 2 3 5 2 2 2,ZqY rfl ⟨b6,o6,iL,⟨by omega,by omega⟩,_,(tP.mono cO) 0 _ rfl,λb8 nS=>?_⟩⟩
 have hE:=ZjT y0.l [1] y0.a (some ⟨b8,0,none⟩) y0.c 1 (m5.add b8 [.int .i64 1]) (by rw[e0];decide) ((p9 y0 (zA2 oN)).mono (mLt cO (Mem.le_add nS _))) Zbi
 rw[decide_eq_true e0]at hE
 refine Zah hE λm6 eY=>ZqY rfl ⟨b7,o7,tA,⟨by omega,by omega⟩,_,(tQ.mono (mLt cO (mLt (Mem.le_add nS _) eY))) 0 _ rfl,Zaa rfl (ZqY (by show(((y1.l.length:Nat):Int) == 0)=true;rw[e1];rfl) ?_)⟩
 have lx:=mLt pO (mLt (Mem.le_add nS _) eY)
 have vD:=ZvH (ZqJ g r cc l s p a0) m6 (jE.mono lx)
 rw[Zu3]at vD
 refine Zan vD Zop ?_
 rintro ra rn rc m7 fD ⟨ra',rc',vE,qa⟩
 simp only[Value.slice.injEq]at vE
 obtain⟨rfl,rfl,rfl⟩:=vE
 intro b9 rb
 have vF:=ZkN [⟨#[110]⟩] [⟨#[110]⟩] ra (some ⟨b9,0,none⟩) rc 1 (m7.add b9 [.string ⟨#[110]⟩]) (by decide) (qa.mono (Mem.le_add rb _)) Zbi
 rw[decide_eq_true rfl]at vF
 refine Zah vF λm8 eZ=>ZqY rfl ?_
 have oC:=mLt lx (mLt fD (mLt (Mem.le_add rb _) eZ))
 have vG:=Zs0 (ZqJ g r cc l s p a0) m8 (jE.mono oC)
 rw[Zsx]at vG
 refine Zan vG Zop ?_
 rintro wa wn wc m9 gT ⟨wa',wc',q9,qb⟩
 simp only[Value.slice.injEq]at q9
 obtain⟨rfl,rfl,rfl⟩:=q9
 intro b10 gU
 have vH:=ZkN [⟨#[110]⟩] [⟨#[110]⟩] wa (some ⟨b10,0,none⟩) wc 1 (m9.add b10 [.string ⟨#[110]⟩]) (by decide) (qb.mono (Mem.le_add gU _)) Zbi
 rw[decide_eq_true rfl]at vH
 refine Zah vH λm10 fJ=>ZqY rfl ?_
 have qc:=mLt oC (mLt gT (mLt (Mem.le_add gU _) fJ))
 have vI:=ZxR (ZqJ g r cc l s p a0) m10 (jE.mono qc)
 rw[Zw7]at vI
 refine Zco vI λm11 gd=>ZqY rfl ?_
 have lD:=mLt qc gd
 have xX:m2.le m11:=mLt aQ (mLt bZ (mLt cO (mLt (Mem.le_add nS _) (mLt eY (mLt fD (mLt (Mem.le_add rb _) (mLt eZ (mLt gT (mLt (Mem.le_add gU _) (mLt fJ gd))))))))))
 obtain⟨b12,o12,nU,ky⟩:=Zai (λp:Pl=>(rfl:p.cs.length=5)) (p8.mono xX) xQ (Nat.zero_lt_succ 4)
 refine⟨b12,o12,nU,⟨by omega,by omega⟩,_,_,_,_,_,ky,_,Zzs ⟨-1,0,0,1,-1⟩ ⟨-1,0,0,1,-1⟩,ZqY rfl ?_⟩
 have xY:m3.le m11:=mLt bZ (mLt cO (mLt (Mem.le_add nS _) (mLt eY (mLt fD (mLt (Mem.le_add rb _) (mLt eZ (mLt gT (mLt (Mem.le_add gU _) (mLt fJ gd)))))))))
 have vJ:=Zmr sd m11 (sA.mono xY)
 rw[ZqN xU,u5,<-xV]at vJ
 refine⟨_,trivial,vJ,ZkO,?_⟩
 rintro y1 y2 y3 y4 y5 y6 m12 jz re
 have re:Value.agg _=Value.agg _:=re
 simp only[msV,Value.agg.injEq,Array.mk.injEq,List.cons.injEq,Value.int.injEq,true_and,and_true]at re
 obtain⟨rfl,rfl,rfl,rfl,rfl,rfl⟩:=re
 exact⟨_,ZyJ 2 2 0 0 0 0 2 2 0 0 0 0,Zaf (mLt aE (mLt lD jz)) rfl⟩
end Go.Proofs.YtpjepnkiiojgfaaGreat
namespace Go.Proofs.YtpjepnkiiojgfaaGreat
open Go Go.Eng Go.Proofs Go.RowKit
open Go.Value (int slice agg bool string tuple func)
open Go.IntKind (u8 u64 i64)
set_option maxRecDepth 100000
end Go.Proofs.YtpjepnkiiojgfaaGreat
namespace Go.Proofs.YtpjepnkiiojgfaaGreat
open Go Go.Eng Go.Rx Go.Proofs Go.RowKit
set_option maxRecDepth 100000
end Go.Proofs.YtpjepnkiiojgfaaGreat
namespace Go.Proofs.YtpjepnkiiojgfaaGreat
open Go Go.Eng Go.Proofs Go.RowKit
open Go.Value (int slice agg bool string tuple func)
open Go.IntKind (u8 u64 i64)
set_option maxRecDepth 100000
end Go.Proofs.YtpjepnkiiojgfaaGreat
namespace Go.Proofs.YtpjepnkiiojgfaaGreat
open Go Go.Eng Go.Rx Go.Proofs Go.RowKit
set_option maxRecDepth 100000
def Zz3(b:Bool)(n:Nat):Value:=.tuple #[.int .i64 (if b then(n:Int)else 0),.bool b]
theorem ZvJ{b:Bool}{n:Nat}:∀(v:Value)(m':Mem) (css:List (List Value)),Ret (Zz3 b n) v m' css->Shape.fits (.tup [.int .i64,.bool]) v=true:=λv _ _ h=>by rw[show v=_ from h];rfl
theorem Zx1{b b':Bool}{n:Nat}{z:Int}{m':Mem}(h:Ret (Zz3 b n) (.tuple #[.int .i64 z,.bool b']) m' []):z=(if b then(n:Int)else 0)/\b'=b:=by
 have h:Value.tuple _=Zz3 b n:=h
 simpa[Zz3]using h
theorem ZvK(s:Sc)(name:ByteArray)(m:Mem)(hr:RepC m s)(hl:s.light=true):CX Tryz.prog 16 #[s.v,.string name] m [] (Ret (Zz3 (s.states.any λx=>eqS x.s name) (s.states.findIdx λx=>eqS x.s name))):=by
 apply Zom
 intro b m1 aE _ b1 m2 aK eD
 have eR:=hr.len
 unfold few at eR
 have bU:=mLt aE aK
 refine Zco (ZpG s.states s.sa s.sc _ [.pointer (some ⟨b1,0,none⟩)] (λx=>eqS x.s name) m2 (by omega) (hr.row.mono bU) λx _ m' hm'=>ZvA x name b1 m' (eD.mono hm')) λm3 aQ=>?_
 have dQ:=mLt bU aQ
 have hL:=Zb9 s m3 (hr.mono dQ)
 rw[hl]at hL
 cases h:s.states.any (λx=>eqS x.s name)with
 | true=>exact⟨false,Zn4 (decide_eq_false (by simp)) (Zah hL λm4 bZ=>⟨rfl,rfl⟩),Zn4 rfl (Zaf dQ rfl)⟩
 | false=>exact⟨true,ZqY rfl ⟨rfl,rfl⟩,ZqY rfl (Zaf dQ rfl)⟩
end Go.Proofs.YtpjepnkiiojgfaaGreat
namespace Go.Proofs.YtpjepnkiiojgfaaGreat
open Go Go.Eng Go.Proofs Go.RowKit
open Go.Value (int slice agg bool string tuple func)
open Go.IntKind (u8 u64 i64)
set_option maxRecDepth 100000
def Zh4:Env:={ EB with
 loops:=(λi=>bif Nat.beq i 5 then⟨[(23,.int .i64)],[],[],false⟩ else bif Nat.beq i 8 then⟨[(33,.int .i64)],[],[],false⟩ else⟨[],[],[],false⟩)
 joins:=(λi=>bif Nat.beq i 2 then some [(18,.bool)]else none)
 frzNew:=[3]
 thaw:=true
 stAt:=(λi=>bif Nat.beq i 51 then some 999 else none)
 kF:=true }
theorem Zg6(aA:Int)(aW:Option Addr)(aP aX:Nat)(aN:Option Addr)(aJ aV:Nat)(p1 p2:ByteArray)(m:Mem)(R:RT)(h:
 lV [int i64 aA,slice aW aP aX,slice aN aJ aV] λxL=>fzM m xL λb m'=>lE [some (Box.mk b xL 32 3 true true)] λxL_1=>m.free b->(∀(b' o:Nat)(u:Value),m' b' o=some u->m b' o
 = some u\/b'=b)->Mem.k m b=none->∀(b_1:Nat),∃(R_1:RT),lE (some (Box.mk b_1 [int i64 0,slice none 0 0,slice none 0 0] 32 3 false true)::xL_1) λxL_2=>True/\CX Tryz.prog 18 (Array.mk [agg (Array.mk
 xL)]) m' [] R_1/\ZbC (Shape.agg [Shape.int i64,Shape.slice,Shape.slice]) R_1/\∀(n:Int)(a:Option Addr)(n_1 c:Nat)(a_1:Option Addr)(n_2 c_1:Nat)(m'_1:Mem),lV [int i64 n,slice a n_1 c,slice a_1
 n_2 c_1] λxL=>lX (agg (Array.mk xL)) λyL=>m'.le m'_1->R_1 yL m'_1 []->∀(b_2:Nat),∃(b_3:Bool),lE (some (Box.mk b_2 xL 32 3 false true)::xL_2) λxL=>br (ByteArray.toList p1 ==
 ByteArray.toList bE0) (Zac xL/\[bool true]=[bool b_3]) (Zac xL/\[bool (ByteArray.toList p2 == ByteArray.toList bE0)]=[bool b_3])/\br b_3 (rtM m m'_1 R yL)
 (∃(I:IT),inI I [int i64 0] [] [] m'_1/\∀(n:Int)(m':Mem)(n_3:Nat),True->I [int i64 n] [] [] m' n_3->br (decide (n < (↑n_2:Int))) (atA a_1 λb_4 o=>Zad n n_2/\∃(v:Value),m' b_4 (o +
 Int.toNat n*2+1)=some v/\chk (ZbM v) (∃(I_1:IT),inI I_1 [int i64 0] [] [] m'/\∀(n_4:Int)(m':Mem)(n_5:Nat),lE (Int.toNat n_4*16) λyL=>lV [int i64 (i64.wrap (n_4+(1:Int)))] fun
 xL_3=>True->I_1 [int i64 n_4] [] [] m' n_5->br (decide (n_4 < (↑(slN v):Int))) (chk (ZbM v) (atA (slA v) λb_5 o=>Zad n_4 (slN v)/\∃v v_1 v_2 v_3 v_4 v_5 v_6 v_7 v_8 v_9 v_10 v_11 v_12 v_13 v_14 v_15:Value,m'.reads b_5
 (o+yL) [v,v_1,v_2,v_3,v_4,v_5,v_6,v_7,v_8,v_9,v_10,v_11,v_12,v_13,v_14,v_15]/\∀(b_6:Nat),chk (v.oneCell'&&(v_1.oneCell'&&(v_2.oneCell'&&(v_3.oneCell' &&
 (v_4.oneCell'&&(v_5.oneCell'&&(v_6.oneCell'&&(v_7.oneCell'&&(v_8.oneCell'&&(v_9.oneCell'&&(v_10.oneCell'&&(v_11.oneCell'&&(v_12.oneCell' &&
 (v_13.oneCell'&&(v_14.oneCell'&&(v_15.oneCell'&&true)))))))))))))))) (chk (Zfh v_14&&true) (br (ByteArray.toList (ZbX v_14) == ByteArray.toList p1) (atA a_1 λb_7 o=>Zad n n_2/\∃
 (v:Value),m' b_7 (o+Int.toNat n*2+1)=some v/\chk (ZbM v) (atA (slA v) λb_8 o=>Zad n_4 (slN v)/\(∃(vs:List Value),vs.length=1/\m'.reads b_8 (o+yL+14) vs)/\m.free b_8/\true
 = true/\b≠b_8/\Zac xL/\nxI n_5 I_1 xL_3 [] [] (Mem.upd m' b_8 (o+yL+14) [string p2]))) (Zac xL/\nxI n_5 I_1 xL_3 [] [] m'))))) (Zac xL/\nxI n_3 I [int i64 (i64.wrap (n+(1:Int)))] [] []
 m'))) (rtM m m' R yL))):CX Tryz.prog 33 #[.agg #[.int .i64 aA,.slice aW aP aX,.slice aN aJ aV],.string p1,.string p2] m [] R:=
 Zae (E:=Zh4) Zao mix Tryz.func33 (by kernel_rfl) (Eq.mp (by kernel_rfl) h)
end Go.Proofs.YtpjepnkiiojgfaaGreat
namespace Go.Proofs.YtpjepnkiiojgfaaGreat
open Go Go.Eng Go.Rx Go.Proofs Go.RowKit
set_option maxRecDepth 100000
def Zv8(f t:ByteArray)(s:Sc):Value->Mem->List (List Value)->Prop:=λv m' _=>∃s':Sc,v=s'.v/\s'.er=(Zmk f t s).er/\RepC m' s'
theorem Zhv{f t:ByteArray}{s:Sc}:∀(v:Value)(m':Mem) (css:List (List Value)),Zv8 f t s v m' css->Shape.fits (.agg [.int .i64,.slice,.slice]) v=true:=λv _ _ ⟨t,e,_⟩=>by rw[e];rfl
structure RedSt (f t:ByteArray)(s':Sc)(m3:Mem)(i k:Nat)(M:Mem):Prop where
 base:(m3.off (RuB s')).le M
 rows:∀j x,s'.states[j]?=some x->rowRd M x.ra ((ZtW f t i k j x).map Ru.cs).flatten
set_option maxHeartbeats 1000000 in
theorem ZfR(s:Sc)(f t:ByteArray)(m:Mem)(hr:RepC m s)(hl:s.light=true)(ht:t.size<=1000000000000000):CX Tryz.prog 33 #[s.v,.string f,.string t] m [] (Zv8 f t s):=by
 have eR:s.states.length<=100000:=hr.len
 apply Zg6
 intro b m1 aE jx fW vh fl b1
 refine⟨_,trivial,Zuc s m1 (hr.mono aE) hl,Zre,?_⟩
 rintro n a p c a1 p1 c1 m3 aQ ⟨s',hv,nT,cX,bQ⟩ b2
 obtain⟨rfl,rfl,rfl,rfl,rfl,rfl,rfl⟩:=Zs3 hv
 have dQ:=mLt aE aQ
 have mK:=cX.mono (Zgd m1 m3)
 refine⟨eqS f ⟨#[]⟩||eqS t ⟨#[]⟩,?_,?_⟩
 ·refine Zab (λh=>⟨rfl,?_⟩) (λh=>⟨rfl,?_⟩)
  ·have h:eqS f ⟨#[]⟩=true:=h
   rw[h];rfl
  ·have h:eqS f ⟨#[]⟩=false:=h
   rw[h];rfl
 refine Zab (λh=>ZaH dQ ⟨s',rfl,by unfold Zmk;rw[if_pos h];exact nT,mK⟩) (λh=>?_)
 have io:Zmk f t s'=Zwb (λ_ x=>x.rules.map (ZcZ f t)) s':=by unfold Zmk;rw[if_neg (by rw[h];decide)]
 have qd:=Zxi (f:=f) (t:=t) nT
 have aH:=Zy1 nT
 rcases bQ with h0|⟨bS,μ,bQ⟩
 ·refine⟨λxs _ _ mm q=>xs=[.int .i64 0]/\m3.le mm,⟨0,rfl,Mem.le_refl _⟩,?_⟩
  rintro z mm q _ ⟨hz,ft⟩
  obtain rfl:z=0:=by simpa using hz
  refine Zn4 (by rw[h0];rfl) (ZaH (mLt dQ ft) ⟨s',rfl,?_,mK.mono ft⟩)
  rw[<-qd,io]
  exact Zmd rfl rfl (by show s'.states.map Sta.er=(s'.states.mapIdx _).map Sta.er;rw[h0];rfl)
 have qy:∀{q:Nat},RuB s' q->m1.free q/\m1.k q=none:=λhq=>Zxd bQ hq
 have fI:m.le (m3.off (RuB s')):=Ze3 dQ λq hq=>⟨Zbk aE (qy hq).1,Zer aE (qy hq).2⟩
 have bO:∀{i:Nat} {x:Sta},s'.states[i]?=some x->∀M:Mem,(m3.off (RuB s')).le M->M bS (0+i*2+1)=some (.slice x.ra x.rules.length x.rc):=λ{i x} hx M hM=>hM _ _ _ (by
  obtain⟨bs0,o0,j6,bW⟩:=Zai Sta.len cX.row hx (by omega)
  rw[bQ.sa]at j6
  simp only[Option.some.injEq,Addr.mk.injEq,and_true]at j6
  obtain⟨rfl,rfl⟩:=j6
  rw[Mem.off_at (Y:=RuB s') (λh=>Zxe bQ h)];exact(Zgd m1 m3) _ _ _ (bW 1 _ rfl))
 refine⟨λxs _ _ mm q=>∃i:Nat,i<=s'.states.length/\xs=[.int .i64 i]/\RedSt f t s' m3 i 0 mm/\q=s'.states.length - i,⟨_,0,by omega,rfl,⟨Mem.off_le _ _,λj x hx=>?_⟩,rfl⟩,?_⟩
 ·have e:ZtW f t 0 0 j x=x.rules:=by
   unfold ZtW;rw[if_neg (by omega)]
   split
   ·exact ZnU _ _ _
   ·rfl
  rw[e]
  exact((cX.all x (zA2 hx)).row).mono (Zgd _ _)
 rintro z mm q _ ⟨i,hi,hz,hS,rfl⟩
 obtain rfl:z=i:=by simpa using hz
 have jG:IntKind.i64.wrap ((i:Int)+1)=((i+1:Nat):Int):=by rw[Zak (by omega) (by omega)];rfl
 refine ZaG (λaC=>?_) (λbL=>?_)
 ·have aC:(i:Int) < (s'.states.length:Nat):=aC
  obtain⟨x,hx⟩:=ZcC (show i < s'.states.length by omega)
  have iZ:x.rules.length<=100000:=(cX.all x (zA2 hx)).len
  refine⟨bS,0,bQ.sa,⟨by omega,aC⟩,_,bO hx mm hS.base,Zaa rfl ⟨λxs _ _ mm q=>∃k:Nat,k<=x.rules.length/\xs=[.int .i64 k]/\RedSt f t s' m3 i k mm/\q=x.rules.length - k,⟨_,0,by omega,rfl,hS,rfl⟩,?_⟩⟩
  rintro z mk q _ ⟨k,hk,hz,hS,rfl⟩
  obtain rfl:z=k:=by simpa using hz
  have iV:IntKind.i64.wrap ((k:Int)+1)=((k+1:Nat):Int):=by rw[Zak (by omega) (by omega)];rfl
  refine ZaG (λdO=>?_) (λdX=>?_)
  ·have dO:(k:Int) < (x.rules.length:Nat):=dO
   obtain⟨r,fU⟩:=ZcC (show k < x.rules.length by omega)
   have hn:x.rules≠[]:=λe=>by rw[e]at fU;simp at fU
   obtain⟨_,⟨_,iF⟩,_,_⟩:=bQ.all i x hx
   rcases iF with h1|⟨bR,oG,oE,vv,_⟩
   ·exact absurd h1 hn
   have xZ:RuB s' bR:=⟨i,x,hx,hn,oG⟩
   have hg:∀k,ZtW f t i k i x=Zsy f t k x.rules:=λk=>by unfold ZtW;rw[if_neg (by omega),if_pos rfl]
   have oD:∀{j:Nat} (y:Sta),j≠i->ZtW f t i (k+1) j y=ZtW f t i k j y:=λ{j} y hj=>by
    unfold ZtW;rw[if_neg hj,if_neg hj]
   have aB:=hS.rows i x hx
   rw[hg,oG]at aB
   obtain⟨b5,o5,ly,qg⟩:=Zai Ru.len aB (ZqQ fU) (by omega)
   cases ly
   refine Zaa rfl ⟨bR,0,oG,⟨by omega,dO⟩,_,_,_,_,_,_,_,_,_,_,_,_,_,_,_,_,qg,λb6=>Zaa rfl (Zaa rfl (Zab (λh=>?_) (λh=>⟨rfl,x.rules.length - (k+1),by omega,k+1,by omega,by rw[iV],⟨hS.base,λj y hy=>?_⟩,rfl⟩)))⟩
   ·have h:eqS r.go f=true:=h
    refine⟨bS,0,bQ.sa,⟨by omega,aC⟩,_,bO hx mk hS.base,Zaa rfl ⟨bR,0,oG,⟨by show(0:Int)<=k;omega,dO⟩,⟨[.string r.go],rfl,λj v hj=>?_⟩,Zbk aE oE,rfl,λe=>?_,rfl,x.rules.length - (k+1),by omega,k+1,by omega,by rw[iV],⟨⟨λq o v hq=>?_,λq e he=>?_⟩,λj y hy=>?_⟩,rfl⟩⟩
    ·cases j with
     | zero=>
      obtain rfl:v=.string r.go:=by simpa using hj.symm
      exact qg 14 _ rfl
     | succ j=>simp at hj
    ·have:=jx 0 _ rfl
     rw[e]at this
     rw[oE]at this;cases this
    ·by_cases lP:RuB s' q
     ·rw[Mem.off_free lP]at hq;cases hq
     ·rw[Mem.upd_other _ (λe:q=bR=>lP (by rw[e];exact xZ))];exact hS.base _ _ _ hq
    ·exact hS.base.k q e he
    ·by_cases hj:j=i
     ·subst hj
      rw[hx]at hy;cases hy
      rw[hg,ZnT fU,show ZcZ f t r=goR t r by unfold ZcZ;rw[if_pos h],oG]
      exact Zxj t aB (ZqQ fU)
     ·rw[oD y hj]
      have gq:=hS.rows j y hy
      rcases gq with h2|⟨b',o',ha',h2⟩
      ·exact .inl h2
      ·refine .inr ⟨b',o',ha',λjj v qS=>?_⟩
       have vK:y.rules≠[]:=λe=>by
        have:=(zA0 qS).1
        rw[ZaY Ru.len,Zu7,e]at this;simp at this
       obtain⟨_,⟨_,iF⟩,_,_⟩:=bQ.all j y hy
       rcases iF with h1|⟨bY,ol,_⟩
       ·exact absurd h1 vK
       rw[ol]at ha';cases ha'
       have cM:=Zy9 bQ hx hy (Ne.symm hj) hn vK oG ol
       rw[Mem.upd_other _ (λe=>cM e.symm)];exact h2 jj v qS
   ·have h:eqS r.go f=false:=h
    by_cases hj:j=i
    ·subst hj
     rw[hx]at hy;cases hy
     rw[hg,Zsz fU h,<-hg]
     exact hS.rows _ _ hx
    ·rw[oD y hj];exact hS.rows j y hy
  ·have dX:¬(k:Int) < (x.rules.length:Nat):=dX
   have x0:k=x.rules.length:=by omega
   refine⟨rfl,s'.states.length - (i+1),by omega,i+1,by omega,by rw[jG],⟨hS.base,λj y hy=>?_⟩,rfl⟩
   have e:ZtW f t (i+1) 0 j y=ZtW f t i k j y:=by
    unfold ZtW
    rcases Nat.lt_trichotomy j i with h1|h1|h1
    ·rw[if_pos (by omega),if_pos h1]
    ·subst h1
     rw[hx]at hy;cases hy
     rw[if_pos (by omega),if_neg (by omega),if_pos rfl,x0,ZsA]
    ·rw[if_neg (show ¬j < i+1 by omega),if_neg (show ¬j < i by omega),if_neg (show ¬j=i by omega)]
     split
     ·rw[ZnU]
     ·rfl
   rw[e];exact hS.rows j y hy
 ·have bL:¬(i:Int) < (s'.states.length:Nat):=bL
  refine ZaH (mLt fI hS.base) ⟨Zwb (λ_ x=>x.rules.map (ZcZ f t)) s',by simp only[Sc.v,Zwb,List.length_mapIdx],by rw[<-qd,io],?_⟩
  refine Zxg cX bQ (λj x hx=>by simp) hS.base (λj x hx=>?_) (λj x hx r hr=>?_)
  ·have hj:=(zA0 hx).1
   have:=hS.rows j x hx
   unfold ZtW at this
   rwa [if_pos (by omega)]at this
  ·obtain⟨q,hq,rfl⟩:=List.mem_map.1 hr
   exact Zu8 ((Zxf bQ hx hq).mono hS.base) ht
end Go.Proofs.YtpjepnkiiojgfaaGreat
namespace Go.Proofs.YtpjepnkiiojgfaaGreat
open Go Go.Eng Go.Proofs Go.RowKit
open Go.Value (int slice agg bool string tuple func)
open Go.IntKind (u8 u64 i64)
set_option maxRecDepth 100000
def ZaR:Env:={ EB with
 loops:=(λi=>bif Nat.beq i 4 then⟨[(17,.int .i64)],[],[],false⟩ else⟨[],[],[],false⟩) }
theorem ZaP(p0a:Option Addr)(p0n p0c:Nat)(p1a:Option Addr)(p1n p1c p2g:Nat)(p2fi p2ca:List Value)(m:Mem)(R:RT)(h:
 br (!(↑p0n:Int) == (↑p1n:Int)) (rtM m m R (bool false)) (∃(I:IT),inI I [int i64 0] [] [] m/\∀(n:Int)(m':Mem)(n_1:Nat),m.le m'->I [int i64 n] [] [] m' n_1->br (decide (n < (↑p0n:Int))) (atA p0a
 λb o=>Zad n p0n/\∃v v_1 v_2 v_3:Value,m'.reads b (o+Int.toNat n*4) [v,v_1,v_2,v_3]/\∀(b:Nat),chk (v.oneCell'&&(v_1.oneCell' &&
 (v_2.oneCell'&&(v_3.oneCell'&&true)))) (atA p1a λb o=>Zad n p1n/\∃v_4 v_5 v_6 v_7:Value,m'.reads b (o+Int.toNat n*4) [v_4,v_5,v_6,v_7]/\
 ∀(b:Nat),chk (v_4.oneCell'&&(v_5.oneCell'&&(v_6.oneCell'&&(v_7.oneCell'&&true)))) (kB Tryz.prog p2g (List.append (List.append p2fi [agg (Array.mk [v,v_1,v_2,v_3]),agg (Array.mk
 [v_4,v_5,v_6,v_7])]) p2ca) m' λb m'=>br (!b) (rtM m m' R (bool false)) (nxI n_1 I [int i64 (i64.wrap (n+(1:Int)))] [] [] m')))) (rtM m m' R (bool true)))):CX Tryz.prog 96 #[.slice p0a p0n p0c,.slice p1a p1n p1c,.func (.func p2g) p2fi.toArray p2ca.toArray] m [] R:=
 Zae (E:=ZaR) Zao mix Tryz.func96 (by kernel_rfl) (Eq.mp (by kernel_rfl) h)
def ZaD:Env:={ EB with
 loops:=(λi=>bif Nat.beq i 4 then⟨[(17,.int .i64)],[],[],false⟩ else⟨[],[],[],false⟩) }
theorem ZaA(p0a:Option Addr)(p0n p0c:Nat)(p1a:Option Addr)(p1n p1c p2g:Nat)(p2fi p2ca:List Value)(m:Mem)(R:RT)(h:
 br (!(↑p0n:Int) == (↑p1n:Int)) (rtM m m R (bool false)) (∃(I:IT),inI I [int i64 0] [] [] m/\∀(n:Int)(m':Mem)(n_1:Nat),m.le m'->I [int i64 n] [] [] m' n_1->br (decide (n < (↑p0n:Int))) (atA p0a
 λb o=>Zad n p0n/\∃v v_1:Value,m'.reads b (o+Int.toNat n*2) [v,v_1]/\∀(b:Nat),chk (v.oneCell'&&(v_1.oneCell'&&true)) (atA p1a λb o=>Zad n p1n/\∃v_2 v_3:Value,m'.reads b (o+Int.toNat n*2) [v_2,v_3]/\∀(b:Nat),chk (v_2.oneCell'&&(v_3.oneCell'&&true)) (kB Tryz.prog p2g (List.append (List.append p2fi [agg (Array.mk [v,v_1]),
 agg (Array.mk [v_2,v_3])]) p2ca) m' λb m'=>br (!b) (rtM m m' R (bool false)) (nxI n_1 I [int i64 (i64.wrap (n+(1:Int)))] [] [] m')))) (rtM m m' R (bool true)))):CX Tryz.prog 98 #[.slice p0a p0n p0c,.slice p1a p1n p1c,.func (.func p2g) p2fi.toArray p2ca.toArray] m [] R:=
 Zae (E:=ZaD) Zao mix Tryz.func98 (by kernel_rfl) (Eq.mp (by kernel_rfl) h)
def ZaN:Env:={ EB with
 loops:=(λi=>bif Nat.beq i 4 then⟨[(17,.int .i64)],[],[],false⟩ else⟨[],[],[],false⟩) }
theorem ZaK(p0a:Option Addr)(p0n p0c:Nat)(p1a:Option Addr)(p1n p1c p2g:Nat)(p2fi p2ca:List Value)(m:Mem)(R:RT)(h:
 br (!(↑p0n:Int) == (↑p1n:Int)) (rtM m m R (bool false)) (∃(I:IT),inI I [int i64 0] [] [] m/\∀(n:Int)(m':Mem)(n_1:Nat),m.le m'->I [int i64 n] [] [] m' n_1->br (decide (n < (↑p0n:Int))) (atA p0a
 λb o=>Zad n p0n/\∃v v_1 v_2 v_3 v_4 v_5 v_6 v_7 v_8 v_9 v_10 v_11 v_12 v_13 v_14 v_15:Value,lV [v,v_1,v_2,v_3,v_4,v_5,v_6,v_7,v_8,v_9,v_10,v_11,v_12,v_13,v_14,v_15] λxL=>m'.reads b (o+Int.toNat n *
 16) xL/\∀(b:Nat),chk (v.oneCell'&&(v_1.oneCell'&&(v_2.oneCell'&&(v_3.oneCell'&&(v_4.oneCell'&&(v_5.oneCell'&&(v_6.oneCell'&&(v_7.oneCell' &&
 (v_8.oneCell'&&(v_9.oneCell'&&(v_10.oneCell'&&(v_11.oneCell'&&(v_12.oneCell'&&(v_13.oneCell'&&(v_14.oneCell'&&(v_15.oneCell'&&true)))))))))))))))) (atA p1a
 λb o=>Zad n p1n/\∃v v_16 v_17 v_18 v_19 v_20 v_21 v_22 v_23 v_24 v_25 v_26 v_27 v_28 v_29 v_30:Value,lV [v,v_16,v_17,v_18,v_19,v_20,v_21,v_22,v_23,v_24,v_25,v_26,v_27,v_28,v_29,v_30] λxL_1=>m'.reads  b (o+Int.toNat n*16) xL_1/\∀(b:Nat),chk (v.oneCell'&&(v_16.oneCell'&&(v_17.oneCell'&&(v_18.oneCell'&&(v_19.oneCell'&&(v_20.oneCell'&&(v_21.oneCell' &&
 (v_22.oneCell'&&(v_23.oneCell'&&(v_24.oneCell'&&(v_25.oneCell'&&(v_26.oneCell'&&(v_27.oneCell'&&(v_28.oneCell'&&(v_29.oneCell'&&(v_30.oneCell' &&
 true)))))))))))))))) (kB Tryz.prog p2g (List.append (List.append p2fi [agg (Array.mk xL),agg (Array.mk xL_1)]) p2ca) m' λb m'=>br (!b) (rtM m m' R (bool false)) (nxI n_1 I [int i64 (i64.wrap (n+(1:
 Int)))] [] [] m')))) (rtM m m' R (bool true)))):CX Tryz.prog 99 #[.slice p0a p0n p0c,.slice p1a p1n p1c,.func (.func p2g) p2fi.toArray p2ca.toArray] m [] R:=
 Zae (E:=ZaN) Zao mix Tryz.func99 (by kernel_rfl) (Eq.mp (by kernel_rfl) h)
def Zeb:Env:=EB
theorem Zdu(p0a:Option Addr)(p0n p0c:Nat)(p1a:Option Addr)(p1n p1c p2g:Nat)(p2fi p2ca:List Value)(m:Mem)(R:RT)(h:
 kB Tryz.prog 96 [slice p0a p0n p0c,slice p1a p1n p1c,func (Fn.func p2g) (Array.mk p2fi) (Array.mk p2ca)] m λb m'=>rtM m m' R (bool b)):CX Tryz.prog 61 #[.slice p0a p0n p0c,.slice p1a p1n p1c,.func (.func p2g) p2fi.toArray p2ca.toArray] m [] R:=
 Zae (E:=Zeb) Zao mix Tryz.func61 (by kernel_rfl) (Eq.mp (by kernel_rfl) h)
def Zdi:Env:=EB
theorem Zc2(p0a:Option Addr)(p0n p0c:Nat)(p1a:Option Addr)(p1n p1c p2g:Nat)(p2fi p2ca:List Value)(m:Mem)(R:RT)(h:
 kB Tryz.prog 98 [slice p0a p0n p0c,slice p1a p1n p1c,func (Fn.func p2g) (Array.mk p2fi) (Array.mk p2ca)] m λb m'=>rtM m m' R (bool b)):CX Tryz.prog 64 #[.slice p0a p0n p0c,.slice p1a p1n p1c,.func (.func p2g) p2fi.toArray p2ca.toArray] m [] R:=
 Zae (E:=Zdi) Zao mix Tryz.func64 (by kernel_rfl) (Eq.mp (by kernel_rfl) h)
def Zdv:Env:=EB
theorem Zdj(p0a:Option Addr)(p0n p0c:Nat)(p1a:Option Addr)(p1n p1c p2g:Nat)(p2fi p2ca:List Value)(m:Mem)(R:RT)(h:
 kB Tryz.prog 99 [slice p0a p0n p0c,slice p1a p1n p1c,func (Fn.func p2g) (Array.mk p2fi) (Array.mk p2ca)] m λb m'=>rtM m m' R (bool b)):CX Tryz.prog 66 #[.slice p0a p0n p0c,.slice p1a p1n p1c,.func (.func p2g) p2fi.toArray p2ca.toArray] m [] R:=
 Zae (E:=Zdv) Zao mix Tryz.func66 (by kernel_rfl) (Eq.mp (by kernel_rfl) h)
def Zg7:Env:={ EB with
 joins:=(λi=>bif Nat.beq i 1 then some [(4,.bool)]else none)
 frzNew:=[2,3] }
theorem Zf9(aA:Bool)(aD:ByteArray)(aG:Value)(bM:Bool)(bV:ByteArray)(bX:Value)(m:Mem)(R:RT)(h:
 lV [bool bM,string bV,bX] λxL=>lV [bool aA,string aD,aG] λxL_1=>fzM m xL_1 λb m'=>lE [some (Box.mk b xL_1 101 3 true true)] λxL_2=>fzM m' xL λb m'=>∃(b_1:Bool),lE (some
 (Box.mk b xL 101 3 true true)::xL_2) λxL=>br (aA == bM) (br (ByteArray.toList aD == ByteArray.toList bV) (kB Tryz.prog 97 [aG,bX] m' λb m'=>Zac xL/\[bool b]=[bool b_1]) (Zac xL/\[bool
 false]=[bool b_1])) (Zac xL/\[bool false]=[bool b_1])/\rtM m m' R (bool b_1)):CX Tryz.prog 63 #[.agg #[.bool aA,.string aD,aG],.agg #[.bool bM,.string bV,bX]] m [] R:=
 Zae (E:=Zg7) Zao mix Tryz.func63 (by kernel_rfl) (Eq.mp (by kernel_rfl) h)
def ZlR:Env:={ EB with
 joins:=(λi=>bif Nat.beq i 1 then some [(4,.bool)]else none)
 frzNew:=[2,3] }
theorem ZjU(aA:ByteArray)(aD:Bool)(aG:ByteArray)(aF:Value)(bM:ByteArray)(bV:Bool)(bX:ByteArray)(cJ:Value)(m:Mem)(R:RT)(h:
 lV [bool aD,string aG,aF] λxL=>lV [bool bV,string bX,cJ] λxL_1=>fzM m (string aA::xL) λb m'=>lE [some (Box.mk b (string aA::xL) 103 4 true true)] λxL_2=>fzM m' (string bM ::
 xL_1) λb m'=>∃(b_1:Bool),lE (some (Box.mk b (string bM::xL_1) 103 4 true true)::xL_2) λxL_3=>br (ByteArray.toList aA == ByteArray.toList bM) (kB Tryz.prog 63 [agg (Array.mk xL),agg (Array.mk
 xL_1)] m' λb m'=>Zac xL_3/\[bool b]=[bool b_1]) (Zac xL_3/\[bool false]=[bool b_1])/\rtM m m' R (bool b_1)):CX Tryz.prog 62 #[.agg #[.string aA,.bool aD,.string aG,aF],.agg #[.string bM,.bool bV,.string bX,cJ]] m [] R:=
 Zae (E:=ZlR) Zao mix Tryz.func62 (by kernel_rfl) (Eq.mp (by kernel_rfl) h)
def ZlS:Env:={ EB with
 joins:=(λi=>bif Nat.beq i 1 then some [(4,.bool)]else none)
 frzNew:=[2,3] }
theorem ZjV(aA:ByteArray)(aW:Option Addr)(aP aX:Nat)(bM:ByteArray)(ge:Option Addr)(gi gj:Nat)(m:Mem)(R:RT)(h:
 lV [string aA,slice aW aP aX] λxL=>lV [string bM,slice ge gi gj] λxL_1=>fzM m xL λb m'=>lE [some (Box.mk b xL 36 2 true true)] λxL=>fzM m' xL_1 λb m'=>∃(b_1:Bool),lE
 (some (Box.mk b xL_1 36 2 true true)::xL) λxL=>br (ByteArray.toList aA == ByteArray.toList bM) (kB Tryz.prog 66 [slice aW aP aX,slice ge gi gj,func (Fn.func 67) (Array.mk []) (Array.mk
 [])] m' λb m'=>Zac xL/\[bool b]=[bool b_1]) (Zac xL/\[bool false]=[bool b_1])/\rtM m m' R (bool b_1)):CX Tryz.prog 65 #[.agg #[.string aA,.slice aW aP aX],.agg #[.string bM,.slice ge gi gj]] m [] R:=
 Zae (E:=ZlS) Zao mix Tryz.func65 (by kernel_rfl) (Eq.mp (by kernel_rfl) h)
def ZpQ:Env:={ EB with
 joins:=(λi=>bif Nat.beq i 1 then some [(4,.bool)]else none)
 frzNew:=[2,3] }
theorem ZoE(aA:Int)(aW:Option Addr)(aP aX:Nat)(aN:Option Addr)(aJ aV:Nat)(bM:Int)(ge:Option Addr)(gi gj:Nat)(fZ:Option Addr)(ga gc:Nat)(m:Mem)(R:RT)(h:
 lV [int i64 bM,slice ge gi gj,slice fZ ga gc] λxL=>lV [int i64 aA,slice aW aP aX,slice aN aJ aV] λxL_1=>fzM m xL_1 λb m'=>lE [some (Box.mk b xL_1 32 3 true
 true)] λxL_2=>fzM m' xL λb m'=>∃(b_1:Bool),lV [bool b_1] λxL_3=>lE (some (Box.mk b xL 32 3 true true)::xL_2) λxL_4=>(kB Tryz.prog 19 [agg (Array.mk xL_1)] m' λb m'=>br b (kB Tryz.prog 19
 [agg (Array.mk xL)] m' λb m'=>br b (br (aA == bM) (kB Tryz.prog 61 [slice aW aP aX,slice ge gi gj,func (Fn.func 62) (Array.mk []) (Array.mk [])] m' λb m'=>br b (kB Tryz.prog 64 [slice
 aN aJ aV,slice fZ ga gc,func (Fn.func 65) (Array.mk []) (Array.mk [])] m' λb m'=>Zac xL_4/\[bool b]=xL_3) (Zac xL_4/\[bool false]=xL_3)) (Zac xL_4/\[bool false]=xL_3)) (Zac
 xL_4/\[bool false]=xL_3)) (Zac xL_4/\[bool false]=xL_3))/\rtM m m' R (bool b_1)):CX Tryz.prog 20 #[.agg #[.int .i64 aA,.slice aW aP aX,.slice aN aJ aV],.agg #[.int .i64 bM,.slice ge gi gj,.slice fZ ga gc]] m [] R:=
 Zae (E:=ZpQ) Zao mix Tryz.func20 (by kernel_rfl) (Eq.mp (by kernel_rfl) h)
end Go.Proofs.YtpjepnkiiojgfaaGreat
namespace Go.Proofs.YtpjepnkiiojgfaaGreat
open Go Go.Eng Go.Rx Go.Proofs Go.RowKit
set_option maxRecDepth 100000
theorem Zx2(cb:Nat)(f:Pt->Pt->Bool)(L R:List Pt)(a b:Option Addr)(c d:Nat)(m:Mem)(h1:rowRd m a (L.map Pt.cs).flatten)(h2:rowRd m b (R.map Pt.cs).flatten)(hl:L.length<=few)(gV:∀x∈L,∀y∈R,∀m2,m.le m2->CX Tryz.prog cb #[.agg x.cs.toArray,.agg y.cs.toArray] m2 [] (Ret (.bool (f x y)))):
  CX Tryz.prog 138 #[.slice a L.length c,.slice b R.length d,.func (.func cb) #[] #[]] m [] (Ret (.bool (eqL f L R))):=by
 have hl:L.length<=100000:=hl
 apply Zdh (p2fi:=[]) (p2ca:=[])
 refine Zah (x:=eqL f L R) ?_ λm1 aE=>Zaf aE rfl
 apply ZaJ (p2fi:=[]) (p2ca:=[])
 refine Zab (λcM=>Zaf (Mem.le_refl m) ?_) (λheq=>?_)
 ·have:¬L.length=R.length:=λe=>by simp[e]at cM
  show Value.bool _=Value.bool _
  rw[Ziq this]
 have heq:L.length=R.length:=by
  have:(L.length:Int)=R.length:=by simpa using heq
  omega
 refine⟨λxs css tvs m' q=>∃k:Nat,k<=L.length/\xs=[.int .i64 k]/\q=L.length - k/\m.le m'/\eqL f (L.take k) (R.take k)=true,⟨_,0,by omega,rfl,rfl,Mem.le_refl m,by simp[eqL]⟩,?_⟩
 rintro z m1 q _ ⟨k,hk,cK,hq,aE,ht⟩
 obtain rfl:z=k:=by simpa using cK
 refine Zab (λaC=>?_) (λbL=>?_)
 ·have aI:k < L.length:=by have:=zA6 aC;omega
  obtain⟨x,hx⟩:=Zaq aI
  obtain⟨y,hy⟩:=Zaq (l:=R) (k:=k) (by omega)
  obtain⟨b1,o1,fH,eE⟩:=Zai Pt.len h1 hx (by omega)
  obtain⟨b2,o2,fh,eG⟩:=Zai Pt.len h2 hy (by omega)
  have hw:IntKind.i64.wrap ((k:Int)+1)=((k+1:Nat):Int):=by rw[Zak (by omega) (by omega)];rfl
  refine⟨b1,o1,fH,⟨by omega,by omega⟩,_,_,_,_,_,_,_,_,eE.mono aE,λb3=>Zaa rfl ⟨b2,o2,fh,⟨by omega,by omega⟩,_,_,_,_,_,_,_,_,eG.mono aE,λb4=>Zaa rfl (Zah (gV x (zA2 hx) y (zA2 hy) m1 aE) λm2 aK=>Zab (λhf=>Zaf (mLt aE aK) ?_) (λhf=>?_))⟩⟩
  ·have:f x y=false:=by simpa using hf
   show Value.bool _=Value.bool _
   rw[ZnI hx hy this]
  ·exact⟨L.length - (k+1),by omega,k+1,by omega,by rw[hw],rfl,mLt aE aK,ZfK hx hy ht (by simpa using hf)⟩
 ·have dF:k=L.length:=by have:=of_decide_eq_false bL;omega
  refine Zaf aE ?_
  rw[dF,List.take_length,heq,List.take_length]at ht
  show Value.bool _=Value.bool _
  rw[ht]
theorem Zx3(cb:Nat)(f:Ac->Ac->Bool)(L R:List Ac)(a b:Option Addr)(c d:Nat)(m:Mem)(h1:rowRd m a (L.map Ac.cs).flatten)(h2:rowRd m b (R.map Ac.cs).flatten)(hl:L.length<=few)(gV:∀x∈L,∀y∈R,∀m2,m.le m2->CX Tryz.prog cb #[.agg x.cs.toArray,.agg y.cs.toArray] m2 [] (Ret (.bool (f x y)))):
  CX Tryz.prog 101 #[.slice a L.length c,.slice b R.length d,.func (.func cb) #[] #[]] m [] (Ret (.bool (eqL f L R))):=by
 have hl:L.length<=100000:=hl
 apply ZcV (p2fi:=[]) (p2ca:=[])
 refine Zah (x:=eqL f L R) ?_ λm1 aE=>Zaf aE rfl
 apply Zax (p2fi:=[]) (p2ca:=[])
 refine Zab (λcM=>Zaf (Mem.le_refl m) ?_) (λheq=>?_)
 ·have:¬L.length=R.length:=λe=>by simp[e]at cM
  show Value.bool _=Value.bool _
  rw[Ziq this]
 have heq:L.length=R.length:=by
  have:(L.length:Int)=R.length:=by simpa using heq
  omega
 refine⟨λxs css tvs m' q=>∃k:Nat,k<=L.length/\xs=[.int .i64 k]/\q=L.length - k/\m.le m'/\eqL f (L.take k) (R.take k)=true,⟨_,0,by omega,rfl,rfl,Mem.le_refl m,by simp[eqL]⟩,?_⟩
 rintro z m1 q _ ⟨k,hk,cK,hq,aE,ht⟩
 obtain rfl:z=k:=by simpa using cK
 refine Zab (λaC=>?_) (λbL=>?_)
 ·have aI:k < L.length:=by have:=zA6 aC;omega
  obtain⟨x,hx⟩:=Zaq aI
  obtain⟨y,hy⟩:=Zaq (l:=R) (k:=k) (by omega)
  obtain⟨b1,o1,fH,eE⟩:=Zai Ac.len h1 hx (by omega)
  obtain⟨b2,o2,fh,eG⟩:=Zai Ac.len h2 hy (by omega)
  have hw:IntKind.i64.wrap ((k:Int)+1)=((k+1:Nat):Int):=by rw[Zak (by omega) (by omega)];rfl
  refine⟨b1,o1,fH,⟨by omega,by omega⟩,_,_,_,_,_,_,_,_,eE.mono aE,λb3=>Zaa rfl ⟨b2,o2,fh,⟨by omega,by omega⟩,_,_,_,_,_,_,_,_,eG.mono aE,λb4=>Zaa rfl (Zah (gV x (zA2 hx) y (zA2 hy) m1 aE) λm2 aK=>Zab (λhf=>Zaf (mLt aE aK) ?_) (λhf=>?_))⟩⟩
  ·have:f x y=false:=by simpa using hf
   show Value.bool _=Value.bool _
   rw[ZnI hx hy this]
  ·exact⟨L.length - (k+1),by omega,k+1,by omega,by rw[hw],rfl,mLt aE aK,ZfK hx hy ht (by simpa using hf)⟩
 ·have dF:k=L.length:=by have:=of_decide_eq_false bL;omega
  refine Zaf aE ?_
  rw[dF,List.take_length,heq,List.take_length]at ht
  show Value.bool _=Value.bool _
  rw[ht]
theorem ZvL(p q:Pt)(m:Mem)(hp:RepP m p)(hq:RepP m q):CX Tryz.prog 139 #[.agg p.cs.toArray,.agg q.cs.toArray] m [] (Ret (.bool (ZnJ p q))):=by
 apply Zg2
 intro b m1 aE _ b1 m2 aK _
 have cR:=mLt aE aK
 refine⟨ZnJ p q,Zab (λh1=>Zab (λh2=>Zab (λh3=>?_) (λh3=>⟨rfl,?_⟩)) (λh2=>⟨rfl,?_⟩)) (λh1=>⟨rfl,?_⟩),Zaf cR rfl⟩
 ·refine Zah (Zra p.e q.e m2 (hp.e.mono' cR) (hq.e.mono' cR)) λm3 aQ=>⟨rfl,?_⟩
  simp only[ZnJ,eqS,h1,h2,h3,Bool.true_and]
 ·simp only[ZnJ,eqS,h1,h2,h3,Bool.true_and,Bool.false_and]
 ·simp only[ZnJ,eqS,h1,h2,Bool.true_and,Bool.false_and]
 ·simp only[ZnJ,eqS,h1,Bool.false_and]
theorem ZvM(p q:Ac)(m:Mem)(hp:RepA m p)(hq:RepA m q):CX Tryz.prog 102 #[.agg p.cs.toArray,.agg q.cs.toArray] m [] (Ret (.bool (ZnK p q))):=by
 apply Zfe
 intro b m1 aE _ b1 m2 aK _
 have cR:=mLt aE aK
 refine⟨ZnK p q,Zab (λh1=>Zab (λh2=>?_) (λh2=>⟨rfl,?_⟩)) (λh1=>⟨rfl,?_⟩),Zaf cR rfl⟩
 ·refine Zah (Zx2 139 ZnJ p.parts q.parts p.pa q.pa p.pc q.pc m2 (hp.row.mono cR) (hq.row.mono cR) hp.n λx hx y hy m' hm'=>ZvL x y m' ((hp.all x hx).mono (mLt cR hm')) ((hq.all y hy).mono (mLt cR hm'))) λm3 aQ=>Zab (λh3=>?_) (λh3=>⟨rfl,?_⟩)
  ·refine Zah (Zra p.e q.e m3 (hp.e.mono' (mLt cR aQ)) (hq.e.mono' (mLt cR aQ))) λm4 bZ=>⟨rfl,?_⟩
   simp only[ZnK,eqS,h1,h2,h3,Bool.true_and]
  ·simp only[ZnK,eqS,h1,h2,h3,Bool.true_and,Bool.false_and]
 ·simp only[ZnK,eqS,h1,h2,Bool.true_and,Bool.false_and]
 ·simp only[ZnK,eqS,h1,Bool.false_and]
theorem ZvN(p q:Ru)(m:Mem)(hp:RepR m p)(hq:RepR m q):CX Tryz.prog 67 #[.agg p.cs.toArray,.agg q.cs.toArray] m [] (Ret (.bool (ZhB p q))):=by
 apply Zg3
 intro b m1 aE _ b1 m2 aK _
 have cR:=mLt aE aK
 refine⟨ZhB p q,Zab (λh1=>Zab (λh2=>Zab (λh3=>?_) (λh3=>⟨rfl,?_⟩)) (λh2=>⟨rfl,?_⟩)) (λh1=>⟨rfl,?_⟩),Zaf cR rfl⟩
 ·refine Zah (Zxs p.t q.t m2 (hp.t.mono cR) (hq.t.mono cR)) λm3 aQ=>Zab (λh4=>Zab (λh5=>Zab (λh6=>?_) (λh6=>⟨rfl,?_⟩)) (λh5=>⟨rfl,?_⟩)) (λh4=>⟨rfl,?_⟩)
  ·have dQ:=mLt cR aQ
   refine Zah (Zx3 102 ZnK p.acts q.acts p.aa q.aa p.ac q.ac m3 (hp.row.mono dQ) (hq.row.mono dQ) hp.len λx hx y hy m' hm'=>ZvM x y m' ((hp.all x hx).mono (mLt dQ hm')) ((hq.all y hy).mono (mLt dQ hm'))) λm4 bZ=>Zab (λh7=>Zab (λh8=>⟨rfl,?_⟩) (λh8=>⟨rfl,?_⟩)) (λh7=>⟨rfl,?_⟩)
   ·simp only[ZhB,eqS,h1,h2,h3,h4,h5,h6,h7,h8,Bool.true_and]
   ·simp only[ZhB,eqS,h1,h2,h3,h4,h5,h6,h7,h8,Bool.true_and,Bool.false_and]
   ·simp only[ZhB,eqS,h1,h2,h3,h4,h5,h6,h7,Bool.true_and,Bool.false_and]
  ·simp only[ZhB,eqS,h1,h2,h3,h4,h5,h6,Bool.true_and,Bool.false_and]
  ·simp only[ZhB,eqS,h1,h2,h3,h4,h5,Bool.true_and,Bool.false_and]
  ·simp only[ZhB,eqS,h1,h2,h3,h4,Bool.true_and,Bool.false_and]
 ·simp only[ZhB,eqS,h1,h2,h3,Bool.true_and,Bool.false_and]
 ·simp only[ZhB,eqS,h1,h2,Bool.true_and,Bool.false_and]
 ·simp only[ZhB,eqS,h1,Bool.false_and]
theorem Zx4(cb:Nat)(f:Va->Va->Bool)(L R:List Va)(a b:Option Addr)(c d:Nat)(m:Mem)(h1:rowRd m a (L.map Va.cs).flatten)(h2:rowRd m b (R.map Va.cs).flatten)(hl:L.length<=few)(gV:∀x∈L,∀y∈R,∀m2,m.le m2->CX Tryz.prog cb #[.agg x.cs.toArray,.agg y.cs.toArray] m2 [] (Ret (.bool (f x y)))):
  CX Tryz.prog 61 #[.slice a L.length c,.slice b R.length d,.func (.func cb) #[] #[]] m [] (Ret (.bool (eqL f L R))):=by
 have hl:L.length<=100000:=hl
 apply Zdu (p2fi:=[]) (p2ca:=[])
 refine Zah (x:=eqL f L R) ?_ λm1 aE=>Zaf aE rfl
 apply ZaP (p2fi:=[]) (p2ca:=[])
 refine Zab (λcM=>Zaf (Mem.le_refl m) ?_) (λheq=>?_)
 ·have:¬L.length=R.length:=λe=>by simp[e]at cM
  show Value.bool _=Value.bool _
  rw[Ziq this]
 have heq:L.length=R.length:=by
  have:(L.length:Int)=R.length:=by simpa using heq
  omega
 refine⟨λxs css tvs m' q=>∃k:Nat,k<=L.length/\xs=[.int .i64 k]/\q=L.length - k/\m.le m'/\eqL f (L.take k) (R.take k)=true,⟨_,0,by omega,rfl,rfl,Mem.le_refl m,by simp[eqL]⟩,?_⟩
 rintro z m1 q _ ⟨k,hk,cK,hq,aE,ht⟩
 obtain rfl:z=k:=by simpa using cK
 refine Zab (λaC=>?_) (λbL=>?_)
 ·have aI:k < L.length:=by have:=zA6 aC;omega
  obtain⟨x,hx⟩:=Zaq aI
  obtain⟨y,hy⟩:=Zaq (l:=R) (k:=k) (by omega)
  obtain⟨b1,o1,fH,eE⟩:=Zai Va.len h1 hx (by omega)
  obtain⟨b2,o2,fh,eG⟩:=Zai Va.len h2 hy (by omega)
  have hw:IntKind.i64.wrap ((k:Int)+1)=((k+1:Nat):Int):=by rw[Zak (by omega) (by omega)];rfl
  refine⟨b1,o1,fH,⟨by omega,by omega⟩,_,_,_,_,eE.mono aE,λb3=>Zaa rfl ⟨b2,o2,fh,⟨by omega,by omega⟩,_,_,_,_,eG.mono aE,λb4=>Zaa rfl (Zah (gV x (zA2 hx) y (zA2 hy) m1 aE) λm2 aK=>Zab (λhf=>Zaf (mLt aE aK) ?_) (λhf=>?_))⟩⟩
  ·have:f x y=false:=by simpa using hf
   show Value.bool _=Value.bool _
   rw[ZnI hx hy this]
  ·exact⟨L.length - (k+1),by omega,k+1,by omega,by rw[hw],rfl,mLt aE aK,ZfK hx hy ht (by simpa using hf)⟩
 ·have dF:k=L.length:=by have:=of_decide_eq_false bL;omega
  refine Zaf aE ?_
  rw[dF,List.take_length,heq,List.take_length]at ht
  show Value.bool _=Value.bool _
  rw[ht]
theorem Zx5(cb:Nat)(f:Ru->Ru->Bool)(L R:List Ru)(a b:Option Addr)(c d:Nat)(m:Mem)(h1:rowRd m a (L.map Ru.cs).flatten)(h2:rowRd m b (R.map Ru.cs).flatten)(hl:L.length<=few)(gV:∀x∈L,∀y∈R,∀m2,m.le m2->CX Tryz.prog cb #[.agg x.cs.toArray,.agg y.cs.toArray] m2 [] (Ret (.bool (f x y)))):
  CX Tryz.prog 66 #[.slice a L.length c,.slice b R.length d,.func (.func cb) #[] #[]] m [] (Ret (.bool (eqL f L R))):=by
 have hl:L.length<=100000:=hl
 apply Zdj (p2fi:=[]) (p2ca:=[])
 refine Zah (x:=eqL f L R) ?_ λm1 aE=>Zaf aE rfl
 apply ZaK (p2fi:=[]) (p2ca:=[])
 refine Zab (λcM=>Zaf (Mem.le_refl m) ?_) (λheq=>?_)
 ·have:¬L.length=R.length:=λe=>by simp[e]at cM
  show Value.bool _=Value.bool _
  rw[Ziq this]
 have heq:L.length=R.length:=by
  have:(L.length:Int)=R.length:=by simpa using heq
  omega
 refine⟨λxs css tvs m' q=>∃k:Nat,k<=L.length/\xs=[.int .i64 k]/\q=L.length - k/\m.le m'/\eqL f (L.take k) (R.take k)=true,⟨_,0,by omega,rfl,rfl,Mem.le_refl m,by simp[eqL]⟩,?_⟩
 rintro z m1 q _ ⟨k,hk,cK,hq,aE,ht⟩
 obtain rfl:z=k:=by simpa using cK
 refine Zab (λaC=>?_) (λbL=>?_)
 ·have aI:k < L.length:=by have:=zA6 aC;omega
  obtain⟨x,hx⟩:=Zaq aI
  obtain⟨y,hy⟩:=Zaq (l:=R) (k:=k) (by omega)
  obtain⟨b1,o1,fH,eE⟩:=Zai Ru.len h1 hx (by omega)
  obtain⟨b2,o2,fh,eG⟩:=Zai Ru.len h2 hy (by omega)
  have hw:IntKind.i64.wrap ((k:Int)+1)=((k+1:Nat):Int):=by rw[Zak (by omega) (by omega)];rfl
  refine⟨b1,o1,fH,⟨by omega,by omega⟩,_,_,_,_,_,_,_,_,_,_,_,_,_,_,_,_,eE.mono aE,λb3=>Zaa rfl ⟨b2,o2,fh,⟨by omega,by omega⟩,_,_,_,_,_,_,_,_,_,_,_,_,_,_,_,_,eG.mono aE,λb4=>Zaa rfl (Zah (gV x (zA2 hx) y (zA2 hy) m1 aE) λm2 aK=>Zab (λhf=>Zaf (mLt aE aK) ?_) (λhf=>?_))⟩⟩
  ·have:f x y=false:=by simpa using hf
   show Value.bool _=Value.bool _
   rw[ZnI hx hy this]
  ·exact⟨L.length - (k+1),by omega,k+1,by omega,by rw[hw],rfl,mLt aE aK,ZfK hx hy ht (by simpa using hf)⟩
 ·have dF:k=L.length:=by have:=of_decide_eq_false bL;omega
  refine Zaf aE ?_
  rw[dF,List.take_length,heq,List.take_length]at ht
  show Value.bool _=Value.bool _
  rw[ht]
theorem Zx6(cb:Nat)(f:Sta->Sta->Bool)(L R:List Sta)(a b:Option Addr)(c d:Nat)(m:Mem)(h1:rowRd m a (L.map Sta.cs).flatten)(h2:rowRd m b (R.map Sta.cs).flatten)(hl:L.length<=few)(gV:∀x∈L,∀y∈R,∀m2,m.le m2->CX Tryz.prog cb #[.agg x.cs.toArray,.agg y.cs.toArray] m2 [] (Ret (.bool (f x y)))):
  CX Tryz.prog 64 #[.slice a L.length c,.slice b R.length d,.func (.func cb) #[] #[]] m [] (Ret (.bool (eqL f L R))):=by
 have hl:L.length<=100000:=hl
 apply Zc2 (p2fi:=[]) (p2ca:=[])
 refine Zah (x:=eqL f L R) ?_ λm1 aE=>Zaf aE rfl
 apply ZaA (p2fi:=[]) (p2ca:=[])
 refine Zab (λcM=>Zaf (Mem.le_refl m) ?_) (λheq=>?_)
 ·have:¬L.length=R.length:=λe=>by simp[e]at cM
  show Value.bool _=Value.bool _
  rw[Ziq this]
 have heq:L.length=R.length:=by
  have:(L.length:Int)=R.length:=by simpa using heq
  omega
 refine⟨λxs css tvs m' q=>∃k:Nat,k<=L.length/\xs=[.int .i64 k]/\q=L.length - k/\m.le m'/\eqL f (L.take k) (R.take k)=true,⟨_,0,by omega,rfl,rfl,Mem.le_refl m,by simp[eqL]⟩,?_⟩
 rintro z m1 q _ ⟨k,hk,cK,hq,aE,ht⟩
 obtain rfl:z=k:=by simpa using cK
 refine Zab (λaC=>?_) (λbL=>?_)
 ·have aI:k < L.length:=by have:=zA6 aC;omega
  obtain⟨x,hx⟩:=Zaq aI
  obtain⟨y,hy⟩:=Zaq (l:=R) (k:=k) (by omega)
  obtain⟨b1,o1,fH,eE⟩:=Zai Sta.len h1 hx (by omega)
  obtain⟨b2,o2,fh,eG⟩:=Zai Sta.len h2 hy (by omega)
  have hw:IntKind.i64.wrap ((k:Int)+1)=((k+1:Nat):Int):=by rw[Zak (by omega) (by omega)];rfl
  refine⟨b1,o1,fH,⟨by omega,by omega⟩,_,_,eE.mono aE,λb3=>Zaa rfl ⟨b2,o2,fh,⟨by omega,by omega⟩,_,_,eG.mono aE,λb4=>Zaa rfl (Zah (gV x (zA2 hx) y (zA2 hy) m1 aE) λm2 aK=>Zab (λhf=>Zaf (mLt aE aK) ?_) (λhf=>?_))⟩⟩
  ·have:f x y=false:=by simpa using hf
   show Value.bool _=Value.bool _
   rw[ZnI hx hy this]
  ·exact⟨L.length - (k+1),by omega,k+1,by omega,by rw[hw],rfl,mLt aE aK,ZfK hx hy ht (by simpa using hf)⟩
 ·have dF:k=L.length:=by have:=of_decide_eq_false bL;omega
  refine Zaf aE ?_
  rw[dF,List.take_length,heq,List.take_length]at ht
  show Value.bool _=Value.bool _
  rw[ht]
theorem ZvO(p q:Va)(m:Mem):CX Tryz.prog 62 #[.agg p.cs.toArray,.agg q.cs.toArray] m [] (Ret (.bool (Zji p q))):=by
 have hV:∀m,CX Tryz.prog 63 #[.agg #[.bool p.b,.string p.t,.float .f64 p.x],.agg #[.bool q.b,.string q.t,.float .f64 q.x]] m [] (Ret (.bool (p.b == q.b&&(eqS p.t q.t&&Znr p.x q.x)))):=by
  intro m
  apply Zf9
  intro b m1 aE _ b1 m2 aK _
  have cR:=mLt aE aK
  refine⟨p.b == q.b&&(eqS p.t q.t&&Znr p.x q.x),Zab (λh1=>Zab (λh2=>?_) (λh2=>⟨rfl,?_⟩)) (λh1=>⟨rfl,?_⟩),Zaf cR rfl⟩
  ·refine Zah (Zq3 p.x q.x m2) λm3 aQ=>⟨rfl,?_⟩
   simp only[eqS,h1,h2,Bool.true_and]
  ·simp only[eqS,h1,h2,Bool.true_and,Bool.false_and]
  ·simp only[h1,Bool.false_and]
 apply ZjU
 intro b m1 aE _ b1 m2 aK _
 have cR:=mLt aE aK
 refine⟨Zji p q,Zab (λh1=>?_) (λh1=>⟨rfl,?_⟩),Zaf cR rfl⟩
 ·refine Zah (hV m2) λm3 aQ=>⟨rfl,?_⟩
  simp only[Zji,eqS,h1,Bool.true_and]
 ·simp only[Zji,eqS,h1,Bool.false_and]
theorem ZvP(p q:Sta)(m:Mem)(hp:RepS m p)(hq:RepS m q):CX Tryz.prog 65 #[.agg p.cs.toArray,.agg q.cs.toArray] m [] (Ret (.bool (Zjj p q))):=by
 apply ZjV
 intro b m1 aE _ b1 m2 aK _
 have cR:=mLt aE aK
 refine⟨Zjj p q,Zab (λh1=>?_) (λh1=>⟨rfl,?_⟩),Zaf cR rfl⟩
 ·refine Zah (Zx5 67 ZhB p.rules q.rules p.ra q.ra p.rc q.rc m2 (hp.row.mono cR) (hq.row.mono cR) hp.len λx hx y hy m' hm'=>ZvN x y m' ((hp.all x hx).mono (mLt cR hm')) ((hq.all y hy).mono (mLt cR hm'))) λm3 aQ=>⟨rfl,?_⟩
  simp only[Zjj,eqS,h1,Bool.true_and]
 ·simp only[Zjj,eqS,h1,Bool.false_and]
theorem ZoF(p q:Sc)(m:Mem)(hp:RepC m p)(hq:RepC m q):CX Tryz.prog 20 #[p.v,q.v] m [] (Ret (.bool (ZhH p q))):=by
 apply ZoE
 intro b m1 aE _ b1 m2 aK _
 have cR:=mLt aE aK
 refine⟨ZhH p q,Zah (Zb9 p m2 (hp.mono cR)) λm3 aQ=>Zab (λh1=>?_) (λh1=>⟨rfl,by simp only[ZhH,h1,Bool.false_and]⟩),Zaf cR rfl⟩
 refine Zah (Zb9 q m3 (hq.mono (mLt cR aQ))) λm4 bZ=>Zab (λh2=>Zab (λh3=>?_) (λh3=>⟨rfl,by simp only[ZhH,h1,h2,h3,Bool.true_and,Bool.false_and]⟩)) (λh2=>⟨rfl,by simp only[ZhH,h1,h2,Bool.true_and,Bool.false_and]⟩)
 have gB:=mLt cR (mLt aQ bZ)
 refine Zah (Zx4 62 Zji p.vars q.vars p.va q.va p.vc q.vc m4 (hp.mono gB).vrow (hq.mono gB).vrow hp.vlen λx _ y _ m' _=>ZvO x y m') λm5 cO=>Zab (λh4=>?_) (λh4=>⟨rfl,by simp only[ZhH,h1,h2,h3,h4,Bool.true_and,Bool.false_and]⟩)
 have iz:=mLt gB cO
 refine Zah (Zx6 65 Zjj p.states q.states p.sa q.sa p.sc q.sc m5 (hp.mono iz).row (hq.mono iz).row hp.len λx hx y hy m' hm'=>ZvP x y m' ((hp.all x hx).mono (mLt iz hm')) ((hq.all y hy).mono (mLt iz hm'))) λm6 eY=>⟨rfl,?_⟩
 simp only[ZhH,h1,h2,h3,h4,Bool.true_and]
end Go.Proofs.YtpjepnkiiojgfaaGreat
end
