/- Part of the proof: conditions and contracts of functions of this program. No condition of its own. -/
import Derived.Test.YtgclajkldphoaaaMr
import Derived.Test.YtgclajkldphoaaaPVSB
import Derived.Test.YtgclajkldphoaaaPC14M
import Derived.Test.YtgclajkldphoaaaPC13S
set_option linter.unusedVariables false
set_option linter.unusedSimpArgs false
set_option linter.unusedSectionVars false
namespace Go.Proofs.Ytgclajkldphoaaa
open Go Go.Eng Go.Rx Go.Proofs Go.RowKit
set_option maxRecDepth 100000
theorem Zw7:T0.good=false:=by decide +kernel
theorem Zs0{t G t':T}{lo hi:Int}(hG:∃a c,Zxc (Zap 6 0 0 a c [t]) G)(hT:Zxu G lo hi t')(hk:t'.k=5)(hc:t'.check=0):
  (∃a c,G.er=(Zap 6 0 0 a c [t]).er)/\(∃a c,t'.er=(Zap 5 lo hi a c [G]).er)/\0<=lo/\(hi=-1\/lo<=hi):=by
 obtain⟨ga,gc,hg,_⟩:=hG
 have Bd:G.k=6\/G=T0:=by
  rcases hg with⟨_,h⟩|⟨_,h⟩
  ·left;rw[<-ZyA,h];rfl
  ·exact .inr h
 have h5:∃a c,Zxc (Zap 5 lo hi a c [G]) t':=by
  rcases hT with⟨h,_⟩|⟨h,_⟩|⟨_,_,h⟩|h
  ·rw[h]at hk;exact absurd hk (by decide)
  ·rw[h]at hk;exact absurd hk (by decide)
  ·rw[<-ZyA,h,ZyA]at hk
   rcases Bd with h'|h'
   ·rw[h']at hk;exact absurd hk (by decide)
   ·rw[h']at hk;exact absurd hk (by decide)
  ·exact h
 obtain⟨a,c,t7,_⟩:=h5
 have he:t'.er=(Zap 5 lo hi a c [G]).er:=by
  rcases t7 with⟨_,h⟩|⟨_,h⟩
  ·exact h
  ·rw[h]at hk;exact absurd hk (by decide)
 have gY:(Zap 5 lo hi a c [G]).good=true:=by rw[<-Zwt he];exact(Zdj hc).1
 obtain⟨hr,hs⟩:=Zgz gY
 have uo:G.good=true:=hs G (by simp[Zap,T.subs])
 have hb:=(ZcD hr) rfl
 refine⟨?_,⟨a,c,he⟩,hb.1,hb.2.2.imp id λh=>h.2.1⟩
 rcases hg with⟨_,h⟩|⟨_,h⟩
 ·exact⟨ga,gc,h⟩
 ·rw[h,Zw7]at uo;cases uo
theorem Zho{t:T}(hc:t.check=0){s:List Nat}(hs:s.length<=512):T.matches t s=true↔s.length∈t.e0 s 0:=by
 have hg:=(Zdj hc).1
 have hw:t.wrong s.length 0=0:=by rw[ZiM hc];unfold ZyB;rw[if_neg (by omega),if_neg (by omega)]
 rw[ZyC s t hg 0 (by omega) s.length]
 unfold T.matches
 rw[hw,Bool.and_eq_true]
 have:=ZuB hg hs (i:=0) (j:=s.length) (by omega)
 constructor
 ·rintro⟨_,h⟩;exact this.1 h
 ·exact λh=>⟨rfl,this.2 h⟩
theorem Zw8{t:T}{s:List Nat}{fr:Nat}(eD:fr<=s.length):s.length∈t.e0 s fr↔(s.drop fr).length∈t.e0 (s.drop fr) 0:=by
 have h:=ZtO (s.take fr) (s.drop fr) t 0 (by omega)
 have pL:(s.take fr).length=fr:=by rw[List.length_take];omega
 rw[List.take_append_drop,pL,Nat.add_zero]at h
 rw[h,List.length_drop]
 have:=Zqg (F:=fr) (j:=s.length - fr) (l:=t.e0 (s.drop fr) 0)
 rw[show fr+(s.length - fr)=s.length by omega]at this
 exact this
theorem Zs1{t:T}(hc:t.check=0)(a:Option Addr)(c:Nat):(Zap 6 0 0 a c [t]).clean=true:=by
 obtain⟨hg,hn⟩:=Zdj hc
 have e:(Zap 6 0 0 a c [t]).nodes=Zap 6 0 0 a c [t]::t.nodes:=by rw[Zbc];simp[Zap,T.subs,Zak]
 unfold T.clean T.light
 rw[e,List.all_cons,Bool.and_eq_true,Bool.and_eq_true]
 refine⟨decide_eq_true (by simp only[List.length_cons];omega),?_,hg⟩
 simp[T.right,Zap,T.k,T.subs,T.mn,T.mx,T.setZ,T.s0,T.s1,T.s2,T.s3]
theorem Zw9{t G:T}(hc:t.check=0)(h:∃a c,Zxc (Zap 6 0 0 a c [t]) G):G.clean=true/\∃a c,G.er=(Zap 6 0 0 a c [t]).er:=by
 obtain⟨a,c,h,_⟩:=h
 rcases h with⟨h1,h2⟩|⟨h1,_⟩
 ·exact⟨by rw[Zux h2];exact h1,a,c,h2⟩
 ·rw[Zs1 hc]at h1;cases h1
theorem Zpk{t' G:T}{lo hi:Int}{a:Option Addr}{c:Nat}(hc:t'.check=0)(he:t'.er=(Zap 5 lo hi a c [G]).er):G.check=0:=by
 rw[Zrm he]at hc
 obtain⟨hg,hn⟩:=Zdj hc
 have e:(Zap 5 lo hi a c [G]).nodes=Zap 5 lo hi a c [G]::G.nodes:=by rw[Zbc];simp[Zap,T.subs,Zak]
 have uo:G.good=true:=(Zgz hg).2 G (by simp[Zap,T.subs])
 have rT:G.nodes.length<=119:=by rw[e]at hn;simp only[List.length_cons]at hn;omega
 have hl:G.light=true:=by unfold T.light;exact decide_eq_true (by omega)
 have x3:(Zap 5 lo hi a c [G]).light=true:=by unfold T.light;exact decide_eq_true (by omega)
 have eL:G.clean=true:=by unfold T.clean;rw[hl];exact uo
 unfold T.check at hc
 unfold T.check
 rw[eL]
 split at hc
 ·cases hc
 split at hc
 ·cases hc
 split at hc
 ·cases hc
 rename_i h3
 split at hc
 ·cases hc
 rename_i h4
 have hp:G.pos<=400:=by
  unfold T.positions at h3
  rw[x3,if_pos rfl,Zob]at h3
  have h3:¬Zm2 (((if(5:Int)=2 then 1 else 0)+ZfB [G])*Zm2 (if hi=-1 then Zjz (Zjz lo 0) 1 else Zjz (Zjz lo 0) hi) 10001) 10001 > 400:=h3
  rw[if_neg (by decide),Zco,Int.zero_add]at h3
  have hb:=(ZcD (Zgz hg).1) rfl
  have eB:hi=-1\/1<=hi:=hb.2.2.imp id λh=>h.1
  obtain⟨w,hw,eH⟩:∃w,Zm2 (if hi=-1 then Zjz (Zjz lo 0) 1 else Zjz (Zjz lo 0) hi) 10001=w/\1<=w:=by
   refine⟨_,rfl,?_⟩
   unfold Zm2 Zjz
   split <;> split <;> (try split) <;> (try split) <;> omega
  rw[hw]at h3
  have uC:=(ZhU G).1
  have qZ:G.pos*1<=G.pos*w:=Int.mul_le_mul_of_nonneg_left eH uC
  unfold Zm2 at h3
  split at h3 <;> omega
 have lB:(G.nodes.countP λx=>x.k == 6)<=9:=by
  unfold T.groups at h4
  rw[x3,if_pos rfl,e,List.countP_cons]at h4
  omega
 unfold T.size T.positions T.groups
 rw[hl]
 simp only[if_true,Bool.true_eq_false,if_false]
 rw[if_neg (by omega),if_neg (by omega),if_neg (by omega)]
set_option maxHeartbeats 6400000 in
theorem Ziq(L:List (Nat×Nat×Nat))(pa:Option Addr)(pc:Nat)(s:List Nat)(sa:Option Addr)(sc:Nat)(k1 k2:Nat)(fW:k1 < 256)(hU:k2 < 256)(m:Mem)(hL:Sm m pa L)(wN:L.length<=pc)(hs:Byt m sa s)(rM:s.length<=sc):
  CX Try.prog 6 #[.slice pa L.length pc,.slice sa s.length sc,.int .u8 (k1:Nat),.int .u8 (k2:Nat)] m [] (Ret (.bool true)):=by
 apply Zfs
 unfold Zc5
 refine Zaq (ZqA m) λm1 bH=>ZkQ rfl ?_
 refine ZaZ (ZwR L pa pc m1 (hL.mono bH) wN) ZbT (Zgx λt m2 bO hr ht b=>?_)
 have wK:(if(12:Int) < (s.length:Int)then(12:Int)else(s.length:Int))=((min 12 s.length:Nat):Int):=by split <;> omega
 have pB:IntKind.i64.wrap (Int.tmod (k1:Int) 4)=((k1 % 4:Nat):Int):=by
  rw[show Int.tmod (k1:Int) 4=((k1 % 4:Nat):Int) from rfl,ZaK (by omega) (by omega)]
 have t5:IntKind.i64.wrap (Int.tmod (k2:Int) 5)=((k2 % 5:Nat):Int):=by
  rw[show Int.tmod (k2:Int) 5=((k2 % 5:Nat):Int) from rfl,ZaK (by omega) (by omega)]
 simp only[wK,pB,t5,Int.toNat_natCast,Nat.sub_zero]
 have fP:=mLt bH bO
 have e3:(s.take 12).length=min 12 s.length:=by simp
 have hS:=(ZqD hs 12).mono fP
 rw[<-e3]
 generalize s.take 12=S at *
 generalize B1:k1 % 4=lw at *
 generalize B2:k2 % 5=hg at *
 have Be:lw < 4:=by omega
 have B3:S.length<=12:=by omega
 have Bf:S.length<=sc:=by omega
 have iB:ZaW sa 0 sc 1=sa:=rfl
 simp only[iB]
 refine⟨⟨by omega,by omega⟩,by omega,by omega,λxs _ _ M=>∃hi:Int,xs=[.int .i64 hi]/\(hi=-1\/(lw:Int)<=hi),⟨decide ((hg:Int)=0)||decide ((hg:Int) < lw),Zab (λh=>⟨by trivial,by have h:(hg:Int)=0:=(by simpa using h);rw[decide_eq_true h];rfl⟩) (λh=>⟨by trivial,by have h:¬(hg:Int)=0:=(by simpa using h);rw[decide_eq_false h];rfl⟩),Zab (λh=>⟨by trivial,-1,rfl,.inl rfl⟩) (λh=>⟨by trivial,hg,rfl,.inr (by simp at h;omega)⟩)⟩,?_⟩
 rintro hi m3 bX ⟨hi',hx,Bg⟩
 obtain rfl:hi=hi':=by simpa using hx
 refine ZaZ (Zl2 t m3 (hr.mono bX)) ZbT (Zgx λG m4 cB Bh x4=>?_)
 obtain⟨wO,ga,gc,x5⟩:=Zw9 ht x4
 refine ZaZ (Zu6 G (lw:Nat) hi m4 Bh wO) ZbT (Zgx λt' m5 c7 hr' hT b5=>?_)
 have fV:=mLt bX (mLt cB c7)
 have rk:=mLt fP fV
 refine⟨λ_ _ _ M=>t'.k=5/\t'.check=0/\m5.le M,?_,?_⟩
 ·by_cases hk:t'.k=5
  ·refine⟨!(t'.check == 0),ZkQ (by simp[hk]) ⟨_,trivial,Zng false false t' m5 hr',(λv _ _ h=>by unfold Ret at h;rw[h];rfl),?_⟩,Zab (λh=>⟨m5,rk,Mem.le_refl _,by trivial⟩) (λh=>⟨by trivial,hk,by simpa using h,Mem.le_refl _⟩)⟩
   rintro zc m6 eP sd
   obtain rfl:zc=t'.check:=by simpa[Ret]using sd
   exact⟨by trivial,rfl⟩
  ·exact⟨true,Zvy (by simpa using hk) ⟨by trivial,rfl⟩,Zvy rfl ⟨m5,rk,Mem.le_refl _,by trivial⟩⟩
 rintro m6 eP ⟨tD,p7,_⟩
 obtain⟨_,⟨ta,tc,x6⟩,wP,tE⟩:=Zs0 x4 hT tD p7
 have hw:ZcW t' S.length=0:=ZlP p7 (by omega)
 have wQ:=hr'.mono eP
 have wR:=hS.mono (mLt fV eP)
 refine ZaZ (Zpc t' sa S sc m6 wQ (λ_ _=>wR)) (λv _ _ h=>by unfold Ret at h;rw[h];rfl) ?_
 rintro z1 z2 m7 mM x7
 simp only[Ret,Value.tuple.injEq,Array.mk.injEq,List.cons.injEq,Value.int.injEq,true_and,and_true]at x7
 obtain⟨rfl,rfl⟩:=x7
 refine ZaZ (Zk1 t' sa S sc m7 (wQ.mono mM) (λ_=>wR.mono mM)) (λv _ _ ⟨_,_,h,_⟩=>by rw[h];rfl) ?_
 rintro a8 n8 c8 e8 m8 uq ⟨a8',c8',x8,gM⟩
 simp only[Value.tuple.injEq,Array.mk.injEq,List.cons.injEq,Value.int.injEq,Value.slice.injEq,true_and,and_true]at x8
 obtain⟨⟨rfl,rfl,rfl⟩,rfl⟩:=x8
 have Bi:=mLt rk (mLt eP (mLt mM uq))
 have wS:=wQ.mono (mLt mM uq)
 have x9:=wR.mono (mLt mM uq)
 have fL:(Zna t' S).2=(ZfD t' S).2/\((ZfD t' S).2=0\/(ZfD t' S).2=141):=by
  rcases ZlR hw with⟨h1,h2,h3⟩|⟨h1,h2⟩
  ·refine⟨?_,.inl h1⟩
   rw[h1];unfold Zna;rw[if_neg (by simp[hw]),if_neg (by simp[tD]),if_pos h2]
  ·rw[h1]
   refine⟨?_,.inr rfl⟩
   unfold Zna;rw[if_neg (by simp[hw]),if_neg (by simp[tD]),if_neg h2]
 rw[fL.1]
 refine⟨λ_ _ _ M=>m8.le M,⟨false,ZkQ (by simp) (Zab (λh=>⟨by trivial,?_⟩) (λh=>⟨by trivial,rfl⟩)),ZkQ rfl ⟨by trivial,Mem.le_refl _⟩⟩,?_⟩
 ·rcases fL.2 with h'|h'
  ·rw[h']at h;cases h
  ·rw[h'];rfl
 rintro m9 p8 _
 have ya:=mLt Bi p8
 refine Zab (λhq=>?_) (λhq=>?_)
 ·
  have tB:ZfD t' S=([],141):=by
   rcases ZlR hw with⟨h1,_,_⟩|⟨h1,_⟩
   ·rw[h1]at hq;cases hq
   ·exact h1
  have tF:S.length ∉ t'.e0 S 0:=by
   rcases ZlR hw with⟨h1,_,_⟩|⟨_,h1⟩
   ·rw[h1]at hq;cases hq
   ·exact h1
  have rD:(Zna t' S).1=0:=by unfold Zna;rw[if_neg (by simp[hw]),if_neg (by simp[tD]),if_neg tF]
  have Bj:T.matches t' S=false:=by
   cases h:T.matches t' S with
   | false=>rfl
   | true=>exact absurd ((Zho p7 (by omega)).1 h) tF
  have fB:t'.wrong S.length 0=0:=by rw[ZiM p7];unfold ZyB;rw[if_neg (by omega),if_neg (by omega)]
  have hM:=ZlW t' sa S sc m9 (wS.mono p8) (λ_=>x9.mono p8)
  rw[Bj,fB]at hM
  refine ZaZ hM (λv _ _ h=>by unfold Ret at h;rw[h];rfl) ?_
  rintro q1 z3 m10 jK tG
  simp only[Ret,Value.tuple.injEq,Array.mk.injEq,List.cons.injEq,Value.int.injEq,Value.bool.injEq,true_and,and_true]at tG
  obtain⟨rfl,rfl⟩:=tG
  refine⟨true,Zvy rfl (Zvy rfl (Zvy (by rw[rD];rfl) ⟨by trivial,by rw[tB];rfl⟩)),m10,mLt ya jK,Mem.le_refl _,by trivial⟩
 ·have hz:(ZfD t' S).2=0:=by simpa using hq
  have fK:S.length∈t'.e0 S 0:=by
   rcases ZlR hw with⟨_,h,_⟩|⟨h,_⟩
   ·exact h
   ·rw[h]at hz;cases hz
  have Bk:(ZfD t' S).1=(ZhZ t' S).1:=by
   rcases ZlR hw with⟨_,_,h⟩|⟨h,_⟩
   ·exact h
   ·rw[h]at hz;cases hz
  have nQ:(Zna t' S).1=(ZhZ t' S).2:=by unfold Zna;rw[if_neg (by simp[hw]),if_neg (by simp[tD]),if_pos fK]
  have RD:=Zqh x5 x6 wP tE fK
  have rl:∀p∈(ZhZ t' S).1,Zdz S.length p:=ZtB fK
  have wT:(ZhZ t' S).1.length=t'.ngr:=ZkD t' S
  rw[Bk]at gM ⊢
  rw[nQ]
  generalize (ZhZ t' S).1=P at *
  generalize (ZhZ t' S).2=r at *
  have zP:P.length<=1000:=by
   rw[wT]
   have:=(Zdj p7).2
   have:t'.ngr<=t'.nodes.length:=by rw[Zgy];exact List.countP_le_length
   omega
  have xG:(r:Int)<=100:=by have:=RD.few;omega
  have rp:IntKind.i64.wrap ((lw:Int)+(S.length:Nat))=(lw:Int)+(S.length:Nat):=ZaK (by omega) (by omega)
  rw[rp]
  have lT:=RD.low
  have gR:=RD.few
  have wU:=gM.mono p8
  refine⟨λ_ _ _ M=>m9.le M,⟨false,ZkQ (decide_eq_false (by omega)) (Zab (λhh=>ZkQ (decide_eq_false (by
   have hh:¬hi=-1:=by simpa using hh
   have:=RD.high.resolve_left hh
   omega)) (ZkQ (decide_eq_false (by omega)) ⟨_,trivial,ZkP t' m9 (wS.mono p8),(λv _ _ h=>by unfold Ret at h;rw[h];rfl),?_⟩)) (λhh=>ZkQ (decide_eq_false (by omega)) ⟨_,trivial,ZkP t' m9 (wS.mono p8),(λv _ _ h=>by unfold Ret at h;rw[h];rfl),?_⟩)),ZkQ rfl ⟨by trivial,Mem.le_refl _⟩⟩,?_⟩
  ·rintro zg m10 jK wV
   obtain rfl:zg=t'.groups:=by simpa[Ret]using wV
   exact⟨by trivial,by rw[ZlQ p7,<-wT];simp⟩
  ·rintro zg m10 jK wV
   obtain rfl:zg=t'.groups:=by simpa[Ret]using wV
   exact⟨by trivial,by rw[ZlQ p7,<-wT];simp⟩
  rintro m10 jK _
  have yc:=mLt ya jK
  have wW:=wU.mono jK
  have p9:=RD.len
  rcases wW with⟨h,_⟩|⟨pb,h1,h2,_⟩
  ·rw[h]at p9;simp at p9
  refine Zab (λh0=>?_) (λh0=>?_)
  ·have h0:r=0:=by have:(r:Int)=0:=(by simpa using h0);omega
   obtain⟨vM,lU⟩:=RD.none h0
   obtain⟨g1,g2⟩:=h2 0 _ lU
   refine⟨λ_ _ _=>λv _ _=>v=.agg #[.int .i64 (-1),.int .i64 (-1)],Zvy (by rw[vM];rfl) ⟨pb,0,h1,⟨by omega,by omega⟩,.int .i64 (-1),.int .i64 (-1),?_,_,rfl,Zo7 m10,(λv _ _ h=>by rw[h];rfl),?_⟩⟩
   ·intro i v hi
    have bF:i < 2:=(List.getElem?_eq_some_iff.1 hi).1
    have:i=0\/i=1:=by omega
    rcases this with rfl|rfl <;> (cases hi;assumption)
   ·rintro y1 y2 m11 jL hy
    obtain⟨rfl,rfl⟩:y1=-1/\y2=-1:=by simpa using hy
    exact⟨_,Zpe _ _ _ _,λM dL dR=>⟨M,mLt yc dL,Mem.le_refl _,by trivial⟩⟩
  ·have h0:0 < r:=by have:¬(r:Int)=0:=(by simpa using h0);omega
   obtain⟨fr,eD,fR,cN,lU,tH⟩:=RD.last h0
   obtain⟨g1,g2⟩:=h2 0 _ lU
   have c0:∀M:Mem,m10.le M->M pb (0+0+0)=some (.int .i64 (fr:Nat)):=λM hM=>hM.c _ _ _ g1
   have c1:∀M:Mem,m10.le M->M pb (0+0+1)=some (.int .i64 (S.length:Nat)):=λM hM=>hM.c _ _ _ g2
   have oW:Zag (0:Int) P.length:=⟨by omega,by omega⟩
   refine⟨λ_ _ _ M=>m10.le M,⟨pb,0,h1,oW,_,c1 m10 (Mem.le_refl _),Zaa rfl (ZkQ (by simp[RowKit.intOf]) ⟨pb,0,h1,oW,_,c0 m10 (Mem.le_refl _),Zaa rfl (ZkQ (decide_eq_false (by show ¬(fr:Int) < 0;omega)) ⟨pb,0,h1,oW,_,c0 m10 (Mem.le_refl _),Zaa rfl (ZkQ (decide_eq_false (by show ¬(fr:Int) > S.length;omega)) (Zab (λhh=>⟨pb,0,h1,oW,_,c0 m10 (Mem.le_refl _),pb,0,h1,oW,_,c1 m10 (Mem.le_refl _),Zaa rfl (ZkQ ?_ ⟨by trivial,Mem.le_refl _⟩)⟩) (λ_=>⟨by trivial,Mem.le_refl _⟩)))⟩)⟩)⟩,?_⟩
   ·have hh:(lw:Int) < r:=by simpa using hh
    have:=cN hh
    show((fr:Int) == (S.length:Int))=false
    rw[beq_eq_false_iff_ne];omega
   rintro m11 jL _
   have lG:=jL
   have Bl:=mLt yc jL
   have wX:=x9.mono (mLt p8 (mLt jK jL))
   obtain⟨D,hD⟩:∃D,D=S.drop fr:=⟨_,rfl⟩
   have yd:D.length=S.length - fr:=by rw[hD];exact List.length_drop ..
   have ye:∀M:Mem,m11.le M->Byt M (ZaW sa fr sc 1) D:=λM hM=>by
    have:=ZtZ (wX.mono hM) fr S.length sc Bf (Nat.le_refl _) eD
    rwa [List.take_length,<-hD]at this
   have tI:RowKit.intOf (.int .i64 (fr:Nat))=(fr:Int):=rfl
   have tJ:D.length∈t.e0 D 0:=by rw[hD];exact(Zw8 eD).1 fR
   have Bm:T.matches t D=true:=(Zho ht (by omega)).2 tJ
   have Bn:t.wrong D.length 0=0:=by rw[ZiM ht];unfold ZyB;rw[if_neg (by omega),if_neg (by omega)]
   have nE:m2.le m11:=mLt fV (mLt eP (mLt mM (mLt uq (mLt p8 (mLt jK jL)))))
   refine⟨λ_ _ _=>Ret (.tuple #[.bool true,.int .i64 0]),pb,0,h1,oW,_,c0 m11 jL,Zaa rfl ?_⟩
   rw[tI,Int.toNat_natCast,<-yd]
   refine⟨⟨by omega,by omega⟩,_,rfl,?_,(λv _ _ h=>by unfold Ret at h;rw[h];rfl),?_⟩
   ·have:=ZlW t (ZaW sa fr sc 1) D (sc - fr) m11 (hr.mono nE) (λ_=>ye m11 (Mem.le_refl _))
    rw[Bm,Bn]at this
    exact this
   rintro q1 z3 m12 iI tK M1 wY Bo
   simp only[Ret,Value.tuple.injEq,Array.mk.injEq,List.cons.injEq,Value.int.injEq,Value.bool.injEq,true_and,and_true]at tK
   obtain⟨rfl,rfl⟩:=tK
   refine⟨λ_ _ _ M=>M1.le M,⟨false,ZkQ rfl ⟨by trivial,rfl⟩,ZkQ rfl ⟨by trivial,Mem.le_refl _⟩⟩,?_⟩
   rintro m13 mJ _
   have hm11_13:m11.le m13:=mLt wY mJ
   have Bp:G.check=0:=Zpk p7 x6
   obtain⟨Q,hQ⟩:∃Q,Q=(ZhZ G D).1:=⟨_,rfl⟩
   have B4:Q.length=G.ngr:=by rw[hQ];exact ZkD G D
   have Bq:Q.length=P.length:=by rw[hQ,hD];exact tH.1.symm
   obtain⟨Fq,oG,wZ⟩:∃F:Fx,(∀l M,F 1 l M=Zhx λt'=>∃a c,Zxc (Zap 6 0 0 a c [t]) t')/\(∀l M,F 8 l M=λv m' _=>∃a c,v=.tuple #[.slice a Q.length c,.int .i64 0]/\PtAt m' a Q):=⟨λi _ _=>if i=1 then Zhx λt'=>∃a c,Zxc (Zap 6 0 0 a c [t]) t' else λv m' _=>∃a c,v=.tuple #[.slice a Q.length c,.int .i64 0]/\PtAt m' a Q,λ_ _=>if_pos rfl,λ_ _=>if_neg (by decide)⟩
   refine⟨Fq,_,rfl,?_,?_,?_⟩
   ·rw[oG];exact Zl2 t m13 (hr.mono (mLt nE hm11_13))
   ·rw[oG];exact ZbT
   rw[oG]
   refine Zgx λG2 m14 mK w4 w5=>?_
   obtain⟨_,ga2,gc2,tL⟩:=Zw9 ht w5
   have rI:G2.er=G.er:=by rw[tL,x5];rfl
   have w6:G2.check=0:=by rw[Zrm rI];exact Bp
   have dX:ZcW G2 D.length=0:=ZlP w6 (by omega)
   have Br:ZhZ G2 D=ZhZ G D:=by rw[<-Zhd,rI,Zhd]
   have w7:ZfD G2 D=(Q,0):=by
    have w8:D.length∈G2.e0 D 0:=(Zow (s:=D) tL).2.1.2 tJ
    unfold ZfD
    rw[if_neg (by simp[dX]),if_pos w8,Br,hQ]
   refine⟨pb,0,h1,oW,_,c0 m13 (mLt jL hm11_13),Zaa rfl ?_⟩
   rw[tI,Int.toNat_natCast,<-yd]
   refine⟨⟨by omega,by omega⟩,_,rfl,?_,?_,?_⟩
   ·rw[wZ]
    have:=Zk1 G2 (ZaW sa fr sc 1) D (sc - fr) m14 w4 (λ_=>ye m14 (mLt hm11_13 mK))
    unfold ZyY at this
    rw[w7]at this
    exact this
   ·rw[wZ];exact λv _ _ ⟨_,_,h,_⟩=>by rw[h];rfl
   rw[wZ]
   rintro a15 n15 c15 e15 m15 Bs ⟨a15',c15',tM,w9⟩ M2 xb Bt xc
   simp only[Value.tuple.injEq,Array.mk.injEq,List.cons.injEq,Value.int.injEq,Value.slice.injEq,true_and,and_true]at tM
   obtain⟨⟨rfl,rfl,rfl⟩,rfl⟩:=tM
   refine⟨λ_ _ _ M=>M2.le M,⟨false,ZkQ rfl ⟨by trivial,by rw[Bq];simp⟩,ZkQ rfl ⟨by trivial,Mem.le_refl _⟩⟩,?_⟩
   rintro m16 tN _
   have hm13_16:m13.le m16:=mLt xb tN
   have h0_16:m.le m16:=mLt Bl (mLt hm11_13 hm13_16)
   have h10_16:m10.le m16:=mLt jL (mLt hm11_13 hm13_16)
   refine⟨λxs _ _ _ q=>∃j:Nat,j<=Q.length/\xs=[.int .i64 (j:Nat)]/\q=Q.length - j,⟨_,0,by omega,rfl,rfl⟩,?_⟩
   rintro y m17 q rn ⟨j,hj,cU,rfl⟩
   obtain rfl:y=j:=by simpa using cU
   refine Zab (λbF=>?_) (λcR=>⟨m17,mLt h0_16 rn,Mem.le_refl _,by trivial⟩)
   have bI:j < Q.length:=by have:=of_decide_eq_true bF;omega
   have Bu:IntKind.i64.wrap ((j:Int)+1)=((j+1:Nat):Int):=wr1 (by omega)
   rw[Bu]
   obtain⟨y,hy⟩:∃y,Q[j]?=some y:=⟨_,List.getElem?_eq_getElem bI⟩
   obtain⟨x,hx⟩:∃x,P[j]?=some x:=⟨_,List.getElem?_eq_getElem (by omega)⟩
   have oF:=tH.2 j x y hx (by rw[<-hD,<-hQ];exact hy)
   have Bv:=w9.mono (mLt xc (mLt tN rn))
   rcases Bv with⟨h,_⟩|⟨qb,k1,k2,_⟩
   ·rw[h]at bI;simp at bI
   obtain⟨k3,k4⟩:=k2 j y hy
   obtain⟨g3,g4⟩:=h2 j x hx
   refine⟨qb,0,k1,⟨by omega,by omega⟩,.int .i64 y.1,.int .i64 y.2,?_,λb3=>Zaa rfl ⟨λ_ _ _=>λv _ _=>v=.agg #[.int .i64 (-1),.int .i64 (-1)],_,rfl,Zo7 m17,(λv _ _ h=>by rw[h];rfl),?_⟩⟩
   ·intro i v hi
    have bF:i < 2:=(List.getElem?_eq_some_iff.1 hi).1
    rw[Nat.zero_add,Int.toNat_natCast]
    have:i=0\/i=1:=by omega
    rcases this with rfl|rfl <;> (cases hi;assumption)
   rintro y1 y2 m18 xd xe
   obtain⟨rfl,rfl⟩:y1=-1/\y2=-1:=by simpa using xe
   have nO:∃n',n' < Q.length - j/\∃j':Nat,j'<=Q.length/\[Value.int .i64 ((j+1:Nat):Int)]=[.int .i64 (j':Nat)]/\n'=Q.length - j':=⟨Q.length - (j+1),by omega,j+1,by omega,rfl,rfl⟩
   have hm10_18:m10.le m18:=mLt h10_16 (mLt rn xd)
   have tO:Zag (j:Int) P.length:=⟨by omega,by omega⟩
   refine⟨_,Zpe _ _ _ _,Zab (λfX=>?_) (λfX=>λM dL dR=>⟨by trivial,nO⟩)⟩
   have ur:x.1=y.1+fr/\x.2=y.2+fr:=by
    rcases oF with h|h
    ·rw[h]at fX;cases fX
    ·exact h
   have lO:Zdz S.length x:=rl x (List.mem_of_getElem? hx)
   have dZ:(0:Int)<=y.1+fr+1/\y.1+fr<=100/\0<=y.2+fr+1/\y.2+fr<=100:=by
    rw[<-ur.1,<-ur.2]
    rcases lO with h|h
    ·rw[h];exact⟨by decide,by decide,by decide,by decide⟩
    ·omega
   refine⟨pb,0,h1,tO,.int .i64 x.1,?_,pb,0,h1,oW,_,c0 m18 hm10_18,Zaa rfl (Zaa rfl (ZkQ ?_ ⟨pb,0,h1,tO,.int .i64 x.2,?_,pb,0,h1,oW,_,c0 m18 hm10_18,Zaa rfl (Zaa rfl λM dL dR=>ZkQ ?_ ⟨by trivial,nO⟩)⟩))⟩
   ·rw[Nat.zero_add,Int.toNat_natCast];exact hm10_18.c _ _ _ g3
   ·show(!(x.1 == IntKind.i64.wrap (y.1+(fr:Int))))=false
    rw[ZaK (by omega) (by omega),ur.1];simp
   ·rw[Nat.zero_add,Int.toNat_natCast];exact hm10_18.c _ _ _ g4
   ·show(!(x.2 == IntKind.i64.wrap (y.2+(fr:Int))))=false
    rw[ZaK (by omega) (by omega),ur.2];simp
end Go.Proofs.Ytgclajkldphoaaa
set_option linter.unusedVariables false
set_option linter.unusedSimpArgs false
namespace Go.Proofs.Ytgclajkldphoaaa
open Go Go.Eng Go.Rx Go.Proofs Go.RowKit Go.ChangeShapes Go.WideShapes Go.ChangeAt
set_option maxRecDepth 100000
theorem Zir(H:Type)(enc:TypeId×Value->H)(W:World)(base:Nat)(args:Array Value)(ds gs:List (DataW H))(before:List MemPlace)
  (fJ:∀(j:Nat) t v,Try.f6.params[j]?=some t->args[j]?=some v->Value.okWide Try.prog W .any base t v)
  (hW:DataW.Whole enc Try.prog Try.f6.params.toList Rows.spanRoundsSpec.vars false W args.toList ds gs before):
  Calls Try.prog 6 args W λe W'=>∃v,e=.returned v/\Rows.spanRoundsSpec.post enc Try.prog Try.f6 false true false false W args v W':=by
 have hW':=hW
 obtain⟨p,q,Bw,hV,rfl,iR,dG⟩:=hW
 have hA:DataW.TrodAll enc Try.prog W 0 (λ_=>true) true Try.f6.params.toList args.toList ds p:=Bw
 rw[Try.params6]at hA fJ
 obtain⟨v0,v1,v2,v3,d0,d1,d2,d3,p0,p1,p2,p3,rfl,rfl,rfl,h0,h1,h2,h3⟩:=trodAll_four hA
 obtain⟨rfl,rfl⟩:=trodVars_none hV
 obtain⟨L,pa,pc,rfl,hL,wN⟩:=ZoW (fJ 0 _ v0 rfl rfl) h0
 obtain⟨s,sa,sc,rfl,hs,rM,Bx⟩:=ZwT (fJ 1 _ v1 rfl rfl) h1
 obtain⟨n2,rfl,rfl,rfl,w2⟩:=open_int Try.underlying5 (fJ 2 _ v2 rfl rfl) h2
 have b2:=ZtW w2
 obtain⟨k2,rfl⟩:∃k:Nat,n2=k:=⟨n2.toNat,by omega⟩
 obtain⟨n3,rfl,rfl,rfl,w3⟩:=open_int Try.underlying5 (fJ 3 _ v3 rfl rfl) h3
 have b3:=ZtW w3
 obtain⟨k3,rfl⟩:∃k:Nat,n3=k:=⟨n3.toNat,by omega⟩
 exact Zst (tb:=4) ZwS (by rw[Try.params6];intro t ht;simp at ht;rcases ht with rfl|rfl|rfl <;> exact⟨by kernel_rfl,of_decide_eq_true (by kernel_rfl)⟩) hW' rfl rfl rfl rfl rfl Try.underlying4 (Ziq L pa pc s sa sc k2 k3 (by omega) (by omega) (Zvj W) hL wN hs rM)
theorem Zk7(os:Os)(started:os.Started)(H:Type)(enc:TypeId×Value->H):
  ReturnsInHanded {} Try.checked os 6 .any (Rows.spanRoundsSpec.pre6 enc Try.prog Try.f6 Rows.spanRoundsRow.domain false) (Rows.spanRoundsSpec.post enc Try.prog Try.f6 false true false false):=by
 refine returnsInHanded_of_change (C:=Try.checked) Zx0 started (by kernel_rfl) Try.func6
  (ChangeSpec.witness6 (enc:=enc) (C:=Try.checked) false ⟨#[],#[.slice none 0 0,.slice none 0 0,.int .u8 0,.int .u8 0],[]⟩ 8 (by kernel_rfl) (by kernel_rfl) (by kernel_rfl) (by kernel_rfl)) ?_
 intro W base args ds gs before fJ hW _ _
 exact Zir H enc W base args ds gs before fJ hW
theorem rounds_holds:Rows.SpanRoundsSaid:=
 OpenClaim.holds_of_wide 6 Try.f6 rfl rfl rfl rfl rfl rfl rfl ⟨rfl,rfl,rfl,rfl,rfl⟩ rfl rfl rfl rfl rfl (by kernel_rfl) Try.func6 (by kernel_rfl)
  (of_decide_eq_true (by kernel_rfl)) (by unfold Func.isWrapper;first|(rw[if_pos (by decide +kernel)];kernel_rfl)|(rw[if_neg (by decide +kernel)];exact⟨rfl,rfl⟩))
  (λos started H enc _=>Zk7 os started H enc)
#print axioms rounds_holds
end Go.Proofs.Ytgclajkldphoaaa
