/- Part of the proof: conditions and contracts of functions of this program. No condition of its own. -/
import Derived.Test.YtfgfahnakepegaaGreatPC15TD
import Derived.Test.YtfgfahnakepegaaGreatPEnv
import Derived.Test.YtfgfahnakepegaaGreatMc
import Derived.Test.YtfgfahnakepegaaGreatMr
import Derived.Test.YtfgfahnakepegaaGreatPVRT
set_option linter.unusedVariables false
set_option linter.unusedSimpArgs false
set_option linter.unusedSectionVars false
noncomputable section
namespace Go.Proofs.YtfgfahnakepegaaGreat
open Go Go.Eng Go.Rx Go.Proofs Go.RowKit
set_option maxRecDepth 100000
theorem Zio(t:T)(cs:List Value)(L:List T)(css:List (List Value))(a:Option Addr)(c:Nat)(m:Mem)(hr:RefT m t cs)(hg:t.good=true)(aP:rowRd m a css.flatten)(bO:RefAt m L css)(hL:∀x∈L,x.good=true)(Do:∀x∈L,x.er=x)(hs:szL L<=9000)
  (h4:t.k=4->L≠[]) (h5:t.k=5->∃o,L=[o]/\o.k≠1) (h6:t.k=6->∃o,L=[o]) (B7:t.k=1\/t.k=2->L=[]):
  CX Tryz.prog 106 #[.agg cs.toArray,.slice a L.length c] m [] (ZrM (t.built L)):=by
 apply Zf8
 have fD:=ZcR hg
 have B8:=Zkm (Zan hg).1
 refine hr.chk λb m1 aK _ b1=>Zap hr.at0 (Zaa rfl (Zdl (λh=>?_) (λh=>Zaa rfl (Zdl (λh'=>?_) (λh'=>Zaa rfl (Zdl (λh''=>?_) (λh''=>Zaa rfl (Zdl (λh3=>?_) (λh3=>hr.chk1 (Zah aK ?_))))))))))
 ·have h:t.k=3:=h
  refine Zae (Zs9 L css a c m1 (aP.mono aK) (bO.mono aK) hL hs) Za5 (Ze4 λcs2 m2 aO h2=>h2.chk1 ⟨m2,mLt aK aO,Mem.le_refl _,cs2,rfl,?_⟩)
  unfold T.built
  rw[if_pos h];exact h2
 ·have h':t.k=4:=h'
  refine Zae (Zyt L css a c m1 (aP.mono aK) (bO.mono aK) hL hs (h4 h')) Za5 (Ze4 λcs2 m2 aO h2=>h2.chk1 ⟨m2,mLt aK aO,Mem.le_refl _,cs2,rfl,?_⟩)
  unfold T.built
  rw[if_neg (by omega),if_pos h'];exact h2
 ·have h'':t.k=5:=h''
  obtain⟨o,rfl,ho⟩:=h5 h''
  have hb:=(fD.2.2.1 h'').2
  obtain⟨b0,o0,cso,rfl,bA,jP⟩:=ZbZ aP bO (i:=0) (t:=o) rfl
  have hz:=fD.2.2.2.2.2.1 (by omega)
  rw[Zci]at hs
  obtain⟨_,_,ta,tc,tss,e0,_⟩:=ZaX.1 hr
  have sZ:cs[257]?=some (.int .i64 t.mn):=by rw[e0];exact Zwd _ _ _ _ _ _ _
  have mZ:cs[258]?=some (.int .i64 t.mx):=by rw[e0];exact Zwe _ _ _ _ _ _ _
  refine⟨λ_ _ _=>ZrM (Zba 5 t.mn t.mx none 0 [o]),b0,o0,rfl,⟨by omega,by simp⟩,cso,jP.len,by simpa using bA.mono aK,Zap sZ (Zap mZ ⟨_,rfl,ZuN o cso t.mn t.mx m1 (jP.mono aK) (hL o (by simp)) hs hb ho,Za5,Ze4 λcs2 m2 aO h2=>h2.chk1 λM cM cS=>⟨M,mLt aK cM,Mem.le_refl _,cs2,rfl,?_⟩⟩)⟩
  unfold T.built
  rw[if_neg (by omega),if_neg (by omega),h'',hz.1,hz.2.1,hz.2.2.1,hz.2.2.2]
  exact h2.mono cS
 ·have h3:t.k=6:=h3
  obtain⟨o,rfl⟩:=h6 h3
  obtain⟨b0,o0,cso,rfl,bA,jP⟩:=ZbZ aP bO (i:=0) (t:=o) rfl
  have hz:=fD.2.2.2.2.2.1 (by omega)
  have cI:=fD.2.2.2.2.2.2 (by omega)
  rw[Zci]at hs
  refine⟨b0,o0,rfl,⟨by omega,by simp⟩,cso,jP.len,by simpa using bA.mono aK,Zae (Zqb o cso m1 (jP.mono aK) (hL o (by simp)) hs) Za5 (Ze4 λcs2 m2 aO h2=>h2.chk1 ⟨m2,mLt aK aO,Mem.le_refl _,cs2,rfl,?_⟩)⟩
  unfold T.built
  rw[if_neg (by omega),if_neg (by omega),h3,hz.1,hz.2.1,hz.2.2.1,hz.2.2.2,cI.1,cI.2]
  exact h2
 ·have e3:¬t.k=3:=h
  have e4:¬t.k=4:=h'
  have e5:¬t.k=5:=h''
  have e6:¬t.k=6:=h3
  have oM:t.k=1\/t.k=2:=by
   rcases B8 with h|h|h|h|⟨h,_⟩|⟨h,_⟩
   ·exact .inl h
   ·exact .inr h
   all_goals omega
  have bH:=fD.2.2.2.2.1 oM
  have hb:=ZeG hg
  rw[bH,List.map_nil]at hb
  rw[B7 oM,hb]
  exact⟨cs,rfl,(Zfr t cs).2 hr⟩
theorem ZwK{c:C4}{l:List T}{i n:Nat}{x:T}(h:Zem c (Zax l) n)(hx:l[i]?=some x):Zem c x.alts (n+(Zax (l.take i)).length):=by
 intro j al hj hn
 refine h ((Zax (l.take i)).length+j) al ?_ (by omega)
 have e:Zax l=Zax (l.take i)++Zax (l.drop i):=by rw[<-Zdj,List.take_append_drop]
 rw[e,Zq4 hx,zA4 (by omega),show(Zax (l.take i)).length+j - (Zax (l.take i)).length=j by omega,zA5 (zA0 hj).1]
 exact hj
theorem Zg1{c:C4}:∀(l:List T)(n:Nat),(ZbS c l n).length=l.length
 | [],_=>rfl
 | t::l,n=>by rw[ZbS,List.length_cons,Zg1 l,List.length_cons]
set_option maxHeartbeats 4000000 in
theorem Zi8(c:C4):∀(t:T)(cs:List Value)(n:Nat)(m:Mem),RefT m t cs->t.good=true->t.nodes.length<=300->n+t.nodes.length<=10000->Zem c t.alts n->
  CX Tryz.prog 76 #[.agg cs.toArray,c.v,.int .i64 n] m [] (ZrM (t.cutAt c n).1):=by
 intro t
 induction hN:SizeOf.sizeOf t using Nat.strongRecOn generalizing t with
 | ind N ih=>
 intro cs n m hr hg hz hn bZ
 have rT:=hr
 obtain⟨bD,aU,a,cc,css,ecs,aP,bO,bL⟩:=ZaX.1 hr
 have gM:=(Zan hg).2
 have fD:=ZcR hg
 have bE:=Zb9 t
 have rU:=Zel t
 have uV:=Zbo t.subs
 have eA:cs[259]?=some (.slice a t.subs.length cc):=by rw[ecs];exact ZpD _ _ _ _ _ _ _
 have vW:=Zuj (c:=c) (n:=n) hg
 apply Zl4
 refine hr.chk λb m1 aK _ b1 m2 aO _ b2=>?_
 have bR:=mLt aK aO
 refine⟨t.k == 4&&n == c.a,Zap hr.at0 (Zaa rfl (Zdl (λh=>⟨by trivial,?_⟩) (λh=>⟨by trivial,?_⟩))),Zac (λhb=>?_) (λhb=>?_)⟩
 ·have h:t.k=4:=h
  have e:(((n:Nat):Int) == ((c.a:Nat):Int))=(n == c.a):=by rw[Bool.eq_iff_iff];simp only[beq_iff_eq];omega
  rw[e,h];rfl
 ·have h:¬t.k=4:=h
  have:(t.k == 4)=false:=by simpa using h
  rw[this];rfl
 ·simp only[zA7,beq_iff_eq]at hb
  have hf:=ZdS bZ hb.1 hb.2
  have ho:=ZmQ gM hf
  rw[if_pos hb]at vW
  have sO:=ho.sz
  have tZ:∀x∈(Zg7 t.subs c).map T.er,x.good=true:=λx hx=>by
   obtain⟨y,hy,rfl⟩:=List.mem_map.1 hx
   rw[ZbY];exact ho.good y hy
  refine⟨λi _ _=>bif Nat.beq i 4 then ZrQ (Zg7 t.subs c)else ZrM (Zd9 (Zg7 t.subs c)),Zap eA ⟨_,rfl,ZwJ t.subs css a cc c m2 (aP.mono bR) (bO.mono bR) bL gM (by omega) hf,ZdU,?_⟩⟩
  rintro a5 n5 c5 m3 aX ⟨ax,cx,xss,hv,cO,gB⟩
  simp only[Value.slice.injEq]at hv
  obtain⟨rfl,rfl,rfl⟩:=hv
  have bQ:=mLt bR aX
  have uW:t.built ((Zg7 t.subs c).map T.er)=Zd9 (Zg7 t.subs c):=by
   unfold T.built
   rw[if_neg (by omega),if_pos hb.1,<-Zko]
  have uX:=Zio t cs ((Zg7 t.subs c).map T.er) xss a5 c5 m3 (hr.mono bQ) hg cO (gB.of_er (by rw[List.map_map];exact(List.map_congr_left λz _=>ZdQ z).symm)) tZ (λx hx=>by
   obtain⟨y,hy,rfl⟩:=List.mem_map.1 hx
   exact ZdQ y) (by rw[Zeb (l':=Zg7 t.subs c) (by rw[List.map_map];exact List.map_congr_left λz _=>ZdQ z)];omega) (λ_=>by
    have:=ho.ne
    simpa using this) (λh=>by omega) (λh=>by omega) (λh=>by omega)
  rw[uW,List.length_map]at uX
  refine⟨_,rfl,uX,Za5,Ze4 λcs2 m4 bB h4=>h4.chk1 λM cM cS dM=>⟨M,mLt bR cM,Mem.le_refl _,cs2,rfl,?_⟩⟩
  rw[vW]
  exact h4.mono dM
 ·have dL:¬(t.k=4/\n=c.a):=λe=>by rw[e.1,e.2]at hb;simp at hb
  rw[if_neg dL]at vW
  have pL:=ZfU bZ
  have nJ:(if t.k=4 then n+1 else n)<=n+1:=by split <;> omega
  have B9:t.k=4->IntKind.i64.wrap ((n:Int)+1)=(((if t.k=4 then n+1 else n:Nat)):Int):=λh=>by rw[if_pos h,Zas (by omega) (by omega)];rfl
  have yp:¬t.k=4->(n:Int)=(((if t.k=4 then n+1 else n:Nat)):Int):=λh=>by rw[if_neg h]
  have hl:=ZhQ (c:=c) t.subs _ gM pL
  rw[ZiX _ _ gM]at hl
  generalize bN:(if t.k=4 then n+1 else n)=n1 at *
  have uY:∀i,n1+(Zax (t.subs.take i)).length<=20000:=λi=>by
   have:=ZlY t.subs i
   omega
  refine Zap hr.at0 (Zaa rfl (Zdl (λh4=>?_) (λh4=>?_)))
  all_goals
   have h4':=h4
   refine⟨λxs _ tvs m' q=>∃(i:Nat)(a1:Option Addr)(c1:Nat) (R:List (List Value)),i<=t.subs.length/\xs=[.int .i64 (n1+(Zax (t.subs.take i)).length:Nat),.slice a1 i c1,.int .i64 i]/\tvs=[.slice a1 i c1]/\rowRd m' a1 R.flatten/\RefAt m' (ZbS c (t.subs.take i) n1) R/\q=t.subs.length - i,⟨_,0,none,0,[],Nat.zero_le _,by first|(rw[B9 h4'];rfl)|(rw[yp h4'];rfl),rfl,.inl rfl,by simp[ZbS,RefAt],rfl⟩,?_⟩
   rintro z1 a1 k1 c1 z2 a2 k2 c2 m3 q aX ⟨i,a3,c3,R,hi,aZ,bY,cF,hR,hq⟩
   simp only[List.cons.injEq,Value.slice.injEq,Value.int.injEq,true_and,and_true]at aZ bY
   obtain⟨rfl,⟨rfl,rfl,rfl⟩,rfl⟩:=aZ
   obtain⟨rfl,rfl,rfl⟩:=bY
   subst hq
   have bQ:=mLt bR aX
   have jA:=hR.len
   rw[Zg1,List.length_take,Nat.min_eq_left hi]at jA
   have Af:=ZbO hR.all
   have Dp:=uY k2
   have Ca:=uY (k2+1)
   refine Zap eA (Zaa rfl (Za4 (λaS=>Zap eA (Zaa rfl ?_)) (λbI=>?_)))
   ·have aN:k2 < t.subs.length:=by simp only[slN]at aS;omega
    obtain⟨x,hx⟩:=ZaQ aN
    have cL:=zA2 hx
    obtain⟨b0,o0,csx,rfl,bA,bS⟩:=ZbZ aP bO hx
    have aZ:=Zbq cL
    have iK:=Zdi cL
    have cU:Zaf (k2:Int) (slN (.slice (some ⟨b0,o0,none⟩) t.subs.length cc)):=⟨by omega,by simp only[slN];omega⟩
    have hw:IntKind.i64.wrap ((k2:Int)+1)=((k2+1:Nat):Int):=by rw[Zas (by omega) (by omega)];rfl
    have cK:=ZiY hx
    have bX:=congrArg List.length cK
    rw[zA1]at bX
    have fN:IntKind.i64.wrap (((n1+(Zax (t.subs.take k2)).length:Nat):Int)+(x.alts.length:Nat))=((n1+(Zax (t.subs.take (k2+1))).length:Nat):Int):=by rw[Zas (by omega) (by omega),bX];omega
    have rO:=ZnC (c:=c) (n:=n1) hx
    simp only[hw,zA8]
    refine⟨b0,o0,rfl,cU,csx,bS.len,bA.mono bQ,Zae (Ztc x csx m3 (bS.mono bQ) (by omega)) ZdU ?_⟩
    rintro a6 n6 c6 m4 bB ⟨ax,cx,xss,hv,_,_⟩
    simp only[Value.slice.injEq]at hv
    obtain⟨rfl,rfl,rfl⟩:=hv
    simp only[fN]
    have fH:=mLt bQ bB
    refine⟨decide (n1+(Zax (t.subs.take k2)).length<=c.a/\c.a < n1+(Zax (t.subs.take k2)).length+x.alts.length),Za4 (λh1=>⟨by trivial,by trivial,?_⟩) (λh1=>⟨by trivial,by trivial,?_⟩),Za4 (λmV=>?_) (λmV=>Zap eA (Zaa rfl ?_))⟩
    ·show[Value.bool (decide _)]=[Value.bool (decide _)]
     congr 2
     exact decide_eq_decide.2 (by rw[bX];omega)
    ·show[Value.bool false]=[Value.bool (decide _)]
     congr 2
     exact(decide_eq_false (by omega)).symm
    ·have tM:Zg8 c x (n1+(Zax (t.subs.take k2)).length)=(x.cutAt c (n1+(Zax (t.subs.take k2)).length)).1:=by unfold Zg8;rw[if_pos mV]
     refine⟨λ_ _ _=>ZrM (Zg8 c x (n1+(Zax (t.subs.take k2)).length)),Zap eA (Zaa rfl ⟨b0,o0,rfl,cU,csx,bS.len,bA.mono fH,_,rfl,?_,Za5,Ze4 λcs5 m5 cC h5=>h5.chk2 λb7 fK=>⟨.inl trivial,R.flatten,cs5,by rw[Af,jA],by rw[h5.len],(cF.mono (mLt bB cC)).mono (Mem.le_add fK _),Zc9,h5.one,by omega,by omega,λa7 c7 m7 cB eP M cM cS dM jH=>⟨by trivial,t.subs.length - (k2+1),by omega,k2+1,a7,c7,R++[cs5],by omega,rfl,rfl,(ZdB eP).mono jH,?_,rfl⟩⟩⟩)⟩
     ·rw[tM]
      exact ih _ (by omega) x rfl csx _ m4 (bS.mono fH) (gM x cL) (by omega) (by have:=ZlY t.subs k2;have h1:=ZdA (t.subs.take k2);have h2:=Zcu t.subs k2;have h3:x.nodes.length<=szL (t.subs.drop k2):=Zbq (List.mem_of_getElem? (i:=0) (by rw[List.getElem?_drop];exact hx));omega) (ZwK pL hx)
     ·rw[rO]
      have uZ:=mLt (Mem.le_add fK _) cB
      exact(hR.mono (mLt bB cM)).append (RefAt.one (h5.mono cS))
    ·have tM:Zg8 c x (n1+(Zax (t.subs.take k2)).length)=x.er:=by unfold Zg8;rw[if_neg mV]
     refine⟨b0,o0,rfl,cU,csx,bS.len,bA.mono fH,bS.chk2 λb7 fK=>⟨.inl trivial,R.flatten,csx,by rw[Af,jA],by rw[bS.len],(cF.mono bB).mono (Mem.le_add fK _),Zc9,bS.one,by omega,by omega,λa7 c7 m7 cB eP=>⟨by trivial,t.subs.length - (k2+1),by omega,k2+1,a7,c7,R++[csx],by omega,rfl,rfl,ZdB eP,?_,rfl⟩⟩⟩
     rw[rO,tM]
     have kV:=mLt (Mem.le_add fK _) cB
     exact(hR.mono (mLt bB kV)).append (RefAt.one ((Zfr x csx).2 (bS.mono (mLt fH kV))))
   ·have:k2=t.subs.length:=by simp only[slN]at bI;omega
    subst this
    rw[List.take_length]at hR
    have uX:=Zio t cs (ZbS c t.subs n1) R a2 c2 m3 (hr.mono bQ) hg cF hR (λx hx=>(hl.2.1 x hx).1) (λx hx=>(hl.2.1 x hx).2) (by have:=hl.2.2.1;omega) (λh e=>by
     have:=fD.2.1 h
     rw[e]at hl
     simp at hl;omega) (λh=>by
     obtain⟨⟨x,hx,gC⟩,_⟩:=fD.2.2.1 h
     have h1:=hl.2.2.2.2 (λy hy=>by rw[hx]at hy;simp at hy;subst hy;exact gC)
     rw[hx]at h1 ⊢
     exact⟨_,rfl,h1 _ (by simp[ZbS])⟩) (λh=>by
     obtain⟨x,hx⟩:=fD.2.2.2.1 h
     rw[hx];exact⟨_,rfl⟩) (λh=>by rw[fD.2.2.2.2.1 h];rfl)
    rw[Zg1]at uX
    refine Zae uX Za5 (Ze4 λcs4 m4 bB h4=>h4.chk1 ⟨m4,mLt bQ bB,Mem.le_refl _,cs4,rfl,?_⟩)
    rw[vW];exact h4
theorem Ztd(a b c d a' b' c' d':Int):EqIs Tryz.prog 79 (.agg #[.int .i64 a,.int .i64 b,.int .i64 c,.int .i64 d]) (.agg #[.int .i64 a',.int .i64 b',.int .i64 c',.int .i64 d']) (a == a'&&b == b'&&c == c'&&d == d'):=by
 refine⟨λw=>?_,λop ox oy w=>Zef (by kernel_rfl) op ox oy _ _ w⟩
 have u3:=Tryz.underlying3
 have a3:=Tryz.isAgg3
 have z3:=Tryz.sizeOf3
 rw[Op.equal,Op.maxDepth,show(10000:Nat)=9999+1 from rfl]
 rw[run_equalIn_agg _ _ _ _ _ (by kernel_rfl) (by kernel_rfl)]
 have hf:(Tryz.prog.fieldsOf 79).toList=[⟨ "Alt",3,0,false, "", "",0⟩,⟨ "From",3,1,false, "", "",8⟩,⟨ "To",3,2,false, "", "",16⟩,⟨ "Length",3,3,false, "", "",24⟩]:=by kernel_rfl
 rw[hf]
 go_simp
 by_cases h1:a=a' <;> by_cases h2:b=b' <;> by_cases h3:c=c' <;> by_cases h4:d=d' <;> simp[h1,h2,h3,h4]
def IsC(k:C4)(a b c d:Int):Prop:=((k.a:Nat):Int)=a/\((k.f:Nat):Int)=b/\((k.t:Nat):Int)=c/\((k.n:Nat):Int)=d
def ZBC(e:Int)(E:T):Value->Mem->List (List Value)->Prop:=λv m' _=>∃cs,v=.tuple #[.agg cs.toArray,.int .i64 e]/\RefT m' E cs
def ZA9(t:T)(a b c d:Int):Value->Mem->List (List Value)->Prop:=λv m' css=>(∃k∈t.cuts,IsC k a b c d/\ZBC 0 (t.cutAt k 0).1 v m' css)\/((∀k∈t.cuts,¬IsC k a b c d)/\ZBC 150 T0 v m' css)
theorem ZuP{t:T}{a b c d:Int}:∀(v:Value)(m':Mem) (css:List (List Value)),ZA9 t a b c d v m' css->Shape.fits (.tup [.cells,.int .i64]) v=true:=by
 rintro v m' css (⟨_,_,_,_,h,_⟩|⟨_,_,h,_⟩)
 ·rw[h];rfl
 ·rw[h];rfl
theorem Zi9{m:Mem}{a:Option Addr}{L:List C4}(h:rowRd m a (ZaI L)){i:Nat}{k:C4}(hk:L[i]?=some k):∃b o,a=some ⟨b,o,none⟩/\m.reads b (o+i*4) (Zcd k):=by
 have key:∀{L:List C4} {i:Nat},L[i]?=some k->∀j v,(Zcd k)[j]?=some v->(ZaI L)[i*4+j]?=some v:=by
  intro L
  induction L with
  | nil=>intro i h;simp at h
  | cons x L ih=>
   intro i h j v hv
   have hj:j < 4:=(zA0 hv).1
   have e:ZaI (x::L)=Zcd x++ZaI L:=rfl
   cases i with
   | zero=>
    simp at h;subst h
    rw[e,Nat.zero_mul,Nat.zero_add,zA5 hj];exact hv
   | succ i=>
    rw[e,zA4 (by show 4<=_;omega),show(i+1)*4+j - (Zcd x).length=i*4+j from by show(i+1)*4+j - 4=_;omega]
    exact ih (by simpa using h) j v hv
 rcases h with h|⟨b,o,e,h⟩
 ·have h1:=ZcT L
  have h2:=(zA0 hk).1
  rw[h]at h1;simp at h1;omega
 ·exact⟨b,o,e,λj v hv=>by have:=h _ v (key hk j v hv);rwa [<-Nat.add_assoc]at this⟩
theorem Zyu(t:T)(cs:List Value)(a b c d:Int)(m:Mem)(hr:RefT m t cs)(hg:t.good=true)(hz:t.nodes.length<=120):CX Tryz.prog 50 #[.agg cs.toArray,.agg #[.int .i64 a,.int .i64 b,.int .i64 c,.int .i64 d]] m [] (ZA9 t a b c d):=by
 apply Zn7
 have bK:=Zi6 (t:=t) (by omega)
 refine hr.chk λb0 m1 aK _ b1 m2 aO _ b2=>?_
 have bR:=mLt aK aO
 refine Zae (Zga t cs m2 (hr.mono bR) (by omega)) Zf9 ?_
 rintro a3 n3 c3 m3 aX ⟨aa,ac,hv,aP⟩
 simp only[Value.slice.injEq]at hv
 obtain⟨rfl,rfl,rfl⟩:=hv
 have bQ:=mLt bR aX
 refine⟨λxs _ _ m' q=>∃i:Nat,i<=t.cuts.length/\xs=[.int .i64 i]/\(∀k∈t.cuts.take i,¬IsC k a b c d)/\q=t.cuts.length - i,⟨_,0,Nat.zero_le _,rfl,by simp,rfl⟩,?_⟩
 rintro z cs' m4 q bB ⟨i,hi,aZ,dL,hq⟩
 obtain rfl:z=i:=by simpa using aZ
 subst hq
 have fH:=mLt bQ bB
 refine Za4 (λaS=>?_) (λbI=>?_)
 ·have aN:i < t.cuts.length:=by omega
  obtain⟨k,hk⟩:=ZaQ aN
  have kZ:=zA2 hk
  obtain⟨bb,o,rfl,bA⟩:=Zi9 (aP.mono bB) hk
  have hw:IntKind.i64.wrap ((i:Int)+1)=((i+1:Nat):Int):=by rw[Zas (by omega) (by omega)];rfl
  simp only[hw,zA8]
  refine⟨bb,o,rfl,⟨by omega,by omega⟩,_,_,_,_,bA,_,Ztd _ _ _ _ _ _ _ _,Zac (λhy=>?_) (λhy=>?_)⟩
  ·simp only[zA7,beq_iff_eq]at hy
   obtain⟨⟨⟨rfl,rfl⟩,rfl⟩,rfl⟩:=hy
   refine Zae (Zi8 k t cs 0 m4 (hr.mono fH) hg (by omega) (by omega) (ZcS kZ)) Za5 (Ze4 λcs5 m5 cC h5=>h5.chk1 ⟨m5,mLt fH cC,Mem.le_refl _,.inl ⟨k,kZ,⟨rfl,rfl,rfl,rfl⟩,cs5,rfl,h5⟩⟩)
  ·refine⟨by trivial,t.cuts.length - (i+1),by omega,i+1,aN,rfl,?_,rfl⟩
   rw[List.take_add_one,hk]
   intro k' hk'
   rcases List.mem_append.1 hk' with hk'|hk'
   ·exact dL k' hk'
   ·simp at hk';subst hk'
    rintro⟨h1,h2,h3,h4⟩
    rw[h1,h2,h3,h4]at hy
    simp at hy
 ·have:i=t.cuts.length:=by omega
  subst this
  rw[List.take_length]at dL
  have e:Zfi=rcs 0 (0,0,0,0) 0 0 none 0 0:=Zil 0 0 0 none 0 0
  rw[e]
  exact⟨m4,fH,Mem.le_refl _,.inr ⟨dL,_,rfl,ZuM _⟩⟩
set_option maxHeartbeats 1600000 in
theorem Zm9(t:T)(cs:List Value)(m:Mem)(hr:RefT m t cs)(hg:t.good=true)(hz:t.nodes.length<=120):CX Tryz.prog 40 #[.agg cs.toArray] m [] (Ret (.tuple #[(Za1 t).c.v,.int .i64 (Za1 t).g])):=by
 apply Zl8
 have bK:=Zi6 (t:=t) (by omega)
 have bE:=Zbz (t:=t) (by omega)
 refine hr.chk λb0 m1 aK _ b1 b2=>Zae (Zga t cs m1 (hr.mono aK) (by omega)) Zf9 ?_
 rintro a3 n3 c3 m3 aX ⟨aa,ac,hv,aP⟩
 simp only[Value.slice.injEq]at hv
 obtain⟨rfl,rfl,rfl⟩:=hv
 have bQ:=mLt aK aX
 refine⟨λxs css _ m' q=>∃i:Nat,i<=t.cuts.length/\xs=[.int .i64 ((t.cuts.take i).foldl (Zbg t) ⟨C4.zero,0,t.er⟩).g,.int .i64 i]/\css=[Zcd ((t.cuts.take i).foldl (Zbg t) ⟨C4.zero,0,t.er⟩).c]/\q=t.cuts.length - i,⟨_,0,Nat.zero_le _,rfl,rfl,rfl⟩,?_⟩
 rintro z1 z2 cs' m4 q bB ⟨i,hi,aZ,bW,hq⟩
 simp only[List.cons.injEq,Value.int.injEq,true_and,and_true]at aZ bW
 obtain⟨rfl,rfl⟩:=aZ
 subst bW hq
 have fH:=mLt bQ bB
 refine Za4 (λaS=>?_) (λbI=>?_)
 ·have aN:i < t.cuts.length:=by omega
  obtain⟨k,hk⟩:=ZaQ aN
  have kZ:=zA2 hk
  obtain⟨bb,o,rfl,bA⟩:=Zi9 (aP.mono bB) hk
  have hw:IntKind.i64.wrap ((i:Int)+1)=((i+1:Nat):Int):=by rw[Zas (by omega) (by omega)];rfl
  have uN:=ZgH (c:=k) t 0 hg (ZcS kZ)
  have rP:=Zbz (t:=(t.cutAt k 0).1) (by have:=uN.sz;omega)
  have bU:(t.cuts.take (i+1)).foldl (Zbg t) ⟨C4.zero,0,t.er⟩=Zbg t ((t.cuts.take i).foldl (Zbg t) ⟨C4.zero,0,t.er⟩) k:=by
   rw[ZbR hk,List.foldl_append];rfl
  have mR:IntKind.i64.wrap (t.size - (t.cutAt k 0).1.size)=Zec t k:=by
   rw[bE,rP]
   unfold Zec
   have:=uN.sz
   rw[Zas (by omega) (by omega)]
  simp only[hw,zA8]
  refine⟨bb,o,rfl,⟨by omega,by omega⟩,_,_,_,_,bA,λb4=>Zaa rfl ⟨λj _ _=>bif Nat.beq j 1 then Ret (.int .i64 t.size)else bif Nat.beq j 4 then ZrM (t.cutAt k 0).1 else Ret (.int .i64 (t.cutAt k 0).1.size),_,rfl,Zi3 t cs m4 (hr.mono fH),(λv _ _ e=>by rw[e];rfl),?_⟩⟩
  intro n5 m5 cC yq
  obtain rfl:n5=t.size:=by have yq:Value.int .i64 n5=.int .i64 t.size:=yq;simpa using yq
  refine⟨_,rfl,Zi8 k t cs 0 m5 (hr.mono (mLt fH cC)) hg (by omega) (by omega) (ZcS kZ),Za5,Ze4 λcs6 m6 cI h6=>⟨_,rfl,Zi3 _ cs6 m6 h6,(λv _ _ e=>by rw[e];rfl),?_⟩⟩
  intro n7 m7 cB yr
  obtain rfl:n7=(t.cutAt k 0).1.size:=by have yr:Value.int .i64 n7=.int .i64 (t.cutAt k 0).1.size:=yr;simpa using yr
  intro M _ _ _ _
  simp only[mR]
  generalize (t.cuts.take i).foldl (Zbg t) ⟨C4.zero,0,t.er⟩=B at *
  refine⟨ZgI B.c k B.g (Zec t k),?_,Zac (λhy=>Zaa rfl ⟨by trivial,t.cuts.length - (i+1),by omega,i+1,aN,?_,?_,rfl⟩) (λhy=>⟨by trivial,t.cuts.length - (i+1),by omega,i+1,aN,?_,?_,rfl⟩)⟩
  ·have e1:(((k.a:Nat):Int) == ((B.c.a:Nat):Int))=(k.a == B.c.a):=by rw[Bool.eq_iff_iff];simp only[beq_iff_eq];omega
   have e2:(((k.f:Nat):Int) == ((B.c.f:Nat):Int))=(k.f == B.c.f):=by rw[Bool.eq_iff_iff];simp only[beq_iff_eq];omega
   have e3:decide (((k.t:Nat):Int) > ((B.c.t:Nat):Int))=decide (k.t > B.c.t):=decide_eq_decide.2 (by omega)
   unfold ZgI
   refine Zac (λx1=>⟨by trivial,by rw[x1];rfl⟩) (λx1=>Zac (λx3=>Zac (λx2=>Zap (v:=.int .i64 (B.c.a:Nat)) rfl (Zaa rfl ?_)) (λx2=>⟨by trivial,by rw[x1,x2];rfl⟩)) (λx3=>⟨by trivial,by rw[x1,x3];cases(Zec t k == B.g) <;> rfl⟩))
   show br (((k.a:Nat):Int) == ((B.c.a:Nat):Int)) _ _
   rw[x1,x2,x3,e1]
   refine Zac (λx4=>Zap (v:=.int .i64 (B.c.f:Nat)) rfl (Zaa rfl ?_)) (λx4=>⟨by trivial,by rw[x4];rfl⟩)
   show br (((k.f:Nat):Int) == ((B.c.f:Nat):Int)) _ _
   rw[x4,e2]
   refine Zac (λx5=>Zap (v:=.int .i64 (B.c.t:Nat)) rfl (Zaa rfl ⟨by trivial,?_⟩)) (λx5=>⟨by trivial,by rw[x5];rfl⟩)
   show[Value.bool (decide (((k.t:Nat):Int) > ((B.c.t:Nat):Int)))]=_
   rw[x5,e3];rfl
  ·rw[bU];unfold Zbg;rw[hy,if_pos rfl]
  ·rw[bU];unfold Zbg;rw[hy,if_pos rfl];rfl
  ·rw[bU];unfold Zbg;rw[hy];rfl
  ·rw[bU];unfold Zbg;rw[hy];rfl
 ·have:i=t.cuts.length:=by omega
  subst this
  rw[List.take_length]
  exact Zaa rfl (Zah fH rfl)
def Zzz(L:List C4)(E:T):Value->Mem->List (List Value)->Prop:=λv m' _=>∃a c cs,v=.tuple #[.slice a L.length c,.agg cs.toArray]/\rowRd m' a (ZaI L)/\RefT m' E cs
theorem ZwL(t:T):0<=(Za1 t).g:=by
 rcases(Zle t).or with h|h <;> omega
theorem Zqg(t:T)(cs:List Value)(m:Mem)(hr:RefT m t cs)(hg:t.good=true)(hz:t.nodes.length<=120):CX Tryz.prog 39 #[.agg cs.toArray] m [] (Zzz (ZaF t).2 (ZaF t).1):=by
 apply ZjQ
 have eA:=ZmX hg
 refine hr.chk λb0 b1=>⟨λxs css tvs m' q=>∃(x:T)(P:List C4)(a1:Option Addr)(c1:Nat)(ds es:List Value),xs=[.slice a1 P.length c1]/\tvs=[.slice a1 P.length c1]/\css=[ds,es]/\RefT m' x ds/\x.good=true/\x.nodes.length<=120/\rowRd m' a1 (ZaI P)/\P++(ZaF x).2=(ZaF t).2/\(ZaF x).1=(ZaF t).1/\q=x.nodes.length,⟨_,t,[],none,0,cs,_,rfl,rfl,rfl,hr,hg,hz,.inl rfl,rfl,rfl,rfl⟩,?_⟩
 rintro a1 n1 c1 ds es a2 n2 c2 m1 q aK ⟨x,P,a3,c3,ds',es',aZ,bY,bW,hx,iG,iO,aP,hP,hf,hq⟩
 simp only[List.cons.injEq,Value.slice.injEq,true_and,and_true]at aZ bY bW
 obtain⟨rfl,rfl,rfl⟩:=aZ
 obtain⟨rfl,rfl,rfl⟩:=bY
 obtain⟨rfl,rfl⟩:=bW
 subst hq
 have Aa:=congrArg List.length hP
 rw[zA1]at Aa
 refine⟨_,trivial,Zm9 x ds m1 hx iG iO,(λv _ _ e=>by rw[e];rfl),?_⟩
 intro k1 k2 k3 k4 g m2 aO hv
 have hv:Value.tuple (Array.mk [.agg (Array.mk [.int .i64 k1,.int .i64 k2,.int .i64 k3,.int .i64 k4]),.int .i64 g])=.tuple #[(Za1 x).c.v,.int .i64 (Za1 x).g]:=hv
 simp only[C4.v,Value.tuple.injEq,Value.agg.injEq,Array.mk.injEq,List.cons.injEq,Value.int.injEq,true_and,and_true]at hv
 obtain⟨⟨rfl,rfl,rfl,rfl⟩,rfl⟩:=hv
 have bR:=mLt aK aO
 have nE:=ZwL x
 intro b3
 refine Zdl (λh0=>hx.chk1 ⟨m2,bR,Mem.le_refl _,a2,c2,ds,?_,?_,?_⟩) (λh0=>λb4 oG=>?_)
 ·rw[ZcE (by omega)]at hP
  rw[<-hP];simp
 ·rw[ZcE (by omega)]at hP
  rw[<-hP]
  simpa using aP.mono aO
 ·rw[<-hf,ZcE (by omega)]
  exact(Zfr x ds).2 (hx.mono aO)
 ·have hb:=ZdT iG (by omega)
  have nB:=Zx2 (t:=x) (by omega)
  rw[ZfX iG (by omega)]at hP hf
  refine⟨.inl rfl,ZaI P,Zcd (Za1 x).c,ZcT _,rfl,(aP.mono aO).mono (Mem.le_add oG _),Zi5,ZrB _,by omega,by omega,λa7 c7 m7 cB eP=>?_⟩
  have tp:=mLt (Mem.le_add oG _) cB
  refine Zae (Zi8 (Za1 x).c x ds 0 m7 (hx.mono (mLt aO tp)) iG (by omega) (by omega) (ZcS nB.2)) Za5 (Ze4 λcs8 m8 dT h8=>h8.chk1 ⟨by trivial,(Za1 x).t.nodes.length,by omega,(Za1 x).t,P++[(Za1 x).c],a7,c7,cs8,es,?_,?_,rfl,?_,hb.1,by omega,?_,?_,hf,rfl⟩)
  ·rw[zA1];rfl
  ·rw[zA1];rfl
  ·rw[nB.1];exact h8
  ·rw[ZcW];exact eP.mono dT
  ·rw[List.append_assoc];exact hP
end Go.Proofs.YtfgfahnakepegaaGreat
namespace Go.Proofs.YtfgfahnakepegaaGreat
open Go Go.Eng Go.Proofs Go.RowKit
open Go.Value (int slice agg bool string tuple func)
open Go.IntKind (u8 u64 i64)
set_option maxRecDepth 100000
def Zn8:Env:={ EB with
 loops:=swI nLa [(3,⟨[(18,.int .i64)],[3],[],false⟩),(8,⟨[(39,.int .i64)],[3],[(48,8)],false⟩)]
 dr:=swI [] [(5,[dO 0 [],dO 1 [0],⟨2,[3],[],none,[],[]⟩,⟨3,[3],[],none,[0,1,2],[]⟩,⟨4,[3],[],none,[0,1,2,3],[]⟩,dO 5 [],dO 6 [5],dO 7 [],dO 8 [7],dO 9 [5,6,7,8],dO 10 [0,1,2,3,4,5,6,7,8,9],⟨11,[3],[],none,[],[]⟩,⟨12,[3],[],none,rg 0 12,[]⟩,⟨13,[3],[3],none,rg 0 13,[]⟩]),(10,[⟨0,[3],[],none,[],[]⟩,⟨1,[3],[],none,[0],[]⟩,⟨2,[7],[],none,[],[]⟩,dO 3 [2],⟨4,[47],[47],none,[2,3],[3]⟩,⟨5,[47],[],some 48,[0,1,2,3,4],[4]⟩,⟨6,[3],[],none,[0,1,2,3,4,5],[]⟩,⟨7,[3],[3],none,[0,1,2,3,4,5,6],[]⟩])]
 tokOf:=swI 0 [(48,48)]
 frzNew:=[1]
 capF:=true }
abbrev Zmc:Nat->Option Box:=λb=>some (Box.mk b [int u8 0,int u64 0,int u64 0,int u64 0,int u64 0,int i64 0,int i64 0,slice none 0 0] 27 8 false true)
abbrev Zmd:List Value->Nat->Option Box:=λp0 b=>some (Box.mk b p0 67 260 true true)
abbrev Zg2:List Value->Nat->Nat->Nat->List (Option Box):=λp0 b ap aq=>[some (Box.mk aq [] 27 8 false true),Zmc ap,Zmd p0 b]
theorem Zme(p0:List Value)(m:Mem)(R:RT)(h:
 chk (Nat.beq (p0.length) 260) (∀(b:Nat) m',m.le m'->m'.reads b 0 p0->∀(ap:Nat),Eng.ZuZ p0 0 λv=>chk (ZaE i64 v) (Eng.ZuZ p0 257 λaa=>Eng.ZuZ p0 258 λac=>chk (Nat.beq (List.length (Array.toList
 (Value.cells aa))) 1&&true) (chk (Nat.beq (List.length (Array.toList (Value.cells ac))) 1&&Nat.ble (nat_lit 2) (List.length (List.append (Array.toList (Value.cells aa)) (List.drop (5+List.length (Array.toList (Value.cells
 aa))) [int u8 (u8.wrap (RowKit.intOf v)),int u64 0,int u64 0,int u64 0,int u64 0,int i64 0,int i64 0,slice none 0 0])))) (∀(aq:Nat),chk (Nat.beq (List.length (List.append (List.append (List.take (nat_lit 1) (List.append
 (Array.toList (Value.cells aa)) (List.drop (5+List.length (Array.toList (Value.cells aa))) [int u8 (u8.wrap (RowKit.intOf v)),int u64 0,int u64 0,int u64 0,int u64 0,int i64 0,int i64 0,slice none 0 0]))) (Array.toList
 (Value.cells ac))) (List.drop (6+List.length (Array.toList (Value.cells ac))) (Zau [int u8 (u8.wrap (RowKit.intOf v)),int u64 0,int u64 0,int u64 0,int u64 0,int i64 0,int i64 0,slice none 0 0] 5 (Array.toList
 (Value.cells aa)))))) (nat_lit 3)&&Zbi (List.append (List.append (List.take (nat_lit 1) (List.append (Array.toList (Value.cells aa)) (List.drop (5+List.length (Array.toList (Value.cells aa))) [int u8 (u8.wrap (RowKit.intOf
 v)),int u64 0,int u64 0,int u64 0,int u64 0,int i64 0,int i64 0,slice none 0 0]))) (Array.toList (Value.cells ac))) (List.drop (6+List.length (Array.toList (Value.cells ac))) (Zau [int u8 (u8.wrap (RowKit.intOf v)),
 int u64 0,int u64 0,int u64 0,int u64 0,int i64 0,int i64 0,slice none 0 0] 5 (Array.toList (Value.cells aa)))))) (chk (Nat.ble 257 (p0.length)) (∃(I:IT),(∃(n:Nat),I [int i64 0] [Zau (Zau [int u8 (u8.wrap
 (RowKit.intOf v)),int u64 0,int u64 0,int u64 0,int u64 0,int i64 0,int i64 0,slice none 0 0] 5 (Array.toList (Value.cells aa))) 6 (Array.toList (Value.cells ac))] [] m' n)/\∀n (cs:List Value) ae (au:Nat),m'.le ae->
 I [int i64 n] [cs] [] ae au->br (decide (n < 256)) (Zaf n 256/\Eng.ZuZ (List.take 256 (List.drop 1 p0)) (Int.toNat n) λu=>(64:Int)≠0/\Zaf (i64.wrap (Int.tdiv n (64:Int))) 4/\Eng.ZuZ cs (1+Int.toNat
 (i64.wrap (Int.tdiv n (64:Int)))*1) λv=>chk (ZaE i64 u) ((64:Int)≠0/\(0:Int)<=Int.tmod n (64:Int)/\chk (ZaE u64 v&&decide (u64=u64)) (Zaf (i64.wrap (Int.tdiv n (64:Int))) 4/\chk (Nat.ble (1 +
 Int.toNat (i64.wrap (Int.tdiv n (64:Int)))*1+1) (cs.length)) (Zab (Zg2 p0 b ap aq)/\∃(n':Nat),n' < au/\I [int i64 (i64.wrap (n+1))] [Zau cs (1+Int.toNat (i64.wrap (Int.tdiv n (64:Int)))*1) [int
 u64 (u64.wrap (↑(BitVec.toNat (BitVec.ofInt 64 (RowKit.intOf v)|||BitVec.ofInt 64 (u64.wrap (u64.wrap (RowKit.intOf u)*(2:Int) ^ min (Int.toNat (Int.tmod n (64:Int))) 64)))):Int))]] [] ae n')))) (Eng.ZuZ p0 259 λv=>
 chk (Zck v) (∃(I:IT),(∃(n:Nat),I [int i64 0] [cs] [slice none 0 0] ae n)/\∀n (cs:List Value) a av c m' (aw:Nat),ae.le m'->I [int i64 n] [cs] [slice a av c] m' aw->br (decide (n < (↑(slN v):Int))) (chk (Zck v)
 (∃(ax:Nat),∃(o:Nat),slA v=some (Addr.mk ax o none)/\Zaf n (slN v)/\∃(vs:List Value),vs.length=260/\m'.reads ax (o+Int.toNat n*260) vs/\∀(ay:Nat),chk (Nat.beq (vs.length) 260&&Zbi vs) (∃(f:
 Fx),Eng.ZuZ cs 7 λv=>∃R,R=f 3 [agg (.mk vs)] m'/\CX pG 73 (.mk [agg (.mk vs)]) m' [] R/\ZbT (shT) R/\∀af ag ah ai aj ak al am an ao ab,m'.le ab->R (agg (.mk [int u8 af,int u64 ag,int u64 ah,int u64 ai,int u64
 aj,int i64 ak,int i64 al,slice am an ao])) ab []->∀ad,ab.free ad->chk (Zck v&&true) ((Tok.mk (slice a av c) 8=Tok.mk v 8\/v=slice none 0 0\/slC v < slN v+1)/\∃(xs:List Value),∃(ys:List Value),xs.length =
 slN v*8/\ys.length=1*8/\rowRd (ab.add ad [int u8 af,int u64 ag,int u64 ah,int u64 ai,int u64 aj,int i64 ak,int i64 al,slice am an ao]) (slA v) xs/\rowRd (ab.add ad [int u8 af,int u64 ag,int u64 ah,int u64 ai,
 int u64 aj,int i64 ak,int i64 al,slice am an ao]) (some (Addr.mk ad 0 none)) ys/\(∀(u:Value),u∈ys->u.oneCell'=true)/\(slN v+1)*80<=140737488355328/\slN v+1<=9223372036854775807/\∀(a':Option Addr) (c':
 Nat) (ar:Mem),Mem.le (ab.add ad [int u8 af,int u64 ag,int u64 ah,int u64 ai,int u64 aj,int i64 ak,int i64 al,slice am an ao]) ar->rowRd ar a' (List.append xs ys)->slN v+1<=c'->chk (Nat.ble 8 (cs.length)) (∀M,
 m'.le M->ab.le M->Mem.le (ab.add ad [int u8 af,int u64 ag,int u64 ah,int u64 ai,int u64 aj,int i64 ak,int i64 al,slice am an ao]) M->ar.le M->Zab (Zg2 p0 b ap aq)/\∃(n':Nat),n' < aw/\I [int i64
 (i64.wrap (n+1))] [Zau cs 7 [slice a' (slN v+1) c']] [slice a' (slN v+1) c'] M n'))))) (chk (Nat.beq (cs.length) 8&&Zbi cs) (∃m'',m.le m''/\m''.le m'/\R (agg (.mk cs)) m'' []))))))))))):CX Tryz.prog 73 #[.agg p0.toArray] m [] R:=
 Zad (E:=Zn8) Zay mix Tryz.func73 [.v (.agg p0.toArray)] [] (by kernel_rfl) (Eq.mp (by kernel_rfl) h)
def ZjR:Env:={ EB with
 frzNew:=[1] }
theorem Zip(aD aE aF aG aJ aH aI:Int)(aB:Option Addr)(aA aC:Nat)(m:Mem)(R:RT)(h:
 lV [int u8 aD,int u64 aE,int u64 aF,int u64 aG,int u64 aJ,int i64 aH,int i64 aI,slice aB aA aC] λxL=>fzM m xL λb m'=>∀(b:Nat),∃R_1,True/\CX pG 34 (.mk [agg (.mk xL)]) m' [] R_1/\ZbT
 .cells R_1/\∀(cs:List Value) m'_1,m'.le m'_1->R_1 (agg (.mk cs)) m'_1 []->kN pG 73 [agg (.mk cs)] m'_1 λn n_1 n_2 n_3 n_4 n_5 n_6 a n_7 c m'=>rtM m m' R (agg (.mk [int u8 n,int u64 n_1,int u64 n_2,int u64 n_3,int
 u64 n_4,int i64 n_5,int i64 n_6,slice a n_7 c]))):CX Tryz.prog 33 #[.agg #[.int .u8 aD,.int .u64 aE,.int .u64 aF,.int .u64 aG,.int .u64 aJ,.int .i64 aH,.int .i64 aI,.slice aB aA aC]] m [] R:=
 Zad (E:=ZjR) Zay mix Tryz.func33 [.v (.agg #[.int .u8 aD,.int .u64 aE,.int .u64 aF,.int .u64 aG,.int .u64 aJ,.int .i64 aH,.int .i64 aI,.slice aB aA aC])] [] (by kernel_rfl) (Eq.mp (by kernel_rfl) h)
def Zn9:Env:={ EB with
 dr:=swI [] [(1,[⟨0,[2],[],none,[],[]⟩,dO 1 [0],dO 2 [0,1],dO 3 [0,1,2],⟨4,[2],[],none,[0,1,2,3],[1]⟩,⟨5,[],[],none,[0,1,2,3,4],[1]⟩,⟨6,[3],[],none,[0,1,2,3],[1]⟩,⟨7,[],[],none,[0,1,2,3,4,5,6],[5]⟩,dO 8 [0,1,2,3,4,5,6,7],dO 9 [0,1,2,3,4,5,6,7,8]])]
 frzNew:=[2,3]
 gb:=true }
theorem Zmf(aD aE aF aG aJ aH aI:Int)(aB:Option Addr)(aA aC:Nat)(p1:List Value)(m:Mem)(R:RT)(h:
 ∀(b:Nat) m',m.le m'->m'.reads b 0 [int u8 aD,int u64 aE,int u64 aF,int u64 aG,int u64 aJ,int i64 aH,int i64 aI,slice aB aA aC]->chk (Nat.beq (p1.length) 260) (∀(b:Nat) m'_1,m'.le m'_1->
 m'_1.reads b 0 p1->∃(f:Fx),∃R_1,R_1=f 1 [agg (.mk [int u8 aD,int u64 aE,int u64 aF,int u64 aG,int u64 aJ,int i64 aH,int i64 aI,slice aB aA aC]),int i64 1000] m'_1/\CX pG 77 (.mk [agg (.mk
 [int u8 aD,int u64 aE,int u64 aF,int u64 aG,int u64 aJ,int i64 aH,int i64 aI,slice aB aA aC]),int i64 1000]) m'_1 [] R_1/\ZbT (.int i64) R_1/\∀n m',m'_1.le m'->R_1 (int i64 n) m' []->br
 (decide (n<=1000)) (∃R_2,R_2=f 5 [agg (.mk [int u8 aD,int u64 aE,int u64 aF,int u64 aG,int u64 aJ,int i64 aH,int i64 aI,slice aB aA aC])] m'/\CX pG 34 (.mk [agg (.mk [int u8 aD,int u64 aE,
 int u64 aF,int u64 aG,int u64 aJ,int i64 aH,int i64 aI,slice aB aA aC])]) m' [] R_2/\ZbT .cells R_2/\∀(cs:List Value) m'_2,m'.le m'_2->R_2 (agg (.mk cs)) m'_2 []->∃R_3,R_3=f 7 [agg (.mk cs),
 agg (.mk p1)] m'_2/\CX pG 78 (.mk [agg (.mk cs),agg (.mk p1)]) m'_2 [] R_3/\ZbT .bool R_3/\∀(b:Bool) m'_3,m'_2.le m'_3->R_3 (bool b) m'_3 []->∀M,m'_1.le M->m'.le M->m'_2.le M->m'_3.le M->∃m'',m.le m''/\m''.le M
 /\ R (bool b) m'' []) (∀M,m'_1.le M->m'.le M->m'.le M->m'.le M->∃m'',m.le m''/\m''.le M/\R (bool false) m'' []))):CX Tryz.prog 41 #[.agg #[.int .u8 aD,.int .u64 aE,.int .u64 aF,.int .u64 aG,.int .u64 aJ,.int .i64 aH,.int .i64 aI,.slice aB aA aC],.agg p1.toArray] m [] R:=
 Zad (E:=Zn9) Zay mix Tryz.func41 [.v (.agg #[.int .u8 aD,.int .u64 aE,.int .u64 aF,.int .u64 aG,.int .u64 aJ,.int .i64 aH,.int .i64 aI,.slice aB aA aC]),.v (.agg p1.toArray)] [] (by kernel_rfl) (Eq.mp (by kernel_rfl) h)
def Zmg:Env:={ EB with
 loops:=swI nLa [(2,⟨[(6,.int .i64)],[],[],false⟩)]
 frzNew:=[1]
 thaw:=true
 stAt:=swI none [(19,some 999)]
 tails:=true
 lentC:=swI none [(14,some [])] }
theorem Ziq(aD aE aF aG aJ aH aI:Int)(aB:Option Addr)(aA aC:Nat)(m:Mem)(Y:Nat->Prop)(R:RTY)(h:
 lV [int u8 aD,int u64 aE,int u64 aF,int u64 aG,int u64 aJ,int i64 aH,int i64 aI,slice aB aA aC] λxL=>fzM m xL λb m'=>m.free b->(∀(b' o:Nat)(u:Value),m' b' o=some u->m b' o=some
 u\/b'=b)->∃I,inI I [int i64 0] [] [] m'/\∀(n:Int)(m':Mem)(n_1:Nat),lE (Int.toNat n*8) λyL=>True->I [int i64 n] [] [] m' n_1->br (decide (n < (↑aA:Int))) (atA aB λb_1 o=>Zaf n aA/\∃v
 v_1 v_2 v_3 v_4 v_5 v_6 v_7:Value,lV [v,v_1,v_2,v_3,v_4,v_5,v_6,v_7] λxL_1=>m'.reads b_1 (o+yL) xL_1/\∃(Y_1:Nat->Prop),∃(R:Value->Mem->List (List Value)->List Value->Prop),CXY pG 48 (.mk [agg (.mk
 xL_1)]) m' Y_1 [] [] R/\(∀(t:Tok),t∈[]->∀(b:Nat),Tok.blk t=some b->Y_1 b)/\(∀(b_2:Nat),Y_1 b_2->(∃(t:Tok),t∈[]/\Tok.blk t=some b_2)\/Mem.free (Mem.off m Y) b_2/\(∃(o:Nat),∃(v:Value),m' b_2 o
 = some v)/\b≠b_2/\True)/\(∀(v:Value)(m':Mem) (css:List (List Value)) (tvs:List Value),R v m' css tvs->Shape.fits (.tup []) v=true)/\∀(m'_1:Mem),Mem.le (Mem.off m' Y_1) m'_1->(∀(b o:Nat)(u:Value),
 m'_1 b o=some u->m' b o=some u\/Y_1 b\/m'.free b)->R (tuple (.mk [])) m'_1 [] []->atA aB λb_2 o=>Zaf n aA/\(∃(vs:List Value),vs.length=1/\m'_1.reads b_2 (o+yL+0) vs)/\Mem.free (Mem.off m Y) b_2
 /\ true=true/\b≠b_2/\Zab [some (Box.mk b xL 27 8 true true)]/\nxI n_1 I [int i64 (i64.wrap (n+1))] [] [] (Mem.upd m'_1 b_2 (o+yL+0) [int u8 77])) (R (tuple (.mk [])) m' [] [])):CXY Tryz.prog 48 #[.agg #[.int .u8 aD,.int .u64 aE,.int .u64 aF,.int .u64 aG,.int .u64 aJ,.int .i64 aH,.int .i64 aI,.slice aB aA aC]] m Y [] [] R:=
 ZqZ (E:=Zmg) Zay mix Tryz.func48 [.v (.agg #[.int .u8 aD,.int .u64 aE,.int .u64 aF,.int .u64 aG,.int .u64 aJ,.int .i64 aH,.int .i64 aI,.slice aB aA aC])] [] [] [] (by decide) (by kernel_rfl) (Eq.mp (by kernel_rfl) h)
end Go.Proofs.YtfgfahnakepegaaGreat
namespace Go.Proofs.YtfgfahnakepegaaGreat
open Go Go.Eng Go.Rx Go.Proofs Go.RowKit
set_option maxRecDepth 100000
theorem Zfv{cs:List Value}{n:Nat}{v:Value}{K:Value->Prop}(hv:cs[n]?=some v)(h:K v):Eng.ZuZ cs n K:=Zap hv h
set_option maxHeartbeats 4000000 in
theorem Zyv:∀(t:T)(cs:List Value)(m:Mem),RefT m t cs->t.nodes.length<=100000->CX Tryz.prog 73 #[.agg cs.toArray] m [] (Za9 λt'=>t'.er=t.er/\t'.caps):=by
 intro t
 induction hN:SizeOf.sizeOf t using Nat.strongRecOn generalizing t with
 | ind N ih=>
 intro cs m hr hz
 obtain⟨bD,aU,a,cc,css,ecs,aP,bO,bL⟩:=ZaX.1 hr
 have bE:=Zb9 t
 have uV:=Zbo t.subs
 have eA:cs[259]?=some (.slice a t.subs.length cc):=by rw[ecs];exact ZpD _ _ _ _ _ _ _
 have sZ:cs[257]?=some (.int .i64 t.mn):=by rw[ecs];exact Zwd _ _ _ _ _ _ _
 have mZ:cs[258]?=some (.int .i64 t.mx):=by rw[ecs];exact Zwe _ _ _ _ _ _ _
 have Cb:IntKind.u8.wrap t.k=t.k:=by
  have:=bD.k
  unfold IntKind.wrap
  simp[IntKind.signed,IntKind.bits]
  omega
 have yt:List.take 256 (List.drop 1 cs)=ZaB t.q:=by rw[ecs];exact Zkr _ _ _ _ _ _ _
 apply Zme
 refine hr.chk λb m1 aK _ b1=>Zfv hr.at0 (Zaa rfl (Zfv sZ (Zfv mZ (Zaa rfl (Zaa rfl λb2=>Zaa rfl (Zaa (by rw[hr.len];rfl) ?_))))))
 have e0:Zau (Zau [Value.int .u8 (IntKind.u8.wrap (intOf (.int .i64 t.k))),.int .u64 0,.int .u64 0,.int .u64 0,.int .u64 0,.int .i64 0,.int .i64 0,.slice none 0 0] 5 (Value.int .i64 t.mn).cells.toList) 6 (Value.int .i64 t.mx).cells.toList=wcs t.k t.q 0 t.mn t.mx:=by
  show[Value.int .u8 (IntKind.u8.wrap t.k),.int .u64 0,.int .u64 0,.int .u64 0,.int .u64 0,.int .i64 t.mn,.int .i64 t.mx,.slice none 0 0]=_
  unfold wcs
  rw[Cb,ZpL,ZpL,ZpL,ZpL];rfl
 rw[e0]
 refine⟨λxs css' _ m' q=>∃i:Nat,i<=256/\xs=[.int .i64 i]/\css'=[wcs t.k t.q i t.mn t.mx]/\q=256 - i,⟨_,0,by omega,rfl,rfl,rfl⟩,?_⟩
 rintro z cs1 m2 q aO ⟨i,hi,aZ,yu,hq⟩
 obtain rfl:z=i:=by simpa using aZ
 obtain rfl:cs1=wcs t.k t.q i t.mn t.mx:=by simpa using yu
 subst hq
 have bR:=mLt aK aO
 refine Za4 (λaS=>?_) (λbI=>?_)
 ·have hi':i < 256:=by omega
  have lA:=Zx4 ⟨i,hi'⟩
  simp only at lA
  have rR:(ZaB t.q)[i]?=some (.int .i64 (Zqw t.q i)):=Zlf _ hi'
  have hw:IntKind.i64.wrap ((i:Int)+1)=((i+1:Nat):Int):=by rw[Zas (by omega) (by omega)];rfl
  rw[yt,lA.1,lA.2,hw]
  simp only[zA8]
  refine⟨⟨by omega,by omega⟩,Zfv rR ⟨by decide,⟨by omega,by omega⟩,Zfv (Zzl _ _ _ _ _ (by omega)) (Zaa rfl ⟨by decide,by omega,Zaa rfl ⟨⟨by omega,by omega⟩,Zaa ?_ ⟨by trivial,256 - (i+1),by omega,i+1,by omega,rfl,?_,rfl⟩⟩⟩)⟩⟩
  ·have:i / 64 < 4:=by omega
   rw[Nat.ble_eq];show _<=8;omega
  ·show[Zau _ _ [Value.int .u64 (IntKind.u64.wrap ((BitVec.ofInt 64 ((wP t.q i (i / 64):Nat):Int)|||BitVec.ofInt 64 (IntKind.u64.wrap (IntKind.u64.wrap (Zqw t.q i)*2 ^ min (i % 64) 64))).toNat:Int))]]=_
   have hp:=Zx5 t.q (j:=i / 64) hi'
   simp only[zA8]at hp
   rw[hp,Zwm _ _ _ _ _ hi']
 ·have:i=256:=by omega
  subst this
  have Cc:wcs t.k t.q 256 t.mn t.mx=[.int .u8 t.k,.int .u64 t.s0,.int .u64 t.s1,.int .u64 t.s2,.int .u64 t.s3,.int .i64 t.mn,.int .i64 t.mx,.slice none 0 0]:=by
   have hq:=ZsK bD
   unfold wcs
   rw[Zuk (by decide) (Zfc hq 0),Zuk (by decide) (Zfc hq 1),Zuk (by decide) (Zfc hq 2),Zuk (by decide) (Zfc hq 3)];rfl
  rw[Cc]
  refine Zfv eA (Zaa rfl ⟨λxs css' tvs m' q=>∃(k:Nat)(O:List T)(a:Option Addr)(c:Nat),k<=t.subs.length/\O.length=k/\xs=[.int .i64 k]/\css'=[[.int .u8 t.k,.int .u64 t.s0,.int .u64 t.s1,.int .u64 t.s2,.int .u64 t.s3,.int .i64 t.mn,.int .i64 t.mx,.slice a k c]]/\tvs=[.slice a k c]/\rowRd m' a (Rx.Zcx O)/\(∀x∈O,Rep m' x/\x.caps)/\O.map T.er=(t.subs.take k).map T.er/\k<=c/\q=t.subs.length - k,⟨_,0,[],none,0,Nat.zero_le _,rfl,rfl,rfl,rfl,.inl rfl,by simp,rfl,Nat.le_refl _,rfl⟩,?_⟩)
  rintro z cs2 a2 n2 c2 m3 q aX ⟨k,O,a3,c3,hk,iY,aZ,bW,bY,dX,hO,jU,nK,hq⟩
  obtain rfl:z=k:=by simpa using aZ
  simp only[List.cons.injEq,Value.slice.injEq,and_true]at bY
  obtain⟨rfl,rfl,rfl⟩:=bY
  obtain rfl:cs2=[.int .u8 t.k,.int .u64 t.s0,.int .u64 t.s1,.int .u64 t.s2,.int .u64 t.s3,.int .i64 t.mn,.int .i64 t.mx,.slice a2 n2 c2]:=by simpa using bW
  subst hq
  have bQ:=mLt bR aX
  refine Za4 (λaS=>Zaa rfl ?_) (λbI=>Zaa rfl ?_)
  ·have aN:n2 < t.subs.length:=by simp only[slN]at aS;omega
   obtain⟨x,hx⟩:=ZaQ aN
   have cL:=zA2 hx
   obtain⟨b0,o0,csx,rfl,bA,bS⟩:=ZbZ aP bO hx
   have aZ:=Zbq cL
   have iK:=Zdi cL
   have hw:IntKind.i64.wrap ((n2:Int)+1)=((n2+1:Nat):Int):=by rw[Zas (by omega) (by omega)];rfl
   rw[hw]
   simp only[zA8]
   refine⟨b0,o0,rfl,⟨by omega,by simp only[slN];omega⟩,csx,bS.len,bA.mono bQ,λb4=>bS.chk1 ⟨λ_ _ _=>Za9 λt'=>t'.er=x.er/\t'.caps,Zfv (v:=.slice a2 n2 c2) rfl ⟨_,rfl,ih _ (by omega) x rfl csx m3 (bS.mono bQ) (by omega),Zaj,ZaD λt' m4 bB hr' ht' b5 oN=>Zaa rfl ⟨.inl rfl,Rx.Zcx O,t'.cs,by rw[Zat,iY];rfl,rfl,(dX.mono bB).mono (Mem.le_add oN _),Zi5,by have:=Zyb [t'];simpa[Rx.Zcx]using this,by simp only[slN];omega,by simp only[slN];omega,λa7 c7 m7 cB eP mS=>Zaa rfl λM cM cS dM jH=>⟨by trivial,t.subs.length - (n2+1),by omega,n2+1,O++[t'],a7,c7,by omega,by rw[zA1,iY];rfl,rfl,rfl,rfl,by rw[ZdO];exact eP.mono jH,?_,?_,by simpa[slN]using mS,rfl⟩⟩⟩⟩⟩
   ·intro y hy
    rcases List.mem_append.1 hy with hy|hy
    ·exact⟨(hO y hy).1.mono cM,(hO y hy).2⟩
    ·rw[List.mem_singleton]at hy;subst hy
     exact⟨hr'.mono cS,ht'.2⟩
   ·rw[List.map_append,jU,ZbR hx,List.map_append]
    simp[ht'.1]
  ·have:n2=t.subs.length:=by simp only[slN]at bI;omega
   subst this
   rw[List.take_length]at jU
   have Ag:=Zcs dX (λx hx=>(hO x hx).1) (by omega)
   refine⟨m3,bQ,Mem.le_refl _,.node t.k t.s0 t.s1 t.s2 t.s3 t.mn t.mx a2 c2 O,?_,ZxH Ag.1 Ag.2 bD,?_,ZfO (by omega) λx hx=>(hO x hx).2⟩
   ·simp only[T.v,T.k,T.s0,T.s1,T.s2,T.s3,T.mn,T.mx,T.a,T.c,T.subs,iY]
   ·have:=Zsu (k:=t.k) (s0:=t.s0) (s1:=t.s1) (s2:=t.s2) (s3:=t.s3) (mn:=t.mn) (mx:=t.mx) (a:=a2) (a':=t.a) (c:=c2) (c':=t.c) jU
    exact this.trans (by cases t;rfl)
theorem Zkx(t:T)(m:Mem)(hr:Rep m t)(hz:t.nodes.length<=100000):CX Tryz.prog 33 #[t.v] m [] (Za9 λt'=>t'.er=t.er/\t'.caps):=by
 apply Zip
 intro b m1 aK _ b1
 refine Zae (Zig t m1 (hr.mono aK) (by omega)) (λv _ _ ⟨_,h,_⟩=>by rw[h];rfl) ?_
 rintro cs m2 aO ⟨cs',e,cE⟩
 simp only[Value.agg.injEq,Array.mk.injEq]at e
 subst e
 exact Zae (Zyv t _ m2 cE hz) Zaj (ZaD λt' m3 aX hr' ht'=>⟨m3,mLt aK (mLt aO aX),Mem.le_refl _,t',rfl,hr',ht'⟩)
theorem Zir(t u:T)(cs:List Value)(m:Mem)(hr:Rep m t)(hu:RefT m u cs)(hz:t.nodes.length<=1000):CX Tryz.prog 41 #[t.v,.agg cs.toArray] m [] (Ret (.bool (t.same u))):=by
 apply Zmf
 intro b m1 aK _
 refine hu.chk λb2 m2 aO _=>?_
 have bR:=mLt aK aO
 have jL:∀t:T,t.nodes.length<=1000000->∀m:Mem,Rep m t->RepW m t:=by
  intro t
  induction hN:SizeOf.sizeOf t using Nat.strongRecOn generalizing t with
  | ind N ih=>
  intro hz m hr
  obtain⟨h1,h2⟩:=Zgz hr
  have bE:=Zb9 t
  refine ZsL.2 ⟨by omega,h2.imp id λ⟨b,o,e,k⟩=>⟨b,o,e,ZpF λi x hi=>?_⟩,Zv0 hr⟩
  have cL:=zA2 hi
  have aZ:=Zbq cL
  exact⟨(k.get hi).1,ih _ (by have:=Zdi cL;omega) x rfl (by omega) m (k.get hi).2⟩
 have yv:Ztq t 1000=t.nodes.length:=by unfold Ztq;rw[if_pos (by omega)]
 have u0:=Zzu t 1000 m2 (jL t (by omega) m2 (hr.mono bR)) (by omega) (by omega)
 rw[yv]at u0
 refine⟨λi _ _=>bif Nat.beq i 1 then Ret (.int .i64 (t.nodes.length:Nat))else bif Nat.beq i 5 then ZrM t else Ret (.bool (t.same u)),_,rfl,u0,(λv _ _ e=>by rw[e];rfl),?_⟩
 intro n m3 aX hn
 obtain rfl:n=(t.nodes.length:Nat):=by have hn:Value.int .i64 n=.int .i64 (t.nodes.length:Nat):=hn;simpa using hn
 have bQ:=mLt bR aX
 refine ZeJ (by simp;omega) ⟨_,rfl,Zig t m3 (hr.mono bQ) (by omega),Za5,Ze4 λcs4 m4 bB h4=>⟨_,rfl,Zs8 t u cs4 cs m4 h4 (hu.mono (mLt bQ bB)),(λv _ _ e=>by rw[e];rfl),?_⟩⟩
 intro bb m5 cC dC M cM cS dM jH
 exact Zah (mLt bR cM) dC
def csK(k:Int)(y:T):List Value:=[.int .u8 k,.int .u64 y.s0,.int .u64 y.s1,.int .u64 y.s2,.int .u64 y.s3,.int .i64 y.mn,.int .i64 y.mx,.slice y.a y.subs.length y.c]
def KRep(m:Mem)(t:T):Prop:=∀x∈t.nodes,x.subs=[]\/∃b,x.a=some ⟨b,0,none⟩/\∀i y,x.subs[i]?=some y->∃k:Int,m.reads b (i*8) (csK k y)
def YT(t:T)(b:Nat):Prop:=∃x∈t.nodes,x.subs≠[]/\x.a=some ⟨b,0,none⟩
theorem KRep.upd{m:Mem}{t:T}(h:KRep m t)(b2 j:Nat):KRep (m.upd b2 (0+j*8+0) [.int .u8 77]) t:=by
 intro x hx
 refine(h x hx).imp id λ⟨b,e,hr⟩=>⟨b,e,λi y hi=>?_⟩
 obtain⟨k,hk⟩:=hr i y hi
 by_cases hb:b=b2/\i=j
 ·obtain⟨rfl,rfl⟩:=hb
  refine⟨77,λp v hp=>?_⟩
  unfold Mem.upd
  simp only[List.length_cons,List.length_nil,true_and]
  cases p with
  | zero=>
   rw[if_pos (by omega),show i*8+0 - (0+i*8+0)=0 by omega]
   exact hp
  | succ p=>
   rw[if_neg (by omega)]
   exact hk (p+1) v hp
 ·refine⟨k,λp v hp=>?_⟩
  have Dq:p < 8:=(zA0 hp).1
  unfold Mem.upd
  simp only[List.length_cons,List.length_nil]
  rw[if_neg (by rintro⟨rfl,h1,h2⟩;exact hb ⟨rfl,by omega⟩)]
  exact hk p v hp
theorem KRep.known{m:Mem}{t:T}(h:KRep m t){b:Nat}(hb:YT t b):∃o v,m b o=some v:=by
 obtain⟨x,hx,bN,e⟩:=hb
 rcases h x hx with h|⟨b',e',h⟩
 ·exact absurd h bN
 ·rw[e]at e'
  cases e'
  obtain⟨y,hy⟩:=ZaQ (l:=x.subs) (k:=0) (by cases hs:x.subs with|nil=>exact absurd hs bN|cons _ _=>simp)
  obtain⟨k,hk⟩:=h 0 y hy
  exact⟨_,_,hk 0 _ rfl⟩
theorem Zte{m m0:Mem}{t:T}(hr:Rep m t)(hn:NewT m0 t):KRep m t:=by
 intro x hx
 rcases hn x hx with h|⟨b,e,_⟩
 ·exact .inl h
 rcases(Zgz (Zk2 hr hx)).2 with h|⟨b',o',e',bO⟩
 ·exact .inl h
 rw[e]at e'
 cases e'
 refine .inr ⟨b,e,λi y hi=>⟨y.k,?_⟩⟩
 have:=(bO.get hi).1
 rwa [Nat.zero_add]at this
theorem Zqh:∀{t x y:T},x∈t.nodes->y∈x.subs->y∈t.nodes:=by
 intro t
 induction hN:SizeOf.sizeOf t using Nat.strongRecOn generalizing t with
 | ind N ih=>
 intro x y hx hy
 rw[Zbf]at hx ⊢
 rcases List.mem_cons.1 hx with rfl|hx
 ·refine List.mem_cons_of_mem _ ?_
  obtain⟨i,hi⟩:=List.getElem?_of_mem hy
  rw[Zdh hi]
  exact List.mem_append_right _ (List.mem_append_left _ (by rw[Zbf];exact List.mem_cons_self ..))
 ·refine List.mem_cons_of_mem _ ?_
  have key:∀l:List T,(∀z∈l,z∈t.subs)->x∈Zaq l->y∈Zaq l:=by
   intro l
   induction l with
   | nil=>intro _ h;simp[Zaq]at h
   | cons z l ihl=>
    intro hm h
    simp only[Zaq,List.mem_append]at h ⊢
    rcases h with h|h
    ·exact .inl (ih _ (by have:=Zdi (hm z (by simp));omega) rfl h hy)
    ·exact .inr (ihl (λw hw=>hm w (by simp[hw])) h)
  exact key t.subs (λ_ h=>h) hx
theorem Zky(t0:T):∀(x:T),x∈t0.nodes->x.subs.length<=1000000->(∀y∈t0.nodes,y.subs.length<=1000000)->∀(k:Int)(m:Mem),KRep m t0->CXY Tryz.prog 48 #[.agg (csK k x).toArray] m (YT t0) [] [] (λv m' _ _=>v=.tuple #[]/\KRep m' t0):=by
 intro x
 induction hN:SizeOf.sizeOf x using Nat.strongRecOn generalizing x with
 | ind N ih=>
 intro hx hl aV k m hK
 apply Ziq
 intro b m1 aK _ yw zS
 have jJ:∀b2,YT t0 b2->b≠b2:=λb2 h e=>by
  subst e
  obtain⟨o,v,hv⟩:=hK.known h
  rw[yw o]at hv;cases hv
 have vT:KRep m1 t0:=λy hy=>(hK y hy).imp id λ⟨b,e,h⟩=>⟨b,e,λi z hi=>by
  obtain⟨k,hk⟩:=h i z hi
  exact⟨k,hk.mono aK⟩⟩
 refine⟨λxs _ _ m' q=>∃i:Nat,i<=x.subs.length/\xs=[.int .i64 i]/\KRep m' t0/\q=x.subs.length - i,⟨_,0,Nat.zero_le _,rfl,vT,rfl⟩,?_⟩
 rintro z m2 q _ ⟨i,hi,aZ,tf,hq⟩
 obtain rfl:z=i:=by simpa using aZ
 subst hq
 refine Za4 (λaS=>?_) (λbI=>⟨rfl,tf⟩)
 have aN:i < x.subs.length:=by omega
 obtain⟨y,hy⟩:=ZaQ aN
 have vU:=zA2 hy
 have Ah:=Zqh hx vU
 have bN:x.subs≠[]:=λe=>by rw[e]at aN;simp at aN
 obtain⟨bx,ex,bS⟩:=(tf x hx).resolve_left bN
 obtain⟨ky,Ai⟩:=bS i y hy
 have Aj:YT t0 bx:=⟨x,hx,bN,ex⟩
 have hw:IntKind.i64.wrap ((i:Int)+1)=((i+1:Nat):Int):=by rw[Zas (by omega) (by omega)];rfl
 rw[hw]
 simp only[zA8]
 refine⟨bx,0,ex,⟨by omega,by omega⟩,_,_,_,_,_,_,_,_,(by rw[Nat.zero_add];exact Ai),YT t0,_,ih _ (by have:=Zdi vU;omega) y rfl Ah (aV y Ah) aV ky m2 tf,λt ht=>(by cases ht),λb2 h2=>.inr ⟨λo=>Mem.off_free h2 o,tf.known h2,jJ b2 h2,trivial⟩,λv _ _ _ e=>by rw[e.1];rfl,?_⟩
 rintro m3 aX Cd ⟨_,xZ⟩
 obtain⟨bx',ex',yx⟩:=(xZ x hx).resolve_left bN
 rw[ex]at ex'
 cases ex'
 obtain⟨ky',yy⟩:=yx i y hy
 exact⟨bx,0,ex,⟨by omega,by omega⟩,⟨[.int .u8 ky'],rfl,λp v hp=>by
  cases p with
  | zero=>have:=yy 0 _ rfl;rw[Nat.zero_add];simp at hp;rw[<-hp];exact this
  | succ p=>simp at hp⟩,λo=>Mem.off_free Aj o,by trivial,jJ bx Aj,by trivial,x.subs.length - (i+1),by omega,i+1,aN,rfl,xZ.upd bx i,rfl⟩
end Go.Proofs.YtfgfahnakepegaaGreat
namespace Go.Proofs.YtfgfahnakepegaaGreat
open Go Go.Eng Go.Proofs Go.RowKit
open Go.Value (int slice agg bool string tuple func)
open Go.IntKind (u8 u64 i64)
set_option maxRecDepth 100000
def ZuQ:Env:={ EB with
 loops:=swI nLa [(3,⟨[(3,.slice),(8,.int .i64)],[],[(17,8)],false⟩)]
 tokOf:=swI 0 [(17,17)] }
theorem ZrS(p0:ByteArray)(m:Mem)(R:RT)(h:
 ∀b,∃I,inI I [slice none 0 0,int i64 0] [] [slice none 0 0] m/\∀a n c n_1 a_1 n_2 c_1 m' (n_3:Nat),lX (slice a n c) λyL=>lE (n+1) λyL_1=>m.le m'->I [yL,int i64 n_1] [] [slice a_1 n_2 c_1] m' n_3->br (decide
 (n_1 < if(10000:Int) < (↑(ByteArray.size p0):Int)then(10000:Int)else(↑(ByteArray.size p0):Int))) (Zaf n_1 (ByteArray.size p0)/\kN pG 5 [int u8 (Zu4 p0 (Int.toNat n_1))] m' λn_4 n_5 n_6 n_7 n_8 n_9 n_10 a_4
 n_11 c_2 m'=>∀b_1,lM (m'.add b_1 [int u8 n_4,int u64 n_5,int u64 n_6,int u64 n_7,int u64 n_8,int i64 n_9,int i64 n_10,slice a_4 n_11 c_2]) λmL=>m'.free b_1->(Tok.mk (slice a_1 n_2 c_1) 8=Tok.mk yL 8\/yL=slice
 none 0 0\/c < yL_1)/\∃(xs:List Value),∃(ys:List Value),xs.length=n*8/\ys.length=1*8/\rowRd mL a xs/\rowRd mL (some (Addr.mk b_1 0 none)) ys/\(∀(u:Value),u∈ys->u.oneCell'=true)/\yL_1*80 <=
 140737488355328/\yL_1<=9223372036854775807/\∀(a':Option Addr) c' m',mL.le m'->rowRd m' a' (List.append xs ys)->Zab [some (Box.mk b [int u8 0,int u64 0,int u64 0,int u64 0,int u64 0,int i64 0,int i64 0,slice none
 0 0] 27 8 false true)]/\nxI n_3 I [slice a' yL_1 c',int i64 (i64.wrap (n_1+1))] [] [slice a' yL_1 c'] m') (kN pG 27 [int u8 3,yL,agg (.mk [int u8 1,int u64 0,int u64 0,int u64 0,int u64 0,int i64 0,int i64 0,slice
 none 0 0])] m' λn n_4 n_5 n_6 n_7 n_8 n_9 a n_10 c m'=>rtM m m' R (agg (.mk [int u8 n,int u64 n_4,int u64 n_5,int u64 n_6,int u64 n_7,int i64 n_8,int i64 n_9,slice a n_10 c])))):CX Tryz.prog 15 #[.string p0] m [] R:=
 Zad (E:=ZuQ) Zay mix Tryz.func15 [.v (.string p0)] [] (by kernel_rfl) (Eq.mp (by kernel_rfl) h)
def Zoa:Env:={ EB with
 loops:=swI nLa [(3,⟨[(3,.slice),(8,.int .i64)],[],[(16,8)],false⟩)]
 tokOf:=swI 0 [(16,16)] }
theorem Zmh(p0a:Option Addr)(p0n p0c:Nat)(m:Mem)(R:RT)(h:
 ∀b,∃I,inI I [slice none 0 0,int i64 0] [] [slice none 0 0] m/\∀a n c n_1 a_1 n_2 c_1 m' (n_3:Nat),lX (slice a n c) λyL=>lE (n+1) λyL_1=>m.le m'->I [yL,int i64 n_1] [] [slice a_1 n_2 c_1] m' n_3->br (decide
 (n_1 < (↑p0n:Int))) (atA p0a λb_1 o=>Zaf n_1 p0n/\∃(v:Value),m' b_1 (o+Int.toNat n_1*1)=some v/\kN pG 15 [v] m' λn_4 n_5 n_6 n_7 n_8 n_9 n_10 a_4 n_11 c_2 m'=>∀b_2,lM (m'.add b_2 [int u8 n_4,int u64
 n_5,int u64 n_6,int u64 n_7,int u64 n_8,int i64 n_9,int i64 n_10,slice a_4 n_11 c_2]) λmL=>m'.free b_2->(Tok.mk (slice a_1 n_2 c_1) 8=Tok.mk yL 8\/yL=slice none 0 0\/c < yL_1)/\∃(xs:List Value),∃(ys:List
 Value),xs.length=n*8/\ys.length=1*8/\rowRd mL a xs/\rowRd mL (some (Addr.mk b_2 0 none)) ys/\(∀(u:Value),u∈ys->u.oneCell'=true)/\yL_1*80<=140737488355328/\yL_1<=9223372036854775807/\∀(a':Option
 Addr) c' m',mL.le m'->rowRd m' a' (List.append xs ys)->Zab [some (Box.mk b [int u8 0,int u64 0,int u64 0,int u64 0,int u64 0,int i64 0,int i64 0,slice none 0 0] 27 8 false true)]/\nxI n_3 I [slice a' yL_1 c',int i64
 (i64.wrap (n_1+1))] [] [slice a' yL_1 c'] m') (kN pG 7 [yL] m' λn n_4 n_5 n_6 n_7 n_8 n_9 a n_10 c m'=>rtM m m' R (agg (.mk [int u8 n,int u64 n_4,int u64 n_5,int u64 n_6,int u64 n_7,int i64 n_8,int i64 n_9,slice a
 n_10 c])))):CX Tryz.prog 53 #[.slice p0a p0n p0c] m [] R:=
 Zad (E:=Zoa) Zay mix Tryz.func53 [.v (.slice p0a p0n p0c)] [] (by kernel_rfl) (Eq.mp (by kernel_rfl) h)
end Go.Proofs.YtfgfahnakepegaaGreat
namespace Go.Proofs.YtfgfahnakepegaaGreat
open Go Go.Eng Go.Rx Go.Proofs Go.RowKit
set_option maxRecDepth 100000
def ZcG(s:ByteArray):List Nat:=s.data.toList.map λb=>b.toNat
theorem ZrT(s:ByteArray):(ZcG s).length=s.size:=by unfold ZcG;rw[List.length_map,Array.length_toList];rfl
theorem Zis(s:ByteArray):∀c∈ZcG s,c < 256:=by
 intro c hc
 unfold ZcG at hc
 obtain⟨b,_,rfl⟩:=List.mem_map.1 hc
 exact b.toBitVec.isLt
theorem ZwM{s:ByteArray}{k c:Nat}(h:(ZcG s)[k]?=some c):Zu4 s k=(c:Int):=by
 unfold ZcG at h
 rw[List.getElem?_map]at h
 obtain⟨b,hb,rfl⟩:=Option.map_eq_some_iff.1 h
 unfold Zu4
 rw[List.getD_eq_getElem?_getD,hb];rfl
theorem Zee:∀c:Fin 256,(Zam c.val).good=true:=by decide +kernel
theorem Zqi{c:Nat}(h:c < 256):(Zam c).good=true:=Zee ⟨c,h⟩
def ZdV(l:List Nat):T:=(ZcB 3 none 0 (l.map Zam)).er
theorem Zg3:∀l:List Nat,szL (l.map Zam)=l.length
 | []=>rfl
 | c::l=>by
  rw[List.map_cons,ZaW,Zg3 l,List.length_cons]
  have:(Zam c).nodes.length=1:=rfl
  omega
theorem Zkz{l:List Nat}(h:∀c∈l,c < 256):∀x∈l.map Zam,Okk 3 x:=by
 intro x hx
 obtain⟨c,hc,rfl⟩:=List.mem_map.1 hx
 exact⟨Zqi (h c hc),by show(2:Int)≠3;omega,λ_=>by show(2:Int)≠1;omega⟩
theorem ZvC(s:ByteArray)(hs:(ZcG s).length<=9000)(m:Mem):CX Tryz.prog 15 #[.string s] m [] (Za9 (λt=>t.er=ZdV (ZcG s)/\t.caps)):=by
 apply ZrS
 intro b
 have aU:=ZrT s
 have bE:(if(10000:Int) < (s.size:Int)then(10000:Int)else(s.size:Int))=(s.size:Nat):=by rw[if_neg (by omega)]
 simp only[bE]
 refine⟨λxs css tvs m' q=>∃(k:Nat)(a:Option Addr)(c:Nat),k<=s.size/\xs=[.slice a k c,.int .i64 k]/\tvs=[.slice a k c]/\RepL m' a (((ZcG s).take k).map Zam)/\q=s.size - k,⟨_,0,none,0,by omega,rfl,rfl,⟨by simp,.inl rfl⟩,rfl⟩,?_⟩
 rintro a0 n0 c0 i0 a n c m1 q aK ⟨k,a',c',hk,aZ,bY,hL,hq⟩
 simp only[List.cons.injEq,Value.slice.injEq,Value.int.injEq,true_and,and_true]at aZ bY
 obtain⟨⟨rfl,rfl,rfl⟩,rfl⟩:=aZ
 obtain⟨rfl,rfl,rfl⟩:=bY
 refine Zac (λaS=>?_) (λbI=>?_)
 ·have aN:n < s.size:=by have:=zA6 aS;omega
  obtain⟨ch,yz⟩:=ZbU (l:=ZcG s) (k:=n) (by omega)
  have u4:=Zis s ch (zA2 yz)
  have bO:Zu4 s ((n:Int).toNat)=(ch:Int):=ZwM yz
  refine⟨⟨by omega,by omega⟩,?_⟩
  rw[bO]
  refine Zae (Zm5 ch u4 m1) Zaj (ZaD λt m2 aO hr ht=>?_)
  subst ht
  intro b3 nH
  have xq:(((ZcG s).take n).map Zam).length=n:=by rw[List.length_map,List.length_take];omega
  have hw:IntKind.i64.wrap ((n:Int)+1)=((n+1:Nat):Int):=by rw[Zas (by omega) (by omega)];rfl
  rw[hw]
  have bC:=Mem.le_add nH (Zam ch).cs
  refine⟨.inl rfl,Rx.Zcx (((ZcG s).take n).map Zam),(Zam ch).cs,by rw[Zat,xq],rfl,(Zaw hL).mono (mLt aO bC),.inr ⟨b3,0,rfl,λj v hj=>by rw[Nat.zero_add,Mem.add_same];exact hj⟩,Zym _,by omega,by omega,λa2 c2 m3 aX fZ=>⟨by trivial,s.size - (n+1),by omega,n+1,a2,c2,by omega,rfl,rfl,?_,rfl⟩⟩
  have aV:((ZcG s).take (n+1)).map Zam=((ZcG s).take n).map Zam++[Zam ch]:=by rw[ZbR yz,List.map_append];rfl
  rw[aV]
  refine Zcs ?_ ?_ (by rw[zA1,xq];simp;omega)
  ·rw[Za3,ZpU];exact fZ
  ·intro x hx
   rcases List.mem_append.1 hx with hx|hx
   ·exact(Zbb hL x hx).mono (mLt aO (mLt bC aX))
   ·rw[List.mem_singleton]at hx;subst hx;exact ZmM _ _
 ·have hn:n=s.size:=by have:=of_decide_eq_false bI;omega
  subst hn
  rw[<-aU,List.take_length]at hL
  have Ak:=Zuw 3 (.inl rfl) a c ((ZcG s).map Zam) T1 m1 hL (Zt4 _) (by rw[List.length_map];omega) rfl
  rw[List.length_map,aU]at Ak
  refine Zae Ak Zaj (ZaD λt m2 aO hr ht=>?_)
  exact⟨m2,mLt aK aO,Mem.le_refl _,t,rfl,hr,Zsx (.inl rfl) (Zkz (Zis s)) (by rw[Zg3];omega) (λ_=>rfl) ht,ZcV Zkn ht⟩
theorem Zna{l:List Nat}(h:∀c∈l,c < 256):(ZdV l).good=true/\(ZdV l).nodes.length<=1+l.length:=by
 have hm:=ZfN (.inl rfl) none 0 (Zkz h)
 unfold ZdV
 rw[ZbY,ZdF]
 refine⟨hm.1,?_⟩
 have:=hm.2.1
 rw[Zg3]at this
 omega
theorem ZwN(ws:List ByteArray)(a:Option Addr)(c:Nat)(m:Mem)(hw:rowRd m a (ws.map Value.string))(hn:ws.length<=20)(hs:∀s∈ws,(ZcG s).length<=100)(bN:ws≠[]):CX Tryz.prog 53 #[.slice a ws.length c] m [] (Za9 (λt=>t.er=Zd9 (ws.map λs=>ZdV (ZcG s))/\t.caps)):=by
 apply Zmh
 intro b
 refine⟨λxs css tvs m' q=>∃(L:List T)(a:Option Addr)(c:Nat),L.length<=ws.length/\xs=[.slice a L.length c,.int .i64 (L.length:Nat)]/\tvs=[.slice a L.length c]/\RepL m' a L/\L.map T.er=(ws.take L.length).map (λs=>ZdV (ZcG s))/\q=ws.length - L.length,⟨_,[],none,0,by simp,rfl,rfl,⟨by simp,.inl rfl⟩,rfl,rfl⟩,?_⟩
 rintro a0 n0 c0 i0 aa n cc m1 q aK ⟨L,a',c',hk,aZ,bY,hL,fG,hq⟩
 simp only[List.cons.injEq,Value.slice.injEq,Value.int.injEq,true_and,and_true]at aZ bY
 obtain⟨⟨rfl,rfl,rfl⟩,rfl⟩:=aZ
 obtain⟨rfl,rfl,rfl⟩:=bY
 have nB:∀s:ByteArray,∀c∈ZcG s,c < 256:=λs=>Zis s
 refine Zac (λaS=>?_) (λbI=>?_)
 ·have aN:L.length < ws.length:=by have:=zA6 aS;omega
  obtain⟨s,yA⟩:=ZbU aN
  have gN:=zA2 yA
  rcases hw.mono aK with Ce|⟨bw,ow,Cf,jL⟩
  ·have:=congrArg List.length Ce
   rw[List.length_map]at this
   simp only[List.length_nil]at this
   omega
  have hv:m1 bw (ow+L.length)=some (.string s):=jL _ _ (by rw[List.getElem?_map,yA];rfl)
  refine⟨bw,ow,Cf,⟨by omega,by omega⟩,.string s,by rw[zA8,Nat.mul_one];exact hv,?_⟩
  refine Zae (ZvC s (by have:=hs s gN;omega) m1) Zaj (ZaD λt m2 aO hr ⟨ht,gE⟩=>?_)
  intro b3 nH
  have nP:IntKind.i64.wrap ((L.length:Int)+1)=((L.length+1:Nat):Int):=by rw[Zas (by omega) (by omega)];rfl
  rw[nP]
  have bC:=Mem.le_add nH t.cs
  refine⟨.inl rfl,Rx.Zcx L,t.cs,Zat L,rfl,(Zaw hL).mono (mLt aO bC),.inr ⟨b3,0,rfl,λj v hj=>by rw[Nat.zero_add,Mem.add_same];exact hj⟩,Zym _,by omega,by omega,λa2 c2 m3 aX fZ=>⟨by trivial,ws.length - (L.length+1),by omega,L++[t],a2,c2,by simp;omega,by simp,by simp,?_,?_,by simp⟩⟩
  ·refine Zcs ?_ ?_ (by simp;omega)
   ·rw[Za3,ZpU];exact fZ
   ·intro x hx
    rcases List.mem_append.1 hx with hx|hx
    ·exact(Zbb hL x hx).mono (mLt aO (mLt bC aX))
    ·rw[List.mem_singleton]at hx;subst hx;exact hr.mono (mLt bC aX)
  ·rw[show(L++[t]).length=L.length+1 by simp,ZbR yA,List.map_append,List.map_append,fG,List.map_cons,List.map_nil,ht];rfl
 ·have hn':L.length=ws.length:=by have:=of_decide_eq_false bI;omega
  rw[hn',List.take_length]at fG
  have jB:∀x∈L,x.good=true/\x.nodes.length<=101:=by
   intro x hx
   have:x.er∈L.map T.er:=List.mem_map_of_mem hx
   rw[fG]at this
   obtain⟨s,Cg,jX⟩:=List.mem_map.1 this
   have hg:=Zna (nB s)
   rw[jX,ZbY,ZdF]at hg
   have:=hs s Cg
   exact⟨hg.1,by omega⟩
  have Ch:szL L<=101*L.length:=by
   clear hL fG hn' bI hq hk
   induction L with
   | nil=>simp[szL,Zaq]
   | cons x L ih=>
    have h1:=(jB x (by simp)).2
    have h2:=ih λy hy=>jB y (by simp[hy])
    rw[ZaW,List.length_cons];omega
  refine Zae (Zyd L aa cc m1 hL (by omega) (λx hx=>ZaO (jB x hx).1 (by have:=(jB x hx).2;omega))) Zaj (ZaD λt m2 aO hr ⟨ja,jc,hj⟩=>?_)
  have xQ:L≠[]:=λe=>by
   subst e
   simp at hn'
   exact bN (List.length_eq_zero_iff.1 hn'.symm)
  refine⟨m2,mLt aK aO,Mem.le_refl _,t,rfl,hr,?_,ZcV ZhM hj⟩
  rw[ZmP (λx hx=>(jB x hx).1) xQ (by omega) hj,Zko,fG]
mutual
theorem Ztf:∀t u:T,t.er.same u.er=t.same u
 | .node k s0 s1 s2 s3 mn mx a c l,.node k' s0' s1' s2' s3' mn' mx' a' c' l'=>by
  simp only[T.er,T.same,Ztg l l']
theorem Ztg:∀l r:List T,ZdN (erL l) (erL r)=ZdN l r
 | [],[]=>rfl
 | [],_::_=>rfl
 | _::_,[]=>rfl
 | t::l,u::r=>by simp only[erL,ZdN,Ztf t u,Ztg l r]
end
theorem ZiP(t:T):t.er.light=t.light:=by unfold T.light;rw[ZdF]
theorem Zst(t:T):t.er.clean=t.clean:=by
 show(t.er.light&&t.er.good)=(t.light&&t.good)
 rw[ZiP,ZbY]
theorem ZwO(t:T):T.rgt t.er=T.rgt t:=by
 rw[Bool.eq_iff_iff,Zc8,Zc8,ZbY,ZdF]
theorem ZwP{t:T}{c:C4}(h:c∈t.cuts):Zec t.er c=Zec t c:=by
 unfold Zec
 rw[Zov t 0 (ZcS h),ZdF]
theorem Zqj(t:T):ZaF t.er=ZaF t:=ZiV (ZdQ t)
def IsE(E:T):Value->Mem->List (List Value)->Prop:=Za9 λt=>t.er=E/\t.caps
theorem Zfw(c:Nat)(hc:c < 256)(m:Mem):CX Tryz.prog 5 #[.int .u8 (c:Nat)] m [] (IsE (Zam c)):=
 (Zm5 c hc m).mono λv m' css _ ⟨t,h1,h2,h3⟩=>⟨t,h1,h2,by subst h3;exact⟨rfl,ZfO (by simp) (by simp)⟩⟩
theorem Zth{L E:List T}(hE:L.map T.er=E)(hg:E.all T.good=true):∀x∈L,x.good=true:=by
 intro x hx
 have:x.er∈E:=by rw[<-hE];exact List.mem_map_of_mem hx
 have:=List.all_eq_true.1 hg _ this
 rwa [ZbY]at this
theorem Zti:∀L:List T,szL (L.map T.er)=szL L
 | []=>rfl
 | x::L=>by rw[List.map_cons,ZaW,ZaW,ZdF,Zti L]
theorem ZjS(L E:List T)(a:Option Addr)(c:Nat)(m:Mem)(hL:RepL m a L)(hE:L.map T.er=E)(hg:E.all T.good=true)(hs:szL E<=900):CX Tryz.prog 6 #[.slice a L.length c] m [] (IsE (Zje E)):=by
 have kG:=Zth hE hg
 have bE:szL L<=900:=by rw[<-Zti,hE];exact hs
 have aU:=Zbo L
 refine(Zrw L a c m hL (by omega) λx hx=>ZaO (kG x hx) (by have:=Zbq hx;omega)).mono ?_
 rintro v m' css _ ⟨t,h1,h2,ja,jc,hj⟩
 refine⟨t,h1,h2,?_,ZcV Zkn hj⟩
 rw[ZiQ kG (by omega) hj,Zpu,hE]
theorem ZvD(L E:List T)(a:Option Addr)(c:Nat)(m:Mem)(hL:RepL m a L)(hE:L.map T.er=E)(hg:E.all T.good=true)(hs:szL E<=900)(bN:L≠[]):CX Tryz.prog 7 #[.slice a L.length c] m [] (IsE (Zd9 E)):=by
 have kG:=Zth hE hg
 have bE:szL L<=900:=by rw[<-Zti,hE];exact hs
 have aU:=Zbo L
 refine(Zyd L a c m hL (by omega) λx hx=>ZaO (kG x hx) (by have:=Zbq hx;omega)).mono ?_
 rintro v m' css _ ⟨t,h1,h2,ja,jc,hj⟩
 refine⟨t,h1,h2,?_,ZcV ZhM hj⟩
 rw[ZmP kG bN (by omega) hj,Zko,hE]
def ZAh(E:T):T:=Zba 6 0 0 none 0 [E]
theorem ZuR(t E:T)(m:Mem)(hr:Rep m t)(hE:t.er=E)(hg:E.good=true)(hs:E.nodes.length<=900):CX Tryz.prog 9 #[t.v] m [] (IsE (ZAh E)):=by
 refine(Zm2 t m hr).mono ?_
 rintro v m' css _ ⟨t',h1,h2,ja,jc,hj⟩
 refine⟨t',h1,h2,?_,hj.2⟩
 have gV:t.good=true:=by rw[<-ZbY,hE];exact hg
 have cK:t.nodes.length<=900:=by rw[<-ZdF,hE];exact hs
 have hc:(Zba 6 0 0 ja jc [t]).clean=true:=ZaO (Zot gV) (by rw[Zb9];show 1+szL [t]<=10000;rw[Zci];omega)
 rw[Zdk hj hc]
 show Zba 6 0 0 none 0 [t.er]=_
 rw[hE];rfl
theorem ZdW(ws:List ByteArray)(E:List T)(a:Option Addr)(c:Nat)(m:Mem)(hw:rowRd m a (ws.map Value.string))(hn:ws.length<=20)(hs:(ws.all λs=>Nat.ble (ZcG s).length 100)=true)(bN:ws≠[])(hE:(ws.map λs=>ZdV (ZcG s))=E):CX Tryz.prog 53 #[.slice a ws.length c] m [] (IsE (Zd9 E)):=by
 subst hE
 exact ZwN ws a c m hw hn (λs hs'=>Nat.le_of_ble_eq_true (List.all_eq_true.1 hs s hs')) bN
theorem ZdX{m:Mem}{b:Nat}{cs:List Value}:rowRd (m.add b cs) (some ⟨b,0,none⟩) cs:=.inr ⟨b,0,rfl,λj v hj=>by rw[Nat.zero_add,Mem.add_same];exact hj⟩
theorem Zgb{E:T}{m:Mem}{K:TRK}(k:∀(t:T)(m':Mem),m.le m'->Rep m' t->t.er=E->t.caps->K t.k t.s0 t.s1 t.s2 t.s3 t.mn t.mx t.a t.subs.length t.c m'):
  ∀(n0 n1 n2 n3 n4 n5 n6:Int)(a:Option Addr)(n c:Nat)(m':Mem),m.le m'->IsE E (.agg #[.int .u8 n0,.int .u64 n1,.int .u64 n2,.int .u64 n3,.int .u64 n4,.int .i64 n5,.int .i64 n6,.slice a n c]) m' []->K n0 n1 n2 n3 n4 n5 n6 a n c m':=
 ZaD λt m' hm hr ⟨h1,h2⟩=>k t m' hm hr h1 h2
theorem ZaP{E:T}:∀(v:Value)(m':Mem) (css:List (List Value)),IsE E v m' css->Shape.fits (.agg [.int .u8,.int .u64,.int .u64,.int .u64,.int .u64,.int .i64,.int .i64,.slice]) v=true:=Zaj
end Go.Proofs.YtfgfahnakepegaaGreat
end
