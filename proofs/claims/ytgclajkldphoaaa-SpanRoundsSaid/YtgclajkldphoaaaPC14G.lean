/- Part of the proof: conditions and contracts of functions of this program. No condition of its own. -/
import Derived.Test.YtgclajkldphoaaaPC14B
import Derived.Test.YtgclajkldphoaaaPVSB
import Derived.Test.YtgclajkldphoaaaMr
set_option linter.unusedVariables false
set_option linter.unusedSimpArgs false
namespace Go.Proofs.Ytgclajkldphoaaa
open Go Go.Eng Go.Rx Go.Proofs Go.RowKit
set_option maxRecDepth 100000
theorem ZuX(fb nb:Nat)(d i:Int)(m:Mem):CX Try.prog 72 #[.pointer (some ⟨fb,0,none⟩),.pointer (some ⟨nb,0,none⟩),.int .i64 d,.int .i64 i] m [] (λv m' _=>∃c0 c1 c2 c3,v=.func (.func 91) #[] #[.pointer (some ⟨c0,0,none⟩),.pointer (some ⟨c1,0,none⟩),.pointer (some ⟨c2,0,none⟩),.pointer (some ⟨c3,0,none⟩)]/\
  (m'.reads c0 0 [.pointer (some ⟨nb,0,none⟩)]/\m'.reads c1 0 [.int .i64 i]/\m'.reads c2 0 [.pointer (some ⟨fb,0,none⟩)]/\m'.reads c3 0 [.int .i64 d])/\(m.k c0=none/\m.k c1=none/\m.k c2=none/\m.k c3=none)):=by
 apply ZeP
 unfold ZcQ
 intro b m1 bH hb _ _ hk b1 m2 bO eT _ _ fW b2 m3 bX eB _ _ hU b3 m4 cB jS _ _ nI
 have none_le:∀{a c:Mem} {x:Nat},a.le c->c.k x=none->a.k x=none:=λ{a c x} h e=>by
  cases he:a.k x with
  | none=>rfl
  | some u=>rw[h.k _ _ he]at e;cases e
 have xH:=mLt bH bO
 have vW:=mLt xH bX
 exact⟨m4,mLt vW cB,Mem.le_refl _,b1,b3,b,b2,rfl,⟨eT.mono (mLt bX cB),jS,hb.mono (mLt bO (mLt bX cB)),eB.mono cB⟩,none_le bH fW,none_le vW nI,hk,none_le xH hU⟩
theorem ZkY{M:Mem}{b kb:Nat}{LL:List (List Nat)}{q x:Nat}(hq:LL[q]?=some [x])(hk:∃es,M.k kb=some es):Zvo LL kb q [.slice (some ⟨b,0,none⟩) 1 1] (M.add b [.int .i64 (x:Nat)]):=
 ⟨⟨[x],some ⟨b,0,none⟩,1,hq,rfl,.inr ⟨b,0,rfl,λj v hj=>by rw[Nat.zero_add,Mem.add_same];exact hj⟩⟩,hk⟩
theorem Zii{m2:Mem}{kb:Nat}{Z:Nat->Prop}{root:Nd}{s X:List Nat}{LL:List (List Nat)}{q:Nat}{a:Option Addr}{nn c:Nat}(hq:LL[q]?=some X)(h:ZwX kb Z root s X (.slice a nn c) m2 [] []):Zvo LL kb q [.slice a nn c] m2:=by
 obtain⟨a',c',hv,bG,es,eC,_⟩:=h
 obtain⟨rfl,rfl,rfl⟩:a=a'/\nn=X.length/\c=c':=by simpa using hv
 exact⟨⟨X,a,c,hq,rfl,bG.mono (Mem.off_le _ _)⟩,es,eC⟩
structure Cap (B:Mem)(fb:Nat)(n:Nd)(d i c0 c1 c2 c3:Nat):Prop where
 c0:B c0 0=some (.pointer (some ⟨n.b,0,none⟩))
 c1:B c1 0=some (.int .i64 (i:Nat))
 c2:B c2 0=some (.pointer (some ⟨fb,0,none⟩))
 c3:B c3 0=some (.int .i64 (d:Nat))
theorem Cap.mono{B B':Mem}{fb:Nat}{n:Nd}{d i c0 c1 c2 c3:Nat}(h:Cap B fb n d i c0 c1 c2 c3)(hB:B.le B'):Cap B' fb n d i c0 c1 c2 c3:=⟨hB.c _ _ _ h.c0,hB.c _ _ _ h.c1,hB.c _ _ _ h.c2,hB.c _ _ _ h.c3⟩
theorem wr1{j:Nat}(h:j<=1000000000000000):IntKind.i64.wrap ((j:Int)+1)=((j+1:Nat):Int):=by rw[ZaK (by omega) (by omega)];rfl
theorem ZsS(fb kb:Nat)(Z:Nat->Prop)(root:Nd)(sa:Option Addr)(s:List Nat)(sc:Nat)(n:Nd)(hn:n∈root.all)(d i:Nat)(hd:d<=1000000000000000)(hi:i<=s.length)(lE:n.t.k=3->d<=n.subs.length)
  (ihs:∀x∈n.subs,∀j,j<=s.length->ZlY fb kb Z root sa s sc x 0 j) (ih3:n.t.k=3->d < n.subs.length->∀j,j<=s.length->ZlY fb kb Z root sa s sc n (d+1) j)
  (ih5:n.t.k=5->∀j∈ZcK (hd0 s n.t.subs) n.t.mn n.t.mx d i,ZlY fb kb Z root sa s sc n (Zbq n.t.mn n.t.mx d) j) (m:Mem) (hw:Wk m fb kb Z root sa s sc) (c0 c1 c2 c3:Nat) (hc:Cap (but m kb) fb n d i c0 c1 c2 c3):
  IXY Try.prog 91 [] [.pointer (some ⟨c0,0,none⟩),.pointer (some ⟨c1,0,none⟩),.pointer (some ⟨c2,0,none⟩),.pointer (some ⟨c3,0,none⟩)] m (λb=>b=kb) (n.t.lists s d i).length (Zvo (n.t.lists s d i) kb) (λm'=>HasM m' kb Z root s):=by
 have hg:=hw.fin.good n hn
 have kU:=ZcD hg
 have jF:=ZbB root hw.fb.rep n hn
 have cZ:=NRep.mono (ZhX m kb) _ jF
 have jQ:=hc.mono (ZhX m kb)
 obtain⟨g0,g1,g5,g6,g8,g9,g10⟩:=Zih cZ
 obtain⟨_,_,_,_,_,_,g10B⟩:=Zih jF
 have bL:=ZsQ cZ
 have gR:=ZsR cZ
 obtain⟨es,eC,cF⟩:=hw.has
 have one:∀{b:Nat},m.free b->(n.t.lists s d i)=[[i]]->∃LL,True:=λ_ _=>⟨(),trivial⟩
 have oneSub:n.t.k=5\/n.t.k=6->∃x,n.subs=[x]/\n.t.subs=[x.t]:=λh=>by
  obtain⟨x0,gN⟩:∃x,n.t.subs=[x]:=by
   rcases Zhb hg with h'|h'|h'|h'|h'|h' <;> first|omega|exact h'.2.1|exact h'.2
  have hl:=bL
  rw[gN]at hl
  match bV:n.subs,hl with
  | [x],_=>
   have:=Zys cZ (j:=0) (x:=x) (by rw[bV];rfl)
   rw[gN]at this
   exact⟨x,rfl,by rw[gN];simpa using this⟩
 apply Zdw 0 [] []
 unfold Zcl
 intro l
 refine⟨_,jQ.c0,Zaa rfl (Zaa rfl ⟨_,g0,Zaa rfl (Zab (λh1=>?_) (λh1=>Zaa rfl (Zab (λh2=>?_) (λh2=>Zaa rfl (Zab (λh6=>?_) (λh6=>Zaa rfl (Zab (λh4=>?_) (λh4=>Zaa rfl (Zab (λh3=>?_) (λh3=>Zaa rfl (Zab (λh5=>?_) (λh5=>?_))))))))))))⟩)⟩
 ·
  have hk:n.t.k=1:=by simpa[RowKit.intOf]using h1
  have fY:n.t.lists s d i=[[i]]:=by unfold T.lists;rw[if_pos hk]
  rw[fY]
  exact⟨_,jQ.c1,Zaa rfl λb hb=>⟨⟨by trivial,0,rfl,by simp,ZkY rfl ⟨es,eC⟩⟩,rfl,HasM.le hw.has (Mem.le_add hb _)⟩⟩
 ·
  have hk:n.t.k=2:=by simpa[RowKit.intOf]using h2
  have fY:n.t.lists s d i=(match s[i]? with
   | some c=>if n.t.hasB c=true then[[i+1]]else[]
   | none=>[]):=by unfold T.lists;rw[if_neg (by omega),if_pos hk];cases s[i]? <;> rfl
  have hs:=hw.fm.str
  have gH:=hw.fm.byt
  have xI:=hw.fin.len
  refine⟨λ_ _ _=>Ret (.bool (n.t.hasB ((s[i]?).getD 0))),_,jQ.c1,_,jQ.c2,Zaa rfl (Zaa rfl ⟨_,hs,Zaa rfl (Zaa rfl (Zab (λbF=>?_) (λcR=>?_)))⟩)⟩
  ·have bI:i < s.length:=by have:=of_decide_eq_true bF;simpa[RowKit.intOf,slN]using this
   obtain⟨c,cP⟩:∃c,s[i]?=some c:=⟨_,List.getElem?_eq_getElem bI⟩
   obtain⟨⟨b,o,mL,tR⟩,jE⟩:=gH.get cP
   rw[cP]at fY
   simp only at fY
   refine⟨_,jQ.c0,Zaa rfl (Zaa rfl ⟨_,_,_,_,g1,_,jQ.c2,Zaa rfl (Zaa rfl ⟨_,hs,_,jQ.c1,Zaa rfl (Zaa rfl ⟨b,o,mL,⟨by simp[RowKit.intOf],by simp[RowKit.intOf,slN];omega⟩,.int .u8 (c:Nat),?_,_,rfl,?_,?_,?_⟩)⟩)⟩)⟩
   ·simp only[RowKit.intOf,Int.toNat_natCast,Nat.mul_one];exact tR
   ·rw[cP];exact ZrC n.t c jE m (Zdt.1 cZ).2.1.1
   ·intro v m' css h;unfold Ret at h;rw[h];rfl
   ·intro bb m' hm' hR M hM _
    have hR:bb=n.t.hasB c:=by rw[cP]at hR;simpa[Ret]using hR
    refine Zab (λhq=>⟨_,hM.c _ _ _ jQ.c1,Zaa rfl λb2 eB=>?_⟩) (λhq=>?_)
    ·rw[if_pos (by rw[<-hR];exact hq)]at fY
     rw[fY]
     simp only[RowKit.intOf,wr1 (show i<=1000000000000000 by omega)]
     exact⟨⟨by trivial,0,rfl,by simp,ZkY rfl ⟨es,hM.k _ _ eC⟩⟩,rfl,HasM.le (HasM.le hw.has hM) (Mem.le_add eB _)⟩
    ·rw[if_neg (by rw[<-hR,hq];simp)]at fY
     rw[fY]
     exact⟨rfl,HasM.le hw.has hM⟩
  ·have vX:s.length<=i:=by have:=of_decide_eq_false cR;simpa[RowKit.intOf,slN]using this
   have cP:s[i]?=none:=List.getElem?_eq_none_iff.2 vX
   rw[cP]at fY
   rw[fY]
   exact λM hM _=>⟨rfl,HasM.le hw.has hM⟩
 ·
  have hk:n.t.k=6:=by simpa[RowKit.intOf]using h6
  obtain⟨x,cU,iQ⟩:=oneSub (.inr hk)
  have hx:n.subs[0]?=some x:=by rw[cU];rfl
  have fY:n.t.lists s d i=[x.t.ends s 0 i]:=by unfold T.lists;rw[if_neg (by omega),if_neg (by omega),if_pos hk,iQ,Za5];simp[hd0]
  obtain⟨b0,o,ha,hp⟩:=ZkX jF hx
  rw[fY]
  refine⟨_,hc.c2,_,hc.c0,Zaa rfl (Zaa rfl ⟨_,g10B,Zaa rfl ⟨b0,o,ha,⟨by omega,by simp[slN,cU]⟩,_,hp,_,hc.c1,Zpw (ihs x (by rw[cU];simp) i hi m hw) ⟨es,eC⟩ Za7 ?_⟩⟩)⟩
  intro a nn c m2 bO hR
  exact⟨⟨by trivial,0,rfl,by simp,Zii rfl hR⟩,rfl,by obtain⟨_,_,_,_,h⟩:=hR;exact h⟩
 ·
  have hk:n.t.k=4:=by simpa[RowKit.intOf]using h4
  have fY:n.t.lists s d i=n.subs.map λx=>x.t.ends s 0 i:=by
   unfold T.lists
   rw[if_neg (by omega),if_neg (by omega),if_neg (by omega),if_pos hk,<-(Zdt.1 cZ).2.1.2,List.map_map]
   refine List.map_congr_left λx _=>?_
   simp[Za5]
  rw[fY,List.length_map]
  refine⟨_,jQ.c0,Zaa rfl (Zaa rfl ⟨_,g10,Zaa rfl ⟨λxs css tvs m' q=>∃j:Nat,j<=n.subs.length/\xs=[.int .i64 (j:Nat),.int .i64 (j:Nat)]/\(but m kb).le m'/\HasM m' kb Z root s/\q=n.subs.length - j,⟨_,0,by omega,rfl,ZhX _ _,hw.has,rfl⟩,?_⟩⟩)⟩
  rintro y ag m1 ak _ ⟨j,hj,cU,kY,pR,rfl⟩
  simp only[List.cons.injEq,Value.int.injEq,true_and,and_true]at cU
  obtain⟨rfl,rfl⟩:=cU
  have eH:=hw.next kY pR
  have nN:=hc.mono kY
  obtain⟨es1,iK,_⟩:=pR
  refine Zab (λbF=>?_) (λcR=>?_)
  ·have bI:j < n.subs.length:=by have:=of_decide_eq_true bF;simp[slN]at this;omega
   obtain⟨x,hx⟩:∃x,n.subs[j]?=some x:=⟨_,List.getElem?_eq_getElem bI⟩
   obtain⟨b0,o,ha,hp⟩:=ZkX (NRep.mono kY _ jF) hx
   simp only[Int.toNat_natCast,Nat.mul_one,wr1 (show j<=1000000000000000 by omega)]
   refine Zaa rfl ⟨b0,o,ha,⟨by omega,by simp[slN];omega⟩,_,hp,_,nN.c2,_,nN.c1,Zpw (ihs x (List.mem_of_getElem? hx) i hi m1 eH) ⟨es1,iK⟩ Za7 ?_⟩
   intro a nn c m2 bO hR
   refine⟨⟨by trivial,j,rfl,bI,Zii (by rw[List.getElem?_map,hx];rfl) hR⟩,_,?_,j+1,by omega,rfl,mLt (ZeW kY) bO,by obtain⟨_,_,_,_,h⟩:=hR;exact h,rfl⟩
   omega
  ·have:j=n.subs.length:=by have:=of_decide_eq_false cR;simp[slN]at this;omega
   subst this
   exact⟨rfl,es1,iK,by assumption⟩
 ·
  have hk:n.t.k=3:=by simpa[RowKit.intOf]using h3
  have hd':=lE hk
  have fY:n.t.lists s d i=(match n.t.subs[d]? with
   | none=>[[i]]
   | some x=>(x.e0 s i).map λj=>n.t.ends s (d+1) j):=by unfold T.lists;rw[if_neg (by omega),if_neg (by omega),if_neg (by omega),if_neg (by omega),if_pos hk];cases n.t.subs[d]? <;> rfl
  refine⟨_,jQ.c3,_,jQ.c0,Zaa rfl (Zaa rfl ⟨_,g10,Zaa rfl (Zaa rfl (Zab (λhe=>?_) (λcN=>?_)))⟩)⟩
  ·have he':d=n.subs.length:=by simp[RowKit.intOf,slN]at he;omega
   rw[List.getElem?_eq_none_iff.2 (by omega)]at fY
   rw[fY]
   exact⟨_,jQ.c1,Zaa rfl λb hb=>⟨⟨by trivial,0,rfl,by simp,ZkY rfl ⟨es,eC⟩⟩,rfl,HasM.le hw.has (Mem.le_add hb _)⟩⟩
  ·have bF:d < n.subs.length:=by simp[RowKit.intOf,slN]at cN;omega
   obtain⟨x,hx⟩:∃x,n.subs[d]?=some x:=⟨_,List.getElem?_eq_getElem bF⟩
   have gL:=List.mem_of_getElem? hx
   rw[Zys cZ hx]at fY
   simp only at fY
   rw[<-Za5]at fY
   have fF:x.t.right=true:=hw.fin.good x (Zew hn gL)
   obtain⟨X,hX⟩:∃X,X=x.t.ends s 0 i:=⟨_,rfl⟩
   have sS:X.length<=513:=by rw[hX];exact Zb6 fF hw.fin.len hi
   rw[<-hX]at fY
   rw[fY,List.length_map]
   obtain⟨b0,o,ha,hp⟩:=ZkX jF hx
   refine⟨_,hc.c2,_,hc.c0,Zaa rfl (Zaa rfl ⟨_,g10B,_,hc.c3,Zaa rfl ⟨b0,o,ha,⟨by simp[RowKit.intOf],by simp[RowKit.intOf,slN];omega⟩,_,by simp only[RowKit.intOf,Int.toNat_natCast,Nat.mul_one];exact hp,_,hc.c1,Zpw (ihs x gL i hi m hw) ⟨es,eC⟩ Za7 ?_⟩⟩)⟩
   rintro a nn c m2 bO ⟨a',c',hv,bG,dF⟩
   rw[<-hX]at hv bG
   obtain⟨rfl,rfl,rfl⟩:a=a'/\nn=X.length/\c=c':=by simpa using hv
   have dX:=hw.next bO dF
   have sU:=hc.mono (ZeW bO)
   refine⟨λxs css tvs m' q=>∃j:Nat,j<=X.length/\xs=[.int .i64 (j:Nat),.int .i64 (j:Nat)]/\(but m2 kb).le m'/\HasM m' kb Z root s/\q=X.length - j,⟨_,0,by omega,rfl,ZhX _ _,dF,rfl⟩,?_⟩
   rintro y ak m3 al _ ⟨j,hj,cU,dE,fO,rfl⟩
   simp only[List.cons.injEq,Value.int.injEq,true_and,and_true]at cU
   obtain⟨rfl,rfl⟩:=cU
   have nP:=dX.next dE fO
   have mS:=sU.mono dE
   obtain⟨es3,dW,_⟩:=fO
   refine Zab (λmH=>?_) (λcR=>?_)
   ·have bI:j < X.length:=by have:=of_decide_eq_true mH;omega
    obtain⟨z,hz⟩:∃z,X[j]?=some z:=⟨_,List.getElem?_eq_getElem bI⟩
    have gV:=Zg9 s x.t 0 i hi z (hX ▸ List.mem_of_getElem? hz)
    rcases((bG.mono (Zon dX.z.1)).mono dE)with h|⟨b,o2,h1,h2⟩
    ·have:X=[]:=by simpa[nsL]using h
     rw[this]at bI;simp at bI
    simp only[Int.toNat_natCast,Nat.mul_one,wr1 (show j<=1000000000000000 by omega)]
    refine⟨b,o2,h1,⟨by omega,by omega⟩,.int .i64 (z:Nat),h2 j _ (by rw[nsL,List.getElem?_map,hz];rfl),_,mS.c2,_,mS.c0,_,mS.c3,Zaa rfl ?_⟩
    simp only[RowKit.intOf,wr1 hd]
    refine Zpw (ih3 hk bF z gV.2 m3 nP) ⟨es3,dW⟩ Za7 ?_
    intro a2 n2 c2' m4 cB hR
    refine⟨⟨by trivial,j,rfl,bI,Zii (by rw[List.getElem?_map,hz];rfl) hR⟩,_,?_,j+1,by omega,rfl,mLt (ZeW dE) cB,by obtain⟨_,_,_,_,h⟩:=hR;exact h,rfl⟩
    omega
   ·have:j=X.length:=by have:=of_decide_eq_false cR;omega
    subst this
    exact⟨rfl,es3,dW,by assumption⟩
 ·
  have hk:n.t.k=5:=by simpa[RowKit.intOf]using h5
  obtain⟨x,cU,iQ⟩:=oneSub (.inl hk)
  obtain⟨X,hX⟩:∃X,X=ZcK (hd0 s n.t.subs) n.t.mn n.t.mx d i:=⟨_,rfl⟩
  have fY:n.t.lists s d i=(X.map λj=>n.t.ends s (Zbq n.t.mn n.t.mx d) j)++(if(d:Int) ≥ n.t.mn then[[i]]else[]):=by
   unfold T.lists
   rw[if_neg (by omega),if_neg (by omega),if_neg (by omega),if_neg (by omega),if_neg (by omega),if_pos hk,<-hX]
  have uc:∀z∈X,Zhy n.t.mx d=true/\z<=s.length:=λz hz=>by
   rw[hX]at hz
   obtain⟨q1,q2,_⟩:=Za6 hz
   exact⟨q1,(Zbd s n.t.subs i hi z q2).2⟩
  have sS:X.length<=513:=by
   rw[hX]
   unfold ZcK
   split
   ·have h1:=List.length_filter_le (λj=>decide (i < j)||decide ((d:Int) < n.t.mn)) (hd0 s n.t.subs i)
    have h2:(hd0 s n.t.subs i).length<=513:=by
     rw[iQ]
     simp only[hd0]
     rw[<-Za5]
     exact Zb6 (hw.fin.good x (Zew hn (by rw[cU];simp))) hw.fin.len hi
    omega
   ·simp
  refine⟨_,jQ.c0,_,jQ.c3,_,trivial,Zni n d m cZ kU hk hd,λv m' css h=>by unfold Ret at h;rw[h];rfl,?_⟩
  rintro n1 b1 m1 bH nQ
  simp only[Ret,Value.tuple.injEq,Array.mk.injEq,List.cons.injEq,Value.int.injEq,Value.bool.injEq,true_and,and_true]at nQ
  obtain⟨rfl,rfl⟩:=nQ
  have eH:=hw.le bH
  have nN:=hc.mono (Zol bH)
  have oP:=nN.mono (ZhX _ _)
  obtain⟨es1,iK,_⟩:=eH.has
  have dK:=Zo4 fb kb Z root sa s sc n hn hk d i hd hi (λx hx=>ihs x hx i hi) m1 eH
  rw[<-hX]at dK
  refine⟨_,oP.c2,_,oP.c0,_,oP.c3,_,oP.c1,Zpw dK ⟨es1,iK⟩ Za7 ?_⟩
  rintro a nn c m2 bO ⟨a',c',hv,bG,dF⟩
  obtain⟨rfl,rfl,rfl⟩:a=a'/\nn=X.length/\c=c':=by simpa using hv
  have dX:=eH.next bO dF
  have sU:=nN.mono (ZeW bO)
  rw[fY,List.length_append,List.length_map]
  refine⟨λxs css tvs m' q=>∃j:Nat,j<=X.length/\xs=[.int .i64 (j:Nat),.int .i64 (j:Nat)]/\(but m2 kb).le m'/\HasM m' kb Z root s/\q=X.length - j,⟨_,0,by omega,rfl,ZhX _ _,dF,rfl⟩,?_⟩
  rintro y al m3 ap _ ⟨j,hj,mQ,dE,fO,rfl⟩
  simp only[List.cons.injEq,Value.int.injEq,true_and,and_true]at mQ
  obtain⟨rfl,rfl⟩:=mQ
  have nP:=dX.next dE fO
  have mS:=sU.mono dE
  obtain⟨es3,dW,kQ⟩:=fO
  refine Zab (λmH=>?_) (λcR=>?_)
  ·have bI:j < X.length:=by have:=of_decide_eq_true mH;omega
   obtain⟨z,hz⟩:∃z,X[j]?=some z:=⟨_,List.getElem?_eq_getElem bI⟩
   have xJ:=List.mem_of_getElem? hz
   obtain⟨se,rB⟩:=uc z xJ
   rcases((bG.mono (Zon dX.z.1)).mono dE)with h|⟨b,o2,h1,h2⟩
   ·have:X=[]:=by simpa[nsL]using h
    rw[this]at bI;simp at bI
   simp only[Int.toNat_natCast,Nat.mul_one,wr1 (show j<=1000000000000000 by omega)]
   refine⟨b,o2,h1,⟨by omega,by omega⟩,.int .i64 (z:Nat),h2 j _ (by rw[nsL,List.getElem?_map,hz];rfl),Zje se ⟨_,mS.c2,_,mS.c0,Zpw (ih5 hk z (hX ▸ xJ) m3 nP) ⟨es3,dW⟩ Za7 ?_⟩⟩
   intro a2 n2 c2' m4 cB hR
   refine⟨⟨by trivial,j,rfl,by omega,Zii (by rw[List.getElem?_append_left (by simpa using bI),List.getElem?_map,hz];rfl) hR⟩,_,?_,j+1,by omega,rfl,mLt (ZeW dE) cB,by obtain⟨_,_,_,_,h⟩:=hR;exact h,rfl⟩
   omega
  ·have:j=X.length:=by have:=of_decide_eq_false cR;omega
   subst this
   obtain⟨_,_,g5',_⟩:=Zih (ZbB root nP.fm.rep n hn)
   refine⟨_,mS.c3,_,mS.c0,Zaa rfl (Zaa rfl ⟨_,g5',Zaa rfl (Zab (λhq=>⟨_,mS.c1,Zaa rfl λb2 eB=>⟨⟨by trivial,X.length,rfl,?_,ZkY ?_ ⟨es3,dW⟩⟩,?_,HasM.le ⟨es3,dW,kQ⟩ (Mem.le_add eB _)⟩⟩) (λhq=>⟨?_,es3,dW,kQ⟩))⟩)⟩
   ·have hq':(d:Int) ≥ n.t.mn:=of_decide_eq_true hq
    rw[if_pos hq'];simp
   ·have hq':(d:Int) ≥ n.t.mn:=of_decide_eq_true hq
    rw[if_pos hq',List.getElem?_append_right (by simp)];simp
   ·have hq':(d:Int) ≥ n.t.mn:=of_decide_eq_true hq
    rw[if_pos hq'];simp
   ·have hq':¬(d:Int) ≥ n.t.mn:=of_decide_eq_false hq
    rw[if_neg hq'];simp
 ·exfalso
  simp[RowKit.intOf]at h1 h2 h3 h4 h5 h6
  rcases Zhb hg with h|h|h|h|h|h <;> omega
end Go.Proofs.Ytgclajkldphoaaa
set_option linter.unusedVariables false
set_option linter.unusedSimpArgs false
namespace Go.Proofs.Ytgclajkldphoaaa
open Go Go.Eng Go.Rx Go.Proofs Go.RowKit
set_option maxRecDepth 100000
theorem ZwY(a b c a' b' c':Nat):EqIs Try.prog 132 (plK a b c) (plK a' b' c') (decide (a=a'/\b=b'/\c=c')):=by
 have h:=ZuW a b c a' b' c'
 have e:((a:Int) == a'&&(b:Int) == b'&&(c:Int) == c')=decide (a=a'/\b=b'/\c=c'):=by
  rw[Bool.eq_iff_iff]
  simp only[Bool.and_eq_true,beq_iff_eq,decide_eq_true_eq]
  omega
 rw[e]at h;exact h
theorem ZuY(a b c:Nat):Instr.sameBits 10000 (plK a b c) (plK a b c)=true:=by
 rw[show(10000:Nat)=9998+1+1 from rfl]
 generalize (9998:Nat)=n
 simp[Instr.sameBits,plK]
theorem Zo5{B:Mem}{root:Nd}{s:List Nat}(ids:∀x∈root.all,∀y∈root.all,x.id=y.id->x=y){n:Nd}(hn:n∈root.all)(d i:Nat)(z:Value):∀{es:List (Value×Value)},Memo B root s es->
  ∃r,MapFind Try.prog 132 (plK n.id d i) es r/\∀v,r=some v->∃a c,v=.slice a (n.t.ends s d i).length c/\rowRd B a (nsL (n.t.ends s d i))
 | [],_=>⟨none,rfl,λv h=>by cases h⟩
 | e::es,hm=>by
  obtain⟨n',d',i',a,c,h1,rfl,h3⟩:=hm e (by simp)
  have he:=ZwY n.id d i n'.id d' i'
  by_cases hq:n.id=n'.id/\d=d'/\i=i'
  ·rw[decide_eq_true hq]at he
   obtain⟨q1,rfl,rfl⟩:=hq
   obtain rfl:=ids n hn n' h1 q1
   exact⟨_,.inl ⟨he,rfl⟩,λv h=>by cases h;exact⟨a,c,rfl,h3⟩⟩
  ·rw[decide_eq_false hq]at he
   obtain⟨r,h4,h5⟩:=Zo5 ids hn d i z (es:=es) (λe he=>hm e (by simp[he]))
   exact⟨r,.inr ⟨he,h4⟩,h5⟩
theorem ZrD{B:Mem}{root:Nd}{s:List Nat}{n:Nd}(hn:n∈root.all)(d i:Nat){a:Option Addr}{c:Nat}(bG:rowRd B a (nsL (n.t.ends s d i))):∀{es:List (Value×Value)},Memo B root s es->
  ∃es',Zj5 Try.prog 132 (plK n.id d i) (.slice a (n.t.ends s d i).length c) es es'/\Memo B root s es'
 | [],_=>⟨_,rfl,λe he=>by
   obtain rfl:e=_:=by simpa using he
   exact⟨n,d,i,a,c,hn,rfl,bG⟩⟩
 | e::es,hm=>by
  obtain⟨n',d',i',a',c',h1,rfl,h3⟩:=hm e (by simp)
  have he:=ZwY n.id d i n'.id d' i'
  by_cases hq:n.id=n'.id/\d=d'/\i=i'
  ·rw[decide_eq_true hq]at he
   obtain⟨q1,rfl,rfl⟩:=hq
   refine⟨_,.inl ⟨he,by rw[<-q1];exact ZuY _ _ _,rfl⟩,λe he=>?_⟩
   rcases List.mem_cons.1 he with rfl|he
   ·exact⟨n,d,i,a,c,hn,rfl,bG⟩
   ·exact hm e (by simp[he])
  ·rw[decide_eq_false hq]at he
   obtain⟨es',h4,h5⟩:=ZrD hn d i bG (c:=c) (es:=es) (λe he=>hm e (by simp[he]))
   refine⟨_,.inr ⟨he,es',h4,rfl⟩,λe he=>?_⟩
   rcases List.mem_cons.1 he with rfl|he
   ·exact hm _ (by simp)
   ·exact h5 e he
theorem ZsT{s:List Nat}{t:T}{d i:Nat}(h:t.right=true)(bV:∀x∈t.subs,x.right=true)(hs:s.length<=512)(hi:i<=s.length):∀l∈t.lists s d i,l.length<=1000000:=by
 have e0:∀x:T,x.right=true->(x.e0 s i).length<=1000000:=λx hx=>by
  rw[<-Za5]
  have:=Zb6 (d:=0) hx hs hi;omega
 have one:∀{l:List Nat} {x:Nat},l∈[[x]]->l.length<=1000000:=λ{l x} hl=>by
  obtain rfl:l=[x]:=by simpa using hl
  simp
 intro l hl
 unfold T.lists at hl
 split at hl
 ·exact one hl
 ·split at hl
  ·split at hl
   ·split at hl
    ·exact one hl
    ·simp at hl
   ·simp at hl
  ·split at hl
   ·obtain rfl:l=_:=by simpa using hl
    cases fH:t.subs with
    | nil=>simp[hd0]
    | cons x r=>simp only[hd0];exact e0 x (bV x (by rw[fH];simp))
   ·split at hl
    ·obtain⟨x,hx,rfl⟩:=List.mem_map.1 hl
     exact e0 x (bV x hx)
    ·split at hl
     ·split at hl
      ·exact one hl
      ·rename_i x hx
       obtain⟨j,hj,rfl⟩:=List.mem_map.1 hl
       have:=Zb6 (d:=d+1) h hs (Zba s x i hi j hj).2;omega
     ·split at hl
      ·rcases List.mem_append.1 hl with hl|hl
       ·obtain⟨j,hj,rfl⟩:=List.mem_map.1 hl
        obtain⟨_,h2,_⟩:=Za6 hj
        have:=Zb6 (d:=Zbq t.mn t.mx d) h hs (Zbd s t.subs i hi j h2).2;omega
       ·split at hl
        ·exact one hl
        ·simp at hl
      ·simp at hl
theorem ZsU(fb kb:Nat)(Z:Nat->Prop)(root:Nd)(sa:Option Addr)(s:List Nat)(sc:Nat)(n:Nd)(hn:n∈root.all)(d i:Nat)(hd:d<=1000000000000000)(hi:i<=s.length)(lE:n.t.k=3->d<=n.subs.length)
  (ihs:∀x∈n.subs,∀j,j<=s.length->ZlY fb kb Z root sa s sc x 0 j) (ih3:n.t.k=3->d < n.subs.length->∀j,j<=s.length->ZlY fb kb Z root sa s sc n (d+1) j)
  (ih5:n.t.k=5->∀j∈ZcK (hd0 s n.t.subs) n.t.mn n.t.mx d i,ZlY fb kb Z root sa s sc n (Zbq n.t.mn n.t.mx d) j):ZlY fb kb Z root sa s sc n d i:=by
 intro m hw
 have hg:=hw.fin.good n hn
 have cZ:=ZbB root hw.fm.rep n hn
 obtain⟨g0,g1,g5,g6,g8,g9,g10⟩:=Zih cZ
 obtain⟨es,eC,cF⟩:=hw.has
 have sV:∀x∈n.t.subs,x.right=true:=λx hx=>by
  rw[<-(Zdt.1 cZ).2.1.2]at hx
  obtain⟨y,hy,rfl⟩:=List.mem_map.1 hx
  exact hw.fin.good y (Zew hn hy)
 obtain⟨r,dA,fL⟩:=Zo5 hw.fin.ids hn d i (.slice none 0 0) cF
 have rI:=ZtY (d:=d) hg hi
 have gR:=Zb6 (d:=d) hg hw.fin.len hi
 apply ZeQ
 unfold Zc7
 refine⟨_,g8,(n.id:Nat),rfl,λb9=>⟨_,hw.fm.memo,kb,es,_,_,rfl,eC,Zo2 _ _ _,⟨r,dA,rfl,rfl⟩,Zab (λho=>?_) (λho=>⟨_,trivial,ZuX fb n.b d i m,?_,?_⟩)⟩⟩
 ·obtain⟨v,rfl⟩:=Option.isSome_iff_exists.1 ho
  obtain⟨a,c,hv,bG⟩:=fL v rfl
  exact⟨a,c,hv,bG,hw.has⟩
 ·rintro v m' css ⟨c0,c1,c2,c3,h,_⟩;rw[h];rfl
 rintro g fi ca m1 bH ⟨c0,c1,c2,c3,hv,⟨rC,nN,sU,mS⟩,qM,fW,hU,nI⟩
 obtain⟨rfl,rfl,rfl⟩:g=91/\fi=[]/\ca=[.pointer (some ⟨c0,0,none⟩),.pointer (some ⟨c1,0,none⟩),.pointer (some ⟨c2,0,none⟩),.pointer (some ⟨c3,0,none⟩)]:=by
  simpa using hv
 have eH:=hw.le bH
 have iK:=bH.k _ _ eC
 refine⟨_,trivial,ZwV _ [] [.pointer (some ⟨c0,0,none⟩),.pointer (some ⟨c1,0,none⟩),.pointer (some ⟨c2,0,none⟩),.pointer (some ⟨c3,0,none⟩)] m1,?_,?_⟩
 ·rintro v m' css ⟨c,h,_⟩;rw[h];rfl
 rintro g fi ca m2 bO ⟨c,hv,tZ,qr⟩
 obtain⟨rfl,rfl,rfl⟩:g=90/\fi=[]/\ca=[.pointer (some ⟨c,0,none⟩)]:=by
  simpa using hv
 have dX:=eH.le bO
 have ra:=bO.k _ _ iK
 have ne:∀{x:Nat},m.k x=none->x≠kb:=λh e=>by subst e;rw[eC]at h;cases h
 have c9:Cap (but m1 kb) fb n d i c0 c1 c2 c3:=by
  have g:∀{x:Nat} {v:Value},m.k x=none->m1.reads x 0 [v]->but m1 kb x 0=some v:=λh hr=>by
   rw[Zmr (ne h)];exact hr 0 _ rfl
  exact⟨g qM rC,g fW nN,g hU sU,g nI mS⟩
 have rb:∀m3:Mem,m2.le m3->IXY Try.prog 91 [] [.pointer (some ⟨c0,0,none⟩),.pointer (some ⟨c1,0,none⟩),.pointer (some ⟨c2,0,none⟩),.pointer (some ⟨c3,0,none⟩)] m3 (λb=>b=kb) (n.t.lists s d i).length (Zvo (n.t.lists s d i) kb) (λm'=>HasM m' kb Z root s):=λm3 bX=>
  ZsS fb kb Z root sa s sc n hn d i hd hi lE ihs ih3 ih5 m3 (dX.le bX) c0 c1 c2 c3 (c9.mono (Zol (mLt bO bX)))
 have sW:=ZuV 91 [] [.pointer (some ⟨c0,0,none⟩),.pointer (some ⟨c1,0,none⟩),.pointer (some ⟨c2,0,none⟩),.pointer (some ⟨c3,0,none⟩)] c m2 kb (n.t.lists s d i) (by rw[<-rI];omega) (ZsT hg sV hw.fin.len hi) (λm'=>HasM m' kb Z root s) (λa b lC h=>h.le lC) ⟨es,ra⟩ tZ rb
 have sX:=Zo1 90 [] [.pointer (some ⟨c,0,none⟩)] m2 kb Z dX.z (ddp (n.t.lists s d i).flatten) (by rw[<-rI];omega) (λm'=>HasM m' kb Z root s) (λa b lC h=>h.le lC) ⟨es,ra⟩ sW
 rw[<-rI]at sX
 refine Zpw sX ⟨es,ra⟩ (λv m' css tvs ⟨a,c,h,_⟩=>by rw[h];rfl) ?_
 rintro a nn c' m3 bX ⟨a',c2',hv,bG,dF⟩
 obtain⟨rfl,rfl,rfl⟩:a=a'/\nn=(n.t.ends s d i).length/\c'=c2':=by simpa using hv
 have nP:=dX.next bX dF
 obtain⟨es3,dW,kQ⟩:=dF
 obtain⟨es',iG,sY⟩:=ZrD hn d i bG (c:=c') kQ
 refine⟨_,nP.fm.memo,kb,es3,es',rfl,dW,Zo2 _ _ _,iG,Zms,a,c',rfl,bG,es',Mem.updK_same _ _ _,sY⟩
def ZzA(s:List Nat)(n:Nd)(d i:Nat):Nat:=if n.t.k=3 then n.subs.length - d else mR s.length n.t.mn n.t.mx d i
theorem ZuZ(fb kb:Nat)(Z:Nat->Prop)(root:Nd)(sa:Option Addr)(s:List Nat)(sc:Nat)(gY:∀x∈root.all,x.t.right=true):∀(N:Nat)(n:Nd),SizeOf.sizeOf n < N->n∈root.all->∀d i,d<=1000000000000000->i<=s.length->(n.t.k=3->d<=n.subs.length)->n.subs.length<=1000000000000000->ZlY fb kb Z root sa s sc n d i:=by
 intro N
 induction N with
 | zero=>intro n h;omega
 | succ N ihN=>
  intro n hN hn d i hd hi lE gR
  have hg:=gY n hn
  have kU:=ZcD hg
  have Zym:∀(K d i:Nat),ZzA s n d i < K->d<=1000000000000000->i<=s.length->(n.t.k=3->d<=n.subs.length)->ZlY fb kb Z root sa s sc n d i:=by
   intro K
   induction K with
   | zero=>intro d i h;omega
   | succ K ihK=>
    intro d i hK hd hi lE
    intro m hw
    have few:∀x∈root.all,x.subs.length<=1000000000000000:=λx hx=>ZsR (ZbB root hw.fin.rep x hx)
    refine ZsU fb kb Z root sa s sc n hn d i hd hi lE (λx hx j hj=>ihN x (by have:=Zyl hx;omega) (Zew hn hx) 0 j (by omega) hj (λ_=>Nat.zero_le _) (few x (Zew hn hx))) (λh3 bF j hj=>ihK (d+1) j ?_ (by omega) hj (λ_=>bF)) (λh5 j hj=>?_) m hw
    ·unfold ZzA at hK ⊢
     rw[if_pos h3]at hK ⊢
     omega
    ·obtain⟨q1,q2,q3⟩:=Za6 hj
     obtain⟨q4,q5⟩:=Zbd s n.t.subs i hi j q2
     obtain⟨b1,b2,b3⟩:=kU h5
     have:=Zrc (len:=s.length) b1 (b3.imp id λh=>h.2.1) q1 ⟨q4,q5⟩ q3
     refine ihK _ j ?_ ?_ q5 (λh=>by omega)
     ·unfold ZzA at hK ⊢
      rw[if_neg (by omega)]at hK ⊢
      omega
     ·unfold Zbq
      unfold Zhy at q1
      simp only[Bool.or_eq_true,beq_iff_eq,decide_eq_true_eq]at q1
      split <;> omega
  exact Zym _ d i (Nat.lt_succ_self _) hd hi lE
theorem ZiP(fb kb:Nat)(Z:Nat->Prop)(root:Nd)(sa:Option Addr)(s:List Nat)(sc:Nat)(n:Nd)(hn:n∈root.all)(d i:Nat)(hd:d<=1000000000000000)(hi:i<=s.length)(lE:n.t.k=3->d<=n.subs.length):ZlY fb kb Z root sa s sc n d i:=λm hw=>
 ZuZ fb kb Z root sa s sc hw.fin.good _ n (Nat.lt_succ_self _) hn d i hd hi lE (ZsR (ZbB root hw.fin.rep n hn)) m hw
end Go.Proofs.Ytgclajkldphoaaa
set_option linter.unusedVariables false
set_option linter.unusedSimpArgs false
namespace Go.Proofs.Ytgclajkldphoaaa
open Go Go.Eng Go.Rx Go.Proofs Go.RowKit
set_option maxRecDepth 100000
theorem Zx3{P:Program}{g:FuncId}{args:Array Value}{m m0:Mem}{kb:Nat}{R0:RTY}{K:Bool->Mem->Prop}{E:Nat->Prop}(h:CXY P g args m (λb=>b=kb) [] [] R0)(hk:∃es,m.k kb=some es)(hE:E kb)(hf:∀(v:Value)(m':Mem) (css:List (List Value)) (tvs:List Value),R0 v m' css tvs->Shape.fits Shape.bool v=true)
  (k:∀b m',(but m kb).le m'->R0 (.bool b) m' [] []->K b m'):
  ∃(Y:Nat->Prop),∃(R:Value->Mem->List (List Value)->List Value->Prop),CXY P g args m Y [] [] R/\(∀(t:Tok),t∈[]->∀(b:Nat),t.blk=some b->Y b)/\
   (∀(b:Nat),Y b->(∃(t:Tok),t∈[]/\t.blk=some b)\/(Mem.free (but m0 kb) b/\Mem.k (but m0 kb) b=none)/\((∃(o:Nat),∃(v:Value),m b o=some v)\/∃(e:List (Value×Value)),Mem.k m b=some e)/\E b)/\
   (∀(v:Value)(m':Mem) (css:List (List Value)) (tvs:List Value),R v m' css tvs->Shape.fits Shape.bool v=true)/\
   ∀(b:Bool)(m':Mem),Mem.le (Mem.off m Y) m'->(NewM m m' λ(b:Nat)=>Y b\/Mem.free m b)->R (.bool b) m' [] []->K b m':=
 ⟨λb=>b=kb,R0,h,by simp,λb hb=>.inr ⟨by subst hb;exact⟨ZkC,Zms⟩,.inr (by subst hb;exact hk),by subst hb;exact hE⟩,hf,λb m' h1 _ h2=>k b m' h1 h2⟩
theorem Zx4{P:Program}{g:FuncId}{args:Array Value}{m m0:Mem}{kb:Nat}{R0:RTY}{K:Int->Mem->Prop}{E:Nat->Prop}(h:CXY P g args m (λb=>b=kb) [] [] R0)(hk:∃es,m.k kb=some es)(hE:E kb)(hf:∀(v:Value)(m':Mem) (css:List (List Value)) (tvs:List Value),R0 v m' css tvs->Shape.fits (Shape.int .i64) v=true)
  (k:∀b m',(but m kb).le m'->R0 (.int .i64 b) m' [] []->K b m'):
  ∃(Y:Nat->Prop),∃(R:Value->Mem->List (List Value)->List Value->Prop),CXY P g args m Y [] [] R/\(∀(t:Tok),t∈[]->∀(b:Nat),t.blk=some b->Y b)/\
   (∀(b:Nat),Y b->(∃(t:Tok),t∈[]/\t.blk=some b)\/(Mem.free (but m0 kb) b/\Mem.k (but m0 kb) b=none)/\((∃(o:Nat),∃(v:Value),m b o=some v)\/∃(e:List (Value×Value)),Mem.k m b=some e)/\E b)/\
   (∀(v:Value)(m':Mem) (css:List (List Value)) (tvs:List Value),R v m' css tvs->Shape.fits (Shape.int .i64) v=true)/\
   ∀(b:Int)(m':Mem),Mem.le (Mem.off m Y) m'->(NewM m m' λ(b:Nat)=>Y b\/Mem.free m b)->R (.int .i64 b) m' [] []->K b m':=
 ⟨λb=>b=kb,R0,h,by simp,λb hb=>.inr ⟨by subst hb;exact⟨ZkC,Zms⟩,.inr (by subst hb;exact hk),by subst hb;exact hE⟩,hf,λb m' h1 _ h2=>k b m' h1 h2⟩
theorem Zqt(fb kb:Nat)(Z:Nat->Prop)(root:Nd)(sa:Option Addr)(s:List Nat)(sc:Nat)(n:Nd)(hn:n∈root.all)(d j to:Nat)(hd:d<=1000000000000000)(hj:j<=s.length)(lE:n.t.k=3->d<=n.subs.length)(m:Mem)(hw:Wk m fb kb Z root sa s sc)(c0 c1 c2 c3:Nat)
  (g0:but m kb c0 0=some (.pointer (some ⟨fb,0,none⟩))) (g1:but m kb c1 0=some (.pointer (some ⟨n.b,0,none⟩))) (g2:but m kb c2 0=some (.int .i64 (d:Nat))) (g3:but m kb c3 0=some (.int .i64 (to:Nat))):
  CXY Try.prog 94 #[.int .i64 (j:Nat),.pointer (some ⟨c0,0,none⟩),.pointer (some ⟨c1,0,none⟩),.pointer (some ⟨c2,0,none⟩),.pointer (some ⟨c3,0,none⟩)] m (λb=>b=kb) [] [] (λv m' _ _=>v=.bool (decide (to∈n.t.ends s d j))/\HasM m' kb Z root s):=by
 obtain⟨es,eC,_⟩:=hw.has
 apply Zdv
 unfold Zck
 refine⟨_,g0,_,g1,_,g2,_,g3,Zpw (ZiP fb kb Z root sa s sc n hn d j hd hj lE m hw) ⟨es,eC⟩ Za7 ?_⟩
 rintro a nn c m1 bH ⟨a',c',hv,bG,dF⟩
 obtain⟨rfl,rfl,rfl⟩:a=a'/\nn=(n.t.ends s d j).length/\c=c':=by simpa using hv
 refine⟨_,trivial,ZdY _ a c to m1 (bG.mono (Mem.off_le _ _)) ?_,λv m' css h=>by unfold Ret at h;rw[h];rfl,?_⟩
 ·have:=Zb6 (d:=d) (hw.fin.good n hn) hw.fin.len hj;omega
 rintro b m2 bO hR
 exact⟨hR,dF.le bO⟩
theorem ZwZ{α:Type}{p:α->Bool}{l:List α}{j:Nat}{x:α}(h:l[j]?=some x)(fX:∀y∈l.take j,p y=false)(hx:p x=true):l.find? p=some x:=by
 have e:l=l.take (j+1)++l.drop (j+1):=(List.take_append_drop _ _).symm
 rw[Zce h]at e
 rw[e,List.append_assoc,List.find?_append,List.find?_eq_none.2 (λy hy=>by simp[fX y hy])]
 simp[hx]
theorem ZkZ(g:Nat)(fi ca:List Value)(X:List Nat)(p:Nat->Bool)(a:Option Addr)(c:Nat)(m:Mem)(kb:Nat)(hX:X.length<=1000000)(RI:Mem->Prop)(zG:RI m)(hk:∀m',RI m'->∃es,m'.k kb=some es)(bG:rowRd (but m kb) a (nsL X))
  (zH:∀m',(but m kb).le m'->RI m'->∀x∈X,CXY Try.prog g ((fi++[Value.int .i64 (x:Nat)])++ca).toArray m' (λb=>b=kb) [] [] (λv m' _ _=>v=.bool (p x)/\RI m')):
  CXY Try.prog 93 #[.slice a X.length c,.func (.func g) fi.toArray ca.toArray] m (λb=>b=kb) [] [] (λv m' _ _=>((∃(i x:Nat),v=.int .i64 (i:Nat)/\X[i]?=some x/\X.find? p=some x)\/(v=.int .i64 (-1)/\X.find? p=none))/\RI m'):=by
 apply ZbW
 unfold Zbh
 refine⟨λxs css tvs m' q=>∃j:Nat,j<=X.length/\xs=[.int .i64 (j:Nat)]/\(but m kb).le m'/\RI m'/\(∀y∈X.take j,p y=false)/\q=X.length - j,⟨_,0,by omega,rfl,ZhX _ _,zG,by simp,rfl⟩,?_⟩
 rintro y m3 q _ ⟨j,hj,cU,cE,hR,fX,rfl⟩
 obtain rfl:y=j:=by simpa using cU
 refine Zab (λbF=>?_) (λcR=>?_)
 ·have bI:j < X.length:=by have:=of_decide_eq_true bF;omega
  obtain⟨x,hx⟩:∃x,X[j]?=some x:=⟨_,List.getElem?_eq_getElem bI⟩
  have gL:=List.mem_of_getElem? hx
  rcases bG.mono cE with h|⟨b,o,h1,h2⟩
  ·have:X=[]:=by simpa[nsL]using h
   rw[this]at bI;simp at bI
  simp only[Int.toNat_natCast,Nat.mul_one,wr1 (show j<=1000000000000000 by omega)]
  refine⟨b,o,h1,⟨by omega,by omega⟩,.int .i64 (x:Nat),h2 j _ (by rw[nsL,List.getElem?_map,hx];rfl),Zx3 (zH m3 cE hR x gL) (hk m3 hR) trivial (λv m' css tvs h=>by rw[h.1];rfl) ?_⟩
  rintro b2 m4 cB ⟨hb,xK⟩
  obtain rfl:b2=p x:=by simpa using hb
  refine Zab (λhp=>⟨.inl ⟨j,x,rfl,hx,ZwZ hx fX hp⟩,xK⟩) (λhp=>⟨_,?_,j+1,by omega,rfl,mLt (ZeW cE) cB,xK,?_,rfl⟩)
  ·omega
  ·rw[Zce hx]
   intro y hy
   rcases List.mem_append.1 hy with hy|hy
   ·exact fX y hy
   ·obtain rfl:y=x:=by simpa using hy
    exact hp
 ·have:j=X.length:=by have:=of_decide_eq_false cR;omega
  subst this
  rw[List.take_length]at fX
  exact⟨.inr ⟨rfl,List.find?_eq_none.2 λy hy=>by simp[fX y hy]⟩,hR⟩
def Zx5(s:List Nat)(t:T)(d to:Nat)(X:List Nat):Option Nat:=X.find? λj=>decide (to∈t.ends s d j)
def ZyD:Option Nat->Int
 | some x=>(x:Int)
 | none=>-1
theorem Zo6(fb kb:Nat)(Z:Nat->Prop)(root:Nd)(sa:Option Addr)(s:List Nat)(sc:Nat)(n:Nd)(hn:n∈root.all)(d to:Nat)(hd:d<=1000000000000000)(lE:n.t.k=3->d<=n.subs.length)(X:List Nat)(hX:∀j∈X,j<=s.length)(sS:X.length<=1000000)(a:Option Addr)(c:Nat)(m:Mem)(hw:Wk m fb kb Z root sa s sc)(bG:rowRd (m.off Z) a (nsL X)):
  CXY Try.prog 74 #[.pointer (some ⟨fb,0,none⟩),.slice a X.length c,.pointer (some ⟨n.b,0,none⟩),.int .i64 (d:Nat),.int .i64 (to:Nat)] m (λb=>b=kb) [] [] (λv m' _ _=>v=.int .i64 (ZyD (Zx5 s n.t d to X))/\HasM m' kb Z root s):=by
 obtain⟨es,eC,cF⟩:=hw.has
 apply Zem
 unfold ZcP
 intro b0 m1 bH zI zi _ qM b1 m2 bO eT nY _ fW b2 m3 bX eB mP _ hU b3 m4 cB jS rH _ nI
 have l14:=mLt bO (mLt bX cB)
 have l24:=mLt bX cB
 have l04:=mLt bH l14
 have n0:b0≠kb:=λe=>by subst e;rw[eC]at qM;cases qM
 have n1:b1≠kb:=λe=>by subst e;rw[bH.k _ _ eC]at fW;cases fW
 have n2:b2≠kb:=λe=>by subst e;rw[(mLt bH bO).k _ _ eC]at hU;cases hU
 have n3:b3≠kb:=λe=>by subst e;rw[(mLt bH (mLt bO bX)).k _ _ eC]at nI;cases nI
 have t6:=hw.le l04
 have cell:∀{b:Nat} {v:Value},b≠kb->m4.reads b 0 [v]->but m4 kb b 0=some v:=λh1 h2=>by rw[Zmr h1];exact h2 0 _ rfl
 have g0:=cell n0 (zI.mono l14)
 have g1:=cell n1 (eT.mono l24)
 have g2:=cell n2 (eB.mono cB)
 have g3:=cell n3 jS
 have cI:rowRd (but m4 kb) a (nsL X):=(bG.mono (ZfP l04)).mono (Zon hw.z.1)
 refine Zx4 (ZkZ 94 [] [.pointer (some ⟨b0,0,none⟩),.pointer (some ⟨b1,0,none⟩),.pointer (some ⟨b2,0,none⟩),.pointer (some ⟨b3,0,none⟩)] X (λj=>decide (to∈n.t.ends s d j)) a c m4 kb sS (λm'=>HasM m' kb Z root s) t6.has (λm' ⟨es,h,_⟩=>⟨es,h⟩) cI ?_) ⟨es,l04.k _ _ eC⟩ ⟨n3,n2,n1,n0,trivial⟩ ?_ ?_
 ·intro m5 c7 hh x hx
  have rJ:=ZeW c7
  exact Zqt fb kb Z root sa s sc n hn d x to hd (hX x hx) lE m5 (t6.next c7 hh) b0 b1 b2 b3 (rJ.c _ _ _ g0) (rJ.c _ _ _ g1) (rJ.c _ _ _ g2) (rJ.c _ _ _ g3)
 ·rintro v m' css tvs ⟨⟨i,x,h,_⟩|⟨h,_⟩,_⟩ <;> (rw[h];rfl)
 rintro z m5 c7 ⟨h,hh⟩
 rcases h with⟨i,x,h,hx,jD⟩|⟨h,jD⟩
 ·obtain rfl:z=i:=by simpa using h
  refine Zis (by simp) ?_
  have bF:=(List.getElem?_eq_some_iff.1 hx).1
  rcases cI.mono c7 with h|⟨b,o,h1,h2⟩
  ·have:X=[]:=by simpa[nsL]using h
   rw[this]at bF;simp at bF
  refine⟨b,o,h1,⟨by omega,by omega⟩,.int .i64 (x:Nat),by simp only[Int.toNat_natCast,Nat.mul_one];exact h2 i _ (by rw[nsL,List.getElem?_map,hx];rfl),?_,hh⟩
  unfold Zx5;rw[jD];rfl
 ·obtain rfl:z=-1:=by simpa using h
  refine Zje (by decide) ⟨?_,hh⟩
  unfold Zx5;rw[jD];rfl
end Go.Proofs.Ytgclajkldphoaaa
set_option linter.unusedVariables false
set_option linter.unusedSimpArgs false
namespace Go.Proofs.Ytgclajkldphoaaa
open Go Go.Eng Go.Rx Go.Proofs Go.RowKit
set_option maxRecDepth 100000
theorem Zpx{P:Program}{g:FuncId}{args:Array Value}{m m0:Mem}{Y Y0:Nat->Prop}{R0:RTY}{sh:Shape}{E:Nat->Prop}{Kf:(Nat->Prop)->RTY->Prop}(h:CXY P g args m Y [] [] R0)(hY:∀b,Y b->Y0 b/\((∃(o:Nat),∃(v:Value),m b o=some v)\/∃(e:List (Value×Value)),Mem.k m b=some e)/\E b)(hf:∀(v:Value)(m':Mem) (css:List (List Value)) (tvs:List Value),R0 v m' css tvs->Shape.fits sh v=true)(k:Kf Y R0):
  ∃(Y:Nat->Prop),∃(R:Value->Mem->List (List Value)->List Value->Prop),CXY P g args m Y [] [] R/\(∀(t:Tok),t∈[]->∀(b:Nat),t.blk=some b->Y b)/\
   (∀(b:Nat),Y b->(∃(t:Tok),t∈[]/\t.blk=some b)\/(Mem.free (m0.off Y0) b/\Mem.k (m0.off Y0) b=none)/\((∃(o:Nat),∃(v:Value),m b o=some v)\/∃(e:List (Value×Value)),Mem.k m b=some e)/\E b)/\
   (∀(v:Value)(m':Mem) (css:List (List Value)) (tvs:List Value),R v m' css tvs->Shape.fits sh v=true)/\Kf Y R:=
 ⟨Y,R0,h,by simp,λb hb=>.inr ⟨⟨Mem.off_free (hY b hb).1,Mem.off_kn (hY b hb).1⟩,(hY b hb).2⟩,hf,k⟩
structure St (fb kb:Nat)(root:Nd)(sa:Option Addr)(s:List Nat)(sc:Nat)(pa:Option Addr)(pc np:Nat)(m:Mem)(P:PL):Prop where
 wk:Wk m fb kb (Zp kb pa) root sa s sc
 pt:PtAt m pa P
 len:P.length=np
 parts:(m.off (Zp kb pa)) fb 2=some (.slice pa np pc)
 nk:∀b,pa=some ⟨b,0,none⟩->b≠kb
theorem St.step{fb kb:Nat}{root:Nd}{sa:Option Addr}{s:List Nat}{sc:Nat}{pa:Option Addr}{pc np:Nat}{m m':Mem}{P:PL}(h:St fb kb root sa s sc pa pc np m P)(hm:(but m kb).le m')(hh:HasM m' kb (Zp kb pa) root s):St fb kb root sa s sc pa pc np m' P:=
 ⟨h.wk.next hm hh,(h.pt.but h.nk).mono hm,h.len,(Ztt h.wk.z.1 hm).c _ _ _ h.parts,h.nk⟩
theorem St.le{fb kb:Nat}{root:Nd}{sa:Option Addr}{s:List Nat}{sc:Nat}{pa:Option Addr}{pc np:Nat}{m m':Mem}{P:PL}(h:St fb kb root sa s sc pa pc np m P)(hm:m.le m'):St fb kb root sa s sc pa pc np m' P:=
 h.step (mLt (ZhX _ _) hm) (h.wk.has.le hm)
theorem Zu0{m':Mem}{kb:Nat}{pa:Option Addr}{P':PL}(hp:PtAt m' pa P'):ZOk m' kb (Zp kb pa):=⟨.inl rfl,λb hb=>by
 rcases hb with hb|hb
 ·exact .inl hb
 rcases hp with⟨_,h⟩|⟨b',h1,h2,h3⟩
 ·rw[h]at hb;cases hb
 ·rw[h1]at hb;cases hb
  cases P' with
  | nil=>exact absurd rfl h3
  | cons p l=>exact .inr ⟨_,(h2 0 p rfl).1⟩⟩
theorem St.walk{fb kb:Nat}{root:Nd}{sa:Option Addr}{s:List Nat}{sc:Nat}{pa:Option Addr}{pc np:Nat}{m m':Mem}{P P':PL}(h:St fb kb root sa s sc pa pc np m P)(hm:(m.off (Zp kb pa)).le m')(hh:HasM m' kb (Zp kb pa) root s)(hp:PtAt m' pa P')(hl:P'.length=P.length):St fb kb root sa s sc pa pc np m' P':=
 ⟨⟨h.wk.fin.mono (Zoo hm),hh,Zu0 hp⟩,hp,hl.trans h.len,(Zoo hm).c _ _ _ h.parts,h.nk⟩
theorem St.upd{fb kb:Nat}{root:Nd}{sa:Option Addr}{s:List Nat}{sc:Nat}{pa:Option Addr}{pc np:Nat}{m:Mem}{P:PL}(h:St fb kb root sa s sc pa pc np m P){b g:Nat}{x y:Int}(hb:pa=some ⟨b,0,none⟩)(hg:g < P.length):St fb kb root sa s sc pa pc np (m.upd b (0+g*2) [.int .i64 x,.int .i64 y]) (P.set g (x,y)):=by
 have hp:=h.pt.upd hb hg (x:=x) (y:=y)
 have rc:(m.off (Zp kb pa)).le ((m.upd b (0+g*2) [.int .i64 x,.int .i64 y]).off (Zp kb pa)):=Zwl (.inr hb)
 obtain⟨es,h1,h2⟩:=h.wk.has
 exact⟨⟨h.wk.fin.mono rc,⟨es,h1,h2.mono rc⟩,Zu0 hp⟩,hp,by simp[h.len],rc.c _ _ _ h.parts,h.nk⟩
theorem St.zin{fb kb:Nat}{root:Nd}{sa:Option Addr}{s:List Nat}{sc:Nat}{pa:Option Addr}{pc np:Nat}{m:Mem}{P:PL}(h:St fb kb root sa s sc pa pc np m P):∀b,Zp kb pa b->Zp kb pa b/\((∃(o:Nat),∃(v:Value),m b o=some v)\/∃(e:List (Value×Value)),Mem.k m b=some e)/\True:=λb hb=>by
 refine⟨hb,?_,trivial⟩
 rcases h.wk.z.2 b hb with rfl|⟨v,hv⟩
 ·obtain⟨es,h1,_⟩:=h.wk.has
  exact .inr ⟨es,h1⟩
 ·exact .inl ⟨0,v,hv⟩
theorem St.kin{fb kb:Nat}{root:Nd}{sa:Option Addr}{s:List Nat}{sc:Nat}{pa:Option Addr}{pc np:Nat}{m:Mem}{P:PL}(h:St fb kb root sa s sc pa pc np m P):∀b,b=kb->Zp kb pa b/\((∃(o:Nat),∃(v:Value),m b o=some v)\/∃(e:List (Value×Value)),Mem.k m b=some e)/\True:=λb hb=>h.zin b (.inl hb)
def Zyu(kb:Nat)(pa:Option Addr)(root:Nd)(s:List Nat)(Q:PL×Nat):RTY:=λv m' _ _=>v=.int .i64 (Q.2:Nat)/\HasM m' kb (Zp kb pa) root s/\PtAt m' pa Q.1
theorem ZdZ{kb:Nat}{pa:Option Addr}{root:Nd}{s:List Nat}{Q:PL×Nat}:∀(v:Value)(m':Mem) (css:List (List Value)) (tvs:List Value),Zyu kb pa root s Q v m' css tvs->Shape.fits (Shape.int .i64) v=true:=λv _ _ _ ⟨h,_⟩=>by rw[h];rfl
def Zxx(fb kb:Nat)(root:Nd)(sa:Option Addr)(s:List Nat)(sc:Nat)(pa:Option Addr)(pc np:Nat)(x:Nd):Prop:=
 ∀g,x.num g->g+x.t.ngr<=np->∀i to,i<=s.length->to∈x.t.e0 s i->∀m P,St fb kb root sa s sc pa pc np m P->
  CXY Try.prog 46 #[.pointer (some ⟨fb,0,none⟩),.pointer (some ⟨x.b,0,none⟩),.int .i64 (i:Nat),.int .i64 (to:Nat)] m (Zp kb pa) [] [] (Zyu kb pa root s (x.t.wk s g i to P))
theorem ZlZ{Q:Option Nat}{kb:Nat}{Z:Nat->Prop}{root:Nd}{s:List Nat}:∀(v:Value)(m':Mem) (css:List (List Value)) (tvs:List Value),(v=.int .i64 (ZyD Q)/\HasM m' kb Z root s)->Shape.fits (Shape.int .i64) v=true:=λv _ _ _ ⟨h,_⟩=>by rw[h];rfl
theorem ZyX(fb kb:Nat)(root:Nd)(sa:Option Addr)(s:List Nat)(sc:Nat)(pa:Option Addr)(pc np:Nat)(n:Nd)(hn:n∈root.all)(ih:∀x∈n.subs,Zxx fb kb root sa s sc pa pc np x):Zxx fb kb root sa s sc pa pc np n:=by
 intro g oQ lA i to hi mT m P cV
 have hw:=cV.wk
 have hg:=hw.fin.good n hn
 have kU:=ZcD hg
 have cZ:=ZbB root hw.fm.rep n hn
 obtain⟨g0,g1,g5,g6,g8,g9,g10⟩:=Zih cZ
 have bL:=ZsQ cZ
 have gR:=ZsR cZ
 rw[Zwk]at oQ
 obtain⟨vY,dY⟩:=oQ
 rw[Zwh]at lA
 have ends0:∀x∈n.subs,∀j,j<=s.length->ZlY fb kb (Zp kb pa) root sa s sc x 0 j:=λx hx j hj=>ZiP fb kb (Zp kb pa) root sa s sc x (Zew hn hx) 0 j (by omega) hj (λ_=>Nat.zero_le _)
 have oneSub:n.t.k=5\/n.t.k=6->∃x,n.subs=[x]/\n.t.subs=[x.t]:=λh=>by
  obtain⟨x0,gN⟩:∃x,n.t.subs=[x]:=by
   rcases Zhb hg with h'|h'|h'|h'|h'|h' <;> first|omega|exact h'.2.1|exact h'.2
  have hl:=bL
  rw[gN]at hl
  match bV:n.subs,hl with
  | [x],_=>
   have:=Zys cZ (j:=0) (x:=x) (by rw[bV];rfl)
   rw[gN]at this
   simp at this
   exact⟨x,rfl,by rw[gN,this]⟩
 obtain⟨Q,hQ⟩:∃Q,Q=n.t.wk s g i to P:=⟨_,rfl⟩
 rw[<-hQ]
 rw[Zwi]at hQ
 apply ZeO
 unfold Zc6
 refine⟨_,g0,Zaa rfl (Zab (λh6=>?_) (λh6=>Zaa rfl (Zab (λh4=>?_) (λh4=>Zaa rfl (Zab (λh3=>?_) (λh3=>Zaa rfl (Zab (λh5=>?_) (λh5=>?_))))))))⟩
 ·
  have hk:n.t.k=6:=by simpa[RowKit.intOf]using h6
  obtain⟨x,cU,iQ⟩:=oneSub (.inr hk)
  have gL:x∈n.subs:=by rw[cU];simp
  have lB:=vY hk
  rw[if_pos hk,iQ]at hQ
  rw[if_pos hk,iQ]at lA
  rw[if_pos hk,cU]at dY
  have dY:x.num (g+1):=dY.1
  have mT:to∈x.t.e0 s i:=by
   rw[<-Za5]at mT
   unfold T.ends at mT
   rw[if_neg (by omega),if_neg (by omega)]at mT
   have e:n.t.e0 s i=ddp (hd0 s n.t.subs i):=by
    cases hT:n.t with
    | node k s0 s1 s2 s3 mn mx a c l=>
     rw[hT]at hk
     have hk:k=6:=hk
     subst hk
     simp[T.e0,T.subs]
   rw[e,Zds,iQ]at mT
   simpa[hd0]using mT
  have ud:g < P.length:=by rw[cV.len];omega
  obtain⟨pb,rY,cM⟩:∃b,pa=some ⟨b,0,none⟩/\∀q p,P[q]?=some p->m b (q*2)=some (.int .i64 p.1)/\m b (q*2+1)=some (.int .i64 p.2):=by
   rcases cV.pt with⟨h,_⟩|⟨b,h1,h2,_⟩
   ·rw[h]at ud;simp at ud
   ·exact⟨b,h1,h2⟩
  have zJ:=(Mem.off_le _ _).c _ _ _ cV.parts
  have rd:=cV.upd rY ud (x:=(i:Int)) (y:=(to:Int))
  have pS:=ZbB root rd.wk.fm.rep n hn
  obtain⟨_,_,_,_,_,_,g10'⟩:=Zih pS
  obtain⟨b0,o,ha,hp⟩:=ZkX pS (j:=0) (x:=x) (by rw[cU];rfl)
  refine⟨_,zJ,_,g9,Zaa rfl (Zaa rfl ⟨pb,0,rY,⟨by simp[RowKit.intOf],?_⟩,?_,Mem.off_free (.inr rY),rfl,?_⟩)⟩
  ·simp only[RowKit.intOf,slN,lB];have:=cV.len;omega
  ·obtain⟨p,fS⟩:∃p,P[g]?=some p:=⟨_,List.getElem?_eq_getElem ud⟩
   refine⟨[.int .i64 p.1,.int .i64 p.2],rfl,?_⟩
   obtain⟨h1,h2⟩:=cM g p fS
   simp only[RowKit.intOf,Int.toNat_natCast,lB,Nat.zero_add]
   intro j v hj
   have bF:j < 2:=(List.getElem?_eq_some_iff.1 hj).1
   have:j=0\/j=1:=by omega
   rcases this with rfl|rfl <;> (cases hj;assumption)
  ·simp only[RowKit.intOf,Int.toNat_natCast,lB]
   refine⟨_,g10',Zaa rfl ⟨b0,o,ha,⟨by omega,by simp[slN,cU]⟩,_,hp,Zpx (ih x gL (g+1) dY (by rw[Zep,Zep]at lA;omega) i to hi mT _ _ rd) rd.zin ZdZ ?_⟩⟩
   rintro z m3 bX _ ⟨_,hh,gM⟩
   refine⟨by rw[hQ];rfl,hh,?_⟩
   rw[hQ];exact gM
 ·
  have hk:n.t.k=4:=by simpa[RowKit.intOf]using h4
  rw[if_neg (by omega),if_pos hk]at hQ
  rw[if_neg (by omega),Nat.zero_add]at lA
  rw[if_neg (by omega),Nat.add_zero]at dY
  refine⟨_,g10,Zaa rfl ⟨λxs css tvs m' q=>∃(j gj:Nat),j<=n.subs.length/\xs=[.int .i64 (j:Nat)]/\St fb kb root sa s sc pa pc np m' P/\Q=(Zm7 s (n.t.subs.drop j) gj i to P,0)/\Zwj (n.subs.drop j) gj/\gj+Zep (n.t.subs.drop j)<=np/\q=n.subs.length - j,⟨_,0,g,by omega,rfl,cV,hQ,dY,lA,rfl⟩,?_⟩⟩
  rintro y m3 q _ ⟨j,gj,hj,cU,dS,fC,mU,sZ,rfl⟩
  obtain rfl:y=j:=by simpa using cU
  refine Zab (λbF=>?_) (λcR=>?_)
  ·have bI:j < n.subs.length:=by have:=of_decide_eq_true bF;simp only[slN]at this;omega
   obtain⟨x,hx⟩:∃x,n.subs[j]?=some x:=⟨_,List.getElem?_eq_getElem bI⟩
   have gL:=List.mem_of_getElem? hx
   have fF:x.t.right=true:=hw.fin.good x (Zew hn gL)
   have iQ:=Zys cZ hx
   rw[ZhW iQ]at fC sZ
   obtain⟨nO,mV⟩:=Zri mU hx
   rw[Zep]at sZ
   have gG:=ZbB root dS.wk.fm.rep n hn
   obtain⟨b0,o,ha,hp⟩:=ZkX gG hx
   simp only[Int.toNat_natCast,Nat.mul_one,wr1 (show j<=1000000000000000 by omega)]
   refine Zaa rfl ⟨b0,o,ha,⟨by omega,by simp only[slN];omega⟩,_,hp,Zpx (ends0 x gL i hi m3 dS.wk) dS.kin Za7 ?_⟩
   rintro a nn c m4 cB _ ⟨a',c',hv,bG,dF⟩
   obtain⟨rfl,rfl,rfl⟩:a=a'/\nn=(x.t.ends s 0 i).length/\c=c':=by simpa using hv
   have eI:=dS.step cB dF
   refine⟨_,trivial,ZdY _ a c to m4 (bG.mono (Mem.off_le _ _)) (by have:=Zb6 (d:=0) fF hw.fin.len hi;omega),λv m' css h=>by unfold Ret at h;rw[h];rfl,?_⟩
   rintro b m5 c7 hR
   obtain rfl:b=decide (to∈x.t.ends s 0 i):=by simpa[Ret]using hR
   have gI:=eI.le c7
   rw[Za5]
   simp only[Zm7]at fC
   refine Zab (λfK=>?_) (λfK=>⟨_,?_,j+1,gj+x.t.ngr,by omega,rfl,gI,?_,mV,by omega,rfl⟩)
   ·have s4:=of_decide_eq_true fK
    rw[if_pos s4]at fC
    refine Zpx (ih x gL gj nO (by omega) i to hi s4 m5 P gI) gI.zin ZdZ ?_
    rintro z m6 eP _ ⟨_,hh,gM⟩
    refine⟨by rw[fC];rfl,hh,?_⟩
    rw[fC];exact gM
   ·omega
   ·rw[if_neg (of_decide_eq_false fK)]at fC
    exact fC
  ·have:j=n.subs.length:=by have:=of_decide_eq_false cR;simp only[slN]at this;omega
   subst this
   rw[List.drop_eq_nil_of_le (by omega)]at fC
   simp only[Zm7]at fC
   refine⟨by rw[fC];rfl,dS.wk.has,?_⟩
   rw[fC];exact dS.pt
 ·
  have hk:n.t.k=3:=by simpa[RowKit.intOf]using h3
  rw[if_neg (by omega),if_neg (by omega),if_pos hk]at hQ
  rw[if_neg (by omega),Nat.zero_add]at lA
  rw[if_neg (by omega),Nat.add_zero]at dY
  have hE:∀d j,n.t.ends s d j=Zm5 (e0s s (n.t.subs.drop d)) j:=λd j=>by
   unfold T.ends
   rw[if_pos hk,Zrb,List.map_drop]
  rw[<-Za5,hE]at mT
  refine⟨_,g10,Zaa rfl ⟨λxs css tvs m' q=>∃(j gj p:Nat)(P':PL),j<=n.subs.length/\xs=[.int .i64 (p:Nat),.int .i64 (j:Nat)]/\p<=s.length/\St fb kb root sa s sc pa pc np m' P'/\Q=(Zm8 s (n.t.subs.drop j) gj p to P',0)/\to∈Zm5 (e0s s (n.t.subs.drop j)) p/\Zwj (n.subs.drop j) gj/\gj+Zep (n.t.subs.drop j)<=np/\q=n.subs.length - j,⟨_,0,g,i,P,by omega,rfl,hi,cV,hQ,mT,dY,lA,rfl⟩,?_⟩⟩
  rintro p' y m3 q _ ⟨j,gj,p,P',hj,cU,hp',dS,fC,re,mU,sZ,rfl⟩
  simp only[List.cons.injEq,Value.int.injEq,true_and,and_true]at cU
  obtain⟨rfl,rfl⟩:=cU
  refine Zab (λbF=>?_) (λcR=>?_)
  ·have bI:j < n.subs.length:=by have:=of_decide_eq_true bF;simp only[slN]at this;omega
   obtain⟨x,hx⟩:∃x,n.subs[j]?=some x:=⟨_,List.getElem?_eq_getElem bI⟩
   have gL:=List.mem_of_getElem? hx
   have fF:x.t.right=true:=hw.fin.good x (Zew hn gL)
   have iQ:=Zys cZ hx
   rw[ZhW iQ]at fC sZ re
   obtain⟨nO,mV⟩:=Zri mU hx
   rw[Zep]at sZ
   rw[e0s,Zrh]at re
   simp only[Zm8]at fC
   have gG:=ZbB root dS.wk.fm.rep n hn
   obtain⟨b0,o,ha,hp⟩:=ZkX gG hx
   simp only[Int.toNat_natCast,Nat.mul_one,wr1 (show j<=1000000000000000 by omega)]
   refine Zaa rfl ⟨b0,o,ha,⟨by omega,by simp only[slN];omega⟩,_,hp,Zpx (ends0 x gL p hp' m3 dS.wk) dS.kin Za7 ?_⟩
   rintro a nn c m4 cB _ ⟨a',c',hv,bG,dF⟩
   obtain⟨rfl,rfl,rfl⟩:a=a'/\nn=(x.t.ends s 0 p).length/\c=c':=by simpa using hv
   have eI:=dS.step cB dF
   refine Zpx (Zo6 fb kb (Zp kb pa) root sa s sc n hn (j+1) to (by omega) (λ_=>by omega) (x.t.ends s 0 p) (λj hj=>(Zg9 s x.t 0 p hp' j hj).2) (by have:=Zb6 (d:=0) fF hw.fin.len hp';omega) a c m4 eI.wk bG) eI.kin ZlZ ?_
   rintro z m5 c7 _ ⟨hz,s5⟩
   have gI:=eI.step c7 s5
   have vZ:Zx5 s n.t (j+1) to (x.t.ends s 0 p)=(x.t.e0 s p).find? (λj'=>decide (to∈Zm5 (e0s s (n.t.subs.drop (j+1))) j')):=by
    unfold Zx5
    rw[Za5]
    simp only[hE]
   rw[vZ]at hz
   cases jR:(x.t.e0 s p).find? (λj'=>decide (to∈Zm5 (e0s s (n.t.subs.drop (j+1))) j'))with
   | none=>
    exfalso
    obtain⟨w,eH,dX⟩:=re
    have:=List.find?_eq_none.1 jR w eH
    simp at this
    exact this dX
   | some w=>
    rw[jR]at hz fC
    obtain rfl:z=(w:Int):=by simpa[ZyD]using hz
    have ue:=List.mem_of_find?_eq_some jR
    have zK:to∈Zm5 (e0s s (n.t.subs.drop (j+1))) w:=by have:=List.find?_some jR;simpa using this
    have uf:=(Zba s x.t p hp' w ue).2
    refine Zpx (ih x gL gj nO (by omega) p w hp' ue m5 P' gI) gI.zin ZdZ ?_
    rintro z m6 eP _ ⟨_,hh,gM⟩
    refine⟨_,?_,j+1,gj+x.t.ngr,w,_,by omega,rfl,uf,gI.walk eP hh gM (Zop _ _ _ _ _ _),fC,zK,mV,by omega,rfl⟩
    omega
  ·have:j=n.subs.length:=by have:=of_decide_eq_false cR;simp only[slN]at this;omega
   subst this
   rw[List.drop_eq_nil_of_le (by omega)]at fC
   simp only[Zm8]at fC
   refine⟨by rw[fC];rfl,dS.wk.has,?_⟩
   rw[fC];exact dS.pt
 ·
  have hk:n.t.k=5:=by simpa[RowKit.intOf]using h5
  obtain⟨x,cU,iQ⟩:=oneSub (.inl hk)
  have gL:x∈n.subs:=by rw[cU];simp
  have fF:x.t.right=true:=hw.fin.good x (Zew hn gL)
  obtain⟨k1,k2,k3⟩:=kU hk
  rw[if_neg (by omega),if_neg (by omega),if_neg (by omega),if_pos hk]at hQ
  rw[if_neg (by omega),Nat.zero_add,iQ,Zep,Zep]at lA
  rw[if_neg (by omega),Nat.add_zero,cU]at dY
  have dY:x.num g:=dY.1
  have hE:∀d j,n.t.ends s d j=ZkA (hd0 s n.t.subs) n.t.mn n.t.mx (mR s.length n.t.mn n.t.mx d j+1) d j:=λd j=>by
   unfold T.ends
   rw[if_neg (by omega),if_pos hk]
  have dT:mR s.length n.t.mn n.t.mx 0 i<=1000:=by
   have:=hw.fin.len
   unfold mR
   split
   ·omega
   ·rcases k3 with h|⟨_,_,h⟩ <;> omega
  refine⟨λxs css tvs m' q=>∃(p d r fu:Nat)(P':PL),xs=[.int .i64 (p:Nat),.int .i64 (d:Nat),.int .i64 (r:Nat)]/\p<=s.length/\d<=1000/\r+mR s.length n.t.mn n.t.mx d p<=1000/\mR s.length n.t.mn n.t.mx d p < fu/\St fb kb root sa s sc pa pc np m' P'/\Q=Zm6 (hdW s n.t.subs g) (hd0 s n.t.subs) s.length n.t.mn n.t.mx to fu d p P' r/\q=mR s.length n.t.mn n.t.mx d p,⟨_,i,0,0,_,P,rfl,hi,by omega,by omega,Nat.lt_succ_self _,cV,hQ,rfl⟩,?_⟩
  rintro p' d' r' m3 q _ ⟨p,d,r,fu,P',s6,hp',hd,hr,mE,dS,fC,rfl⟩
  simp only[List.cons.injEq,Value.int.injEq,true_and,and_true]at s6
  obtain⟨rfl,rfl,rfl⟩:=s6
  have gG:=ZbB root dS.wk.fm.rep n hn
  refine⟨_,trivial,Zni n d m3 gG kU hk (by omega),λv m' css h=>by unfold Ret at h;rw[h];rfl,?_⟩
  rintro n1 b1 m4 cB nQ
  simp only[Ret,Value.tuple.injEq,Array.mk.injEq,List.cons.injEq,Value.int.injEq,Value.bool.injEq,true_and,and_true]at nQ
  obtain⟨rfl,rfl⟩:=nQ
  have eI:=dS.le cB
  obtain⟨X,hX⟩:∃X,X=ZcK (hd0 s n.t.subs) n.t.mn n.t.mx d p:=⟨_,rfl⟩
  have dK:=Zo4 fb kb (Zp kb pa) root sa s sc n hn hk d p (by omega) hp' (λx hx=>ends0 x hx p hp') m4 eI.wk
  rw[<-hX]at dK
  have sS:X.length<=513:=by
   rw[hX]
   unfold ZcK
   split
   ·have h1:=List.length_filter_le (λj=>decide (p < j)||decide ((d:Int) < n.t.mn)) (hd0 s n.t.subs p)
    have h2:(hd0 s n.t.subs p).length<=513:=by
     rw[iQ]
     simp only[hd0]
     rw[<-Za5]
     exact Zb6 fF hw.fin.len hp'
    omega
   ·simp
  have nO:Zbq n.t.mn n.t.mx d<=1001:=by unfold Zbq;split <;> omega
  have uc:∀z∈X,Zhy n.t.mx d=true/\z∈x.t.e0 s p/\(p < z\/(d:Int) < n.t.mn):=λz hz=>by
   rw[hX]at hz
   obtain⟨q1,q2,q3⟩:=Za6 hz
   refine⟨q1,?_,q3⟩
   rw[iQ]at q2;exact q2
  refine Zpx dK eI.kin Za7 ?_
  rintro a nn c m5 c7 _ ⟨a',c',hv,bG,dF⟩
  obtain⟨rfl,rfl,rfl⟩:a=a'/\nn=X.length/\c=c':=by simpa using hv
  have gI:=eI.step c7 dF
  refine Zpx (Zo6 fb kb (Zp kb pa) root sa s sc n hn (Zbq n.t.mn n.t.mx d) to (by omega) (λh=>by omega) X (λj hj=>(Zba s x.t p hp' j (uc j hj).2.1).2) (by omega) a c m5 gI.wk bG) gI.kin ZlZ ?_
  rintro z m6 eP _ ⟨hz,pT⟩
  have mW:=gI.step eP pT
  obtain⟨f',rfl⟩:∃f',fu=f'+1:=⟨fu - 1,by omega⟩
  have vZ:Zx5 s n.t (Zbq n.t.mn n.t.mx d) to X=X.find? (λj=>decide (to∈ZkA (hd0 s n.t.subs) n.t.mn n.t.mx (mR s.length n.t.mn n.t.mx (Zbq n.t.mn n.t.mx d) j+1) (Zbq n.t.mn n.t.mx d) j)):=by
   unfold Zx5
   simp only[hE]
  rw[vZ]at hz
  unfold Zm6 at fC
  rw[<-hX]at fC
  cases jR:X.find? (λj=>decide (to∈ZkA (hd0 s n.t.subs) n.t.mn n.t.mx (mR s.length n.t.mn n.t.mx (Zbq n.t.mn n.t.mx d) j+1) (Zbq n.t.mn n.t.mx d) j))with
  | none=>
   rw[jR]at hz fC
   obtain rfl:z=-1:=by simpa[ZyD]using hz
   refine Zje (by decide) ⟨by rw[fC],pT,?_⟩
   rw[fC];exact mW.pt
  | some w=>
   rw[jR]at hz fC
   obtain rfl:z=(w:Int):=by simpa[ZyD]using hz
   have ue:=List.mem_of_find?_eq_some jR
   obtain⟨w1,w2,w3⟩:=uc w ue
   have uf:=Zba s x.t p hp' w w2
   have bF:=Zrc (len:=s.length) k1 (k3.imp id λh=>h.2.1) w1 uf w3
   have pU:=ZbB root mW.wk.fm.rep n hn
   obtain⟨_,_,_,_,_,_,g10'⟩:=Zih pU
   obtain⟨b0,o,ha,hp⟩:=ZkX pU (j:=0) (x:=x) (by rw[cU];rfl)
   refine Zis (by simp) ⟨_,g10',Zaa rfl ⟨b0,o,ha,⟨by omega,by simp[slN,cU]⟩,_,hp,Zpx (ih x gL g dY (by omega) p w hp' w2 m6 P' mW) mW.zin ZdZ ?_⟩⟩
   rintro z m7 mM _ ⟨_,hh,gM⟩
   simp only[wr1 (show r<=1000000000000000 by omega)]
   refine⟨_,bF,w,Zbq n.t.mn n.t.mx d,r+1,f',_,rfl,uf.2,?_,by omega,by omega,mW.walk mM hh gM (Zop _ _ _ _ _ _),?_,rfl⟩
   ·unfold Zbq
    unfold Zhy at w1
    simp only[Bool.or_eq_true,beq_iff_eq,decide_eq_true_eq]at w1
    split <;> omega
   ·rw[fC,iQ]
    simp only[hdW]
 ·simp[RowKit.intOf]at h3 h4 h5 h6
  rw[if_neg h6,if_neg h4,if_neg h3,if_neg h5]at hQ
  refine⟨by rw[hQ];rfl,cV.wk.has,?_⟩
  rw[hQ];exact cV.pt
theorem ZrE(fb kb:Nat)(root:Nd)(sa:Option Addr)(s:List Nat)(sc:Nat)(pa:Option Addr)(pc np:Nat):∀(N:Nat)(n:Nd),SizeOf.sizeOf n < N->n∈root.all->Zxx fb kb root sa s sc pa pc np n:=by
 intro N
 induction N with
 | zero=>intro n h;omega
 | succ N ihN=>exact λn hN hn=>ZyX fb kb root sa s sc pa pc np n hn λx hx=>ihN x (by have:=Zyl hx;omega) (Zew hn hx)
end Go.Proofs.Ytgclajkldphoaaa
set_option linter.unusedVariables false
set_option linter.unusedSimpArgs false
namespace Go.Proofs.Ytgclajkldphoaaa
open Go Go.Eng Go.Rx Go.Proofs Go.RowKit
set_option maxRecDepth 100000
theorem Zo7(m:Mem):CX Try.prog 21 #[] m [] (λv _ _=>v=.agg #[.int .i64 (-1),.int .i64 (-1)]):=by
 apply ZmH
 unfold Zid
 intro b
 exact⟨m,Mem.le_refl _,Mem.le_refl _,rfl⟩
def noP:Int×Int:=(-1,-1)
def kE(t:T):Nat:=if t.k=6 then 1 else 0
def ZzH(kb:Nat)(es:List (Value×Value))(k0:Nat)(t:T)(pa:Option Addr)(P:PL)(f0 f3:Value)(m:Mem):RTY:=λv m' css tvs=>∃(n:Nd)(pa':Option Addr)(pc':Nat),v=.pointer (some ⟨n.b,0,none⟩)/\n.t=t/\NRep (m'.off (Zp kb pa')) n/\n.num P.length/\n.idn k0/\
 css=[[f0,.int .i64 ((k0+t.nodes.length:Nat):Int),.slice pa' (P.length+t.ngr) pc',f3]]/\tvs=[.slice pa' (P.length+t.ngr) pc']/\PtAt m' pa' (P++List.replicate t.ngr noP)/\NewP m pa pa'/\m'.k kb=some es
def ZzB(fb kb:Nat)(es:List (Value×Value))(t:T):Prop:=∀(k0:Nat)(pa:Option Addr)(pc:Nat)(P:PL)(f0 f3:Value)(m:Mem),Rep (m.off (Zp kb pa)) t->m.k kb=some es->(∀b,pa=some ⟨b,0,none⟩->b≠kb)->PtAt m pa P->k0+t.nodes.length<=1000000->P.length+t.ngr<=1000000->
 CXY Try.prog 69 #[.pointer (some ⟨fb,0,none⟩),t.v] m (λb=>pa=some ⟨b,0,none⟩) [⟨fb,[f0,.int .i64 (k0:Nat),.slice pa P.length pc,f3],92,4,false,true⟩] [⟨.slice pa P.length pc,2⟩] (ZzH kb es k0 t pa P f0 f3 m)
theorem ZsV{m M m4:Mem}{pa a4:Option Addr}{P:PL}{n c:Nat}{x y:Int}(h:PtAt m pa P)(hm:m.le m4)(bG:rowRd m4 a4 ((P.flatMap λp=>[.int .i64 p.1,.int .i64 p.2])++[.int .i64 x,.int .i64 y]))(hf:TokFact M pa a4 n c):PtAt m4 a4 (P++[(x,y)]):=by
 rcases bG with bG|⟨b,o,ha,cS⟩
 ·simp at bG
 obtain⟨_,hf⟩:=hf
 rcases hf with hf|⟨b',o',ha',hf⟩
 ·rw[ha]at hf;cases hf
 rw[ha]at ha';cases ha'
 have ho:o=0:=by
  rcases hf with hf|⟨ho,_⟩
  ·have hf:pa=some ⟨b,o,none⟩:=hf.trans ha
   rcases h with⟨_,h⟩|⟨b2,h1,_⟩
   ·rw[h]at hf;cases hf
   ·rw[h1]at hf;cases hf;rfl
  ·exact ho
 subst ho
 have e:(P.flatMap λp=>[Value.int .i64 p.1,.int .i64 p.2])++[.int .i64 x,.int .i64 y]=(P++[(x,y)]).flatMap λp=>[Value.int .i64 p.1,.int .i64 p.2]:=by simp
 rw[e]at cS
 have at2:∀(P:PL)(q:Nat)(p:Int×Int),P[q]?=some p->(P.flatMap λp=>[Value.int .i64 p.1,.int .i64 p.2])[q*2]?=some (.int .i64 p.1)/\(P.flatMap λp=>[Value.int .i64 p.1,.int .i64 p.2])[q*2+1]?=some (.int .i64 p.2):=λP=>by
  induction P with
  | nil=>intro q p hq;simp at hq
  | cons p0 P ih=>
   intro q p hq
   cases q with
   | zero=>simp at hq;subst hq;exact⟨rfl,rfl⟩
   | succ q=>
    have:=ih q p (by simpa using hq)
    rw[show(q+1)*2=q*2+2 by omega]
    exact this
 refine .inr ⟨b,ha,λq p hq=>?_,by simp⟩
 obtain⟨h1,h2⟩:=at2 _ q p hq
 have:=cS _ _ h1
 have h3:=cS _ _ h2
 rw[Nat.zero_add]at this h3
 exact⟨this,h3⟩
theorem Znj{m:Mem}{pa:Option Addr}{P:PL}(h:PtAt m pa P):rowRd m pa (P.flatMap λp=>[.int .i64 p.1,.int .i64 p.2]):=by
 rcases h with⟨h,_⟩|⟨b,h1,h2,h3⟩
 ·subst h;exact .inl rfl
 ·refine .inr ⟨b,0,h1,?_⟩
  have key:∀(P:PL)(o:Nat),(∀q p,P[q]?=some p->m b (o+q*2)=some (.int .i64 p.1)/\m b (o+(q*2+1))=some (.int .i64 p.2))->m.reads b o (P.flatMap λp=>[.int .i64 p.1,.int .i64 p.2]):=λP=>by
   induction P with
   | nil=>intro o _ j v hj;simp at hj
   | cons p0 P ih=>
    intro o hp j v hj
    match j,hj with
    | 0,hj=>cases hj;exact(hp 0 p0 rfl).1
    | 1,hj=>cases hj;exact(hp 0 p0 rfl).2
    | j+2,hj=>
     have:=ih (o+2) (λq p hq=>by
      have:=hp (q+1) p (by simpa using hq)
      rwa [show o+(q+1)*2=o+2+q*2 by omega,show o+((q+1)*2+1)=o+2+(q*2+1) by omega]at this) j v hj
     rwa [show o+(j+2)=o+2+j by omega]
  exact key P 0 λq p hq=>by rw[Nat.zero_add,Nat.zero_add];exact h2 q p hq
theorem Zu1{M m4:Mem}{pa a4:Option Addr}{n c:Nat}(hf:TokFact M pa a4 n c):NewP M pa a4:=λb hb=>by
 obtain⟨_,hf⟩:=hf
 rcases hf with hf|⟨b',o',ha',hf⟩
 ·rw[hb]at hf;cases hf
 rw[hb]at ha';cases ha'
 rcases hf with hf|⟨_,h1,h2⟩
 ·exact .inl hf
 ·exact .inr ⟨h1,h2⟩
theorem ZzN(fb kb:Nat)(es:List (Value×Value))(t:T)(ih:∀x∈t.subs,ZzB fb kb es x):ZzB fb kb es t:=by
 intro k0 pa pc P f0 f3 m cZ eC kU gM qM hP
 have bV:=(Zdq cZ)
 have mX:t.nodes.length=(Zak t.subs).length+1:=by rw[Zbc];rfl
 have oR:t.ngr=kE t+Zep t.subs:=Zwh t
 unfold T.v
 apply ZdG
 unfold ZcC
 intro b m1 bH hb kP _ hC
 have rh:=gM.mono bH
 have iK:=bH.k _ _ eC
 have fB:IntKind.i64.wrap ((k0:Int)+1)=((k0+1:Nat):Int):=wr1 (by omega)
 have s7:=Znj rh
 have s8:∀P:PL,(P.flatMap λp=>[Value.int .i64 p.1,.int .i64 p.2]).length=P.length*2:=λP=>by
  induction P with
  | nil=>rfl
  | cons p P ih=>simp only[List.flatMap_cons,List.length_append,List.length_cons,List.length_nil,ih];omega
 have rel0:∀{M:Mem} {pa1:Option Addr},m.le M->NewP m pa pa1->(m.off (Zp kb pa)).le (M.off (Zp kb pa1)):=λhM hN=>Ztw (mLt (Mem.off_le _ _) hM) hN
 refine⟨rfl,λnb=>⟨rfl,rfl,by omega,λxs css tvs M=>∃(pa1:Option Addr)(pc1:Nat),css=[[.int .u8 t.k,.int .u64 t.s0,.int .u64 t.s1,.int .u64 t.s2,.int .u64 t.s3,.int .i64 t.mn,.int .i64 t.mx,.slice t.a t.subs.length t.c,.int .i64 (k0:Nat),.int .i64 ((if t.k=6 then P.length else 0:Nat):Int),.slice none 0 0],[f0,.int .i64 ((k0+1:Nat):Int),.slice pa1 (P.length+kE t) pc1,f3]]/\tvs=[.slice pa1 (P.length+kE t) pc1]/\PtAt M pa1 (P++List.replicate (kE t) noP)/\NewP m pa pa1/\m.le M,?_,?_⟩⟩
 ·refine Zab (λh6=>⟨rfl,?_⟩) (λh6=>⟨rfl,rfl,pa,pc,?_,?_,?_,.same,bH⟩)
  ·have oS:t.k=6:=by simpa using h6
   have oT:kE t=1:=by unfold kE;rw[if_pos oS]
   refine⟨λ_ _ _=>λv _ _=>v=.agg #[.int .i64 (-1),.int .i64 (-1)],rfl,_,rfl,Zo7 m1,λv m' css h=>by rw[h];rfl,?_⟩
   rintro n1 n2 m2 bO hv b2 eB
   obtain⟨rfl,rfl⟩:n1=-1/\n2=-1:=by simpa using hv
   have iI:m1.le (m2.add b2 [.int .i64 (-1),.int .i64 (-1)]):=mLt bO (Mem.le_add eB _)
   refine⟨.inl rfl,(P.flatMap λp=>[.int .i64 p.1,.int .i64 p.2]),[.int .i64 (-1),.int .i64 (-1)],s8 P,rfl,s7.mono iI,.inr ⟨b2,0,rfl,λj v hj=>by rw[Nat.zero_add,Mem.add_same];exact hj⟩,?_,by omega,by omega,λa4 c4 m4 cB cI hf=>⟨rfl,by omega,λM _ _ _ hM=>⟨rfl,rfl,a4,c4,?_,?_,?_,?_,?_⟩⟩⟩
   ·intro u hu
    have:u=.int .i64 (-1):=by simpa using hu
    rw[this];rfl
   ·rw[fB,if_pos oS,oT]
   ·rw[oT]
   ·rw[oT]
    exact(ZsV rh (mLt iI cB) cI hf).mono hM
   ·intro b' hb'
    rcases Zu1 (m4:=m4) hf b' hb' with h|⟨h1,h2⟩
    ·exact .inl h
    ·have hl:=mLt bH iI
     refine .inr ⟨Zo0 hl h1,?_⟩
     cases he:m.k b' with
     | none=>rfl
     | some e=>rw[hl.k _ _ he]at h2;cases h2
   ·exact mLt bH (mLt iI (mLt cB hM))
  ·have oS:t.k≠6:=by simpa using h6
   have oT:kE t=0:=by unfold kE;rw[if_neg oS]
   rw[fB,if_neg oS,oT];rfl
  ·have oS:t.k≠6:=by simpa using h6
   have oT:kE t=0:=by unfold kE;rw[if_neg oS]
   rw[oT];rfl
  ·have oS:t.k≠6:=by simpa using h6
   have oT:kE t=0:=by unfold kE;rw[if_neg oS]
   rw[oT];simpa using rh
 rintro cs aw a n c m2 _ ⟨pa1,pc1,mY,oU,v4,pV,bO⟩
 simp only[List.cons.injEq,and_true]at mY oU
 obtain⟨rfl,rfl⟩:=mY
 obtain⟨rfl,rfl,rfl⟩:a=pa1/\n=P.length+kE t/\c=pc1:=by simpa using oU
 refine⟨λxs css tvs M q=>∃(j:Nat)(L:List Nd)(sa2:Option Addr)(sc2:Nat)(pa':Option Addr)(pc':Nat),j<=t.subs.length/\xs=[.int .i64 (j:Nat)]/\
  css=[[.int .u8 t.k,.int .u64 t.s0,.int .u64 t.s1,.int .u64 t.s2,.int .u64 t.s3,.int .i64 t.mn,.int .i64 t.mx,.slice t.a t.subs.length t.c,.int .i64 (k0:Nat),.int .i64 ((if t.k=6 then P.length else 0:Nat):Int),.slice sa2 j sc2],[f0,.int .i64 ((k0+1+(Zak (t.subs.take j)).length:Nat):Int),.slice pa' (P.length+kE t+Zep (t.subs.take j)) pc',f3]]/\
  tvs=[.slice sa2 j sc2,.slice pa' (P.length+kE t+Zep (t.subs.take j)) pc']/\L.map Nd.t=t.subs.take j/\SubsAt M (Zp kb pa') sa2 L/\(∀x∈L,NRep (M.off (Zp kb pa')) x)/\Zwj L (P.length+kE t)/\Zxt L (k0+1)/\PtAt M pa' (P++List.replicate (kE t+Zep (t.subs.take j)) noP)/\NewP m pa pa'/\(m.off (Zp kb pa)).le (M.off (Zp kb pa'))/\M.k kb=some es/\q=t.subs.length - j,
  ⟨_,0,[],none,0,a,c,by omega,rfl,rfl,rfl,rfl,.inl ⟨rfl,rfl⟩,by simp,trivial,trivial,v4,pV,rel0 bO pV,bO.k _ _ eC,rfl⟩,?_⟩
 rintro y cs cs2 a3 n3 c3 a4 n4 c4 m3 q _ ⟨j,L,sa2,sc2,pa',pc',hj,cU,mY,oU,rK,s9,pW,xL,gO,kD,mZ,kR,dW,rfl⟩
 obtain rfl:y=j:=by simpa using cU
 simp only[List.cons.injEq,and_true]at mY
 obtain⟨rfl,rfl⟩:=mY
 obtain⟨⟨rfl,zL,rfl⟩,rfl,rfl,rfl⟩:(a3=sa2/\n3=j/\c3=sc2)/\a4=pa'/\n4=P.length+kE t+Zep (t.subs.take j)/\c4=pc':=by simpa using oU
 obtain rfl:=zL.symm
 have xM:L.length=j:=by have:=congrArg List.length rK;simp at this;omega
 have pN:Zep (t.subs.take j)<=Zep t.subs:=Ztu
 have rT:(Zak (t.subs.take j)).length<=(Zak t.subs).length:=Zoq
 have zM:Rep (m3.off (Zp kb a4)) t:=Rep.mono kR t cZ
 have td:=Zdq zM
 refine Zab (λbF=>?_) (λcR=>?_)
 ·have bI:j < t.subs.length:=by have:=of_decide_eq_true bF;omega
  obtain⟨x,hx⟩:∃x,t.subs[j]?=some x:=⟨_,List.getElem?_eq_getElem bI⟩
  have gL:=List.mem_of_getElem? hx
  have v5:Zep (t.subs.take (j+1))<=Zep t.subs:=Ztu
  have v6:(Zak (t.subs.take (j+1))).length<=(Zak t.subs).length:=Zoq
  rw[ZhY hx]at v5
  rw[Zg3 hx,List.length_append]at v6
  have xF:j<=(Zak t.subs).length:=by
   have:∀l:List T,l.length<=(Zak l).length:=λl=>by
    induction l with
    | nil=>simp
    | cons x l ih=>
     simp only[Zak,List.length_append,List.length_cons]
     have:1<=x.nodes.length:=by rw[Zbc];simp
     omega
   have:=this t.subs
   omega
  rcases td.2 with h|⟨b0,o,ha,gZ⟩
  ·rw[h]at bI;simp at bI
  obtain⟨cS,fF⟩:=gZ.get hx
  refine⟨b0,o,ha,⟨by omega,by omega⟩,.int .u8 x.k,.int .u64 x.s0,.int .u64 x.s1,.int .u64 x.s2,.int .u64 x.s3,.int .i64 x.mn,.int .i64 x.mx,.slice x.a x.subs.length x.c,by rw[Int.toNat_natCast];exact cS.mono (Mem.off_le _ _),λa1=>Zaa rfl (Zau rfl ⟨λb=>a4=some ⟨b,0,none⟩,ZzH kb es (k0+1+(Zak (t.subs.take j)).length) x a4 (P++List.replicate (kE t+Zep (t.subs.take j)) noP) f0 f3 m3,?_,?_,?_,?_,?_⟩)⟩
  ·have:=ih x gL (k0+1+(Zak (t.subs.take j)).length) a4 c4 (P++List.replicate (kE t+Zep (t.subs.take j)) noP) f0 f3 m3 fF dW ?_ kD (by omega) (by simp;omega)
   ·unfold T.v at this
    rw[show(P++List.replicate (kE t+Zep (t.subs.take j)) noP).length=P.length+kE t+Zep (t.subs.take j) by simp;omega]at this
    exact this
   ·intro b hb e
    subst e
    rcases mZ b hb with h|⟨_,h⟩
    ·exact kU b (h.trans hb) rfl
    ·rw[eC]at h;cases h
  ·intro tk dK b' hb'
   obtain rfl:tk=_:=by simpa using dK
   rcases kD with⟨_,h⟩|⟨b2,h,_⟩
   ·rw[h]at hb';simp[Tok.blk]at hb'
   ·rw[h]at hb'
    have:b2=b':=by simpa[Tok.blk]using hb'
    rw[h,this]
  ·intro b' hb'
   refine .inl ⟨_,List.mem_singleton.2 rfl,?_⟩
   rw[hb'];rfl
  ·rintro v m' css tvs ⟨n,_,_,h,_⟩;rw[h];rfl
  rintro pb po m4 cB _ cs3 a5 n5 c5 ⟨n,pa2,pc2,hv,oA,qA,ug,r8,te,tf,tg,pX,ti⟩ b5 rJ
  rw[show(P++List.replicate (kE t+Zep (t.subs.take j)) noP).length=P.length+kE t+Zep (t.subs.take j) by simp;omega]at ug te tf
  obtain⟨rfl,rfl⟩:pb=n.b/\po=0:=by simpa using hv
  obtain rfl:cs3=_:=by simpa using te
  obtain⟨rfl,rfl,rfl⟩:a5=pa2/\n5=P.length+kE t+Zep (t.subs.take j)+x.ngr/\c5=pc2:=by simpa using tf
  have ri:(m3.off (Zp kb a4)).le (m4.off (Zp kb a5)):=Ztw cB pX
  have nA:m4.le (m4.add b5 [.pointer (some ⟨n.b,0,none⟩)]):=Mem.le_add rJ _
  have pY:=s9.next ri
  refine Zaa rfl ⟨.inl rfl,L.map (λx:Nd=>ptr x.b 0),[.pointer (some ⟨n.b,0,none⟩)],by simp[slN,xM],rfl,pY.row.mono nA,.inr ⟨b5,0,rfl,λq v hq=>by rw[Nat.zero_add,Mem.add_same];exact hq⟩,?_,by simp only[slN];omega,by simp only[slN];omega,λa6 c6 m5 c7 bG hf=>Zaa rfl ⟨rfl,rfl,_,?_,j+1,L++[n],a6,c6,a5,c5,by omega,?_,?_,?_,?_,?_,?_,?_,?_,?_,?_,?_,?_,rfl⟩⟩
  ·intro u hu
   have:u=.pointer (some ⟨n.b,0,none⟩):=by simpa using hu
   rw[this];rfl
  ·omega
  ·rw[wr1 (by omega)]
  ·rw[ZhY hx,Zg3 hx,List.length_append,<-Nat.add_assoc (P.length+kE t),<-Nat.add_assoc (k0+1)]
   rfl
  ·rw[ZhY hx,<-Nat.add_assoc (P.length+kE t)]
   rfl
  ·rw[List.map_append,rK,Zce hx,<-oA];rfl
  ·
   have bG:rowRd m5 a6 ((L.map λx=>ptr x.b 0)++[ptr n.b 0]):=bG
   rcases bG with bG|⟨b6,o6,uh,v7⟩
   ·simp at bG
   obtain⟨_,hf⟩:=hf
   rcases hf with hf|⟨b',o',ha',hf⟩
   ·rw[uh]at hf;cases hf
   rw[uh]at ha';cases ha'
   have key:o6=0/\¬Zp kb a5 b6:=by
    rcases hf with hf|⟨ho,nY,mP⟩
    ·have hf:a3=some ⟨b6,o6,none⟩:=hf.trans uh
     rcases pY with⟨_,h⟩|⟨b2,h1,h2,_⟩
     ·rw[h]at hf;cases hf
     ·rw[h1]at hf;cases hf;exact⟨rfl,h2⟩
    ·obtain⟨g1,g2⟩:=Zig (by simp) nY
     refine⟨ho,λhz=>?_⟩
     rcases hz with rfl|hz
     ·have mP:m4.k b6=none:=mP
      rw[ti]at mP;cases mP
     ·rcases tg with⟨_,h⟩|⟨b2,h,hc,cN⟩
      ·rw[h]at hz;cases hz
      ·rw[h]at hz;cases hz
       generalize (P++List.replicate (kE t+Zep (t.subs.take j)) noP++List.replicate x.ngr noP)=PP at hc cN
       cases PP with
       | nil=>exact cN rfl
       | cons p l=>
        have:=(hc 0 p rfl).1
        rw[g2 _]at this;cases this
   obtain⟨rfl,zN⟩:=key
   exact .inr ⟨b6,uh,zN,λq v hq=>v7 q v (by simpa using hq),by simp⟩
  ·intro y hy
   have xN:(m4.off (Zp kb a5)).le (m5.off (Zp kb a5)):=ZfP (mLt nA c7)
   rcases List.mem_append.1 hy with hy|hy
   ·exact NRep.mono (mLt ri xN) _ (pW y hy)
   ·obtain rfl:y=n:=by simpa using hy
    exact NRep.mono xN _ qA
  ·refine Zrj xL ?_
   rw[rK];exact ug
  ·refine Zrk gO ?_
   rw[rK];exact r8
  ·rw[ZhY hx,<-Nat.add_assoc]
   have:=tg.mono (mLt nA c7)
   rwa [List.append_assoc,List.replicate_append_replicate]at this
  ·exact mZ.trans pX kR ⟨es,dW⟩
  ·exact mLt kR (mLt ri (ZfP (mLt nA c7)))
  ·exact(mLt nA c7).k _ _ ti
 ·have:j=t.subs.length:=by have:=of_decide_eq_false cR;omega
  subst this
  rw[List.take_length]at kD rK pN rT ⊢
  refine⟨rfl,λbQ nV=>?_⟩
  have oV:=Mem.le_add bQ [.int .u8 t.k,.int .u64 t.s0,.int .u64 t.s1,.int .u64 t.s2,.int .u64 t.s3,.int .i64 t.mn,.int .i64 t.mx,.slice t.a t.subs.length t.c,.int .i64 (k0:Nat),.int .i64 ((if t.k=6 then P.length else 0:Nat):Int),.slice a3 t.subs.length c3]
  have uK:¬Zp kb a4 nb:=λhz=>by
   rcases hz with rfl|hz
   ·rw[dW]at nV;cases nV
   ·rcases kD with⟨_,h⟩|⟨b2,h,hc,cN⟩
    ·rw[h]at hz;cases hz
    ·rw[h]at hz;cases hz
     generalize (P++List.replicate (kE t+Zep t.subs) noP)=PP at hc cN
     cases PP with
     | nil=>exact cN rfl
     | cons p l=>
      have:=(hc 0 p rfl).1
      rw[bQ _]at this;cases this
  have tj:=ZfP oV (Z:=Zp kb a4)
  have tn:=s9.next tj
  have BK:(if t.k=6 then P.length else 0)<=P.length:=by split <;> omega
  refine⟨.mk nb k0 (if t.k=6 then P.length else 0) t a3 c3 L,a4,c4,rfl,rfl,?_,?_,?_,?_,?_,?_,mZ,oV.k _ _ dW⟩
  ·rw[Zdt]
   refine⟨λq v hq=>?_,⟨Rep.mono (mLt kR tj) t cZ,rK⟩,⟨?_,?_⟩,tn.rep λx hx=>NRep.mono tj _ (pW x hx)⟩
   ·show Mem.off (Mem.add m3 nb _) (Zp kb a4) nb (0+q)=some v
    rw[Mem.off_at uK]
    rw[Nat.zero_add,Mem.add_same]
    have e:(Nd.mk nb k0 (if t.k=6 then P.length else 0) t a3 c3 L).cs=[.int .u8 t.k,.int .u64 t.s0,.int .u64 t.s1,.int .u64 t.s2,.int .u64 t.s3,.int .i64 t.mn,.int .i64 t.mx,.slice t.a t.subs.length t.c,.int .i64 (k0:Nat),.int .i64 ((if t.k=6 then P.length else 0:Nat):Int),.slice a3 t.subs.length c3]:=by
     show t.cs++[_,_,.slice a3 L.length c3]=_
     rw[xM];rfl
    rw[<-e]
    exact hq
   ·show k0 < _;omega
   ·show(if t.k=6 then P.length else 0) < _;omega
  ·rw[Zwk]
   exact⟨λh=>by have h:t.k=6:=h;show(if t.k=6 then P.length else 0)=_;rw[if_pos h],xL⟩
  ·rw[ZxS];exact⟨rfl,gO⟩
  ·rw[mX,oR,<-Nat.add_assoc P.length,show k0+((Zak t.subs).length+1)=k0+1+(Zak t.subs).length by omega]
  ·rw[oR,<-Nat.add_assoc P.length]
  ·rw[oR];exact kD.mono oV
theorem Zqu(fb kb:Nat)(es:List (Value×Value)):∀(N:Nat)(t:T),SizeOf.sizeOf t < N->ZzB fb kb es t:=by
 intro N
 induction N with
 | zero=>intro t h;omega
 | succ N ihN=>
  intro t hN
  refine ZzN fb kb es t λx hx=>ihN x ?_
  cases t with
  | node k s0 s1 s2 s3 mn mx a c l=>
   have h':x∈l:=hx
   have:=List.sizeOf_lt_of_mem h'
   simp only[T.node.sizeOf_spec]at hN
   omega
end Go.Proofs.Ytgclajkldphoaaa
