/- Part of the proof: conditions and contracts of functions of this program. No condition of its own. -/
import Derived.Test.YtgclajkldphoaaaPC14B
import Derived.Test.YtgclajkldphoaaaPVSB
import Derived.Test.YtgclajkldphoaaaMr
set_option linter.unusedVariables false
set_option linter.unusedSimpArgs false
namespace Go.Proofs.Ytgclajkldphoaaa
open Go Go.Eng Go.Rx Go.Proofs Go.RowKit
set_option maxRecDepth 100000
theorem ZrQ(fb nb:Nat)(d i:Int)(m:Mem):CX Try.prog 72 #[.pointer (some ⟨fb,0,none⟩),.pointer (some ⟨nb,0,none⟩),.int .i64 d,.int .i64 i] m [] (λv m' _=>∃c0 c1 c2 c3,v=.func (.func 91) #[] #[.pointer (some ⟨c0,0,none⟩),.pointer (some ⟨c1,0,none⟩),.pointer (some ⟨c2,0,none⟩),.pointer (some ⟨c3,0,none⟩)]/\
  (m'.reads c0 0 [.pointer (some ⟨nb,0,none⟩)]/\m'.reads c1 0 [.int .i64 i]/\m'.reads c2 0 [.pointer (some ⟨fb,0,none⟩)]/\m'.reads c3 0 [.int .i64 d])/\(m.k c0=none/\m.k c1=none/\m.k c2=none/\m.k c3=none)):=by
 apply ZdR
 unfold Zcp
 intro b m1 aT hb _ _ hk b1 m2 bB dY _ _ fC b2 m3 cE dV _ _ gY b3 m4 cF jA _ _ mH
 have none_le:∀{a c:Mem} {x:Nat},a.le c->c.k x=none->a.k x=none:=λ{a c x} h e=>by
  cases he:a.k x with
  | none=>rfl
  | some u=>rw[h.k _ _ he]at e;cases e
 have wB:=mLt aT bB
 have uZ:=mLt wB cE
 exact⟨m4,mLt uZ cF,Mem.le_refl _,b1,b3,b,b2,rfl,⟨dY.mono (mLt cE cF),jA,hb.mono (mLt bB (mLt cE cF)),dV.mono cF⟩,none_le aT fC,none_le uZ mH,hk,none_le wB gY⟩
theorem Zjt{M:Mem}{b kb:Nat}{LL:List (List Nat)}{q x:Nat}(hq:LL[q]?=some [x])(hk:∃es,M.k kb=some es):Zsg LL kb q [.slice (some ⟨b,0,none⟩) 1 1] (M.add b [.int .i64 (x:Nat)]):=
 ⟨⟨[x],some ⟨b,0,none⟩,1,hq,rfl,.inr ⟨b,0,rfl,λj v hj=>by rw[Nat.zero_add,Mem.add_same];exact hj⟩⟩,hk⟩
theorem ZgX{m2:Mem}{kb:Nat}{Z:Nat->Prop}{root:Nd}{s X:List Nat}{LL:List (List Nat)}{q:Nat}{a:Option Addr}{nn c:Nat}(hq:LL[q]?=some X)(h:Ztv kb Z root s X (.slice a nn c) m2 [] []):Zsg LL kb q [.slice a nn c] m2:=by
 obtain⟨a',c',hv,aL,es,dM,_⟩:=h
 obtain⟨rfl,rfl,rfl⟩:a=a'/\nn=X.length/\c=c':=by simpa using hv
 exact⟨⟨X,a,c,hq,rfl,aL.mono (Mem.off_le _ _)⟩,es,dM⟩
structure Cap (B:Mem)(fb:Nat)(n:Nd)(d i c0 c1 c2 c3:Nat):Prop where
 c0:B c0 0=some (.pointer (some ⟨n.b,0,none⟩))
 c1:B c1 0=some (.int .i64 (i:Nat))
 c2:B c2 0=some (.pointer (some ⟨fb,0,none⟩))
 c3:B c3 0=some (.int .i64 (d:Nat))
theorem Cap.mono{B B':Mem}{fb:Nat}{n:Nd}{d i c0 c1 c2 c3:Nat}(h:Cap B fb n d i c0 c1 c2 c3)(hB:B.le B'):Cap B' fb n d i c0 c1 c2 c3:=⟨hB.c _ _ _ h.c0,hB.c _ _ _ h.c1,hB.c _ _ _ h.c2,hB.c _ _ _ h.c3⟩
theorem wr1{j:Nat}(h:j<=1000000000000000):IntKind.i64.wrap ((j:Int)+1)=((j+1:Nat):Int):=by rw[Zbg (by omega) (by omega)];rfl
theorem Zqe(fb kb:Nat)(Z:Nat->Prop)(root:Nd)(sa:Option Addr)(s:List Nat)(sc:Nat)(n:Nd)(hn:n∈root.all)(d i:Nat)(hd:d<=1000000000000000)(hi:i<=s.length)(kK:n.t.k=3->d<=n.subs.length)
  (ihs:∀x∈n.subs,∀j,j<=s.length->Zkk fb kb Z root sa s sc x 0 j) (ih3:n.t.k=3->d < n.subs.length->∀j,j<=s.length->Zkk fb kb Z root sa s sc n (d+1) j)
  (ih5:n.t.k=5->∀j∈ZdN (hd0 s n.t.subs) n.t.mn n.t.mx d i,Zkk fb kb Z root sa s sc n (Zc3 n.t.mn n.t.mx d) j) (m:Mem) (hw:Wk m fb kb Z root sa s sc) (c0 c1 c2 c3:Nat) (hc:Cap (but m kb) fb n d i c0 c1 c2 c3):
  IXY Try.prog 91 [] [.pointer (some ⟨c0,0,none⟩),.pointer (some ⟨c1,0,none⟩),.pointer (some ⟨c2,0,none⟩),.pointer (some ⟨c3,0,none⟩)] m (λb=>b=kb) (n.t.lists s d i).length (Zsg (n.t.lists s d i) kb) (λm'=>HasM m' kb Z root s):=by
 have hg:=hw.fin.good n hn
 have kB:=Zdn hg
 have iO:=Zbr root hw.fb.rep n hn
 have cR:=NRep.mono (ZgG m kb) _ iO
 have iZ:=hc.mono (ZgG m kb)
 obtain⟨g0,g1,g5,g6,g8,g9,g10⟩:=ZgW cR
 obtain⟨_,_,_,_,_,_,g10B⟩:=ZgW iO
 have aW:=Zqc cR
 have gU:=Zqd cR
 obtain⟨es,dM,bO⟩:=hw.has
 have one:∀{b:Nat},m.free b->(n.t.lists s d i)=[[i]]->∃LL,True:=λ_ _=>⟨(),trivial⟩
 have oneSub:n.t.k=5\/n.t.k=6->∃x,n.subs=[x]/\n.t.subs=[x.t]:=λh=>by
  obtain⟨x0,jM⟩:∃x,n.t.subs=[x]:=by
   rcases Zkh hg with h'|h'|h'|h'|h'|h' <;> first|omega|exact h'.2.1|exact h'.2
  have hl:=aW
  rw[jM]at hl
  match bP:n.subs,hl with
  | [x],_=>
   have:=ZuQ cR (j:=0) (x:=x) (by rw[bP];rfl)
   rw[jM]at this
   exact⟨x,rfl,by rw[jM];simpa using this⟩
 apply Zc0 0 [] []
 unfold ZbZ
 intro l
 refine⟨_,iZ.c0,Zaa rfl (Zaa rfl ⟨_,g0,Zaa rfl (Zab (λh1=>?_) (λh1=>Zaa rfl (Zab (λh2=>?_) (λh2=>Zaa rfl (Zab (λh6=>?_) (λh6=>Zaa rfl (Zab (λh4=>?_) (λh4=>Zaa rfl (Zab (λh3=>?_) (λh3=>Zaa rfl (Zab (λh5=>?_) (λh5=>?_))))))))))))⟩)⟩
 ·
  have hk:n.t.k=1:=by simpa[RowKit.intOf]using h1
  have eY:n.t.lists s d i=[[i]]:=by unfold T.lists;rw[if_pos hk]
  rw[eY]
  exact⟨_,iZ.c1,Zaa rfl λb hb=>⟨⟨by trivial,0,rfl,by simp,Zjt rfl ⟨es,dM⟩⟩,rfl,HasM.le hw.has (Mem.le_add hb _)⟩⟩
 ·
  have hk:n.t.k=2:=by simpa[RowKit.intOf]using h2
  have eY:n.t.lists s d i=(match s[i]? with
   | some c=>if n.t.hasB c=true then[[i+1]]else[]
   | none=>[]):=by unfold T.lists;rw[if_neg (by omega),if_pos hk];cases s[i]? <;> rfl
  have hs:=hw.fm.str
  have eX:=hw.fm.byt
  have wC:=hw.fin.len
  refine⟨λ_ _ _=>Ret (.bool (n.t.hasB ((s[i]?).getD 0))),_,iZ.c1,_,iZ.c2,Zaa rfl (Zaa rfl ⟨_,hs,Zaa rfl (Zaa rfl (Zab (λaM=>?_) (λcQ=>?_)))⟩)⟩
  ·have aQ:i < s.length:=by have:=of_decide_eq_true aM;simpa[RowKit.intOf,slN]using this
   obtain⟨c,cO⟩:∃c,s[i]?=some c:=⟨_,List.getElem?_eq_getElem aQ⟩
   obtain⟨⟨b,o,ym,s6⟩,oR⟩:=eX.get cO
   rw[cO]at eY
   simp only at eY
   refine⟨_,iZ.c0,Zaa rfl (Zaa rfl ⟨_,_,_,_,g1,_,iZ.c2,Zaa rfl (Zaa rfl ⟨_,hs,_,iZ.c1,Zaa rfl (Zaa rfl ⟨b,o,ym,⟨by simp[RowKit.intOf],by simp[RowKit.intOf,slN];omega⟩,.int .u8 (c:Nat),?_,_,rfl,?_,?_,?_⟩)⟩)⟩)⟩
   ·simp only[RowKit.intOf,Int.toNat_natCast,Nat.mul_one];exact s6
   ·rw[cO];exact Ztl n.t c oR m (ZcX.1 cR).2.1.1
   ·intro v m' css h;unfold Ret at h;rw[h];rfl
   ·intro bb m' hm' hR M hM _
    have hR:bb=n.t.hasB c:=by rw[cO]at hR;simpa[Ret]using hR
    refine Zab (λhq=>⟨_,hM.c _ _ _ iZ.c1,Zaa rfl λb2 dV=>?_⟩) (λhq=>?_)
    ·rw[if_pos (by rw[<-hR];exact hq)]at eY
     rw[eY]
     simp only[RowKit.intOf,wr1 (show i<=1000000000000000 by omega)]
     exact⟨⟨by trivial,0,rfl,by simp,Zjt rfl ⟨es,hM.k _ _ dM⟩⟩,rfl,HasM.le (HasM.le hw.has hM) (Mem.le_add dV _)⟩
    ·rw[if_neg (by rw[<-hR,hq];simp)]at eY
     rw[eY]
     exact⟨rfl,HasM.le hw.has hM⟩
  ·have u0:s.length<=i:=by have:=of_decide_eq_false cQ;simpa[RowKit.intOf,slN]using this
   have cO:s[i]?=none:=List.getElem?_eq_none_iff.2 u0
   rw[cO]at eY
   rw[eY]
   exact λM hM _=>⟨rfl,HasM.le hw.has hM⟩
 ·
  have hk:n.t.k=6:=by simpa[RowKit.intOf]using h6
  obtain⟨x,cI,hO⟩:=oneSub (.inr hk)
  have hx:n.subs[0]?=some x:=by rw[cI];rfl
  have eY:n.t.lists s d i=[x.t.ends s 0 i]:=by unfold T.lists;rw[if_neg (by omega),if_neg (by omega),if_pos hk,hO,ZaY];simp[hd0]
  obtain⟨b0,o,ha,hp⟩:=Zjs iO hx
  rw[eY]
  refine⟨_,hc.c2,_,hc.c0,Zaa rfl (Zaa rfl ⟨_,g10B,Zaa rfl ⟨b0,o,ha,⟨by omega,by simp[slN,cI]⟩,_,hp,_,hc.c1,Znj (ihs x (by rw[cI];simp) i hi m hw) ⟨es,dM⟩ ZaZ ?_⟩⟩)⟩
  intro a nn c m2 bB hR
  exact⟨⟨by trivial,0,rfl,by simp,ZgX rfl hR⟩,rfl,by obtain⟨_,_,_,_,h⟩:=hR;exact h⟩
 ·
  have hk:n.t.k=4:=by simpa[RowKit.intOf]using h4
  have eY:n.t.lists s d i=n.subs.map λx=>x.t.ends s 0 i:=by
   unfold T.lists
   rw[if_neg (by omega),if_neg (by omega),if_neg (by omega),if_pos hk,<-(ZcX.1 cR).2.1.2,List.map_map]
   refine List.map_congr_left λx _=>?_
   simp[ZaY]
  rw[eY,List.length_map]
  refine⟨_,iZ.c0,Zaa rfl (Zaa rfl ⟨_,g10,Zaa rfl ⟨λxs css tvs m' q=>∃j:Nat,j<=n.subs.length/\xs=[.int .i64 (j:Nat),.int .i64 (j:Nat)]/\(but m kb).le m'/\HasM m' kb Z root s/\q=n.subs.length - j,⟨_,0,by omega,rfl,ZgG _ _,hw.has,rfl⟩,?_⟩⟩)⟩
  rintro y ag m1 ak _ ⟨j,hj,cI,kG,oU,rfl⟩
  simp only[List.cons.injEq,Value.int.injEq,true_and,and_true]at cI
  obtain⟨rfl,rfl⟩:=cI
  have dX:=hw.next kG oU
  have mM:=hc.mono kG
  obtain⟨es1,gT,_⟩:=oU
  refine Zab (λaM=>?_) (λcQ=>?_)
  ·have aQ:j < n.subs.length:=by have:=of_decide_eq_true aM;simp[slN]at this;omega
   obtain⟨x,hx⟩:∃x,n.subs[j]?=some x:=⟨_,List.getElem?_eq_getElem aQ⟩
   obtain⟨b0,o,ha,hp⟩:=Zjs (NRep.mono kG _ iO) hx
   simp only[Int.toNat_natCast,Nat.mul_one,wr1 (show j<=1000000000000000 by omega)]
   refine Zaa rfl ⟨b0,o,ha,⟨by omega,by simp[slN];omega⟩,_,hp,_,mM.c2,_,mM.c1,Znj (ihs x (List.mem_of_getElem? hx) i hi m1 dX) ⟨es1,gT⟩ ZaZ ?_⟩
   intro a nn c m2 bB hR
   refine⟨⟨by trivial,j,rfl,aQ,ZgX (by rw[List.getElem?_map,hx];rfl) hR⟩,_,?_,j+1,by omega,rfl,mLt (ZdW kG) bB,by obtain⟨_,_,_,_,h⟩:=hR;exact h,rfl⟩
   omega
  ·have:j=n.subs.length:=by have:=of_decide_eq_false cQ;simp[slN]at this;omega
   subst this
   exact⟨rfl,es1,gT,by assumption⟩
 ·
  have hk:n.t.k=3:=by simpa[RowKit.intOf]using h3
  have hd':=kK hk
  have eY:n.t.lists s d i=(match n.t.subs[d]? with
   | none=>[[i]]
   | some x=>(x.e0 s i).map λj=>n.t.ends s (d+1) j):=by unfold T.lists;rw[if_neg (by omega),if_neg (by omega),if_neg (by omega),if_neg (by omega),if_pos hk];cases n.t.subs[d]? <;> rfl
  refine⟨_,iZ.c3,_,iZ.c0,Zaa rfl (Zaa rfl ⟨_,g10,Zaa rfl (Zaa rfl (Zab (λhe=>?_) (λcK=>?_)))⟩)⟩
  ·have he':d=n.subs.length:=by simp[RowKit.intOf,slN]at he;omega
   rw[List.getElem?_eq_none_iff.2 (by omega)]at eY
   rw[eY]
   exact⟨_,iZ.c1,Zaa rfl λb hb=>⟨⟨by trivial,0,rfl,by simp,Zjt rfl ⟨es,dM⟩⟩,rfl,HasM.le hw.has (Mem.le_add hb _)⟩⟩
  ·have aM:d < n.subs.length:=by simp[RowKit.intOf,slN]at cK;omega
   obtain⟨x,hx⟩:∃x,n.subs[d]?=some x:=⟨_,List.getElem?_eq_getElem aM⟩
   have fR:=List.mem_of_getElem? hx
   rw[ZuQ cR hx]at eY
   simp only at eY
   rw[<-ZaY]at eY
   have eZ:x.t.right=true:=hw.fin.good x (ZdI hn fR)
   obtain⟨X,hX⟩:∃X,X=x.t.ends s 0 i:=⟨_,rfl⟩
   have ss:X.length<=513:=by rw[hX];exact ZbO eZ hw.fin.len hi
   rw[<-hX]at eY
   rw[eY,List.length_map]
   obtain⟨b0,o,ha,hp⟩:=Zjs iO hx
   refine⟨_,hc.c2,_,hc.c0,Zaa rfl (Zaa rfl ⟨_,g10B,_,hc.c3,Zaa rfl ⟨b0,o,ha,⟨by simp[RowKit.intOf],by simp[RowKit.intOf,slN];omega⟩,_,by simp only[RowKit.intOf,Int.toNat_natCast,Nat.mul_one];exact hp,_,hc.c1,Znj (ihs x fR i hi m hw) ⟨es,dM⟩ ZaZ ?_⟩⟩)⟩
   rintro a nn c m2 bB ⟨a',c',hv,aL,cX⟩
   rw[<-hX]at hv aL
   obtain⟨rfl,rfl,rfl⟩:a=a'/\nn=X.length/\c=c':=by simpa using hv
   have dP:=hw.next bB cX
   have sw:=hc.mono (ZdW bB)
   refine⟨λxs css tvs m' q=>∃j:Nat,j<=X.length/\xs=[.int .i64 (j:Nat),.int .i64 (j:Nat)]/\(but m2 kb).le m'/\HasM m' kb Z root s/\q=X.length - j,⟨_,0,by omega,rfl,ZgG _ _,cX,rfl⟩,?_⟩
   rintro y ak m3 al _ ⟨j,hj,cI,cW,eS,rfl⟩
   simp only[List.cons.injEq,Value.int.injEq,true_and,and_true]at cI
   obtain⟨rfl,rfl⟩:=cI
   have mO:=dP.next cW eS
   have lS:=sw.mono cW
   obtain⟨es3,dI,_⟩:=eS
   refine Zab (λlN=>?_) (λcQ=>?_)
   ·have aQ:j < X.length:=by have:=of_decide_eq_true lN;omega
    obtain⟨z,hz⟩:∃z,X[j]?=some z:=⟨_,List.getElem?_eq_getElem aQ⟩
    have gB:=ZfZ s x.t 0 i hi z (hX ▸ List.mem_of_getElem? hz)
    rcases((aL.mono (Zmo dP.z.1)).mono cW)with h|⟨b,o2,h1,h2⟩
    ·have:X=[]:=by simpa[nsL]using h
     rw[this]at aQ;simp at aQ
    simp only[Int.toNat_natCast,Nat.mul_one,wr1 (show j<=1000000000000000 by omega)]
    refine⟨b,o2,h1,⟨by omega,by omega⟩,.int .i64 (z:Nat),h2 j _ (by rw[nsL,List.getElem?_map,hz];rfl),_,lS.c2,_,lS.c0,_,lS.c3,Zaa rfl ?_⟩
    simp only[RowKit.intOf,wr1 hd]
    refine Znj (ih3 hk aM z gB.2 m3 mO) ⟨es3,dI⟩ ZaZ ?_
    intro a2 n2 c2' m4 cF hR
    refine⟨⟨by trivial,j,rfl,aQ,ZgX (by rw[List.getElem?_map,hz];rfl) hR⟩,_,?_,j+1,by omega,rfl,mLt (ZdW cW) cF,by obtain⟨_,_,_,_,h⟩:=hR;exact h,rfl⟩
    omega
   ·have:j=X.length:=by have:=of_decide_eq_false cQ;omega
    subst this
    exact⟨rfl,es3,dI,by assumption⟩
 ·
  have hk:n.t.k=5:=by simpa[RowKit.intOf]using h5
  obtain⟨x,cI,hO⟩:=oneSub (.inl hk)
  obtain⟨X,hX⟩:∃X,X=ZdN (hd0 s n.t.subs) n.t.mn n.t.mx d i:=⟨_,rfl⟩
  have eY:n.t.lists s d i=(X.map λj=>n.t.ends s (Zc3 n.t.mn n.t.mx d) j)++(if(d:Int) ≥ n.t.mn then[[i]]else[]):=by
   unfold T.lists
   rw[if_neg (by omega),if_neg (by omega),if_neg (by omega),if_neg (by omega),if_neg (by omega),if_pos hk,<-hX]
  have tz:∀z∈X,Zja n.t.mx d=true/\z<=s.length:=λz hz=>by
   rw[hX]at hz
   obtain⟨q1,q2,_⟩:=Zcl hz
   exact⟨q1,(ZbW s n.t.subs i hi z q2).2⟩
  have ss:X.length<=513:=by
   rw[hX]
   unfold ZdN
   split
   ·have h1:=List.length_filter_le (λj=>decide (i < j)||decide ((d:Int) < n.t.mn)) (hd0 s n.t.subs i)
    have h2:(hd0 s n.t.subs i).length<=513:=by
     rw[hO]
     simp only[hd0]
     rw[<-ZaY]
     exact ZbO (hw.fin.good x (ZdI hn (by rw[cI];simp))) hw.fin.len hi
    omega
   ·simp
  refine⟨_,iZ.c0,_,iZ.c3,_,trivial,Zlq n d m cR kB hk hd,λv m' css h=>by unfold Ret at h;rw[h];rfl,?_⟩
  rintro n1 b1 m1 aT oS
  simp only[Ret,Value.tuple.injEq,Array.mk.injEq,List.cons.injEq,Value.int.injEq,Value.bool.injEq,true_and,and_true]at oS
  obtain⟨rfl,rfl⟩:=oS
  have dX:=hw.le aT
  have mM:=hc.mono (Zmm aT)
  have nS:=mM.mono (ZgG _ _)
  obtain⟨es1,gT,_⟩:=dX.has
  have dA:=ZmX fb kb Z root sa s sc n hn hk d i hd hi (λx hx=>ihs x hx i hi) m1 dX
  rw[<-hX]at dA
  refine⟨_,nS.c2,_,nS.c0,_,nS.c3,_,nS.c1,Znj dA ⟨es1,gT⟩ ZaZ ?_⟩
  rintro a nn c m2 bB ⟨a',c',hv,aL,cX⟩
  obtain⟨rfl,rfl,rfl⟩:a=a'/\nn=X.length/\c=c':=by simpa using hv
  have dP:=dX.next bB cX
  have sw:=mM.mono (ZdW bB)
  rw[eY,List.length_append,List.length_map]
  refine⟨λxs css tvs m' q=>∃j:Nat,j<=X.length/\xs=[.int .i64 (j:Nat),.int .i64 (j:Nat)]/\(but m2 kb).le m'/\HasM m' kb Z root s/\q=X.length - j,⟨_,0,by omega,rfl,ZgG _ _,cX,rfl⟩,?_⟩
  rintro y al m3 ap _ ⟨j,hj,lR,cW,eS,rfl⟩
  simp only[List.cons.injEq,Value.int.injEq,true_and,and_true]at lR
  obtain⟨rfl,rfl⟩:=lR
  have mO:=dP.next cW eS
  have lS:=sw.mono cW
  obtain⟨es3,dI,jW⟩:=eS
  refine Zab (λlN=>?_) (λcQ=>?_)
  ·have aQ:j < X.length:=by have:=of_decide_eq_true lN;omega
   obtain⟨z,hz⟩:∃z,X[j]?=some z:=⟨_,List.getElem?_eq_getElem aQ⟩
   have wD:=List.mem_of_getElem? hz
   obtain⟨nF,rb⟩:=tz z wD
   rcases((aL.mono (Zmo dP.z.1)).mono cW)with h|⟨b,o2,h1,h2⟩
   ·have:X=[]:=by simpa[nsL]using h
    rw[this]at aQ;simp at aQ
   simp only[Int.toNat_natCast,Nat.mul_one,wr1 (show j<=1000000000000000 by omega)]
   refine⟨b,o2,h1,⟨by omega,by omega⟩,.int .i64 (z:Nat),h2 j _ (by rw[nsL,List.getElem?_map,hz];rfl),ZhT nF ⟨_,lS.c2,_,lS.c0,Znj (ih5 hk z (hX ▸ wD) m3 mO) ⟨es3,dI⟩ ZaZ ?_⟩⟩
   intro a2 n2 c2' m4 cF hR
   refine⟨⟨by trivial,j,rfl,by omega,ZgX (by rw[List.getElem?_append_left (by simpa using aQ),List.getElem?_map,hz];rfl) hR⟩,_,?_,j+1,by omega,rfl,mLt (ZdW cW) cF,by obtain⟨_,_,_,_,h⟩:=hR;exact h,rfl⟩
   omega
  ·have:j=X.length:=by have:=of_decide_eq_false cQ;omega
   subst this
   obtain⟨_,_,g5',_⟩:=ZgW (Zbr root mO.fm.rep n hn)
   refine⟨_,lS.c3,_,lS.c0,Zaa rfl (Zaa rfl ⟨_,g5',Zaa rfl (Zab (λhq=>⟨_,lS.c1,Zaa rfl λb2 dV=>⟨⟨by trivial,X.length,rfl,?_,Zjt ?_ ⟨es3,dI⟩⟩,?_,HasM.le ⟨es3,dI,jW⟩ (Mem.le_add dV _)⟩⟩) (λhq=>⟨?_,es3,dI,jW⟩))⟩)⟩
   ·have hq':(d:Int) ≥ n.t.mn:=of_decide_eq_true hq
    rw[if_pos hq'];simp
   ·have hq':(d:Int) ≥ n.t.mn:=of_decide_eq_true hq
    rw[if_pos hq',List.getElem?_append_right (by simp)];simp
   ·have hq':(d:Int) ≥ n.t.mn:=of_decide_eq_true hq
    rw[if_pos hq'];simp
   ·have hq':¬(d:Int) ≥ n.t.mn:=of_decide_eq_false hq
    rw[if_neg hq'];simp
 ·exfalso
  simp[RowKit.intOf]at h1 h2 h3 h4 h5 h6
  rcases Zkh hg with h|h|h|h|h|h <;> omega
end Go.Proofs.Ytgclajkldphoaaa
set_option linter.unusedVariables false
set_option linter.unusedSimpArgs false
namespace Go.Proofs.Ytgclajkldphoaaa
open Go Go.Eng Go.Rx Go.Proofs Go.RowKit
set_option maxRecDepth 100000
theorem Ztw(a b c a' b' c':Nat):EqIs Try.prog 132 (plK a b c) (plK a' b' c') (decide (a=a'/\b=b'/\c=c')):=by
 have h:=ZrP a b c a' b' c'
 have e:((a:Int) == a'&&(b:Int) == b'&&(c:Int) == c')=decide (a=a'/\b=b'/\c=c'):=by
  rw[Bool.eq_iff_iff]
  simp only[Bool.and_eq_true,beq_iff_eq,decide_eq_true_eq]
  omega
 rw[e]at h;exact h
theorem ZrR(a b c:Nat):Instr.sameBits 10000 (plK a b c) (plK a b c)=true:=by
 rw[show(10000:Nat)=9998+1+1 from rfl]
 generalize (9998:Nat)=n
 simp[Instr.sameBits,plK]
theorem ZmY{B:Mem}{root:Nd}{s:List Nat}(ids:∀x∈root.all,∀y∈root.all,x.id=y.id->x=y){n:Nd}(hn:n∈root.all)(d i:Nat)(z:Value):∀{es:List (Value×Value)},Memo B root s es->
  ∃r,MapFind Try.prog 132 (plK n.id d i) es r/\∀v,r=some v->∃a c,v=.slice a (n.t.ends s d i).length c/\rowRd B a (nsL (n.t.ends s d i))
 | [],_=>⟨none,rfl,λv h=>by cases h⟩
 | e::es,hm=>by
  obtain⟨n',d',i',a,c,h1,rfl,h3⟩:=hm e (by simp)
  have he:=Ztw n.id d i n'.id d' i'
  by_cases hq:n.id=n'.id/\d=d'/\i=i'
  ·rw[decide_eq_true hq]at he
   obtain⟨q1,rfl,rfl⟩:=hq
   obtain rfl:=ids n hn n' h1 q1
   exact⟨_,.inl ⟨he,rfl⟩,λv h=>by cases h;exact⟨a,c,rfl,h3⟩⟩
  ·rw[decide_eq_false hq]at he
   obtain⟨r,h4,h5⟩:=ZmY ids hn d i z (es:=es) (λe he=>hm e (by simp[he]))
   exact⟨r,.inr ⟨he,h4⟩,h5⟩
theorem Zo6{B:Mem}{root:Nd}{s:List Nat}{n:Nd}(hn:n∈root.all)(d i:Nat){a:Option Addr}{c:Nat}(aL:rowRd B a (nsL (n.t.ends s d i))):∀{es:List (Value×Value)},Memo B root s es->
  ∃es',ZiE Try.prog 132 (plK n.id d i) (.slice a (n.t.ends s d i).length c) es es'/\Memo B root s es'
 | [],_=>⟨_,rfl,λe he=>by
   obtain rfl:e=_:=by simpa using he
   exact⟨n,d,i,a,c,hn,rfl,aL⟩⟩
 | e::es,hm=>by
  obtain⟨n',d',i',a',c',h1,rfl,h3⟩:=hm e (by simp)
  have he:=Ztw n.id d i n'.id d' i'
  by_cases hq:n.id=n'.id/\d=d'/\i=i'
  ·rw[decide_eq_true hq]at he
   obtain⟨q1,rfl,rfl⟩:=hq
   refine⟨_,.inl ⟨he,by rw[<-q1];exact ZrR _ _ _,rfl⟩,λe he=>?_⟩
   rcases List.mem_cons.1 he with rfl|he
   ·exact⟨n,d,i,a,c,hn,rfl,aL⟩
   ·exact hm e (by simp[he])
  ·rw[decide_eq_false hq]at he
   obtain⟨es',h4,h5⟩:=Zo6 hn d i aL (c:=c) (es:=es) (λe he=>hm e (by simp[he]))
   refine⟨_,.inr ⟨he,es',h4,rfl⟩,λe he=>?_⟩
   rcases List.mem_cons.1 he with rfl|he
   ·exact hm _ (by simp)
   ·exact h5 e he
theorem Zqf{s:List Nat}{t:T}{d i:Nat}(h:t.right=true)(bP:∀x∈t.subs,x.right=true)(hs:s.length<=512)(hi:i<=s.length):∀l∈t.lists s d i,l.length<=1000000:=by
 have e0:∀x:T,x.right=true->(x.e0 s i).length<=1000000:=λx hx=>by
  rw[<-ZaY]
  have:=ZbO (d:=0) hx hs hi;omega
 have one:∀{l:List Nat} {x:Nat},l∈[[x]]->l.length<=1000000:=λ{l x} hl=>by
  obtain rfl:l=[x]:=by simpa using hl
  simp
 intro l hl
 unfold T.lists at hl
 split at hl
 ·exact one hl
 ·split at hl
  ·split at hl
   ·split at hl
    ·exact one hl
    ·simp at hl
   ·simp at hl
  ·split at hl
   ·obtain rfl:l=_:=by simpa using hl
    cases eM:t.subs with
    | nil=>simp[hd0]
    | cons x r=>simp only[hd0];exact e0 x (bP x (by rw[eM];simp))
   ·split at hl
    ·obtain⟨x,hx,rfl⟩:=List.mem_map.1 hl
     exact e0 x (bP x hx)
    ·split at hl
     ·split at hl
      ·exact one hl
      ·rename_i x hx
       obtain⟨j,hj,rfl⟩:=List.mem_map.1 hl
       have:=ZbO (d:=d+1) h hs (ZbT s x i hi j hj).2;omega
     ·split at hl
      ·rcases List.mem_append.1 hl with hl|hl
       ·obtain⟨j,hj,rfl⟩:=List.mem_map.1 hl
        obtain⟨_,h2,_⟩:=Zcl hj
        have:=ZbO (d:=Zc3 t.mn t.mx d) h hs (ZbW s t.subs i hi j h2).2;omega
       ·split at hl
        ·exact one hl
        ·simp at hl
      ·simp at hl
theorem Zqg(fb kb:Nat)(Z:Nat->Prop)(root:Nd)(sa:Option Addr)(s:List Nat)(sc:Nat)(n:Nd)(hn:n∈root.all)(d i:Nat)(hd:d<=1000000000000000)(hi:i<=s.length)(kK:n.t.k=3->d<=n.subs.length)
  (ihs:∀x∈n.subs,∀j,j<=s.length->Zkk fb kb Z root sa s sc x 0 j) (ih3:n.t.k=3->d < n.subs.length->∀j,j<=s.length->Zkk fb kb Z root sa s sc n (d+1) j)
  (ih5:n.t.k=5->∀j∈ZdN (hd0 s n.t.subs) n.t.mn n.t.mx d i,Zkk fb kb Z root sa s sc n (Zc3 n.t.mn n.t.mx d) j):Zkk fb kb Z root sa s sc n d i:=by
 intro m hw
 have hg:=hw.fin.good n hn
 have cR:=Zbr root hw.fm.rep n hn
 obtain⟨g0,g1,g5,g6,g8,g9,g10⟩:=ZgW cR
 obtain⟨es,dM,bO⟩:=hw.has
 have sx:∀x∈n.t.subs,x.right=true:=λx hx=>by
  rw[<-(ZcX.1 cR).2.1.2]at hx
  obtain⟨y,hy,rfl⟩:=List.mem_map.1 hx
  exact hw.fin.good y (ZdI hn hy)
 obtain⟨r,cT,fE⟩:=ZmY hw.fin.ids hn d i (.slice none 0 0) bO
 have u2:=Zq4 (d:=d) hg hi
 have gU:=ZbO (d:=d) hg hw.fin.len hi
 apply ZdS
 unfold ZcD
 refine⟨_,g8,(n.id:Nat),rfl,λb9=>⟨_,hw.fm.memo,kb,es,_,_,rfl,dM,ZmV _ _ _,⟨r,cT,rfl,rfl⟩,Zab (λho=>?_) (λho=>⟨_,trivial,ZrQ fb n.b d i m,?_,?_⟩)⟩⟩
 ·obtain⟨v,rfl⟩:=Option.isSome_iff_exists.1 ho
  obtain⟨a,c,hv,aL⟩:=fE v rfl
  exact⟨a,c,hv,aL,hw.has⟩
 ·rintro v m' css ⟨c0,c1,c2,c3,h,_⟩;rw[h];rfl
 rintro g fi ca m1 aT ⟨c0,c1,c2,c3,hv,⟨nJ,mM,sw,lS⟩,qo,fC,gY,mH⟩
 obtain⟨rfl,rfl,rfl⟩:g=91/\fi=[]/\ca=[.pointer (some ⟨c0,0,none⟩),.pointer (some ⟨c1,0,none⟩),.pointer (some ⟨c2,0,none⟩),.pointer (some ⟨c3,0,none⟩)]:=by
  simpa using hv
 have dX:=hw.le aT
 have gT:=aT.k _ _ dM
 refine⟨_,trivial,Ztt _ [] [.pointer (some ⟨c0,0,none⟩),.pointer (some ⟨c1,0,none⟩),.pointer (some ⟨c2,0,none⟩),.pointer (some ⟨c3,0,none⟩)] m1,?_,?_⟩
 ·rintro v m' css ⟨c,h,_⟩;rw[h];rfl
 rintro g fi ca m2 bB ⟨c,hv,qx,pJ⟩
 obtain⟨rfl,rfl,rfl⟩:g=90/\fi=[]/\ca=[.pointer (some ⟨c,0,none⟩)]:=by
  simpa using hv
 have dP:=dX.le bB
 have qH:=bB.k _ _ gT
 have ne:∀{x:Nat},m.k x=none->x≠kb:=λh e=>by subst e;rw[dM]at h;cases h
 have cS:Cap (but m1 kb) fb n d i c0 c1 c2 c3:=by
  have g:∀{x:Nat} {v:Value},m.k x=none->m1.reads x 0 [v]->but m1 kb x 0=some v:=λh hr=>by
   rw[ZkN (ne h)];exact hr 0 _ rfl
  exact⟨g qo nJ,g fC mM,g gY sw,g mH lS⟩
 have qI:∀m3:Mem,m2.le m3->IXY Try.prog 91 [] [.pointer (some ⟨c0,0,none⟩),.pointer (some ⟨c1,0,none⟩),.pointer (some ⟨c2,0,none⟩),.pointer (some ⟨c3,0,none⟩)] m3 (λb=>b=kb) (n.t.lists s d i).length (Zsg (n.t.lists s d i) kb) (λm'=>HasM m' kb Z root s):=λm3 cE=>
  Zqe fb kb Z root sa s sc n hn d i hd hi kK ihs ih3 ih5 m3 (dP.le cE) c0 c1 c2 c3 (cS.mono (Zmm (mLt bB cE)))
 have sy:=ZrO 91 [] [.pointer (some ⟨c0,0,none⟩),.pointer (some ⟨c1,0,none⟩),.pointer (some ⟨c2,0,none⟩),.pointer (some ⟨c3,0,none⟩)] c m2 kb (n.t.lists s d i) (by rw[<-u2];omega) (Zqf hg sx hw.fin.len hi) (λm'=>HasM m' kb Z root s) (λa b kI h=>h.le kI) ⟨es,qH⟩ qx qI
 have sA:=ZmU 90 [] [.pointer (some ⟨c,0,none⟩)] m2 kb Z dP.z (ddp (n.t.lists s d i).flatten) (by rw[<-u2];omega) (λm'=>HasM m' kb Z root s) (λa b kI h=>h.le kI) ⟨es,qH⟩ sy
 rw[<-u2]at sA
 refine Znj sA ⟨es,qH⟩ (λv m' css tvs ⟨a,c,h,_⟩=>by rw[h];rfl) ?_
 rintro a nn c' m3 cE ⟨a',c2',hv,aL,cX⟩
 obtain⟨rfl,rfl,rfl⟩:a=a'/\nn=(n.t.ends s d i).length/\c'=c2':=by simpa using hv
 have mO:=dP.next cE cX
 obtain⟨es3,dI,jW⟩:=cX
 obtain⟨es',gO,sB⟩:=Zo6 hn d i aL (c:=c') jW
 refine⟨_,mO.fm.memo,kb,es3,es',rfl,dI,ZmV _ _ _,gO,ZkO,a,c',rfl,aL,es',Mem.updK_same _ _ _,sB⟩
def ZvW(s:List Nat)(n:Nd)(d i:Nat):Nat:=if n.t.k=3 then n.subs.length - d else mR s.length n.t.mn n.t.mx d i
theorem ZrS(fb kb:Nat)(Z:Nat->Prop)(root:Nd)(sa:Option Addr)(s:List Nat)(sc:Nat)(jX:∀x∈root.all,x.t.right=true):∀(N:Nat)(n:Nd),SizeOf.sizeOf n < N->n∈root.all->∀d i,d<=1000000000000000->i<=s.length->(n.t.k=3->d<=n.subs.length)->n.subs.length<=1000000000000000->Zkk fb kb Z root sa s sc n d i:=by
 intro N
 induction N with
 | zero=>intro n h;omega
 | succ N ihN=>
  intro n hN hn d i hd hi kK gU
  have hg:=jX n hn
  have kB:=Zdn hg
  have inner:∀(K d i:Nat),ZvW s n d i < K->d<=1000000000000000->i<=s.length->(n.t.k=3->d<=n.subs.length)->Zkk fb kb Z root sa s sc n d i:=by
   intro K
   induction K with
   | zero=>intro d i h;omega
   | succ K ihK=>
    intro d i hK hd hi kK
    intro m hw
    have few:∀x∈root.all,x.subs.length<=1000000000000000:=λx hx=>Zqd (Zbr root hw.fin.rep x hx)
    refine Zqg fb kb Z root sa s sc n hn d i hd hi kK (λx hx j hj=>ihN x (by have:=ZuJ hx;omega) (ZdI hn hx) 0 j (by omega) hj (λ_=>Nat.zero_le _) (few x (ZdI hn hx))) (λh3 aM j hj=>ihK (d+1) j ?_ (by omega) hj (λ_=>aM)) (λh5 j hj=>?_) m hw
    ·unfold ZvW at hK ⊢
     rw[if_pos h3]at hK ⊢
     omega
    ·obtain⟨q1,q2,q3⟩:=Zcl hj
     obtain⟨q4,q5⟩:=ZbW s n.t.subs i hi j q2
     obtain⟨b1,b2,b3⟩:=kB h5
     have:=ZsX (len:=s.length) b1 (b3.imp id λh=>h.2.1) q1 ⟨q4,q5⟩ q3
     refine ihK _ j ?_ ?_ q5 (λh=>by omega)
     ·unfold ZvW at hK ⊢
      rw[if_neg (by omega)]at hK ⊢
      omega
     ·unfold Zc3
      unfold Zja at q1
      simp only[Bool.or_eq_true,beq_iff_eq,decide_eq_true_eq]at q1
      split <;> omega
  exact inner _ d i (Nat.lt_succ_self _) hd hi kK
theorem Zhu(fb kb:Nat)(Z:Nat->Prop)(root:Nd)(sa:Option Addr)(s:List Nat)(sc:Nat)(n:Nd)(hn:n∈root.all)(d i:Nat)(hd:d<=1000000000000000)(hi:i<=s.length)(kK:n.t.k=3->d<=n.subs.length):Zkk fb kb Z root sa s sc n d i:=λm hw=>
 ZrS fb kb Z root sa s sc hw.fin.good _ n (Nat.lt_succ_self _) hn d i hd hi kK (Zqd (Zbr root hw.fin.rep n hn)) m hw
end Go.Proofs.Ytgclajkldphoaaa
set_option linter.unusedVariables false
set_option linter.unusedSimpArgs false
namespace Go.Proofs.Ytgclajkldphoaaa
open Go Go.Eng Go.Rx Go.Proofs Go.RowKit
set_option maxRecDepth 100000
theorem Zum{P:Program}{g:FuncId}{args:Array Value}{m m0:Mem}{kb:Nat}{R0:RTY}{K:Bool->Mem->Prop}{E:Nat->Prop}(h:CXY P g args m (λb=>b=kb) [] [] R0)(hk:∃es,m.k kb=some es)(hE:E kb)(hf:∀(v:Value)(m':Mem) (css:List (List Value)) (tvs:List Value),R0 v m' css tvs->Shape.fits Shape.bool v=true)
  (k:∀b m',(but m kb).le m'->R0 (.bool b) m' [] []->K b m'):
  ∃(Y:Nat->Prop),∃(R:Value->Mem->List (List Value)->List Value->Prop),CXY P g args m Y [] [] R/\(∀(t:Tok),t∈[]->∀(b:Nat),t.blk=some b->Y b)/\
   (∀(b:Nat),Y b->(∃(t:Tok),t∈[]/\t.blk=some b)\/(Mem.free (but m0 kb) b/\Mem.k (but m0 kb) b=none)/\((∃(o:Nat),∃(v:Value),m b o=some v)\/∃(e:List (Value×Value)),Mem.k m b=some e)/\E b)/\
   (∀(v:Value)(m':Mem) (css:List (List Value)) (tvs:List Value),R v m' css tvs->Shape.fits Shape.bool v=true)/\
   ∀(b:Bool)(m':Mem),Mem.le (Mem.off m Y) m'->(NewM m m' λ(b:Nat)=>Y b\/Mem.free m b)->R (.bool b) m' [] []->K b m':=
 ⟨λb=>b=kb,R0,h,by simp,λb hb=>.inr ⟨by subst hb;exact⟨Zjb,ZkO⟩,.inr (by subst hb;exact hk),by subst hb;exact hE⟩,hf,λb m' h1 _ h2=>k b m' h1 h2⟩
theorem Zun{P:Program}{g:FuncId}{args:Array Value}{m m0:Mem}{kb:Nat}{R0:RTY}{K:Int->Mem->Prop}{E:Nat->Prop}(h:CXY P g args m (λb=>b=kb) [] [] R0)(hk:∃es,m.k kb=some es)(hE:E kb)(hf:∀(v:Value)(m':Mem) (css:List (List Value)) (tvs:List Value),R0 v m' css tvs->Shape.fits (Shape.int .i64) v=true)
  (k:∀b m',(but m kb).le m'->R0 (.int .i64 b) m' [] []->K b m'):
  ∃(Y:Nat->Prop),∃(R:Value->Mem->List (List Value)->List Value->Prop),CXY P g args m Y [] [] R/\(∀(t:Tok),t∈[]->∀(b:Nat),t.blk=some b->Y b)/\
   (∀(b:Nat),Y b->(∃(t:Tok),t∈[]/\t.blk=some b)\/(Mem.free (but m0 kb) b/\Mem.k (but m0 kb) b=none)/\((∃(o:Nat),∃(v:Value),m b o=some v)\/∃(e:List (Value×Value)),Mem.k m b=some e)/\E b)/\
   (∀(v:Value)(m':Mem) (css:List (List Value)) (tvs:List Value),R v m' css tvs->Shape.fits (Shape.int .i64) v=true)/\
   ∀(b:Int)(m':Mem),Mem.le (Mem.off m Y) m'->(NewM m m' λ(b:Nat)=>Y b\/Mem.free m b)->R (.int .i64 b) m' [] []->K b m':=
 ⟨λb=>b=kb,R0,h,by simp,λb hb=>.inr ⟨by subst hb;exact⟨Zjb,ZkO⟩,.inr (by subst hb;exact hk),by subst hb;exact hE⟩,hf,λb m' h1 _ h2=>k b m' h1 h2⟩
theorem Zoa(fb kb:Nat)(Z:Nat->Prop)(root:Nd)(sa:Option Addr)(s:List Nat)(sc:Nat)(n:Nd)(hn:n∈root.all)(d j to:Nat)(hd:d<=1000000000000000)(hj:j<=s.length)(kK:n.t.k=3->d<=n.subs.length)(m:Mem)(hw:Wk m fb kb Z root sa s sc)(c0 c1 c2 c3:Nat)
  (g0:but m kb c0 0=some (.pointer (some ⟨fb,0,none⟩))) (g1:but m kb c1 0=some (.pointer (some ⟨n.b,0,none⟩))) (g2:but m kb c2 0=some (.int .i64 (d:Nat))) (g3:but m kb c3 0=some (.int .i64 (to:Nat))):
  CXY Try.prog 94 #[.int .i64 (j:Nat),.pointer (some ⟨c0,0,none⟩),.pointer (some ⟨c1,0,none⟩),.pointer (some ⟨c2,0,none⟩),.pointer (some ⟨c3,0,none⟩)] m (λb=>b=kb) [] [] (λv m' _ _=>v=.bool (decide (to∈n.t.ends s d j))/\HasM m' kb Z root s):=by
 obtain⟨es,dM,_⟩:=hw.has
 apply ZcZ
 unfold ZbY
 refine⟨_,g0,_,g1,_,g2,_,g3,Znj (Zhu fb kb Z root sa s sc n hn d j hd hj kK m hw) ⟨es,dM⟩ ZaZ ?_⟩
 rintro a nn c m1 aT ⟨a',c',hv,aL,cX⟩
 obtain⟨rfl,rfl,rfl⟩:a=a'/\nn=(n.t.ends s d j).length/\c=c':=by simpa using hv
 refine⟨_,trivial,Zdm _ a c to m1 (aL.mono (Mem.off_le _ _)) ?_,λv m' css h=>by unfold Ret at h;rw[h];rfl,?_⟩
 ·have:=ZbO (d:=d) (hw.fin.good n hn) hw.fin.len hj;omega
 rintro b m2 bB hR
 exact⟨hR,cX.le bB⟩
theorem Ztx{α:Type}{p:α->Bool}{l:List α}{j:Nat}{x:α}(h:l[j]?=some x)(fK:∀y∈l.take j,p y=false)(hx:p x=true):l.find? p=some x:=by
 have e:l=l.take (j+1)++l.drop (j+1):=(List.take_append_drop _ _).symm
 rw[Zcb h]at e
 rw[e,List.append_assoc,List.find?_append,List.find?_eq_none.2 (λy hy=>by simp[fK y hy])]
 simp[hx]
theorem Zju(g:Nat)(fi ca:List Value)(X:List Nat)(p:Nat->Bool)(a:Option Addr)(c:Nat)(m:Mem)(kb:Nat)(hX:X.length<=1000000)(RI:Mem->Prop)(yn:RI m)(hk:∀m',RI m'->∃es,m'.k kb=some es)(aL:rowRd (but m kb) a (nsL X))
  (yo:∀m',(but m kb).le m'->RI m'->∀x∈X,CXY Try.prog g ((fi++[Value.int .i64 (x:Nat)])++ca).toArray m' (λb=>b=kb) [] [] (λv m' _ _=>v=.bool (p x)/\RI m')):
  CXY Try.prog 93 #[.slice a X.length c,.func (.func g) fi.toArray ca.toArray] m (λb=>b=kb) [] [] (λv m' _ _=>((∃(i x:Nat),v=.int .i64 (i:Nat)/\X[i]?=some x/\X.find? p=some x)\/(v=.int .i64 (-1)/\X.find? p=none))/\RI m'):=by
 apply ZbF
 unfold Za7
 refine⟨λxs css tvs m' q=>∃j:Nat,j<=X.length/\xs=[.int .i64 (j:Nat)]/\(but m kb).le m'/\RI m'/\(∀y∈X.take j,p y=false)/\q=X.length - j,⟨_,0,by omega,rfl,ZgG _ _,yn,by simp,rfl⟩,?_⟩
 rintro y m3 q _ ⟨j,hj,cI,bN,hR,fK,rfl⟩
 obtain rfl:y=j:=by simpa using cI
 refine Zab (λaM=>?_) (λcQ=>?_)
 ·have aQ:j < X.length:=by have:=of_decide_eq_true aM;omega
  obtain⟨x,hx⟩:∃x,X[j]?=some x:=⟨_,List.getElem?_eq_getElem aQ⟩
  have fR:=List.mem_of_getElem? hx
  rcases aL.mono bN with h|⟨b,o,h1,h2⟩
  ·have:X=[]:=by simpa[nsL]using h
   rw[this]at aQ;simp at aQ
  simp only[Int.toNat_natCast,Nat.mul_one,wr1 (show j<=1000000000000000 by omega)]
  refine⟨b,o,h1,⟨by omega,by omega⟩,.int .i64 (x:Nat),h2 j _ (by rw[nsL,List.getElem?_map,hx];rfl),Zum (yo m3 bN hR x fR) (hk m3 hR) trivial (λv m' css tvs h=>by rw[h.1];rfl) ?_⟩
  rintro b2 m4 cF ⟨hb,wE⟩
  obtain rfl:b2=p x:=by simpa using hb
  refine Zab (λhp=>⟨.inl ⟨j,x,rfl,hx,Ztx hx fK hp⟩,wE⟩) (λhp=>⟨_,?_,j+1,by omega,rfl,mLt (ZdW bN) cF,wE,?_,rfl⟩)
  ·omega
  ·rw[Zcb hx]
   intro y hy
   rcases List.mem_append.1 hy with hy|hy
   ·exact fK y hy
   ·obtain rfl:y=x:=by simpa using hy
    exact hp
 ·have:j=X.length:=by have:=of_decide_eq_false cQ;omega
  subst this
  rw[List.take_length]at fK
  exact⟨.inr ⟨rfl,List.find?_eq_none.2 λy hy=>by simp[fK y hy]⟩,hR⟩
def Zuo(s:List Nat)(t:T)(d to:Nat)(X:List Nat):Option Nat:=X.find? λj=>decide (to∈t.ends s d j)
def ZuZ:Option Nat->Int
 | some x=>(x:Int)
 | none=>-1
theorem ZmZ(fb kb:Nat)(Z:Nat->Prop)(root:Nd)(sa:Option Addr)(s:List Nat)(sc:Nat)(n:Nd)(hn:n∈root.all)(d to:Nat)(hd:d<=1000000000000000)(kK:n.t.k=3->d<=n.subs.length)(X:List Nat)(hX:∀j∈X,j<=s.length)(ss:X.length<=1000000)(a:Option Addr)(c:Nat)(m:Mem)(hw:Wk m fb kb Z root sa s sc)(aL:rowRd (m.off Z) a (nsL X)):
  CXY Try.prog 74 #[.pointer (some ⟨fb,0,none⟩),.slice a X.length c,.pointer (some ⟨n.b,0,none⟩),.int .i64 (d:Nat),.int .i64 (to:Nat)] m (λb=>b=kb) [] [] (λv m' _ _=>v=.int .i64 (ZuZ (Zuo s n.t d to X))/\HasM m' kb Z root s):=by
 obtain⟨es,dM,bO⟩:=hw.has
 apply Zdy
 unfold Zco
 intro b0 m1 aT yp As _ qo b1 m2 bB dY mX _ fC b2 m3 cE dV lQ _ gY b3 m4 cF jA rh _ mH
 have l14:=mLt bB (mLt cE cF)
 have l24:=mLt cE cF
 have l04:=mLt aT l14
 have n0:b0≠kb:=λe=>by subst e;rw[dM]at qo;cases qo
 have n1:b1≠kb:=λe=>by subst e;rw[aT.k _ _ dM]at fC;cases fC
 have n2:b2≠kb:=λe=>by subst e;rw[(mLt aT bB).k _ _ dM]at gY;cases gY
 have n3:b3≠kb:=λe=>by subst e;rw[(mLt aT (mLt bB cE)).k _ _ dM]at mH;cases mH
 have tn:=hw.le l04
 have cell:∀{b:Nat} {v:Value},b≠kb->m4.reads b 0 [v]->but m4 kb b 0=some v:=λh1 h2=>by rw[ZkN h1];exact h2 0 _ rfl
 have g0:=cell n0 (yp.mono l14)
 have g1:=cell n1 (dY.mono l24)
 have g2:=cell n2 (dV.mono cF)
 have g3:=cell n3 jA
 have bY:rowRd (but m4 kb) a (nsL X):=(aL.mono (ZeH l04)).mono (Zmo hw.z.1)
 refine Zun (Zju 94 [] [.pointer (some ⟨b0,0,none⟩),.pointer (some ⟨b1,0,none⟩),.pointer (some ⟨b2,0,none⟩),.pointer (some ⟨b3,0,none⟩)] X (λj=>decide (to∈n.t.ends s d j)) a c m4 kb ss (λm'=>HasM m' kb Z root s) tn.has (λm' ⟨es,h,_⟩=>⟨es,h⟩) bY ?_) ⟨es,l04.k _ _ dM⟩ ⟨n3,n2,n1,n0,trivial⟩ ?_ ?_
 ·intro m5 eO hh x hx
  have ri:=ZdW eO
  exact Zoa fb kb Z root sa s sc n hn d x to hd (hX x hx) kK m5 (tn.next eO hh) b0 b1 b2 b3 (ri.c _ _ _ g0) (ri.c _ _ _ g1) (ri.c _ _ _ g2) (ri.c _ _ _ g3)
 ·rintro v m' css tvs ⟨⟨i,x,h,_⟩|⟨h,_⟩,_⟩ <;> (rw[h];rfl)
 rintro z m5 eO ⟨h,hh⟩
 rcases h with⟨i,x,h,hx,iN⟩|⟨h,iN⟩
 ·obtain rfl:z=i:=by simpa using h
  refine Zg5 (by simp) ?_
  have aM:=(List.getElem?_eq_some_iff.1 hx).1
  rcases bY.mono eO with h|⟨b,o,h1,h2⟩
  ·have:X=[]:=by simpa[nsL]using h
   rw[this]at aM;simp at aM
  refine⟨b,o,h1,⟨by omega,by omega⟩,.int .i64 (x:Nat),by simp only[Int.toNat_natCast,Nat.mul_one];exact h2 i _ (by rw[nsL,List.getElem?_map,hx];rfl),?_,hh⟩
  unfold Zuo;rw[iN];rfl
 ·obtain rfl:z=-1:=by simpa using h
  refine ZhT (by decide) ⟨?_,hh⟩
  unfold Zuo;rw[iN];rfl
end Go.Proofs.Ytgclajkldphoaaa
set_option linter.unusedVariables false
set_option linter.unusedSimpArgs false
namespace Go.Proofs.Ytgclajkldphoaaa
open Go Go.Eng Go.Rx Go.Proofs Go.RowKit
set_option maxRecDepth 100000
theorem Znk{P:Program}{g:FuncId}{args:Array Value}{m m0:Mem}{Y Y0:Nat->Prop}{R0:RTY}{sh:Shape}{E:Nat->Prop}{Kf:(Nat->Prop)->RTY->Prop}(h:CXY P g args m Y [] [] R0)(hY:∀b,Y b->Y0 b/\((∃(o:Nat),∃(v:Value),m b o=some v)\/∃(e:List (Value×Value)),Mem.k m b=some e)/\E b)(hf:∀(v:Value)(m':Mem) (css:List (List Value)) (tvs:List Value),R0 v m' css tvs->Shape.fits sh v=true)(k:Kf Y R0):
  ∃(Y:Nat->Prop),∃(R:Value->Mem->List (List Value)->List Value->Prop),CXY P g args m Y [] [] R/\(∀(t:Tok),t∈[]->∀(b:Nat),t.blk=some b->Y b)/\
   (∀(b:Nat),Y b->(∃(t:Tok),t∈[]/\t.blk=some b)\/(Mem.free (m0.off Y0) b/\Mem.k (m0.off Y0) b=none)/\((∃(o:Nat),∃(v:Value),m b o=some v)\/∃(e:List (Value×Value)),Mem.k m b=some e)/\E b)/\
   (∀(v:Value)(m':Mem) (css:List (List Value)) (tvs:List Value),R v m' css tvs->Shape.fits sh v=true)/\Kf Y R:=
 ⟨Y,R0,h,by simp,λb hb=>.inr ⟨⟨Mem.off_free (hY b hb).1,Mem.off_kn (hY b hb).1⟩,(hY b hb).2⟩,hf,k⟩
structure St (fb kb:Nat)(root:Nd)(sa:Option Addr)(s:List Nat)(sc:Nat)(pa:Option Addr)(pc np:Nat)(m:Mem)(P:PL):Prop where
 wk:Wk m fb kb (Zp kb pa) root sa s sc
 pt:PtAt m pa P
 len:P.length=np
 parts:(m.off (Zp kb pa)) fb 2=some (.slice pa np pc)
 nk:∀b,pa=some ⟨b,0,none⟩->b≠kb
theorem St.step{fb kb:Nat}{root:Nd}{sa:Option Addr}{s:List Nat}{sc:Nat}{pa:Option Addr}{pc np:Nat}{m m':Mem}{P:PL}(h:St fb kb root sa s sc pa pc np m P)(hm:(but m kb).le m')(hh:HasM m' kb (Zp kb pa) root s):St fb kb root sa s sc pa pc np m' P:=
 ⟨h.wk.next hm hh,(h.pt.but h.nk).mono hm,h.len,(ZqK h.wk.z.1 hm).c _ _ _ h.parts,h.nk⟩
theorem St.le{fb kb:Nat}{root:Nd}{sa:Option Addr}{s:List Nat}{sc:Nat}{pa:Option Addr}{pc np:Nat}{m m':Mem}{P:PL}(h:St fb kb root sa s sc pa pc np m P)(hm:m.le m'):St fb kb root sa s sc pa pc np m' P:=
 h.step (mLt (ZgG _ _) hm) (h.wk.has.le hm)
theorem ZrT{m':Mem}{kb:Nat}{pa:Option Addr}{P':PL}(hp:PtAt m' pa P'):ZOk m' kb (Zp kb pa):=⟨.inl rfl,λb hb=>by
 rcases hb with hb|hb
 ·exact .inl hb
 rcases hp with⟨_,h⟩|⟨b',h1,h2,h3⟩
 ·rw[h]at hb;cases hb
 ·rw[h1]at hb;cases hb
  cases P' with
  | nil=>exact absurd rfl h3
  | cons p l=>exact .inr ⟨_,(h2 0 p rfl).1⟩⟩
theorem St.walk{fb kb:Nat}{root:Nd}{sa:Option Addr}{s:List Nat}{sc:Nat}{pa:Option Addr}{pc np:Nat}{m m':Mem}{P P':PL}(h:St fb kb root sa s sc pa pc np m P)(hm:(m.off (Zp kb pa)).le m')(hh:HasM m' kb (Zp kb pa) root s)(hp:PtAt m' pa P')(hl:P'.length=P.length):St fb kb root sa s sc pa pc np m' P':=
 ⟨⟨h.wk.fin.mono (Zmp hm),hh,ZrT hp⟩,hp,hl.trans h.len,(Zmp hm).c _ _ _ h.parts,h.nk⟩
theorem St.upd{fb kb:Nat}{root:Nd}{sa:Option Addr}{s:List Nat}{sc:Nat}{pa:Option Addr}{pc np:Nat}{m:Mem}{P:PL}(h:St fb kb root sa s sc pa pc np m P){b g:Nat}{x y:Int}(hb:pa=some ⟨b,0,none⟩)(hg:g < P.length):St fb kb root sa s sc pa pc np (m.upd b (0+g*2) [.int .i64 x,.int .i64 y]) (P.set g (x,y)):=by
 have hp:=h.pt.upd hb hg (x:=x) (y:=y)
 have qJ:(m.off (Zp kb pa)).le ((m.upd b (0+g*2) [.int .i64 x,.int .i64 y]).off (Zp kb pa)):=Zs2 (.inr hb)
 obtain⟨es,h1,h2⟩:=h.wk.has
 exact⟨⟨h.wk.fin.mono qJ,⟨es,h1,h2.mono qJ⟩,ZrT hp⟩,hp,by simp[h.len],qJ.c _ _ _ h.parts,h.nk⟩
theorem St.zin{fb kb:Nat}{root:Nd}{sa:Option Addr}{s:List Nat}{sc:Nat}{pa:Option Addr}{pc np:Nat}{m:Mem}{P:PL}(h:St fb kb root sa s sc pa pc np m P):∀b,Zp kb pa b->Zp kb pa b/\((∃(o:Nat),∃(v:Value),m b o=some v)\/∃(e:List (Value×Value)),Mem.k m b=some e)/\True:=λb hb=>by
 refine⟨hb,?_,trivial⟩
 rcases h.wk.z.2 b hb with rfl|⟨v,hv⟩
 ·obtain⟨es,h1,_⟩:=h.wk.has
  exact .inr ⟨es,h1⟩
 ·exact .inl ⟨0,v,hv⟩
theorem St.kin{fb kb:Nat}{root:Nd}{sa:Option Addr}{s:List Nat}{sc:Nat}{pa:Option Addr}{pc np:Nat}{m:Mem}{P:PL}(h:St fb kb root sa s sc pa pc np m P):∀b,b=kb->Zp kb pa b/\((∃(o:Nat),∃(v:Value),m b o=some v)\/∃(e:List (Value×Value)),Mem.k m b=some e)/\True:=λb hb=>h.zin b (.inl hb)
def ZuS(kb:Nat)(pa:Option Addr)(root:Nd)(s:List Nat)(Q:PL×Nat):RTY:=λv m' _ _=>v=.int .i64 (Q.2:Nat)/\HasM m' kb (Zp kb pa) root s/\PtAt m' pa Q.1
theorem Zdo{kb:Nat}{pa:Option Addr}{root:Nd}{s:List Nat}{Q:PL×Nat}:∀(v:Value)(m':Mem) (css:List (List Value)) (tvs:List Value),ZuS kb pa root s Q v m' css tvs->Shape.fits (Shape.int .i64) v=true:=λv _ _ _ ⟨h,_⟩=>by rw[h];rfl
def ZtZ(fb kb:Nat)(root:Nd)(sa:Option Addr)(s:List Nat)(sc:Nat)(pa:Option Addr)(pc np:Nat)(x:Nd):Prop:=
 ∀g,x.num g->g+x.t.ngr<=np->∀i to,i<=s.length->to∈x.t.e0 s i->∀m P,St fb kb root sa s sc pa pc np m P->
  CXY Try.prog 46 #[.pointer (some ⟨fb,0,none⟩),.pointer (some ⟨x.b,0,none⟩),.int .i64 (i:Nat),.int .i64 (to:Nat)] m (Zp kb pa) [] [] (ZuS kb pa root s (x.t.wk s g i to P))
theorem Zkl{Q:Option Nat}{kb:Nat}{Z:Nat->Prop}{root:Nd}{s:List Nat}:∀(v:Value)(m':Mem) (css:List (List Value)) (tvs:List Value),(v=.int .i64 (ZuZ Q)/\HasM m' kb Z root s)->Shape.fits (Shape.int .i64) v=true:=λv _ _ _ ⟨h,_⟩=>by rw[h];rfl
theorem Zvi(fb kb:Nat)(root:Nd)(sa:Option Addr)(s:List Nat)(sc:Nat)(pa:Option Addr)(pc np:Nat)(n:Nd)(hn:n∈root.all)(ih:∀x∈n.subs,ZtZ fb kb root sa s sc pa pc np x):ZtZ fb kb root sa s sc pa pc np n:=by
 intro g nT mN i to hi lT m P cP
 have hw:=cP.wk
 have hg:=hw.fin.good n hn
 have kB:=Zdn hg
 have cR:=Zbr root hw.fm.rep n hn
 obtain⟨g0,g1,g5,g6,g8,g9,g10⟩:=ZgW cR
 have aW:=Zqc cR
 have gU:=Zqd cR
 rw[Zs1]at nT
 obtain⟨u4,dJ⟩:=nT
 rw[ZsZ]at mN
 have ends0:∀x∈n.subs,∀j,j<=s.length->Zkk fb kb (Zp kb pa) root sa s sc x 0 j:=λx hx j hj=>Zhu fb kb (Zp kb pa) root sa s sc x (ZdI hn hx) 0 j (by omega) hj (λ_=>Nat.zero_le _)
 have oneSub:n.t.k=5\/n.t.k=6->∃x,n.subs=[x]/\n.t.subs=[x.t]:=λh=>by
  obtain⟨x0,jM⟩:∃x,n.t.subs=[x]:=by
   rcases Zkh hg with h'|h'|h'|h'|h'|h' <;> first|omega|exact h'.2.1|exact h'.2
  have hl:=aW
  rw[jM]at hl
  match bP:n.subs,hl with
  | [x],_=>
   have:=ZuQ cR (j:=0) (x:=x) (by rw[bP];rfl)
   rw[jM]at this
   simp at this
   exact⟨x,rfl,by rw[jM,this]⟩
 obtain⟨Q,hQ⟩:∃Q,Q=n.t.wk s g i to P:=⟨_,rfl⟩
 rw[<-hQ]
 rw[ZuK]at hQ
 apply ZdQ
 unfold ZcC
 refine⟨_,g0,Zaa rfl (Zab (λh6=>?_) (λh6=>Zaa rfl (Zab (λh4=>?_) (λh4=>Zaa rfl (Zab (λh3=>?_) (λh3=>Zaa rfl (Zab (λh5=>?_) (λh5=>?_))))))))⟩
 ·
  have hk:n.t.k=6:=by simpa[RowKit.intOf]using h6
  obtain⟨x,cI,hO⟩:=oneSub (.inr hk)
  have fR:x∈n.subs:=by rw[cI];simp
  have kQ:=u4 hk
  rw[if_pos hk,hO]at hQ
  rw[if_pos hk,hO]at mN
  rw[if_pos hk,cI]at dJ
  have dJ:x.num (g+1):=dJ.1
  have lT:to∈x.t.e0 s i:=by
   rw[<-ZaY]at lT
   unfold T.ends at lT
   rw[if_neg (by omega),if_neg (by omega)]at lT
   have e:n.t.e0 s i=ddp (hd0 s n.t.subs i):=by
    cases hT:n.t with
    | node k s0 s1 s2 s3 mn mx a c l=>
     rw[hT]at hk
     have hk:k=6:=hk
     subst hk
     simp[T.e0,T.subs]
   rw[e,ZfV,hO]at lT
   simpa[hd0]using lT
  have tA:g < P.length:=by rw[cP.len];omega
  obtain⟨pb,rD,cC⟩:∃b,pa=some ⟨b,0,none⟩/\∀q p,P[q]?=some p->m b (q*2)=some (.int .i64 p.1)/\m b (q*2+1)=some (.int .i64 p.2):=by
   rcases cP.pt with⟨h,_⟩|⟨b,h1,h2,_⟩
   ·rw[h]at tA;simp at tA
   ·exact⟨b,h1,h2⟩
  have yq:=(Mem.off_le _ _).c _ _ _ cP.parts
  have qK:=cP.upd rD tA (x:=(i:Int)) (y:=(to:Int))
  have oV:=Zbr root qK.wk.fm.rep n hn
  obtain⟨_,_,_,_,_,_,g10'⟩:=ZgW oV
  obtain⟨b0,o,ha,hp⟩:=Zjs oV (j:=0) (x:=x) (by rw[cI];rfl)
  refine⟨_,yq,_,g9,Zaa rfl (Zaa rfl ⟨pb,0,rD,⟨by simp[RowKit.intOf],?_⟩,?_,Mem.off_free (.inr rD),rfl,?_⟩)⟩
  ·simp only[RowKit.intOf,slN,kQ];have:=cP.len;omega
  ·obtain⟨p,eV⟩:∃p,P[g]?=some p:=⟨_,List.getElem?_eq_getElem tA⟩
   refine⟨[.int .i64 p.1,.int .i64 p.2],rfl,?_⟩
   obtain⟨h1,h2⟩:=cC g p eV
   simp only[RowKit.intOf,Int.toNat_natCast,kQ,Nat.zero_add]
   intro j v hj
   have aM:j < 2:=(List.getElem?_eq_some_iff.1 hj).1
   have:j=0\/j=1:=by omega
   rcases this with rfl|rfl <;> (cases hj;assumption)
  ·simp only[RowKit.intOf,Int.toNat_natCast,kQ]
   refine⟨_,g10',Zaa rfl ⟨b0,o,ha,⟨by omega,by simp[slN,cI]⟩,_,hp,Znk (ih x fR (g+1) dJ (by rw[ZdB,ZdB]at mN;omega) i to hi lT _ _ qK) qK.zin Zdo ?_⟩⟩
   rintro z m3 cE _ ⟨_,hh,fN⟩
   refine⟨by rw[hQ];rfl,hh,?_⟩
   rw[hQ];exact fN
 ·
  have hk:n.t.k=4:=by simpa[RowKit.intOf]using h4
  rw[if_neg (by omega),if_pos hk]at hQ
  rw[if_neg (by omega),Nat.zero_add]at mN
  rw[if_neg (by omega),Nat.add_zero]at dJ
  refine⟨_,g10,Zaa rfl ⟨λxs css tvs m' q=>∃(j gj:Nat),j<=n.subs.length/\xs=[.int .i64 (j:Nat)]/\St fb kb root sa s sc pa pc np m' P/\Q=(ZnY s (n.t.subs.drop j) gj i to P,0)/\Zs0 (n.subs.drop j) gj/\gj+ZdB (n.t.subs.drop j)<=np/\q=n.subs.length - j,⟨_,0,g,by omega,rfl,cP,hQ,dJ,mN,rfl⟩,?_⟩⟩
  rintro y m3 q _ ⟨j,gj,hj,cI,dF,eI,lU,sC,rfl⟩
  obtain rfl:y=j:=by simpa using cI
  refine Zab (λaM=>?_) (λcQ=>?_)
  ·have aQ:j < n.subs.length:=by have:=of_decide_eq_true aM;simp only[slN]at this;omega
   obtain⟨x,hx⟩:∃x,n.subs[j]?=some x:=⟨_,List.getElem?_eq_getElem aQ⟩
   have fR:=List.mem_of_getElem? hx
   have eZ:x.t.right=true:=hw.fin.good x (ZdI hn fR)
   have hO:=ZuQ cR hx
   rw[Zmf hO]at eI sC
   obtain⟨tB,lV⟩:=ZoS lU hx
   rw[ZdB]at sC
   have fM:=Zbr root dF.wk.fm.rep n hn
   obtain⟨b0,o,ha,hp⟩:=Zjs fM hx
   simp only[Int.toNat_natCast,Nat.mul_one,wr1 (show j<=1000000000000000 by omega)]
   refine Zaa rfl ⟨b0,o,ha,⟨by omega,by simp only[slN];omega⟩,_,hp,Znk (ends0 x fR i hi m3 dF.wk) dF.kin ZaZ ?_⟩
   rintro a nn c m4 cF _ ⟨a',c',hv,aL,cX⟩
   obtain⟨rfl,rfl,rfl⟩:a=a'/\nn=(x.t.ends s 0 i).length/\c=c':=by simpa using hv
   have dQ:=dF.step cF cX
   refine⟨_,trivial,Zdm _ a c to m4 (aL.mono (Mem.off_le _ _)) (by have:=ZbO (d:=0) eZ hw.fin.len hi;omega),λv m' css h=>by unfold Ret at h;rw[h];rfl,?_⟩
   rintro b m5 eO hR
   obtain rfl:b=decide (to∈x.t.ends s 0 i):=by simpa[Ret]using hR
   have fO:=dQ.le eO
   rw[ZaY]
   simp only[ZnY]at eI
   refine Zab (λgW=>?_) (λgW=>⟨_,?_,j+1,gj+x.t.ngr,by omega,rfl,fO,?_,lV,by omega,rfl⟩)
   ·have sD:=of_decide_eq_true gW
    rw[if_pos sD]at eI
    refine Znk (ih x fR gj tB (by omega) i to hi sD m5 P fO) fO.zin Zdo ?_
    rintro z m6 qL _ ⟨_,hh,fN⟩
    refine⟨by rw[eI];rfl,hh,?_⟩
    rw[eI];exact fN
   ·omega
   ·rw[if_neg (of_decide_eq_false gW)]at eI
    exact eI
  ·have:j=n.subs.length:=by have:=of_decide_eq_false cQ;simp only[slN]at this;omega
   subst this
   rw[List.drop_eq_nil_of_le (by omega)]at eI
   simp only[ZnY]at eI
   refine⟨by rw[eI];rfl,dF.wk.has,?_⟩
   rw[eI];exact dF.pt
 ·
  have hk:n.t.k=3:=by simpa[RowKit.intOf]using h3
  rw[if_neg (by omega),if_neg (by omega),if_pos hk]at hQ
  rw[if_neg (by omega),Nat.zero_add]at mN
  rw[if_neg (by omega),Nat.add_zero]at dJ
  have hE:∀d j,n.t.ends s d j=Zp0 (e0s s (n.t.subs.drop d)) j:=λd j=>by
   unfold T.ends
   rw[if_pos hk,ZoN,List.map_drop]
  rw[<-ZaY,hE]at lT
  refine⟨_,g10,Zaa rfl ⟨λxs css tvs m' q=>∃(j gj p:Nat)(P':PL),j<=n.subs.length/\xs=[.int .i64 (p:Nat),.int .i64 (j:Nat)]/\p<=s.length/\St fb kb root sa s sc pa pc np m' P'/\Q=(ZnZ s (n.t.subs.drop j) gj p to P',0)/\to∈Zp0 (e0s s (n.t.subs.drop j)) p/\Zs0 (n.subs.drop j) gj/\gj+ZdB (n.t.subs.drop j)<=np/\q=n.subs.length - j,⟨_,0,g,i,P,by omega,rfl,hi,cP,hQ,lT,dJ,mN,rfl⟩,?_⟩⟩
  rintro p' y m3 q _ ⟨j,gj,p,P',hj,cI,hp',dF,eI,qM,lU,sC,rfl⟩
  simp only[List.cons.injEq,Value.int.injEq,true_and,and_true]at cI
  obtain⟨rfl,rfl⟩:=cI
  refine Zab (λaM=>?_) (λcQ=>?_)
  ·have aQ:j < n.subs.length:=by have:=of_decide_eq_true aM;simp only[slN]at this;omega
   obtain⟨x,hx⟩:∃x,n.subs[j]?=some x:=⟨_,List.getElem?_eq_getElem aQ⟩
   have fR:=List.mem_of_getElem? hx
   have eZ:x.t.right=true:=hw.fin.good x (ZdI hn fR)
   have hO:=ZuQ cR hx
   rw[Zmf hO]at eI sC qM
   obtain⟨tB,lV⟩:=ZoS lU hx
   rw[ZdB]at sC
   rw[e0s,ZrA]at qM
   simp only[ZnZ]at eI
   have fM:=Zbr root dF.wk.fm.rep n hn
   obtain⟨b0,o,ha,hp⟩:=Zjs fM hx
   simp only[Int.toNat_natCast,Nat.mul_one,wr1 (show j<=1000000000000000 by omega)]
   refine Zaa rfl ⟨b0,o,ha,⟨by omega,by simp only[slN];omega⟩,_,hp,Znk (ends0 x fR p hp' m3 dF.wk) dF.kin ZaZ ?_⟩
   rintro a nn c m4 cF _ ⟨a',c',hv,aL,cX⟩
   obtain⟨rfl,rfl,rfl⟩:a=a'/\nn=(x.t.ends s 0 p).length/\c=c':=by simpa using hv
   have dQ:=dF.step cF cX
   refine Znk (ZmZ fb kb (Zp kb pa) root sa s sc n hn (j+1) to (by omega) (λ_=>by omega) (x.t.ends s 0 p) (λj hj=>(ZfZ s x.t 0 p hp' j hj).2) (by have:=ZbO (d:=0) eZ hw.fin.len hp';omega) a c m4 dQ.wk aL) dQ.kin Zkl ?_
   rintro z m5 eO _ ⟨hz,sE⟩
   have fO:=dQ.step eO sE
   have u5:Zuo s n.t (j+1) to (x.t.ends s 0 p)=(x.t.e0 s p).find? (λj'=>decide (to∈Zp0 (e0s s (n.t.subs.drop (j+1))) j')):=by
    unfold Zuo
    rw[ZaY]
    simp only[hE]
   rw[u5]at hz
   cases oW:(x.t.e0 s p).find? (λj'=>decide (to∈Zp0 (e0s s (n.t.subs.drop (j+1))) j'))with
   | none=>
    exfalso
    obtain⟨w,dX,dP⟩:=qM
    have:=List.find?_eq_none.1 oW w dX
    simp at this
    exact this dP
   | some w=>
    rw[oW]at hz eI
    obtain rfl:z=(w:Int):=by simpa[ZuZ]using hz
    have tC:=List.mem_of_find?_eq_some oW
    have yr:to∈Zp0 (e0s s (n.t.subs.drop (j+1))) w:=by have:=List.find?_some oW;simpa using this
    have tD:=(ZbT s x.t p hp' w tC).2
    refine Znk (ih x fR gj tB (by omega) p w hp' tC m5 P' fO) fO.zin Zdo ?_
    rintro z m6 qL _ ⟨_,hh,fN⟩
    refine⟨_,?_,j+1,gj+x.t.ngr,w,_,by omega,rfl,tD,fO.walk qL hh fN (Zmq _ _ _ _ _ _),eI,yr,lV,by omega,rfl⟩
    omega
  ·have:j=n.subs.length:=by have:=of_decide_eq_false cQ;simp only[slN]at this;omega
   subst this
   rw[List.drop_eq_nil_of_le (by omega)]at eI
   simp only[ZnZ]at eI
   refine⟨by rw[eI];rfl,dF.wk.has,?_⟩
   rw[eI];exact dF.pt
 ·
  have hk:n.t.k=5:=by simpa[RowKit.intOf]using h5
  obtain⟨x,cI,hO⟩:=oneSub (.inl hk)
  have fR:x∈n.subs:=by rw[cI];simp
  have eZ:x.t.right=true:=hw.fin.good x (ZdI hn fR)
  obtain⟨k1,k2,k3⟩:=kB hk
  rw[if_neg (by omega),if_neg (by omega),if_neg (by omega),if_pos hk]at hQ
  rw[if_neg (by omega),Nat.zero_add,hO,ZdB,ZdB]at mN
  rw[if_neg (by omega),Nat.add_zero,cI]at dJ
  have dJ:x.num g:=dJ.1
  have hE:∀d j,n.t.ends s d j=Zp1 (hd0 s n.t.subs) n.t.mn n.t.mx (mR s.length n.t.mn n.t.mx d j+1) d j:=λd j=>by
   unfold T.ends
   rw[if_neg (by omega),if_pos hk]
  have dG:mR s.length n.t.mn n.t.mx 0 i<=1000:=by
   have:=hw.fin.len
   unfold mR
   split
   ·omega
   ·rcases k3 with h|⟨_,_,h⟩ <;> omega
  refine⟨λxs css tvs m' q=>∃(p d r fu:Nat)(P':PL),xs=[.int .i64 (p:Nat),.int .i64 (d:Nat),.int .i64 (r:Nat)]/\p<=s.length/\d<=1000/\r+mR s.length n.t.mn n.t.mx d p<=1000/\mR s.length n.t.mn n.t.mx d p < fu/\St fb kb root sa s sc pa pc np m' P'/\Q=Zrz (hdW s n.t.subs g) (hd0 s n.t.subs) s.length n.t.mn n.t.mx to fu d p P' r/\q=mR s.length n.t.mn n.t.mx d p,⟨_,i,0,0,_,P,rfl,hi,by omega,by omega,Nat.lt_succ_self _,cP,hQ,rfl⟩,?_⟩
  rintro p' d' r' m3 q _ ⟨p,d,r,fu,P',sF,hp',hd,hr,nM,dF,eI,rfl⟩
  simp only[List.cons.injEq,Value.int.injEq,true_and,and_true]at sF
  obtain⟨rfl,rfl,rfl⟩:=sF
  have fM:=Zbr root dF.wk.fm.rep n hn
  refine⟨_,trivial,Zlq n d m3 fM kB hk (by omega),λv m' css h=>by unfold Ret at h;rw[h];rfl,?_⟩
  rintro n1 b1 m4 cF oS
  simp only[Ret,Value.tuple.injEq,Array.mk.injEq,List.cons.injEq,Value.int.injEq,Value.bool.injEq,true_and,and_true]at oS
  obtain⟨rfl,rfl⟩:=oS
  have dQ:=dF.le cF
  obtain⟨X,hX⟩:∃X,X=ZdN (hd0 s n.t.subs) n.t.mn n.t.mx d p:=⟨_,rfl⟩
  have dA:=ZmX fb kb (Zp kb pa) root sa s sc n hn hk d p (by omega) hp' (λx hx=>ends0 x hx p hp') m4 dQ.wk
  rw[<-hX]at dA
  have ss:X.length<=513:=by
   rw[hX]
   unfold ZdN
   split
   ·have h1:=List.length_filter_le (λj=>decide (p < j)||decide ((d:Int) < n.t.mn)) (hd0 s n.t.subs p)
    have h2:(hd0 s n.t.subs p).length<=513:=by
     rw[hO]
     simp only[hd0]
     rw[<-ZaY]
     exact ZbO eZ hw.fin.len hp'
    omega
   ·simp
  have tB:Zc3 n.t.mn n.t.mx d<=1001:=by unfold Zc3;split <;> omega
  have tz:∀z∈X,Zja n.t.mx d=true/\z∈x.t.e0 s p/\(p < z\/(d:Int) < n.t.mn):=λz hz=>by
   rw[hX]at hz
   obtain⟨q1,q2,q3⟩:=Zcl hz
   refine⟨q1,?_,q3⟩
   rw[hO]at q2;exact q2
  refine Znk dA dQ.kin ZaZ ?_
  rintro a nn c m5 eO _ ⟨a',c',hv,aL,cX⟩
  obtain⟨rfl,rfl,rfl⟩:a=a'/\nn=X.length/\c=c':=by simpa using hv
  have fO:=dQ.step eO cX
  refine Znk (ZmZ fb kb (Zp kb pa) root sa s sc n hn (Zc3 n.t.mn n.t.mx d) to (by omega) (λh=>by omega) X (λj hj=>(ZbT s x.t p hp' j (tz j hj).2.1).2) (by omega) a c m5 fO.wk aL) fO.kin Zkl ?_
  rintro z m6 qL _ ⟨hz,oX⟩
  have lW:=fO.step qL oX
  obtain⟨f',rfl⟩:∃f',fu=f'+1:=⟨fu - 1,by omega⟩
  have u5:Zuo s n.t (Zc3 n.t.mn n.t.mx d) to X=X.find? (λj=>decide (to∈Zp1 (hd0 s n.t.subs) n.t.mn n.t.mx (mR s.length n.t.mn n.t.mx (Zc3 n.t.mn n.t.mx d) j+1) (Zc3 n.t.mn n.t.mx d) j)):=by
   unfold Zuo
   simp only[hE]
  rw[u5]at hz
  unfold Zrz at eI
  rw[<-hX]at eI
  cases oW:X.find? (λj=>decide (to∈Zp1 (hd0 s n.t.subs) n.t.mn n.t.mx (mR s.length n.t.mn n.t.mx (Zc3 n.t.mn n.t.mx d) j+1) (Zc3 n.t.mn n.t.mx d) j))with
  | none=>
   rw[oW]at hz eI
   obtain rfl:z=-1:=by simpa[ZuZ]using hz
   refine ZhT (by decide) ⟨by rw[eI],oX,?_⟩
   rw[eI];exact lW.pt
  | some w=>
   rw[oW]at hz eI
   obtain rfl:z=(w:Int):=by simpa[ZuZ]using hz
   have tC:=List.mem_of_find?_eq_some oW
   obtain⟨w1,w2,w3⟩:=tz w tC
   have tD:=ZbT s x.t p hp' w w2
   have aM:=ZsX (len:=s.length) k1 (k3.imp id λh=>h.2.1) w1 tD w3
   have oY:=Zbr root lW.wk.fm.rep n hn
   obtain⟨_,_,_,_,_,_,g10'⟩:=ZgW oY
   obtain⟨b0,o,ha,hp⟩:=Zjs oY (j:=0) (x:=x) (by rw[cI];rfl)
   refine Zg5 (by simp) ⟨_,g10',Zaa rfl ⟨b0,o,ha,⟨by omega,by simp[slN,cI]⟩,_,hp,Znk (ih x fR g dJ (by omega) p w hp' w2 m6 P' lW) lW.zin Zdo ?_⟩⟩
   rintro z m7 rj _ ⟨_,hh,fN⟩
   simp only[wr1 (show r<=1000000000000000 by omega)]
   refine⟨_,aM,w,Zc3 n.t.mn n.t.mx d,r+1,f',_,rfl,tD.2,?_,by omega,by omega,lW.walk rj hh fN (Zmq _ _ _ _ _ _),?_,rfl⟩
   ·unfold Zc3
    unfold Zja at w1
    simp only[Bool.or_eq_true,beq_iff_eq,decide_eq_true_eq]at w1
    split <;> omega
   ·rw[eI,hO]
    simp only[hdW]
 ·simp[RowKit.intOf]at h3 h4 h5 h6
  rw[if_neg h6,if_neg h4,if_neg h3,if_neg h5]at hQ
  refine⟨by rw[hQ];rfl,cP.wk.has,?_⟩
  rw[hQ];exact cP.pt
theorem Zo7(fb kb:Nat)(root:Nd)(sa:Option Addr)(s:List Nat)(sc:Nat)(pa:Option Addr)(pc np:Nat):∀(N:Nat)(n:Nd),SizeOf.sizeOf n < N->n∈root.all->ZtZ fb kb root sa s sc pa pc np n:=by
 intro N
 induction N with
 | zero=>intro n h;omega
 | succ N ihN=>exact λn hN hn=>Zvi fb kb root sa s sc pa pc np n hn λx hx=>ihN x (by have:=ZuJ hx;omega) (ZdI hn hx)
end Go.Proofs.Ytgclajkldphoaaa
set_option linter.unusedVariables false
set_option linter.unusedSimpArgs false
namespace Go.Proofs.Ytgclajkldphoaaa
open Go Go.Eng Go.Rx Go.Proofs Go.RowKit
set_option maxRecDepth 100000
theorem Zo8(m:Mem):CX Try.prog 21 #[] m [] (λv _ _=>v=.agg #[.int .i64 (-1),.int .i64 (-1)]):=by
 apply Zk1
 unfold ZgS
 intro b
 exact⟨m,Mem.le_refl _,Mem.le_refl _,rfl⟩
def noP:Int×Int:=(-1,-1)
def kE(t:T):Nat:=if t.k=6 then 1 else 0
def Zv7(kb:Nat)(es:List (Value×Value))(k0:Nat)(t:T)(pa:Option Addr)(P:PL)(f0 f3:Value)(m:Mem):RTY:=λv m' css tvs=>∃(n:Nd)(pa':Option Addr)(pc':Nat),v=.pointer (some ⟨n.b,0,none⟩)/\n.t=t/\NRep (m'.off (Zp kb pa')) n/\n.num P.length/\n.idn k0/\
 css=[[f0,.int .i64 ((k0+t.nodes.length:Nat):Int),.slice pa' (P.length+t.ngr) pc',f3]]/\tvs=[.slice pa' (P.length+t.ngr) pc']/\PtAt m' pa' (P++List.replicate t.ngr noP)/\NewP m pa pa'/\m'.k kb=some es
def ZvX(fb kb:Nat)(es:List (Value×Value))(t:T):Prop:=∀(k0:Nat)(pa:Option Addr)(pc:Nat)(P:PL)(f0 f3:Value)(m:Mem),Rep (m.off (Zp kb pa)) t->m.k kb=some es->(∀b,pa=some ⟨b,0,none⟩->b≠kb)->PtAt m pa P->k0+t.nodes.length<=1000000->P.length+t.ngr<=1000000->
 CXY Try.prog 69 #[.pointer (some ⟨fb,0,none⟩),t.v] m (λb=>pa=some ⟨b,0,none⟩) [⟨fb,[f0,.int .i64 (k0:Nat),.slice pa P.length pc,f3],92,4,false,true⟩] [⟨.slice pa P.length pc,2⟩] (Zv7 kb es k0 t pa P f0 f3 m)
theorem Zqh{m M m4:Mem}{pa a4:Option Addr}{P:PL}{n c:Nat}{x y:Int}(h:PtAt m pa P)(hm:m.le m4)(aL:rowRd m4 a4 ((P.flatMap λp=>[.int .i64 p.1,.int .i64 p.2])++[.int .i64 x,.int .i64 y]))(hf:TokFact M pa a4 n c):PtAt m4 a4 (P++[(x,y)]):=by
 rcases aL with aL|⟨b,o,ha,cN⟩
 ·simp at aL
 obtain⟨_,hf⟩:=hf
 rcases hf with hf|⟨b',o',ha',hf⟩
 ·rw[ha]at hf;cases hf
 rw[ha]at ha';cases ha'
 have ho:o=0:=by
  rcases hf with hf|⟨ho,_⟩
  ·have hf:pa=some ⟨b,o,none⟩:=hf.trans ha
   rcases h with⟨_,h⟩|⟨b2,h1,_⟩
   ·rw[h]at hf;cases hf
   ·rw[h1]at hf;cases hf;rfl
  ·exact ho
 subst ho
 have e:(P.flatMap λp=>[Value.int .i64 p.1,.int .i64 p.2])++[.int .i64 x,.int .i64 y]=(P++[(x,y)]).flatMap λp=>[Value.int .i64 p.1,.int .i64 p.2]:=by simp
 rw[e]at cN
 have at2:∀(P:PL)(q:Nat)(p:Int×Int),P[q]?=some p->(P.flatMap λp=>[Value.int .i64 p.1,.int .i64 p.2])[q*2]?=some (.int .i64 p.1)/\(P.flatMap λp=>[Value.int .i64 p.1,.int .i64 p.2])[q*2+1]?=some (.int .i64 p.2):=λP=>by
  induction P with
  | nil=>intro q p hq;simp at hq
  | cons p0 P ih=>
   intro q p hq
   cases q with
   | zero=>simp at hq;subst hq;exact⟨rfl,rfl⟩
   | succ q=>
    have:=ih q p (by simpa using hq)
    rw[show(q+1)*2=q*2+2 by omega]
    exact this
 refine .inr ⟨b,ha,λq p hq=>?_,by simp⟩
 obtain⟨h1,h2⟩:=at2 _ q p hq
 have:=cN _ _ h1
 have h3:=cN _ _ h2
 rw[Nat.zero_add]at this h3
 exact⟨this,h3⟩
theorem ZeM{m:Mem}{pa:Option Addr}{P:PL}(h:PtAt m pa P):rowRd m pa (P.flatMap λp=>[.int .i64 p.1,.int .i64 p.2]):=by
 rcases h with⟨h,_⟩|⟨b,h1,h2,h3⟩
 ·subst h;exact .inl rfl
 ·refine .inr ⟨b,0,h1,?_⟩
  have key:∀(P:PL)(o:Nat),(∀q p,P[q]?=some p->m b (o+q*2)=some (.int .i64 p.1)/\m b (o+(q*2+1))=some (.int .i64 p.2))->m.reads b o (P.flatMap λp=>[.int .i64 p.1,.int .i64 p.2]):=λP=>by
   induction P with
   | nil=>intro o _ j v hj;simp at hj
   | cons p0 P ih=>
    intro o hp j v hj
    match j,hj with
    | 0,hj=>cases hj;exact(hp 0 p0 rfl).1
    | 1,hj=>cases hj;exact(hp 0 p0 rfl).2
    | j+2,hj=>
     have:=ih (o+2) (λq p hq=>by
      have:=hp (q+1) p (by simpa using hq)
      rwa [show o+(q+1)*2=o+2+q*2 by omega,show o+((q+1)*2+1)=o+2+(q*2+1) by omega]at this) j v hj
     rwa [show o+(j+2)=o+2+j by omega]
  exact key P 0 λq p hq=>by rw[Nat.zero_add,Nat.zero_add];exact h2 q p hq
theorem ZrU{M m4:Mem}{pa a4:Option Addr}{n c:Nat}(hf:TokFact M pa a4 n c):NewP M pa a4:=λb hb=>by
 obtain⟨_,hf⟩:=hf
 rcases hf with hf|⟨b',o',ha',hf⟩
 ·rw[hb]at hf;cases hf
 rw[hb]at ha';cases ha'
 rcases hf with hf|⟨_,h1,h2⟩
 ·exact .inl hf
 ·exact .inr ⟨h1,h2⟩
theorem Zwf(fb kb:Nat)(es:List (Value×Value))(t:T)(ih:∀x∈t.subs,ZvX fb kb es x):ZvX fb kb es t:=by
 intro k0 pa pc P f0 f3 m cR dM kB fN qo hP
 have bP:=(ZgE cR)
 have lX:t.nodes.length=(Zai t.subs).length+1:=by rw[Zbz];rfl
 have nU:t.ngr=kE t+ZdB t.subs:=ZsZ t
 unfold T.v
 apply Zc5
 unfold Zcd
 intro b m1 aT hb jV _ gG
 have qN:=fN.mono aT
 have gT:=aT.k _ _ dM
 have eH:IntKind.i64.wrap ((k0:Int)+1)=((k0+1:Nat):Int):=wr1 (by omega)
 have sG:=ZeM qN
 have sH:∀P:PL,(P.flatMap λp=>[Value.int .i64 p.1,.int .i64 p.2]).length=P.length*2:=λP=>by
  induction P with
  | nil=>rfl
  | cons p P ih=>simp only[List.flatMap_cons,List.length_append,List.length_cons,List.length_nil,ih];omega
 have rel0:∀{M:Mem} {pa1:Option Addr},m.le M->NewP m pa pa1->(m.off (Zp kb pa)).le (M.off (Zp kb pa1)):=λhM hN=>ZqO (mLt (Mem.off_le _ _) hM) hN
 refine⟨rfl,λnb=>⟨rfl,rfl,by omega,λxs css tvs M=>∃(pa1:Option Addr)(pc1:Nat),css=[[.int .u8 t.k,.int .u64 t.s0,.int .u64 t.s1,.int .u64 t.s2,.int .u64 t.s3,.int .i64 t.mn,.int .i64 t.mx,.slice t.a t.subs.length t.c,.int .i64 (k0:Nat),.int .i64 ((if t.k=6 then P.length else 0:Nat):Int),.slice none 0 0],[f0,.int .i64 ((k0+1:Nat):Int),.slice pa1 (P.length+kE t) pc1,f3]]/\tvs=[.slice pa1 (P.length+kE t) pc1]/\PtAt M pa1 (P++List.replicate (kE t) noP)/\NewP m pa pa1/\m.le M,?_,?_⟩⟩
 ·refine Zab (λh6=>⟨rfl,?_⟩) (λh6=>⟨rfl,rfl,pa,pc,?_,?_,?_,.same,aT⟩)
  ·have nV:t.k=6:=by simpa using h6
   have nW:kE t=1:=by unfold kE;rw[if_pos nV]
   refine⟨λ_ _ _=>λv _ _=>v=.agg #[.int .i64 (-1),.int .i64 (-1)],rfl,_,rfl,Zo8 m1,λv m' css h=>by rw[h];rfl,?_⟩
   rintro n1 n2 m2 bB hv b2 dV
   obtain⟨rfl,rfl⟩:n1=-1/\n2=-1:=by simpa using hv
   have fV:m1.le (m2.add b2 [.int .i64 (-1),.int .i64 (-1)]):=mLt bB (Mem.le_add dV _)
   refine⟨.inl rfl,(P.flatMap λp=>[.int .i64 p.1,.int .i64 p.2]),[.int .i64 (-1),.int .i64 (-1)],sH P,rfl,sG.mono fV,.inr ⟨b2,0,rfl,λj v hj=>by rw[Nat.zero_add,Mem.add_same];exact hj⟩,?_,by omega,by omega,λa4 c4 m4 cF bY hf=>⟨rfl,by omega,λM _ _ _ hM=>⟨rfl,rfl,a4,c4,?_,?_,?_,?_,?_⟩⟩⟩
   ·intro u hu
    have:u=.int .i64 (-1):=by simpa using hu
    rw[this];rfl
   ·rw[eH,if_pos nV,nW]
   ·rw[nW]
   ·rw[nW]
    exact(Zqh qN (mLt fV cF) bY hf).mono hM
   ·intro b' hb'
    rcases ZrU (m4:=m4) hf b' hb' with h|⟨h1,h2⟩
    ·exact .inl h
    ·have hl:=mLt aT fV
     refine .inr ⟨ZmT hl h1,?_⟩
     cases he:m.k b' with
     | none=>rfl
     | some e=>rw[hl.k _ _ he]at h2;cases h2
   ·exact mLt aT (mLt fV (mLt cF hM))
  ·have nV:t.k≠6:=by simpa using h6
   have nW:kE t=0:=by unfold kE;rw[if_neg nV]
   rw[eH,if_neg nV,nW];rfl
  ·have nV:t.k≠6:=by simpa using h6
   have nW:kE t=0:=by unfold kE;rw[if_neg nV]
   rw[nW];rfl
  ·have nV:t.k≠6:=by simpa using h6
   have nW:kE t=0:=by unfold kE;rw[if_neg nV]
   rw[nW];simpa using qN
 rintro cs aw a n c m2 _ ⟨pa1,pc1,lY,nX,u6,oZ,bB⟩
 simp only[List.cons.injEq,and_true]at lY nX
 obtain⟨rfl,rfl⟩:=lY
 obtain⟨rfl,rfl,rfl⟩:a=pa1/\n=P.length+kE t/\c=pc1:=by simpa using nX
 refine⟨λxs css tvs M q=>∃(j:Nat)(L:List Nd)(sa2:Option Addr)(sc2:Nat)(pa':Option Addr)(pc':Nat),j<=t.subs.length/\xs=[.int .i64 (j:Nat)]/\
  css=[[.int .u8 t.k,.int .u64 t.s0,.int .u64 t.s1,.int .u64 t.s2,.int .u64 t.s3,.int .i64 t.mn,.int .i64 t.mx,.slice t.a t.subs.length t.c,.int .i64 (k0:Nat),.int .i64 ((if t.k=6 then P.length else 0:Nat):Int),.slice sa2 j sc2],[f0,.int .i64 ((k0+1+(Zai (t.subs.take j)).length:Nat):Int),.slice pa' (P.length+kE t+ZdB (t.subs.take j)) pc',f3]]/\
  tvs=[.slice sa2 j sc2,.slice pa' (P.length+kE t+ZdB (t.subs.take j)) pc']/\L.map Nd.t=t.subs.take j/\SubsAt M (Zp kb pa') sa2 L/\(∀x∈L,NRep (M.off (Zp kb pa')) x)/\Zs0 L (P.length+kE t)/\ZtX L (k0+1)/\PtAt M pa' (P++List.replicate (kE t+ZdB (t.subs.take j)) noP)/\NewP m pa pa'/\(m.off (Zp kb pa)).le (M.off (Zp kb pa'))/\M.k kb=some es/\q=t.subs.length - j,
  ⟨_,0,[],none,0,a,c,by omega,rfl,rfl,rfl,rfl,.inl ⟨rfl,rfl⟩,by simp,trivial,trivial,u6,oZ,rel0 bB oZ,bB.k _ _ dM,rfl⟩,?_⟩
 rintro y cs cs2 a3 n3 c3 a4 n4 c4 m3 q _ ⟨j,L,sa2,sc2,pa',pc',hj,cI,lY,nX,rk,sI,o7,wF,fT,jK,lZ,jY,dI,rfl⟩
 obtain rfl:y=j:=by simpa using cI
 simp only[List.cons.injEq,and_true]at lY
 obtain⟨rfl,rfl⟩:=lY
 obtain⟨⟨rfl,yt,rfl⟩,rfl,rfl,rfl⟩:(a3=sa2/\n3=j/\c3=sc2)/\a4=pa'/\n4=P.length+kE t+ZdB (t.subs.take j)/\c4=pc':=by simpa using nX
 obtain rfl:=yt.symm
 have wG:L.length=j:=by have:=congrArg List.length rk;simp at this;omega
 have ti:ZdB (t.subs.take j)<=ZdB t.subs:=ZqM
 have sZ:(Zai (t.subs.take j)).length<=(Zai t.subs).length:=Zmr
 have yu:Rep (m3.off (Zp kb a4)) t:=Rep.mono jY t cR
 have sJ:=ZgE yu
 refine Zab (λaM=>?_) (λcQ=>?_)
 ·have aQ:j < t.subs.length:=by have:=of_decide_eq_true aM;omega
  obtain⟨x,hx⟩:∃x,t.subs[j]?=some x:=⟨_,List.getElem?_eq_getElem aQ⟩
  have fR:=List.mem_of_getElem? hx
  have u9:ZdB (t.subs.take (j+1))<=ZdB t.subs:=ZqM
  have vb:(Zai (t.subs.take (j+1))).length<=(Zai t.subs).length:=Zmr
  rw[ZgH hx]at u9
  rw[ZfT hx,List.length_append]at vb
  have At:j<=(Zai t.subs).length:=by
   have:∀l:List T,l.length<=(Zai l).length:=λl=>by
    induction l with
    | nil=>simp
    | cons x l ih=>
     simp only[Zai,List.length_append,List.length_cons]
     have:1<=x.nodes.length:=by rw[Zbz];simp
     omega
   have:=this t.subs
   omega
  rcases sJ.2 with h|⟨b0,o,ha,iB⟩
  ·rw[h]at aQ;simp at aQ
  obtain⟨cN,eZ⟩:=iB.get hx
  refine⟨b0,o,ha,⟨by omega,by omega⟩,.int .u8 x.k,.int .u64 x.s0,.int .u64 x.s1,.int .u64 x.s2,.int .u64 x.s3,.int .i64 x.mn,.int .i64 x.mx,.slice x.a x.subs.length x.c,by rw[Int.toNat_natCast];exact cN.mono (Mem.off_le _ _),λa1=>Zaa rfl (Zas rfl ⟨λb=>a4=some ⟨b,0,none⟩,Zv7 kb es (k0+1+(Zai (t.subs.take j)).length) x a4 (P++List.replicate (kE t+ZdB (t.subs.take j)) noP) f0 f3 m3,?_,?_,?_,?_,?_⟩)⟩
  ·have:=ih x fR (k0+1+(Zai (t.subs.take j)).length) a4 c4 (P++List.replicate (kE t+ZdB (t.subs.take j)) noP) f0 f3 m3 eZ dI ?_ jK (by omega) (by simp;omega)
   ·unfold T.v at this
    rw[show(P++List.replicate (kE t+ZdB (t.subs.take j)) noP).length=P.length+kE t+ZdB (t.subs.take j) by simp;omega]at this
    exact this
   ·intro b hb e
    subst e
    rcases lZ b hb with h|⟨_,h⟩
    ·exact kB b (h.trans hb) rfl
    ·rw[dM]at h;cases h
  ·intro tk dA b' hb'
   obtain rfl:tk=_:=by simpa using dA
   rcases jK with⟨_,h⟩|⟨b2,h,_⟩
   ·rw[h]at hb';simp[Tok.blk]at hb'
   ·rw[h]at hb'
    have:b2=b':=by simpa[Tok.blk]using hb'
    rw[h,this]
  ·intro b' hb'
   refine .inl ⟨_,List.mem_singleton.2 rfl,?_⟩
   rw[hb'];rfl
  ·rintro v m' css tvs ⟨n,_,_,h,_⟩;rw[h];rfl
  rintro pb po m4 cF _ cs3 a5 n5 c5 ⟨n,pa2,pc2,hv,nA,pS,tE,rI,sK,sL,sM,o8,sN⟩ b5 ri
  rw[show(P++List.replicate (kE t+ZdB (t.subs.take j)) noP).length=P.length+kE t+ZdB (t.subs.take j) by simp;omega]at tE sK sL
  obtain⟨rfl,rfl⟩:pb=n.b/\po=0:=by simpa using hv
  obtain rfl:cs3=_:=by simpa using sK
  obtain⟨rfl,rfl,rfl⟩:a5=pa2/\n5=P.length+kE t+ZdB (t.subs.take j)+x.ngr/\c5=pc2:=by simpa using sL
  have qO:(m3.off (Zp kb a4)).le (m4.off (Zp kb a5)):=ZqO cF o8
  have my:m4.le (m4.add b5 [.pointer (some ⟨n.b,0,none⟩)]):=Mem.le_add ri _
  have o9:=sI.next qO
  refine Zaa rfl ⟨.inl rfl,L.map (λx:Nd=>ptr x.b 0),[.pointer (some ⟨n.b,0,none⟩)],by simp[slN,wG],rfl,o9.row.mono my,.inr ⟨b5,0,rfl,λq v hq=>by rw[Nat.zero_add,Mem.add_same];exact hq⟩,?_,by simp only[slN];omega,by simp only[slN];omega,λa6 c6 m5 eO aL hf=>Zaa rfl ⟨rfl,rfl,_,?_,j+1,L++[n],a6,c6,a5,c5,by omega,?_,?_,?_,?_,?_,?_,?_,?_,?_,?_,?_,?_,rfl⟩⟩
  ·intro u hu
   have:u=.pointer (some ⟨n.b,0,none⟩):=by simpa using hu
   rw[this];rfl
  ·omega
  ·rw[wr1 (by omega)]
  ·rw[ZgH hx,ZfT hx,List.length_append,<-Nat.add_assoc (P.length+kE t),<-Nat.add_assoc (k0+1)]
   rfl
  ·rw[ZgH hx,<-Nat.add_assoc (P.length+kE t)]
   rfl
  ·rw[List.map_append,rk,Zcb hx,<-nA];rfl
  ·
   have aL:rowRd m5 a6 ((L.map λx=>ptr x.b 0)++[ptr n.b 0]):=aL
   rcases aL with aL|⟨b6,o6,tF,ve⟩
   ·simp at aL
   obtain⟨_,hf⟩:=hf
   rcases hf with hf|⟨b',o',ha',hf⟩
   ·rw[tF]at hf;cases hf
   rw[tF]at ha';cases ha'
   have key:o6=0/\¬Zp kb a5 b6:=by
    rcases hf with hf|⟨ho,mX,lQ⟩
    ·have hf:a3=some ⟨b6,o6,none⟩:=hf.trans tF
     rcases o9 with⟨_,h⟩|⟨b2,h1,h2,_⟩
     ·rw[h]at hf;cases hf
     ·rw[h1]at hf;cases hf;exact⟨rfl,h2⟩
    ·obtain⟨g1,g2⟩:=ZgV (by simp) mX
     refine⟨ho,λhz=>?_⟩
     rcases hz with rfl|hz
     ·have lQ:m4.k b6=none:=lQ
      rw[sN]at lQ;cases lQ
     ·rcases sM with⟨_,h⟩|⟨b2,h,hc,cK⟩
      ·rw[h]at hz;cases hz
      ·rw[h]at hz;cases hz
       generalize (P++List.replicate (kE t+ZdB (t.subs.take j)) noP++List.replicate x.ngr noP)=PP at hc cK
       cases PP with
       | nil=>exact cK rfl
       | cons p l=>
        have:=(hc 0 p rfl).1
        rw[g2 _]at this;cases this
   obtain⟨rfl,yv⟩:=key
   exact .inr ⟨b6,tF,yv,λq v hq=>ve q v (by simpa using hq),by simp⟩
  ·intro y hy
   have wH:(m4.off (Zp kb a5)).le (m5.off (Zp kb a5)):=ZeH (mLt my eO)
   rcases List.mem_append.1 hy with hy|hy
   ·exact NRep.mono (mLt qO wH) _ (o7 y hy)
   ·obtain rfl:y=n:=by simpa using hy
    exact NRep.mono wH _ pS
  ·refine ZoT wF ?_
   rw[rk];exact tE
  ·refine ZoU fT ?_
   rw[rk];exact rI
  ·rw[ZgH hx,<-Nat.add_assoc]
   have:=sM.mono (mLt my eO)
   rwa [List.append_assoc,List.replicate_append_replicate]at this
  ·exact lZ.trans o8 jY ⟨es,dI⟩
  ·exact mLt jY (mLt qO (ZeH (mLt my eO)))
  ·exact(mLt my eO).k _ _ sN
 ·have:j=t.subs.length:=by have:=of_decide_eq_false cQ;omega
  subst this
  rw[List.take_length]at jK rk ti sZ ⊢
  refine⟨rfl,λaV mU=>?_⟩
  have nY:=Mem.le_add aV [.int .u8 t.k,.int .u64 t.s0,.int .u64 t.s1,.int .u64 t.s2,.int .u64 t.s3,.int .i64 t.mn,.int .i64 t.mx,.slice t.a t.subs.length t.c,.int .i64 (k0:Nat),.int .i64 ((if t.k=6 then P.length else 0:Nat):Int),.slice a3 t.subs.length c3]
  have ua:¬Zp kb a4 nb:=λhz=>by
   rcases hz with rfl|hz
   ·rw[dI]at mU;cases mU
   ·rcases jK with⟨_,h⟩|⟨b2,h,hc,cK⟩
    ·rw[h]at hz;cases hz
    ·rw[h]at hz;cases hz
     generalize (P++List.replicate (kE t+ZdB t.subs) noP)=PP at hc cK
     cases PP with
     | nil=>exact cK rfl
     | cons p l=>
      have:=(hc 0 p rfl).1
      rw[aV _]at this;cases this
  have sO:=ZeH nY (Z:=Zp kb a4)
  have sP:=sI.next sO
  have Au:(if t.k=6 then P.length else 0)<=P.length:=by split <;> omega
  refine⟨.mk nb k0 (if t.k=6 then P.length else 0) t a3 c3 L,a4,c4,rfl,rfl,?_,?_,?_,?_,?_,?_,lZ,nY.k _ _ dI⟩
  ·rw[ZcX]
   refine⟨λq v hq=>?_,⟨Rep.mono (mLt jY sO) t cR,rk⟩,⟨?_,?_⟩,sP.rep λx hx=>NRep.mono sO _ (o7 x hx)⟩
   ·show Mem.off (Mem.add m3 nb _) (Zp kb a4) nb (0+q)=some v
    rw[Mem.off_at ua]
    rw[Nat.zero_add,Mem.add_same]
    have e:(Nd.mk nb k0 (if t.k=6 then P.length else 0) t a3 c3 L).cs=[.int .u8 t.k,.int .u64 t.s0,.int .u64 t.s1,.int .u64 t.s2,.int .u64 t.s3,.int .i64 t.mn,.int .i64 t.mx,.slice t.a t.subs.length t.c,.int .i64 (k0:Nat),.int .i64 ((if t.k=6 then P.length else 0:Nat):Int),.slice a3 t.subs.length c3]:=by
     show t.cs++[_,_,.slice a3 L.length c3]=_
     rw[wG];rfl
    rw[<-e]
    exact hq
   ·show k0 < _;omega
   ·show(if t.k=6 then P.length else 0) < _;omega
  ·rw[Zs1]
   exact⟨λh=>by have h:t.k=6:=h;show(if t.k=6 then P.length else 0)=_;rw[if_pos h],wF⟩
  ·rw[Zuf];exact⟨rfl,fT⟩
  ·rw[lX,nU,<-Nat.add_assoc P.length,show k0+((Zai t.subs).length+1)=k0+1+(Zai t.subs).length by omega]
  ·rw[nU,<-Nat.add_assoc P.length]
  ·rw[nU];exact jK.mono nY
theorem Zob(fb kb:Nat)(es:List (Value×Value)):∀(N:Nat)(t:T),SizeOf.sizeOf t < N->ZvX fb kb es t:=by
 intro N
 induction N with
 | zero=>intro t h;omega
 | succ N ihN=>
  intro t hN
  refine Zwf fb kb es t λx hx=>ihN x ?_
  cases t with
  | node k s0 s1 s2 s3 mn mx a c l=>
   have h':x∈l:=hx
   have:=List.sizeOf_lt_of_mem h'
   simp only[T.node.sizeOf_spec]at hN
   omega
end Go.Proofs.Ytgclajkldphoaaa
