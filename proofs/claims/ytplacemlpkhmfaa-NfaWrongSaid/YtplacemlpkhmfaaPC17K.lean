/- Part of the proof: conditions and contracts of functions of this program. No condition of its own. -/
import Derived.Test.YtplacemlpkhmfaaPVND
import Derived.Test.YtplacemlpkhmfaaPC17J
import Derived.Test.YtplacemlpkhmfaaPC13C
import Derived.Test.YtplacemlpkhmfaaMr
set_option linter.unusedVariables false
set_option linter.unusedSimpArgs false
namespace Go.Proofs.Ytplacemlpkhmfaa
open Go Go.Eng Go.Rx Go.Proofs Go.RowKit
set_option maxRecDepth 100000
theorem ZsD(q:QS)(hq:QOk q)(c:Nat)(hc:c < 256)(m:Mem):CX Try.prog 117 #[.agg #[.int .u64 q.1,.int .u64 q.2.1,.int .u64 q.2.2.1,.int .u64 q.2.2.2],.int .u8 c] m [] (Ret (.bool (Zw3 q c))):=
 ZuA (Zuu q) c hc m (ZwL hq m)
theorem ZuS(l:List Int)(a:Option Addr)(c:Nat)(m:Mem)(h:rowRd m a (ZaA l))(hl:l.length≤1000000)(gL:∀p∈l,0≤p∧p < 448):CX Try.prog 112 #[.slice a l.length c] m [] (Ret (bwV (Zwu l 0))):=by
 apply Zps
 unfold Zly
 intro b b1
 refine⟨fun xs css _ m' q=>∃(k f:Nat),k≤l.length∧xs=[.int .i64 k]∧css=[bwL f]∧Zwu (l.drop k) f=Zwu l 0∧m.le m'∧q=l.length - k,⟨_,0,0,Nat.zero_le _,rfl,by rw[Zli],rfl,Mem.le_refl _,rfl⟩,?_⟩
 rintro z cs m1 q bH ⟨k,f,hk,hz,cH,he,_,hq⟩
 obtain rfl:z=k:=by simpa using hz
 obtain rfl:cs=bwL f:=by simpa using cH
 subst hq
 refine Zab (fun bK=>?_) (fun cS=>?_)
 ·have bJ:k < l.length:=by have:=of_decide_eq_true bK;omega
  obtain⟨x,hx⟩:=ZaE bJ
  obtain⟨b2,o,hQ,cM⟩:=ZdP (h.mono bH) hx
  have wn:=gL x (List.mem_of_getElem? hx)
  obtain⟨i,rfl⟩:∃i:Nat,x=i:=⟨x.toNat,by omega⟩
  rw[ZcO hx]at he
  refine⟨b2,o,hQ,⟨by omega,by omega⟩,_,(by rw[Int.toNat_natCast];exact cM),_,trivial,Zlz f i (by omega) b1 100 7 [] [] m1 (by omega),fun v _ _ h=>by rw[h.1];rfl,fun m2 bN cs2 j4=>⟨by trivial,_,by omega,k+1,f|||2 ^ i,bJ,by rw[Zax (by omega) (by omega)];rfl,?_,he,Mem.le_trans bH bN,rfl⟩⟩
  have:=j4.2
  simp only[List.nil_append,List.append_nil]at this
  exact this
 ·have:k=l.length:=by have:=of_decide_eq_false cS;omega
  subst this
  rw[List.drop_length]at he
  refine Zaa rfl (Zah bH ?_)
  rw[←he];rfl
theorem ZuT(A:Nf)(f:Nat)(p:Int)(hp : -1≤p∧p < 448)(s0 s1 s2 s3:Value)(b c:Nat)(m:Mem)(hb:m.reads b 0 [s0,s1,s2,s3,.bool A.empty])(hc:m.reads c 0 (bwL f)):CX Try.prog 114 #[.int .i64 p,.pointer (some ⟨b,0,none⟩),.pointer (some ⟨c,0,none⟩)] m [] (Ret (.bool (if p=-1 then A.empty else f.testBit p.toNat))):=by
 apply Zg1
 unfold Zee
 by_cases h:p=-1
 ·subst h
  rw[if_pos rfl]
  refine⟨A.empty,Zcx (by decide) ⟨_,(by simpa using hb 4 _ rfl),?_⟩,Zah (Mem.le_refl _) rfl⟩
  cases A.empty
  ·exact Zaa rfl (Zbz rfl (Zbz (by decide) rfl))
  ·exact Zaa rfl (Zcx rfl rfl)
 ·rw[if_neg h]
  obtain⟨i,rfl⟩:∃i:Nat,p=i:=⟨p.toNat,by omega⟩
  refine⟨f.testBit i,Zbz (by simp) (Zcx (by simp) ?_),Zah (Mem.le_refl _) (by rw[Int.toNat_natCast])⟩
  exact Zaj (Zsy f i (by omega) c 0 m hc) fun m1 bH=>rfl
theorem ZrW(l:List Int)(a:Option Addr)(c:Nat)(g:Nat)(ca:List Value)(p:Int→Bool)(m:Mem)(h:rowRd m a (ZaA l))(hl:l.length≤1000000)(hg:∀x∈l,∀m',m.le m'→CX Try.prog g (([.int .i64 x]:List Value)++ca).toArray m' [] (Ret (.bool (p x)))):
  CX Try.prog 113 #[.slice a l.length c,.func (.func g) #[] ca.toArray] m [] (Ret (.bool (l.any p))):=by
 have rZ:CX Try.prog 146 #[.slice a l.length c,.func (.func g) #[] ca.toArray] m [] (fun v _ _=>∃n:Int,v=.int .i64 n∧decide (n ≥ 0)=l.any p):=by
  apply Zci a l.length c g [] ca
  unfold Zbv
  refine⟨fun xs _ _ m' q=>∃k:Nat,k≤l.length∧xs=[.int .i64 k]∧(l.drop k).any p=l.any p∧m.le m'∧q=l.length - k,⟨_,0,Nat.zero_le _,rfl,rfl,Mem.le_refl _,rfl⟩,?_⟩
  rintro z m1 q bH ⟨k,hk,hz,he,_,hq⟩
  obtain rfl:z=k:=by simpa using hz
  subst hq
  refine Zab (fun bK=>?_) (fun cS=>?_)
  ·have bJ:k < l.length:=by have:=of_decide_eq_true bK;omega
   obtain⟨x,hx⟩:=ZaE bJ
   obtain⟨b2,o,hQ,cM⟩:=ZdP (h.mono bH) hx
   rw[ZcO hx,List.any_cons]at he
   refine⟨b2,o,hQ,⟨by omega,by omega⟩,_,(by rw[Int.toNat_natCast];exact cM),Zaj (hg x (List.mem_of_getElem? hx) m1 bH) fun m2 bN=>Zab (fun h2=>?_) (fun h2=>⟨_,by omega,k+1,bJ,by rw[Zax (by omega) (by omega)];rfl,?_,Mem.le_trans bH bN,rfl⟩)⟩
   ·refine⟨_,Mem.le_trans bH bN,Mem.le_refl _,_,rfl,?_⟩
    rw[←he,h2];simp
   ·rw[←he,h2];rfl
  ·have:k=l.length:=by have:=of_decide_eq_false cS;omega
   subst this
   refine⟨_,bH,Mem.le_refl _,_,rfl,?_⟩
   rw[←he,List.drop_length];rfl
 apply ZbZ a l.length c g [] ca
 unfold Zbb
 refine Zam rZ (by rintro v m' css ⟨n,rfl,_⟩;rfl) ?_
 rintro n m1 bH ⟨n',hn,he⟩
 cases hn
 exact Zah bH (by rw[←he])
theorem ZlA{st:Bool}(A:Nf)(hA:A.Ok)(v:Value)(l:List Int)(a:Option Addr)(c:Nat)(m:Mem)(h:NfR st A v m)(hl:rowRd m a (ZaA l))(eL:l.length≤1000000)(hs:A.states l=true):CX Try.prog 68 #[v,.slice a l.length c] m [] (Ret (.bool (A.accepts l))):=by
 obtain⟨s,f,x,y,rfl,⟨sa,sc,rfl,hs',eP,jd⟩,⟨fa,fc,vs,rfl,hf,ie,iE,iM⟩,⟨xa,xc,rfl,hx,gd,hU⟩,⟨ya,yc,rfl,hy,eI,iN⟩⟩:=h
 have hn:=hA.n
 apply ZiM
 unfold ZfX
 intro b m1 bH hb
 refine Zam (ZuS A.last ya yc m1 (hy.mono bH) eI (fun p hp=>by have:=hA.last.2 p hp;unfold Nf.top at this;omega)) (by rintro v m' css rfl;rfl) ?_
 intro n0 n1 n2 n3 n4 n5 n6 m2 bN hv
 simp only[Ret,bwV,Value.agg.injEq,Array.mk.injEq,List.cons.injEq,Value.int.injEq,true_and,and_true]at hv
 obtain⟨rfl,rfl,rfl,rfl,rfl,rfl,rfl⟩:=hv
 intro b1 m3 cG fP
 have oB:=Mem.le_trans bN cG
 refine Zaj (ZrW l a c _ [.pointer (some ⟨b,0,none⟩),.pointer (some ⟨b1,0,none⟩)] A.acc1 m3 ((hl.mono bH).mono oB) eL fun p hp m4 cY=>?_) fun m5 dX=>Zah (Mem.le_trans bH (Mem.le_trans oB dX)) rfl
 have:=Zll hs p hp
 exact ZuT A (Zwu A.last 0) p ⟨by omega,by unfold Nf.top at this;omega⟩ _ _ _ _ b b1 m4 ((hb.mono oB).mono cY) (Mem.reads.mono fP cY)
theorem ZqC{st:Bool}(A:Nf)(v:Value)(l:List Int)(a:Option Addr)(c:Nat)(m:Mem)(h:NfR st A v m)(hl:rowRd m a (ZaA l))(eL:l.length≤1000000):CX Try.prog 78 #[v,.slice a l.length c] m [] (Ret (.int .i64 (A.err l))):=by
 have h':=h
 obtain⟨s,f,x,y,rfl,⟨sa,sc,rfl,hs',eP,jd⟩,⟨fa,fc,vs,rfl,hf,ie,iE,iM⟩,⟨xa,xc,rfl,hx,gd,hU⟩,⟨ya,yc,rfl,hy,eI,iN⟩⟩:=h
 apply ZhT
 unfold ZfA
 intro b m1 bH hb
 refine Zaj (Zip A _ m1 (h'.mono bH)) fun m2 bN=>Zab (fun h1=>Zah (Mem.le_trans bH bN) ?_) (fun h1=>?_)
 ·unfold Nf.err;rw[if_pos (by simpa using h1)]
 have hr:A.right=true:=by simpa using h1
 have hw:IntKind.i64.wrap ((A.sets.length:Int) - 1)=A.top:=Zax (by omega) (by omega)
 simp only[hw]
 refine Zaj (Zd7 l (-1) A.top a c m2 ((hl.mono bH).mono bN) eL ⟨by omega,by omega⟩) fun m3 cG=>Zab (fun h2=>Zah (Mem.le_trans bH (Mem.le_trans bN cG)) ?_) (fun h2=>Zah (Mem.le_trans bH (Mem.le_trans bN cG)) ?_)
 ·have:A.states l=false:=by unfold Nf.states;simpa using h2
  unfold Nf.err;rw[hr,this];rfl
 ·have:A.states l=true:=by unfold Nf.states;simpa using h2
  unfold Nf.err;rw[hr,this];rfl
theorem ZsE{st:Bool}(A:Nf)(hA:A.Ok)(hq:∀q∈A.sets,QOk q)(v:Value)(l:List Int)(a:Option Addr)(c ch:Nat)(lp:ch < 256)(m:Mem)(h:NfR st A v m)(hl:rowRd m a (ZaA l))(eL:l.length≤1000000)(hs:A.states l=true):CX Try.prog 79 #[v,.slice a l.length c,.int .u8 ch] m [] (fun v m' _=>SlI true (A.step l ch) v m'):=by
 obtain⟨s,f,x,y,rfl,⟨sa,sc,rfl,hs',eP,jd⟩,⟨fa,fc,vs,rfl,hf,ie,iE,iM⟩,⟨xa,xc,rfl,kq,gd,hU⟩,⟨ya,yc,rfl,hy,eI,iN⟩⟩:=h
 have hn:=hA.n
 have bO:=hA.len
 apply Zn9
 unfold ZjA
 intro b m1 bH hb b1
 refine⟨fun xs css _ m' q=>∃(k f:Nat),k≤l.length∧xs=[.int .i64 k]∧css=[bwL f]∧A.stepM (l.drop k) ch f=A.stepM l ch 0∧m1.le m'∧q=l.length - k,⟨_,0,0,Nat.zero_le _,rfl,by rw[Zli],rfl,Mem.le_refl _,rfl⟩,?_⟩
 rintro z cs m2 q bN ⟨k,f,hk,hz,cH,he,_,hq⟩
 obtain rfl:z=k:=by simpa using hz
 obtain rfl:cs=bwL f:=by simpa using cH
 subst hq
 have il:=Mem.le_trans bH bN
 refine Zab (fun bK=>?_) (fun cS=>?_)
 ·have bJ:k < l.length:=by have:=of_decide_eq_true bK;omega
  obtain⟨p,hp⟩:=ZaE bJ
  obtain⟨b2,o,hQ,cM⟩:=ZdP (hl.mono il) hp
  have mJ:=Zll hs p (List.mem_of_getElem? hp)
  rw[ZcO hp]at he
  have he':A.stepM (l.drop (k+1)) ch ((A.fromL p).foldl (A.step1 ch) f)=A.stepM l ch 0:=he
  have Zvs:∀(w:List Int),A.fromL p=w→w.length≤1000000→∀(wa:Option Addr),rowRd m2 wa (ZaA w)→∀(k2 f2:Nat)(m3:Mem)(x:Int),m2.le m3→w[k2]?=some x→∃(i:Nat)(bs os:Nat)(qq:QS),x=i∧i < 448∧sa=some ⟨bs,os,none⟩∧(0≤x∧x < (A.sets.length:Nat))∧m3.reads bs (os+x.toNat*4) [.int .u64 qq.1,.int .u64 qq.2.1,.int .u64 qq.2.2.1,.int .u64 qq.2.2.2]∧QOk qq∧Zw3 qq ch=A.hasAt x ch:=by
   intro w hw _ wa _ k2 f2 m3 x cG hx
   have hb:=(ZhG hA p).2 x (by rw[hw];exact List.mem_of_getElem? hx)
   unfold Nf.top at hb
   obtain⟨qq,r5⟩:=ZaE (l:=A.sets) (k:=x.toNat) (by omega)
   obtain⟨bs,os,jn,ik⟩:=Zkm ((hs'.mono il).mono cG) r5
   refine⟨x.toNat,bs,os,qq,by omega,by omega,jn,⟨by omega,by omega⟩,ik,hq qq (List.mem_of_getElem? r5),?_⟩
   unfold Nf.hasAt;rw[r5];rfl
  have eD:IntKind.i64.wrap ((k:Int)+1)=((k+1:Nat):Int):=by rw[Zax (by omega) (by omega)];rfl
  refine⟨b2,o,hQ,⟨by omega,by omega⟩,_,(by rw[Int.toNat_natCast];exact cM),Zaa rfl (Zab (fun cZ=>?_) (fun cZ=>?_))⟩
  ·have nL:¬p=-1:=by simpa[intOf]using cZ
   have kY:p.toNat < A.fol.length:=by unfold Nf.top at mJ;omega
   obtain⟨w,hw⟩:=ZaE kY
   obtain⟨u,hu⟩:=ZaE (l:=vs) (k:=p.toNat) (by omega)
   obtain⟨wa,wc,rfl,gx,vS,_⟩:=(iM _ u w hu hw).mono il
   obtain⟨fb,fo,fX,fL⟩:=ZgK (hf.mono il) hu
   have iG:A.fromL p=w:=by unfold Nf.fromL;rw[if_neg nL,hw];rfl
   refine Zaa rfl ⟨fb,fo,fX,⟨by show 0≤p;omega,by show p < (A.fol.length:Nat);omega⟩,_,(show m2 fb (fo+p.toNat*1)=some _ from fL),Zaa rfl ?_⟩
   refine⟨fun xs css _ m' q=>∃(j f2:Nat),j≤w.length∧xs=[.int .i64 j]∧css=[bwL f2]∧(w.drop j).foldl (A.step1 ch) f2=(A.fromL p).foldl (A.step1 ch) f∧m2.le m'∧q=w.length - j,⟨_,0,f,Nat.zero_le _,rfl,rfl,by rw[iG];rfl,Mem.le_refl _,rfl⟩,?_⟩
   rintro z cs m3 q cG ⟨j,f2,hj,hz,cH,iL,_,hq⟩
   obtain rfl:z=j:=by simpa using hz
   obtain rfl:cs=bwL f2:=by simpa using cH
   subst hq
   refine Zab (fun ii=>?_) (fun iX=>?_)
   ·have fI:j < w.length:=by have:=of_decide_eq_true ii;simp only[slN]at this;omega
    obtain⟨x,hx⟩:=ZaE fI
    obtain⟨b3,o3,mt,j5⟩:=ZdP (gx.mono cG) hx
    obtain⟨i,bs,os,qq,rfl,hi,jn,gL,ik,r6,kf⟩:=Zvs w iG vS wa gx j f2 m3 x cG hx
    rw[ZcO hx,List.foldl_cons]at iL
    have eC:IntKind.i64.wrap ((j:Int)+1)=((j+1:Nat):Int):=by rw[Zax (by omega) (by omega)];rfl
    refine Zaa rfl ⟨b3,o3,mt,⟨by omega,by show(j:Int) < (w.length:Nat);omega⟩,.int .i64 (i:Int),(by rw[Int.toNat_natCast];exact j5),Zaa rfl ⟨bs,os,jn,gL,_,_,_,_,ik,?_⟩⟩
    refine Zaj (ZsD qq r6 ch lp m3) fun m4 cY=>Zab (fun hh=>?_) (fun hh=>?_)
    ·refine⟨_,trivial,Zlz f2 i hi b1 100 7 [] [] m4 (by omega),fun v _ _ h=>by rw[h.1];rfl,fun m5 dX cs5 j7=>⟨by trivial,_,by omega,j+1,f2|||2 ^ i,fI,by rw[eC],?_,?_,Mem.le_trans cG (Mem.le_trans cY dX),rfl⟩⟩
     ·have:=j7.2
      simp only[List.nil_append,List.append_nil]at this
      exact this
     ·rw[kf]at hh
      rw[←iL];unfold Nf.step1;rw[if_pos hh,Int.toNat_natCast]
    ·refine⟨by trivial,_,by omega,j+1,f2,fI,by rw[eC],rfl,?_,Mem.le_trans cG cY,rfl⟩
     rw[kf]at hh
     rw[←iL];unfold Nf.step1;rw[if_neg (by simp[hh])]
   ·have:j=w.length:=by have:=of_decide_eq_false iX;simp only[slN]at this;omega
    subst this
    rw[List.drop_length,List.foldl_nil]at iL
    exact⟨by trivial,_,by omega,k+1,f2,bJ,by rw[eD],rfl,by rw[iL];exact he',Mem.le_trans bN cG,rfl⟩
  ·have nL:p=-1:=by simpa[intOf]using cZ
   have iG:A.fromL p=A.first:=by unfold Nf.fromL;rw[if_pos nL]
   refine⟨fun xs css _ m' q=>∃(j f2:Nat),j≤A.first.length∧xs=[.int .i64 j]∧css=[bwL f2]∧(A.first.drop j).foldl (A.step1 ch) f2=(A.fromL p).foldl (A.step1 ch) f∧m2.le m'∧q=A.first.length - j,⟨_,0,f,Nat.zero_le _,rfl,rfl,by rw[iG];rfl,Mem.le_refl _,rfl⟩,?_⟩
   rintro z cs m3 q cG ⟨j,f2,hj,hz,cH,iL,_,hq⟩
   obtain rfl:z=j:=by simpa using hz
   obtain rfl:cs=bwL f2:=by simpa using cH
   subst hq
   refine Zab (fun ii=>?_) (fun iX=>?_)
   ·have fI:j < A.first.length:=by have:=of_decide_eq_true ii;omega
    obtain⟨x,hx⟩:=ZaE fI
    obtain⟨b3,o3,mt,j5⟩:=ZdP ((kq.mono il).mono cG) hx
    obtain⟨i,bs,os,qq,rfl,hi,jn,gL,ik,r6,kf⟩:=Zvs A.first iG gd xa (kq.mono il) j f2 m3 x cG hx
    rw[ZcO hx,List.foldl_cons]at iL
    have eC:IntKind.i64.wrap ((j:Int)+1)=((j+1:Nat):Int):=by rw[Zax (by omega) (by omega)];rfl
    refine⟨b3,o3,mt,⟨by omega,by omega⟩,.int .i64 (i:Int),(by rw[Int.toNat_natCast];exact j5),Zaa rfl ⟨bs,os,jn,gL,_,_,_,_,ik,?_⟩⟩
    refine Zaj (ZsD qq r6 ch lp m3) fun m4 cY=>Zab (fun hh=>?_) (fun hh=>?_)
    ·refine⟨_,trivial,Zlz f2 i hi b1 100 7 [] [] m4 (by omega),fun v _ _ h=>by rw[h.1];rfl,fun m5 dX cs5 j7=>⟨by trivial,_,by omega,j+1,f2|||2 ^ i,fI,by rw[eC],?_,?_,Mem.le_trans cG (Mem.le_trans cY dX),rfl⟩⟩
     ·have:=j7.2
      simp only[List.nil_append,List.append_nil]at this
      exact this
     ·rw[kf]at hh
      rw[←iL];unfold Nf.step1;rw[if_pos hh,Int.toNat_natCast]
    ·refine⟨by trivial,_,by omega,j+1,f2,fI,by rw[eC],rfl,?_,Mem.le_trans cG cY,rfl⟩
     rw[kf]at hh
     rw[←iL];unfold Nf.step1;rw[if_neg (by simp[hh])]
   ·have:j=A.first.length:=by have:=of_decide_eq_false iX;omega
    subst this
    rw[List.drop_length,List.foldl_nil]at iL
    exact⟨by trivial,_,by omega,k+1,f2,bJ,by rw[eD],rfl,by rw[iL];exact he',Mem.le_trans bN cG,rfl⟩
 ·have:k=l.length:=by have:=of_decide_eq_false cS;omega
  subst this
  rw[List.drop_length]at he
  intro m3 cG gm
  refine Zam (ZkG f b1 0 m3 gm) ZfM ?_
  intro a4 n4 c4 m4 cY hR
  refine⟨m4,Mem.le_trans il (Mem.le_trans cG cY),Mem.le_refl _,?_⟩
  have:A.step l ch=ZbX f:=by unfold Nf.step;rw[←he];rfl
  rw[this];exact hR
end Go.Proofs.Ytplacemlpkhmfaa

