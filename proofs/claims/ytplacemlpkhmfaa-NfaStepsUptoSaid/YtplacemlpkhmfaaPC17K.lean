/- Part of the proof: conditions and contracts of functions of this program. No condition of its own. -/
import Derived.Test.YtplacemlpkhmfaaPVND
import Derived.Test.YtplacemlpkhmfaaPC17J
import Derived.Test.YtplacemlpkhmfaaPC13C
import Derived.Test.YtplacemlpkhmfaaMr
set_option linter.unusedVariables false
set_option linter.unusedSimpArgs false
namespace Go.Proofs.Ytplacemlpkhmfaa
open Go Go.Eng Go.Rx Go.Proofs Go.RowKit
set_option maxRecDepth 100000
theorem Zr7(q:QS)(hq:QOk q)(c:Nat)(hc:c < 256)(m:Mem):CX Try.prog 117 #[.agg #[.int .u64 q.1,.int .u64 q.2.1,.int .u64 q.2.2.1,.int .u64 q.2.2.2],.int .u8 c] m [] (Ret (.bool (Zq1 q c))):=
 Zt4 (ZtV q) c hc m (ZvQ hq m)
theorem Zue(l:List Int)(a:Option Addr)(c:Nat)(m:Mem)(h:rowRd m a (Zaq l))(hl:l.length≤1000000)(gk:∀p∈l,0≤p∧p < 448):CX Try.prog 112 #[.slice a l.length c] m [] (Ret (bwV (ZuN l 0))):=by
 apply Zo3
 unfold Zlf
 intro b b1
 refine⟨fun xs css _ m' q=>∃(k f:Nat),k≤l.length∧xs=[.int .i64 k]∧css=[bwL f]∧ZuN (l.drop k) f=ZuN l 0∧m.le m'∧q=l.length - k,⟨_,0,0,Nat.zero_le _,rfl,by rw[Zk5],rfl,Mem.le_refl _,rfl⟩,?_⟩
 rintro z cs m1 q bD ⟨k,f,hk,hz,cF,he,_,hq⟩
 obtain rfl:z=k:=by simpa using hz
 obtain rfl:cs=bwL f:=by simpa using cF
 subst hq
 refine Zab (fun bV=>?_) (fun cK=>?_)
 ·have bF:k < l.length:=by have:=of_decide_eq_true bV;omega
  obtain⟨x,hx⟩:=Zam bF
  obtain⟨b2,o,gp,cO⟩:=Zba (h.mono bD) hx
  have wu:=gk x (List.mem_of_getElem? hx)
  obtain⟨i,rfl⟩:∃i:Nat,x=i:=⟨x.toNat,by omega⟩
  rw[Zce hx]at he
  refine⟨b2,o,gp,⟨by omega,by omega⟩,_,(by rw[Int.toNat_natCast];exact cO),_,trivial,Zlg f i (by omega) b1 100 7 [] [] m1 (by omega),fun v _ _ h=>by rw[h.1];rfl,fun m2 bZ cs2 ka=>⟨by trivial,_,by omega,k+1,f|||2 ^ i,bF,by rw[Zau (by omega) (by omega)];rfl,?_,he,Mem.le_trans bD bZ,rfl⟩⟩
  have:=ka.2
  simp only[List.nil_append,List.append_nil]at this
  exact this
 ·have:k=l.length:=by have:=of_decide_eq_false cK;omega
  subst this
  rw[List.drop_length]at he
  refine Zaa rfl (Zad bD ?_)
  rw[←he];rfl
theorem Zuf(A:Nf)(f:Nat)(p:Int)(hp : -1≤p∧p < 448)(s0 s1 s2 s3:Value)(b c:Nat)(m:Mem)(hb:m.reads b 0 [s0,s1,s2,s3,.bool A.empty])(hc:m.reads c 0 (bwL f)):CX Try.prog 114 #[.int .i64 p,.pointer (some ⟨b,0,none⟩),.pointer (some ⟨c,0,none⟩)] m [] (Ret (.bool (if p=-1 then A.empty else f.testBit p.toNat))):=by
 apply ZgE
 unfold ZdL
 by_cases h:p=-1
 ·subst h
  rw[if_pos rfl]
  refine⟨A.empty,Zcc (by decide) ⟨_,(by simpa using hb 4 _ rfl),?_⟩,Zad (Mem.le_refl _) rfl⟩
  cases A.empty
  ·exact Zaa rfl (Zbo rfl (Zbo (by decide) rfl))
  ·exact Zaa rfl (Zcc rfl rfl)
 ·rw[if_neg h]
  obtain⟨i,rfl⟩:∃i:Nat,p=i:=⟨p.toNat,by omega⟩
  refine⟨f.testBit i,Zbo (by simp) (Zcc (by simp) ?_),Zad (Mem.le_refl _) (by rw[Int.toNat_natCast])⟩
  exact Zah (Zr0 f i (by omega) c 0 m hc) fun m1 bD=>rfl
theorem Zrq(l:List Int)(a:Option Addr)(c:Nat)(g:Nat)(ca:List Value)(p:Int→Bool)(m:Mem)(h:rowRd m a (Zaq l))(hl:l.length≤1000000)(hg:∀x∈l,∀m',m.le m'→CX Try.prog g (([.int .i64 x]:List Value)++ca).toArray m' [] (Ret (.bool (p x)))):
  CX Try.prog 113 #[.slice a l.length c,.func (.func g) #[] ca.toArray] m [] (Ret (.bool (l.any p))):=by
 have r5:CX Try.prog 146 #[.slice a l.length c,.func (.func g) #[] ca.toArray] m [] (fun v _ _=>∃n:Int,v=.int .i64 n∧decide (n ≥ 0)=l.any p):=by
  apply Zb4 a l.length c g [] ca
  unfold Zbm
  refine⟨fun xs _ _ m' q=>∃k:Nat,k≤l.length∧xs=[.int .i64 k]∧(l.drop k).any p=l.any p∧m.le m'∧q=l.length - k,⟨_,0,Nat.zero_le _,rfl,rfl,Mem.le_refl _,rfl⟩,?_⟩
  rintro z m1 q bD ⟨k,hk,hz,he,_,hq⟩
  obtain rfl:z=k:=by simpa using hz
  subst hq
  refine Zab (fun bV=>?_) (fun cK=>?_)
  ·have bF:k < l.length:=by have:=of_decide_eq_true bV;omega
   obtain⟨x,hx⟩:=Zam bF
   obtain⟨b2,o,gp,cO⟩:=Zba (h.mono bD) hx
   rw[Zce hx,List.any_cons]at he
   refine⟨b2,o,gp,⟨by omega,by omega⟩,_,(by rw[Int.toNat_natCast];exact cO),Zah (hg x (List.mem_of_getElem? hx) m1 bD) fun m2 bZ=>Zab (fun h2=>?_) (fun h2=>⟨_,by omega,k+1,bF,by rw[Zau (by omega) (by omega)];rfl,?_,Mem.le_trans bD bZ,rfl⟩)⟩
   ·refine⟨_,Mem.le_trans bD bZ,Mem.le_refl _,_,rfl,?_⟩
    rw[←he,h2];simp
   ·rw[←he,h2];rfl
  ·have:k=l.length:=by have:=of_decide_eq_false cK;omega
   subst this
   refine⟨_,bD,Mem.le_refl _,_,rfl,?_⟩
   rw[←he,List.drop_length];rfl
 apply ZbL a l.length c g [] ca
 unfold Za1
 refine Zat r5 (by rintro v m' css ⟨n,rfl,_⟩;rfl) ?_
 rintro n m1 bD ⟨n',hn,he⟩
 cases hn
 exact Zad bD (by rw[←he])
theorem Zia{st:Bool}(A:Nf)(hA:A.Ok)(v:Value)(l:List Int)(a:Option Addr)(c:Nat)(m:Mem)(h:NfR st A v m)(hl:rowRd m a (Zaq l))(dM:l.length≤1000000)(hs:A.states l=true):CX Try.prog 68 #[v,.slice a l.length c] m [] (Ret (.bool (A.accepts l))):=by
 obtain⟨s,f,x,y,rfl,⟨sa,sc,rfl,hs',dL,iw⟩,⟨fa,fc,vs,rfl,hf,f8,gN,fT⟩,⟨xa,xc,rfl,hx,dY,gq⟩,⟨ya,yc,rfl,hy,dD,gC⟩⟩:=h
 have hn:=hA.n
 apply ZiC
 unfold Zfm
 intro b m1 bD hb
 refine Zat (Zue A.last ya yc m1 (hy.mono bD) dD (fun p hp=>by have:=hA.last.2 p hp;unfold Nf.top at this;omega)) (by rintro v m' css rfl;rfl) ?_
 intro n0 n1 n2 n3 n4 n5 n6 m2 bZ hv
 simp only[Ret,bwV,Value.agg.injEq,Array.mk.injEq,List.cons.injEq,Value.int.injEq,true_and,and_true]at hv
 obtain⟨rfl,rfl,rfl,rfl,rfl,rfl,rfl⟩:=hv
 intro b1 m3 cD eI
 have kT:=Mem.le_trans bZ cD
 refine Zah (Zrq l a c _ [.pointer (some ⟨b,0,none⟩),.pointer (some ⟨b1,0,none⟩)] A.acc1 m3 ((hl.mono bD).mono kT) dM fun p hp m4 dC=>?_) fun m5 cX=>Zad (Mem.le_trans bD (Mem.le_trans kT cX)) rfl
 have:=ZfL hs p hp
 exact Zuf A (ZuN A.last 0) p ⟨by omega,by unfold Nf.top at this;omega⟩ _ _ _ _ b b1 m4 ((hb.mono kT).mono dC) (Mem.reads.mono eI dC)
theorem Zp4{st:Bool}(A:Nf)(v:Value)(l:List Int)(a:Option Addr)(c:Nat)(m:Mem)(h:NfR st A v m)(hl:rowRd m a (Zaq l))(dM:l.length≤1000000):CX Try.prog 78 #[v,.slice a l.length c] m [] (Ret (.int .i64 (A.err l))):=by
 have h':=h
 obtain⟨s,f,x,y,rfl,⟨sa,sc,rfl,hs',dL,iw⟩,⟨fa,fc,vs,rfl,hf,f8,gN,fT⟩,⟨xa,xc,rfl,hx,dY,gq⟩,⟨ya,yc,rfl,hy,dD,gC⟩⟩:=h
 apply ZlW
 unfold ZhE
 intro b m1 bD hb
 refine Zah (Zkf A _ m1 (h'.mono bD)) fun m2 bZ=>Zab (fun h1=>Zad (Mem.le_trans bD bZ) ?_) (fun h1=>?_)
 ·unfold Nf.err;rw[if_pos (by simpa using h1)]
 have hr:A.right=true:=by simpa using h1
 have hw:IntKind.i64.wrap ((A.sets.length:Int) - 1)=A.top:=Zau (by omega) (by omega)
 simp only[hw]
 refine Zah (ZhB l (-1) A.top a c m2 ((hl.mono bD).mono bZ) dM ⟨by omega,by omega⟩) fun m3 cD=>Zab (fun h2=>Zad (Mem.le_trans bD (Mem.le_trans bZ cD)) ?_) (fun h2=>Zad (Mem.le_trans bD (Mem.le_trans bZ cD)) ?_)
 ·have:A.states l=false:=by unfold Nf.states;simpa using h2
  unfold Nf.err;rw[hr,this];rfl
 ·have:A.states l=true:=by unfold Nf.states;simpa using h2
  unfold Nf.err;rw[hr,this];rfl
theorem Zp5{st:Bool}(A:Nf)(hA:A.Ok)(hq:∀q∈A.sets,QOk q)(v:Value)(l:List Int)(a:Option Addr)(c ch:Nat)(ip:ch < 256)(m:Mem)(h:NfR st A v m)(hl:rowRd m a (Zaq l))(dM:l.length≤1000000)(hs:A.states l=true):CX Try.prog 79 #[v,.slice a l.length c,.int .u8 ch] m [] (fun v m' _=>SlI true (A.step l ch) v m'∧NewS m v):=by
 obtain⟨s,f,x,y,rfl,⟨sa,sc,rfl,hs',dL,iw⟩,⟨fa,fc,vs,rfl,hf,f8,gN,fT⟩,⟨xa,xc,rfl,kZ,dY,gq⟩,⟨ya,yc,rfl,hy,dD,gC⟩⟩:=h
 have hn:=hA.n
 have bY:=hA.len
 apply ZnS
 unfold Zjr
 intro b m1 bD hb b1
 refine⟨fun xs css _ m' q=>∃(k f:Nat),k≤l.length∧xs=[.int .i64 k]∧css=[bwL f]∧A.stepM (l.drop k) ch f=A.stepM l ch 0∧m1.le m'∧q=l.length - k,⟨_,0,0,Nat.zero_le _,rfl,by rw[Zk5],rfl,Mem.le_refl _,rfl⟩,?_⟩
 rintro z cs m2 q bZ ⟨k,f,hk,hz,cF,he,_,hq⟩
 obtain rfl:z=k:=by simpa using hz
 obtain rfl:cs=bwL f:=by simpa using cF
 subst hq
 have dN:=Mem.le_trans bD bZ
 refine Zab (fun bV=>?_) (fun cK=>?_)
 ·have bF:k < l.length:=by have:=of_decide_eq_true bV;omega
  obtain⟨p,hp⟩:=Zam bF
  obtain⟨b2,o,gp,cO⟩:=Zba (hl.mono dN) hp
  have kL:=ZfL hs p (List.mem_of_getElem? hp)
  rw[Zce hp]at he
  have he':A.stepM (l.drop (k+1)) ch ((A.fromL p).foldl (A.step1 ch) f)=A.stepM l ch 0:=he
  have ZuO:∀(w:List Int),A.fromL p=w→w.length≤1000000→∀(wa:Option Addr),rowRd m2 wa (Zaq w)→∀(k2 f2:Nat)(m3:Mem)(x:Int),m2.le m3→w[k2]?=some x→∃(i:Nat)(bs os:Nat)(qq:QS),x=i∧i < 448∧sa=some ⟨bs,os,none⟩∧(0≤x∧x < (A.sets.length:Nat))∧m3.reads bs (os+x.toNat*4) [.int .u64 qq.1,.int .u64 qq.2.1,.int .u64 qq.2.2.1,.int .u64 qq.2.2.2]∧QOk qq∧Zq1 qq ch=A.hasAt x ch:=by
   intro w hw _ wa _ k2 f2 m3 x cD hx
   have hb:=(ZfM hA p).2 x (by rw[hw];exact List.mem_of_getElem? hx)
   unfold Nf.top at hb
   obtain⟨qq,jA⟩:=Zam (l:=A.sets) (k:=x.toNat) (by omega)
   obtain⟨bs,os,iD,eD⟩:=Zgm ((hs'.mono dN).mono cD) jA
   refine⟨x.toNat,bs,os,qq,by omega,by omega,iD,⟨by omega,by omega⟩,eD,hq qq (List.mem_of_getElem? jA),?_⟩
   unfold Nf.hasAt;rw[jA];rfl
  have dT:IntKind.i64.wrap ((k:Int)+1)=((k+1:Nat):Int):=by rw[Zau (by omega) (by omega)];rfl
  refine⟨b2,o,gp,⟨by omega,by omega⟩,_,(by rw[Int.toNat_natCast];exact cO),Zaa rfl (Zab (fun cM=>?_) (fun cM=>?_))⟩
  ·have j5:¬p=-1:=by simpa[intOf]using cM
   have kw:p.toNat < A.fol.length:=by unfold Nf.top at kL;omega
   obtain⟨w,hw⟩:=Zam kw
   obtain⟨u,hu⟩:=Zam (l:=vs) (k:=p.toNat) (by omega)
   obtain⟨wa,wc,rfl,iV,r6,_⟩:=(fT _ u w hu hw).mono dN
   obtain⟨fb,fo,gz,dU⟩:=ZbO (hf.mono dN) hu
   have fD:A.fromL p=w:=by unfold Nf.fromL;rw[if_neg j5,hw];rfl
   refine Zaa rfl ⟨fb,fo,gz,⟨by show 0≤p;omega,by show p < (A.fol.length:Nat);omega⟩,_,(show m2 fb (fo+p.toNat*1)=some _ from dU),Zaa rfl ?_⟩
   refine⟨fun xs css _ m' q=>∃(j f2:Nat),j≤w.length∧xs=[.int .i64 j]∧css=[bwL f2]∧(w.drop j).foldl (A.step1 ch) f2=(A.fromL p).foldl (A.step1 ch) f∧m2.le m'∧q=w.length - j,⟨_,0,f,Nat.zero_le _,rfl,rfl,by rw[fD];rfl,Mem.le_refl _,rfl⟩,?_⟩
   rintro z cs m3 q cD ⟨j,f2,hj,hz,cF,iY,_,hq⟩
   obtain rfl:z=j:=by simpa using hz
   obtain rfl:cs=bwL f2:=by simpa using cF
   subst hq
   refine Zab (fun eK=>?_) (fun gU=>?_)
   ·have cS:j < w.length:=by have:=of_decide_eq_true eK;simp only[slN]at this;omega
    obtain⟨x,hx⟩:=Zam cS
    obtain⟨b3,o3,iz,gT⟩:=Zba (iV.mono cD) hx
    obtain⟨i,bs,os,qq,rfl,hi,iD,gk,eD,r7,gV⟩:=ZuO w fD r6 wa iV j f2 m3 x cD hx
    rw[Zce hx,List.foldl_cons]at iY
    have dE:IntKind.i64.wrap ((j:Int)+1)=((j+1:Nat):Int):=by rw[Zau (by omega) (by omega)];rfl
    refine Zaa rfl ⟨b3,o3,iz,⟨by omega,by show(j:Int) < (w.length:Nat);omega⟩,.int .i64 (i:Int),(by rw[Int.toNat_natCast];exact gT),Zaa rfl ⟨bs,os,iD,gk,_,_,_,_,eD,?_⟩⟩
    refine Zah (Zr7 qq r7 ch ip m3) fun m4 dC=>Zab (fun hh=>?_) (fun hh=>?_)
    ·refine⟨_,trivial,Zlg f2 i hi b1 100 7 [] [] m4 (by omega),fun v _ _ h=>by rw[h.1];rfl,fun m5 cX cs5 kd=>⟨by trivial,_,by omega,j+1,f2|||2 ^ i,cS,by rw[dE],?_,?_,Mem.le_trans cD (Mem.le_trans dC cX),rfl⟩⟩
     ·have:=kd.2
      simp only[List.nil_append,List.append_nil]at this
      exact this
     ·rw[gV]at hh
      rw[←iY];unfold Nf.step1;rw[if_pos hh,Int.toNat_natCast]
    ·refine⟨by trivial,_,by omega,j+1,f2,cS,by rw[dE],rfl,?_,Mem.le_trans cD dC,rfl⟩
     rw[gV]at hh
     rw[←iY];unfold Nf.step1;rw[if_neg (by simp[hh])]
   ·have:j=w.length:=by have:=of_decide_eq_false gU;simp only[slN]at this;omega
    subst this
    rw[List.drop_length,List.foldl_nil]at iY
    exact⟨by trivial,_,by omega,k+1,f2,bF,by rw[dT],rfl,by rw[iY];exact he',Mem.le_trans bZ cD,rfl⟩
  ·have j5:p=-1:=by simpa[intOf]using cM
   have fD:A.fromL p=A.first:=by unfold Nf.fromL;rw[if_pos j5]
   refine⟨fun xs css _ m' q=>∃(j f2:Nat),j≤A.first.length∧xs=[.int .i64 j]∧css=[bwL f2]∧(A.first.drop j).foldl (A.step1 ch) f2=(A.fromL p).foldl (A.step1 ch) f∧m2.le m'∧q=A.first.length - j,⟨_,0,f,Nat.zero_le _,rfl,rfl,by rw[fD];rfl,Mem.le_refl _,rfl⟩,?_⟩
   rintro z cs m3 q cD ⟨j,f2,hj,hz,cF,iY,_,hq⟩
   obtain rfl:z=j:=by simpa using hz
   obtain rfl:cs=bwL f2:=by simpa using cF
   subst hq
   refine Zab (fun eK=>?_) (fun gU=>?_)
   ·have cS:j < A.first.length:=by have:=of_decide_eq_true eK;omega
    obtain⟨x,hx⟩:=Zam cS
    obtain⟨b3,o3,iz,gT⟩:=Zba ((kZ.mono dN).mono cD) hx
    obtain⟨i,bs,os,qq,rfl,hi,iD,gk,eD,r7,gV⟩:=ZuO A.first fD dY xa (kZ.mono dN) j f2 m3 x cD hx
    rw[Zce hx,List.foldl_cons]at iY
    have dE:IntKind.i64.wrap ((j:Int)+1)=((j+1:Nat):Int):=by rw[Zau (by omega) (by omega)];rfl
    refine⟨b3,o3,iz,⟨by omega,by omega⟩,.int .i64 (i:Int),(by rw[Int.toNat_natCast];exact gT),Zaa rfl ⟨bs,os,iD,gk,_,_,_,_,eD,?_⟩⟩
    refine Zah (Zr7 qq r7 ch ip m3) fun m4 dC=>Zab (fun hh=>?_) (fun hh=>?_)
    ·refine⟨_,trivial,Zlg f2 i hi b1 100 7 [] [] m4 (by omega),fun v _ _ h=>by rw[h.1];rfl,fun m5 cX cs5 kd=>⟨by trivial,_,by omega,j+1,f2|||2 ^ i,cS,by rw[dE],?_,?_,Mem.le_trans cD (Mem.le_trans dC cX),rfl⟩⟩
     ·have:=kd.2
      simp only[List.nil_append,List.append_nil]at this
      exact this
     ·rw[gV]at hh
      rw[←iY];unfold Nf.step1;rw[if_pos hh,Int.toNat_natCast]
    ·refine⟨by trivial,_,by omega,j+1,f2,cS,by rw[dE],rfl,?_,Mem.le_trans cD dC,rfl⟩
     rw[gV]at hh
     rw[←iY];unfold Nf.step1;rw[if_neg (by simp[hh])]
   ·have:j=A.first.length:=by have:=of_decide_eq_false gU;omega
    subst this
    rw[List.drop_length,List.foldl_nil]at iY
    exact⟨by trivial,_,by omega,k+1,f2,bF,by rw[dT],rfl,by rw[iY];exact he',Mem.le_trans bZ cD,rfl⟩
 ·have:k=l.length:=by have:=of_decide_eq_false cK;omega
  subst this
  rw[List.drop_length]at he
  intro m3 cD fP
  refine Zat (ZsU f b1 0 m3 fP) (fun v m' css h=>ZbB v m' css h.1) ?_
  intro a4 n4 c4 m4 dC hR
  refine⟨m4,Mem.le_trans dN (Mem.le_trans cD dC),Mem.le_refl _,?_⟩
  have:A.step l ch=ZbZ f:=by unfold Nf.step;rw[←he];rfl
  rw[this];exact⟨hR.1,hR.2.less (Mem.le_trans dN cD)⟩
theorem Zug{st:Bool}(A:Nf)(hA:A.Ok)(hq:∀q∈A.sets,QOk q)(v:Value)(l:List Int)(a:Option Addr)(c ch:Nat)(ip:ch < 256)(m:Mem)(h:NfR st A v m)(hl:rowRd m a (Zaq l))(dM:l.length≤1000000)(hs:A.states l=true):CX Try.prog 79 #[v,.slice a l.length c,.int .u8 ch] m [] (fun v m' _=>SlI true (A.step l ch) v m'):=(Zp5 A hA hq v l a c ch ip m h hl dM hs).mono fun _ _ _ _ h=>h.1
end Go.Proofs.Ytplacemlpkhmfaa

