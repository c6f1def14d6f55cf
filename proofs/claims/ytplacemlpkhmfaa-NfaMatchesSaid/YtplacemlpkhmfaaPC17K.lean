/- Part of the proof: conditions and contracts of functions of this program. No condition of its own. -/
import Derived.Test.YtplacemlpkhmfaaPVND
import Derived.Test.YtplacemlpkhmfaaPC17J
import Derived.Test.YtplacemlpkhmfaaPC13C
import Derived.Test.YtplacemlpkhmfaaMr
set_option linter.unusedVariables false
set_option linter.unusedSimpArgs false
namespace Go.Proofs.Ytplacemlpkhmfaa
open Go Go.Eng Go.Rx Go.Proofs Go.RowKit
set_option maxRecDepth 100000
theorem ZuF(q:QS)(hq:QOk q)(c:Nat)(hc:c < 256)(m:Mem):CX Try.prog 117 #[.agg #[.int .u64 q.1,.int .u64 q.2.1,.int .u64 q.2.2.1,.int .u64 q.2.2.2],.int .u8 c] m [] (Ret (.bool (ZyD q c))):=
 Zsi (ZwL q) c hc m (ZyP hq m)
theorem Zxd(l:List Int)(a:Option Addr)(c:Nat)(m:Mem)(h:rowRd m a (ZaA l))(hl:l.length≤1000000)(gZ:∀p∈l,0≤p∧p < 448):CX Try.prog 112 #[.slice a l.length c] m [] (Ret (bwV (ZxG l 0))):=by
 apply Zre
 unfold Zm3
 intro b b1
 refine⟨fun xs css _ m' q=>∃(k f:Nat),k≤l.length∧xs=[.int .i64 k]∧css=[bwL f]∧ZxG (l.drop k) f=ZxG l 0∧m.le m'∧q=l.length - k,⟨_,0,0,Nat.zero_le _,rfl,by rw[ZkD],rfl,Mem.le_refl _,rfl⟩,?_⟩
 rintro z cs m1 q bJ ⟨k,f,hk,hz,cK,he,_,hq⟩
 obtain rfl:z=k:=by simpa using hz
 obtain rfl:cs=bwL f:=by simpa using cK
 subst hq
 refine Zab (fun bS=>?_) (fun cX=>?_)
 ·have bR:k < l.length:=by have:=of_decide_eq_true bS;omega
  obtain⟨x,hx⟩:=ZaF bR
  obtain⟨b2,o,ip,cU⟩:=Zd9 (h.mono bJ) hx
  have wJ:=gZ x (List.mem_of_getElem? hx)
  obtain⟨i,rfl⟩:∃i:Nat,x=i:=⟨x.toNat,by omega⟩
  rw[Zcd hx]at he
  refine⟨b2,o,ip,⟨by omega,by omega⟩,_,(by rw[Int.toNat_natCast];exact cU),_,trivial,Zk2 f i (by omega) b1 100 7 [] [] m1 (by omega),fun v _ _ h=>by rw[h.1];rfl,fun m2 bT cs2 kp=>⟨by trivial,_,by omega,k+1,f|||2 ^ i,bR,by rw[Zat (by omega) (by omega)];rfl,?_,he,Mem.le_trans bJ bT,rfl⟩⟩
  have:=kp.2
  simp only[List.nil_append,List.append_nil]at this
  exact this
 ·have:k=l.length:=by have:=of_decide_eq_false cX;omega
  subst this
  rw[List.drop_length]at he
  refine Zaa rfl (Zac bJ ?_)
  rw[←he];rfl
theorem Zxe(A:Nf)(f:Nat)(p:Int)(hp : -1≤p∧p < 448)(s0 s1 s2 s3:Value)(b c:Nat)(m:Mem)(hb:m.reads b 0 [s0,s1,s2,s3,.bool A.empty])(hc:m.reads c 0 (bwL f)):CX Try.prog 114 #[.int .i64 p,.pointer (some ⟨b,0,none⟩),.pointer (some ⟨c,0,none⟩)] m [] (Ret (.bool (if p=-1 then A.empty else f.testBit p.toNat))):=by
 apply ZhX
 unfold ZeH
 by_cases h:p=-1
 ·subst h
  rw[if_pos rfl]
  refine⟨A.empty,ZcG (by decide) ⟨_,(by simpa using hb 4 _ rfl),?_⟩,Zac (Mem.le_refl _) rfl⟩
  cases A.empty
  ·exact Zaa rfl (Za7 rfl (Za7 (by decide) rfl))
  ·exact Zaa rfl (ZcG rfl rfl)
 ·rw[if_neg h]
  obtain⟨i,rfl⟩:∃i:Nat,p=i:=⟨p.toNat,by omega⟩
  refine⟨f.testBit i,Za7 (by simp) (ZcG (by simp) ?_),Zac (Mem.le_refl _) (by rw[Int.toNat_natCast])⟩
  exact Zak (ZuB f i (by omega) c 0 m hc) fun m1 bJ=>rfl
theorem ZtM(l:List Int)(a:Option Addr)(c:Nat)(g:Nat)(ca:List Value)(p:Int→Bool)(m:Mem)(h:rowRd m a (ZaA l))(hl:l.length≤1000000)(hg:∀x∈l,∀m',m.le m'→CX Try.prog g (([.int .i64 x]:List Value)++ca).toArray m' [] (Ret (.bool (p x)))):
  CX Try.prog 113 #[.slice a l.length c,.func (.func g) #[] ca.toArray] m [] (Ret (.bool (l.any p))):=by
 have sw:CX Try.prog 146 #[.slice a l.length c,.func (.func g) #[] ca.toArray] m [] (fun v _ _=>∃n:Int,v=.int .i64 n∧decide (n ≥ 0)=l.any p):=by
  apply Zcu a l.length c g [] ca
  unfold Zbt
  refine⟨fun xs _ _ m' q=>∃k:Nat,k≤l.length∧xs=[.int .i64 k]∧(l.drop k).any p=l.any p∧m.le m'∧q=l.length - k,⟨_,0,Nat.zero_le _,rfl,rfl,Mem.le_refl _,rfl⟩,?_⟩
  rintro z m1 q bJ ⟨k,hk,hz,he,_,hq⟩
  obtain rfl:z=k:=by simpa using hz
  subst hq
  refine Zab (fun bS=>?_) (fun cX=>?_)
  ·have bR:k < l.length:=by have:=of_decide_eq_true bS;omega
   obtain⟨x,hx⟩:=ZaF bR
   obtain⟨b2,o,ip,cU⟩:=Zd9 (h.mono bJ) hx
   rw[Zcd hx,List.any_cons]at he
   refine⟨b2,o,ip,⟨by omega,by omega⟩,_,(by rw[Int.toNat_natCast];exact cU),Zak (hg x (List.mem_of_getElem? hx) m1 bJ) fun m2 bT=>Zab (fun h2=>?_) (fun h2=>⟨_,by omega,k+1,bR,by rw[Zat (by omega) (by omega)];rfl,?_,Mem.le_trans bJ bT,rfl⟩)⟩
   ·refine⟨_,Mem.le_trans bJ bT,Mem.le_refl _,_,rfl,?_⟩
    rw[←he,h2];simp
   ·rw[←he,h2];rfl
  ·have:k=l.length:=by have:=of_decide_eq_false cX;omega
   subst this
   refine⟨_,bJ,Mem.le_refl _,_,rfl,?_⟩
   rw[←he,List.drop_length];rfl
 apply Zb1 a l.length c g [] ca
 unfold Za6
 refine Zap sw (by rintro v m' css ⟨n,rfl,_⟩;rfl) ?_
 rintro n m1 bJ ⟨n',hn,he⟩
 cases hn
 exact Zac bJ (by rw[←he])
theorem Zm5{st:Bool}(A:Nf)(hA:A.Ok)(v:Value)(l:List Int)(a:Option Addr)(c:Nat)(m:Mem)(h:NfR st A v m)(hl:rowRd m a (ZaA l))(fN:l.length≤1000000)(hs:A.states l=true):CX Try.prog 68 #[v,.slice a l.length c] m [] (Ret (.bool (A.accepts l))):=by
 obtain⟨s,f,x,y,rfl,⟨sa,sc,rfl,hs',fB,jm⟩,⟨fa,fc,vs,rfl,hf,im,jJ,iK⟩,⟨xa,xc,rfl,hx,gq,iq⟩,⟨ya,yc,rfl,hy,eQ,jn⟩⟩:=h
 have hn:=hA.n
 apply Zj5
 unfold ZgQ
 intro b m1 bJ hb
 refine Zap (Zxd A.last ya yc m1 (hy.mono bJ) eQ (fun p hp=>by have:=hA.last.2 p hp;unfold Nf.top at this;omega)) (by rintro v m' css rfl;rfl) ?_
 intro n0 n1 n2 n3 n4 n5 n6 m2 bT hv
 simp only[Ret,bwV,Value.agg.injEq,Array.mk.injEq,List.cons.injEq,Value.int.injEq,true_and,and_true]at hv
 obtain⟨rfl,rfl,rfl,rfl,rfl,rfl,rfl⟩:=hv
 intro b1 m3 cH fU
 have sx:=Mem.le_trans bT cH
 refine Zak (ZtM l a c _ [.pointer (some ⟨b,0,none⟩),.pointer (some ⟨b1,0,none⟩)] A.acc1 m3 ((hl.mono bJ).mono sx) fN fun p hp m4 cQ=>?_) fun m5 cW=>Zac (Mem.le_trans bJ (Mem.le_trans sx cW)) rfl
 have:=ZmM hs p hp
 exact Zxe A (ZxG A.last 0) p ⟨by omega,by unfold Nf.top at this;omega⟩ _ _ _ _ b b1 m4 ((hb.mono sx).mono cQ) (Mem.reads.mono fU cQ)
theorem ZvN{st:Bool}(A:Nf)(v:Value)(l:List Int)(a:Option Addr)(c:Nat)(m:Mem)(h:NfR st A v m)(hl:rowRd m a (ZaA l))(fN:l.length≤1000000):CX Try.prog 78 #[v,.slice a l.length c] m [] (Ret (.int .i64 (A.err l))):=by
 have h':=h
 obtain⟨s,f,x,y,rfl,⟨sa,sc,rfl,hs',fB,jm⟩,⟨fa,fc,vs,rfl,hf,im,jJ,iK⟩,⟨xa,xc,rfl,hx,gq,iq⟩,⟨ya,yc,rfl,hy,eQ,jn⟩⟩:=h
 apply ZnF
 unfold Zi4
 intro b m1 bJ hb
 refine Zak (Zma A _ m1 (h'.mono bJ)) fun m2 bT=>Zab (fun h1=>Zac (Mem.le_trans bJ bT) ?_) (fun h1=>?_)
 ·unfold Nf.err;rw[if_pos (by simpa using h1)]
 have hr:A.right=true:=by simpa using h1
 have hw:IntKind.i64.wrap ((A.sets.length:Int) - 1)=A.top:=Zat (by omega) (by omega)
 simp only[hw]
 refine Zak (Zjc l (-1) A.top a c m2 ((hl.mono bJ).mono bT) fN ⟨by omega,by omega⟩) fun m3 cH=>Zab (fun h2=>Zac (Mem.le_trans bJ (Mem.le_trans bT cH)) ?_) (fun h2=>Zac (Mem.le_trans bJ (Mem.le_trans bT cH)) ?_)
 ·have:A.states l=false:=by unfold Nf.states;simpa using h2
  unfold Nf.err;rw[hr,this];rfl
 ·have:A.states l=true:=by unfold Nf.states;simpa using h2
  unfold Nf.err;rw[hr,this];rfl
theorem ZuG{st:Bool}(A:Nf)(hA:A.Ok)(hq:∀q∈A.sets,QOk q)(v:Value)(l:List Int)(a:Option Addr)(c ch:Nat)(kj:ch < 256)(m:Mem)(h:NfR st A v m)(hl:rowRd m a (ZaA l))(fN:l.length≤1000000)(hs:A.states l=true):CX Try.prog 79 #[v,.slice a l.length c,.int .u8 ch] m [] (fun v m' _=>SlI true (A.step l ch) v m'):=by
 obtain⟨s,f,x,y,rfl,⟨sa,sc,rfl,hs',fB,jm⟩,⟨fa,fc,vs,rfl,hf,im,jJ,iK⟩,⟨xa,xc,rfl,tX,gq,iq⟩,⟨ya,yc,rfl,hy,eQ,jn⟩⟩:=h
 have hn:=hA.n
 have bX:=hA.len
 apply ZpM
 unfold ZkZ
 intro b m1 bJ hb b1
 refine⟨fun xs css _ m' q=>∃(k f:Nat),k≤l.length∧xs=[.int .i64 k]∧css=[bwL f]∧A.stepM (l.drop k) ch f=A.stepM l ch 0∧m1.le m'∧q=l.length - k,⟨_,0,0,Nat.zero_le _,rfl,by rw[ZkD],rfl,Mem.le_refl _,rfl⟩,?_⟩
 rintro z cs m2 q bT ⟨k,f,hk,hz,cK,he,_,hq⟩
 obtain rfl:z=k:=by simpa using hz
 obtain rfl:cs=bwL f:=by simpa using cK
 subst hq
 have ik:=Mem.le_trans bJ bT
 refine Zab (fun bS=>?_) (fun cX=>?_)
 ·have bR:k < l.length:=by have:=of_decide_eq_true bS;omega
  obtain⟨p,hp⟩:=ZaF bR
  obtain⟨b2,o,ip,cU⟩:=Zd9 (hl.mono ik) hp
  have nk:=ZmM hs p (List.mem_of_getElem? hp)
  rw[Zcd hp]at he
  have he':A.stepM (l.drop (k+1)) ch ((A.fromL p).foldl (A.step1 ch) f)=A.stepM l ch 0:=he
  have ZxH:∀(w:List Int),A.fromL p=w→w.length≤1000000→∀(wa:Option Addr),rowRd m2 wa (ZaA w)→∀(k2 f2:Nat)(m3:Mem)(x:Int),m2.le m3→w[k2]?=some x→∃(i:Nat)(bs os:Nat)(qq:QS),x=i∧i < 448∧sa=some ⟨bs,os,none⟩∧(0≤x∧x < (A.sets.length:Nat))∧m3.reads bs (os+x.toNat*4) [.int .u64 qq.1,.int .u64 qq.2.1,.int .u64 qq.2.2.1,.int .u64 qq.2.2.2]∧QOk qq∧ZyD qq ch=A.hasAt x ch:=by
   intro w hw _ wa _ k2 f2 m3 x cH hx
   have hb:=(ZiJ hA p).2 x (by rw[hw];exact List.mem_of_getElem? hx)
   unfold Nf.top at hb
   obtain⟨qq,sy⟩:=ZaF (l:=A.sets) (k:=x.toNat) (by omega)
   obtain⟨bs,os,iX,jo⟩:=ZlM ((hs'.mono ik).mono cH) sy
   refine⟨x.toNat,bs,os,qq,by omega,by omega,iX,⟨by omega,by omega⟩,jo,hq qq (List.mem_of_getElem? sy),?_⟩
   unfold Nf.hasAt;rw[sy];rfl
  have eR:IntKind.i64.wrap ((k:Int)+1)=((k+1:Nat):Int):=by rw[Zat (by omega) (by omega)];rfl
  refine⟨b2,o,ip,⟨by omega,by omega⟩,_,(by rw[Int.toNat_natCast];exact cU),Zaa rfl (Zab (fun dI=>?_) (fun dI=>?_))⟩
  ·have iI:¬p=-1:=by simpa[intOf]using dI
   have ly:p.toNat < A.fol.length:=by unfold Nf.top at nk;omega
   obtain⟨w,hw⟩:=ZaF ly
   obtain⟨u,hu⟩:=ZaF (l:=vs) (k:=p.toNat) (by omega)
   obtain⟨wa,wc,rfl,i9,wb,_⟩:=(iK _ u w hu hw).mono ik
   obtain⟨fb,fo,jE,gI⟩:=Zgi (hf.mono ik) hu
   have iZ:A.fromL p=w:=by unfold Nf.fromL;rw[if_neg iI,hw];rfl
   refine Zaa rfl ⟨fb,fo,jE,⟨by show 0≤p;omega,by show p < (A.fol.length:Nat);omega⟩,_,(show m2 fb (fo+p.toNat*1)=some _ from gI),Zaa rfl ?_⟩
   refine⟨fun xs css _ m' q=>∃(j f2:Nat),j≤w.length∧xs=[.int .i64 j]∧css=[bwL f2]∧(w.drop j).foldl (A.step1 ch) f2=(A.fromL p).foldl (A.step1 ch) f∧m2.le m'∧q=w.length - j,⟨_,0,f,Nat.zero_le _,rfl,rfl,by rw[iZ];rfl,Mem.le_refl _,rfl⟩,?_⟩
   rintro z cs m3 q cH ⟨j,f2,hj,hz,cK,jc,_,hq⟩
   obtain rfl:z=j:=by simpa using hz
   obtain rfl:cs=bwL f2:=by simpa using cK
   subst hq
   refine Zab (fun iA=>?_) (fun jI=>?_)
   ·have fS:j < w.length:=by have:=of_decide_eq_true iA;simp only[slN]at this;omega
    obtain⟨x,hx⟩:=ZaF fS
    obtain⟨b3,o3,mV,kq⟩:=Zd9 (i9.mono cH) hx
    obtain⟨i,bs,os,qq,rfl,hi,iX,gZ,jo,sA,kx⟩:=ZxH w iZ wb wa i9 j f2 m3 x cH hx
    rw[Zcd hx,List.foldl_cons]at jc
    have eZ:IntKind.i64.wrap ((j:Int)+1)=((j+1:Nat):Int):=by rw[Zat (by omega) (by omega)];rfl
    refine Zaa rfl ⟨b3,o3,mV,⟨by omega,by show(j:Int) < (w.length:Nat);omega⟩,.int .i64 (i:Int),(by rw[Int.toNat_natCast];exact kq),Zaa rfl ⟨bs,os,iX,gZ,_,_,_,_,jo,?_⟩⟩
    refine Zak (ZuF qq sA ch kj m3) fun m4 cQ=>Zab (fun hh=>?_) (fun hh=>?_)
    ·refine⟨_,trivial,Zk2 f2 i hi b1 100 7 [] [] m4 (by omega),fun v _ _ h=>by rw[h.1];rfl,fun m5 cW cs5 jl=>⟨by trivial,_,by omega,j+1,f2|||2 ^ i,fS,by rw[eZ],?_,?_,Mem.le_trans cH (Mem.le_trans cQ cW),rfl⟩⟩
     ·have:=jl.2
      simp only[List.nil_append,List.append_nil]at this
      exact this
     ·rw[kx]at hh
      rw[←jc];unfold Nf.step1;rw[if_pos hh,Int.toNat_natCast]
    ·refine⟨by trivial,_,by omega,j+1,f2,fS,by rw[eZ],rfl,?_,Mem.le_trans cH cQ,rfl⟩
     rw[kx]at hh
     rw[←jc];unfold Nf.step1;rw[if_neg (by simp[hh])]
   ·have:j=w.length:=by have:=of_decide_eq_false jI;simp only[slN]at this;omega
    subst this
    rw[List.drop_length,List.foldl_nil]at jc
    exact⟨by trivial,_,by omega,k+1,f2,bR,by rw[eR],rfl,by rw[jc];exact he',Mem.le_trans bT cH,rfl⟩
  ·have iI:p=-1:=by simpa[intOf]using dI
   have iZ:A.fromL p=A.first:=by unfold Nf.fromL;rw[if_pos iI]
   refine⟨fun xs css _ m' q=>∃(j f2:Nat),j≤A.first.length∧xs=[.int .i64 j]∧css=[bwL f2]∧(A.first.drop j).foldl (A.step1 ch) f2=(A.fromL p).foldl (A.step1 ch) f∧m2.le m'∧q=A.first.length - j,⟨_,0,f,Nat.zero_le _,rfl,rfl,by rw[iZ];rfl,Mem.le_refl _,rfl⟩,?_⟩
   rintro z cs m3 q cH ⟨j,f2,hj,hz,cK,jc,_,hq⟩
   obtain rfl:z=j:=by simpa using hz
   obtain rfl:cs=bwL f2:=by simpa using cK
   subst hq
   refine Zab (fun iA=>?_) (fun jI=>?_)
   ·have fS:j < A.first.length:=by have:=of_decide_eq_true iA;omega
    obtain⟨x,hx⟩:=ZaF fS
    obtain⟨b3,o3,mV,kq⟩:=Zd9 ((tX.mono ik).mono cH) hx
    obtain⟨i,bs,os,qq,rfl,hi,iX,gZ,jo,sA,kx⟩:=ZxH A.first iZ gq xa (tX.mono ik) j f2 m3 x cH hx
    rw[Zcd hx,List.foldl_cons]at jc
    have eZ:IntKind.i64.wrap ((j:Int)+1)=((j+1:Nat):Int):=by rw[Zat (by omega) (by omega)];rfl
    refine⟨b3,o3,mV,⟨by omega,by omega⟩,.int .i64 (i:Int),(by rw[Int.toNat_natCast];exact kq),Zaa rfl ⟨bs,os,iX,gZ,_,_,_,_,jo,?_⟩⟩
    refine Zak (ZuF qq sA ch kj m3) fun m4 cQ=>Zab (fun hh=>?_) (fun hh=>?_)
    ·refine⟨_,trivial,Zk2 f2 i hi b1 100 7 [] [] m4 (by omega),fun v _ _ h=>by rw[h.1];rfl,fun m5 cW cs5 jl=>⟨by trivial,_,by omega,j+1,f2|||2 ^ i,fS,by rw[eZ],?_,?_,Mem.le_trans cH (Mem.le_trans cQ cW),rfl⟩⟩
     ·have:=jl.2
      simp only[List.nil_append,List.append_nil]at this
      exact this
     ·rw[kx]at hh
      rw[←jc];unfold Nf.step1;rw[if_pos hh,Int.toNat_natCast]
    ·refine⟨by trivial,_,by omega,j+1,f2,fS,by rw[eZ],rfl,?_,Mem.le_trans cH cQ,rfl⟩
     rw[kx]at hh
     rw[←jc];unfold Nf.step1;rw[if_neg (by simp[hh])]
   ·have:j=A.first.length:=by have:=of_decide_eq_false jI;omega
    subst this
    rw[List.drop_length,List.foldl_nil]at jc
    exact⟨by trivial,_,by omega,k+1,f2,bR,by rw[eR],rfl,by rw[jc];exact he',Mem.le_trans bT cH,rfl⟩
 ·have:k=l.length:=by have:=of_decide_eq_false cX;omega
  subst this
  rw[List.drop_length]at he
  intro m3 cH gv
  refine Zap (ZjF f b1 0 m3 gv) ZdG ?_
  intro a4 n4 c4 m4 cQ hR
  refine⟨m4,Mem.le_trans ik (Mem.le_trans cH cQ),Mem.le_refl _,?_⟩
  have:A.step l ch=Zbn f:=by unfold Nf.step;rw[←he];rfl
  rw[this];exact hR
end Go.Proofs.Ytplacemlpkhmfaa

