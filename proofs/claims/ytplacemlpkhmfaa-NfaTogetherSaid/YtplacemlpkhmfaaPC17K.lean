/- Part of the proof: conditions and contracts of functions of this program. No condition of its own. -/
import Derived.Test.YtplacemlpkhmfaaPVND
import Derived.Test.YtplacemlpkhmfaaPC17J
import Derived.Test.YtplacemlpkhmfaaPC13C
import Derived.Test.YtplacemlpkhmfaaMr
set_option linter.unusedVariables false
set_option linter.unusedSimpArgs false
namespace Go.Proofs.Ytplacemlpkhmfaa
open Go Go.Eng Go.Rx Go.Proofs Go.RowKit
set_option maxRecDepth 100000
theorem Ztm(q:QS)(hq:QOk q)(c:Nat)(hc:c < 256)(m:Mem):CX Try.prog 117 #[.agg #[.int .u64 q.1,.int .u64 q.2.1,.int .u64 q.2.2.1,.int .u64 q.2.2.2],.int .u8 c] m [] (Ret (.bool (Zw7 q c))):=
 Zvn (Zu9 q) c hc m (Zxj hq m)
theorem ZvA(l:List Int)(a:Option Addr)(c:Nat)(m:Mem)(h:rowRd m a (ZaM l))(hl:l.length≤1000000)(gQ:∀p∈l,0≤p∧p < 448):CX Try.prog 112 #[.slice a l.length c] m [] (Ret (bwV (Zv7 l 0))):=by
 apply Zp9
 unfold Zl0
 intro b b1
 refine⟨fun xs css _ m' q=>∃(k f:Nat),k≤l.length∧xs=[.int .i64 k]∧css=[bwL f]∧Zv7 (l.drop k) f=Zv7 l 0∧m.le m'∧q=l.length - k,⟨_,0,0,Nat.zero_le _,rfl,by rw[ZlM],rfl,Mem.le_refl _,rfl⟩,?_⟩
 rintro z cs m1 q bJ ⟨k,f,hk,hz,cG,he,_,hq⟩
 obtain rfl:z=k:=by simpa using hz
 obtain rfl:cs=bwL f:=by simpa using cG
 subst hq
 refine Zaa (fun bM=>?_) (fun cR=>?_)
 ·have bL:k < l.length:=by have:=of_decide_eq_true bM;omega
  obtain⟨x,hx⟩:=ZaN bL
  obtain⟨b2,o,ig,cQ⟩:=Zd2 (h.mono bJ) hx
  have w6:=gQ x (List.mem_of_getElem? hx)
  obtain⟨i,rfl⟩:∃i:Nat,x=i:=⟨x.toNat,by omega⟩
  rw[Zc0 hx]at he
  refine⟨b2,o,ig,⟨by omega,by omega⟩,_,(by rw[Int.toNat_natCast];exact cQ),_,trivial,Zl1 f i (by omega) b1 100 7 [] [] m1 (by omega),fun v _ _ h=>by rw[h.1];rfl,fun m2 bP cs2 kd=>⟨by trivial,_,by omega,k+1,f|||2 ^ i,bL,by rw[ZaA (by omega) (by omega)];rfl,?_,he,Mem.le_trans bJ bP,rfl⟩⟩
  have:=kd.2
  simp only[List.nil_append,List.append_nil]at this
  exact this
 ·have:k=l.length:=by have:=of_decide_eq_false cR;omega
  subst this
  rw[List.drop_length]at he
  refine Zab rfl (Zag bJ ?_)
  rw[←he];rfl
theorem ZvB(A:Nf)(f:Nat)(p:Int)(hp : -1≤p∧p < 448)(s0 s1 s2 s3:Value)(b c:Nat)(m:Mem)(hb:m.reads b 0 [s0,s1,s2,s3,.bool A.empty])(hc:m.reads c 0 (bwL f)):CX Try.prog 114 #[.int .i64 p,.pointer (some ⟨b,0,none⟩),.pointer (some ⟨c,0,none⟩)] m [] (Ret (.bool (if p=-1 then A.empty else f.testBit p.toNat))):=by
 apply Zhl
 unfold Zet
 by_cases h:p=-1
 ·subst h
  rw[if_pos rfl]
  refine⟨A.empty,ZcH (by decide) ⟨_,(by simpa using hb 4 _ rfl),?_⟩,Zag (Mem.le_refl _) rfl⟩
  cases A.empty
  ·exact Zab rfl (ZbD rfl (ZbD (by decide) rfl))
  ·exact Zab rfl (ZcH rfl rfl)
 ·rw[if_neg h]
  obtain⟨i,rfl⟩:∃i:Nat,p=i:=⟨p.toNat,by omega⟩
  refine⟨f.testBit i,ZbD (by simp) (ZcH (by simp) ?_),Zag (Mem.le_refl _) (by rw[Int.toNat_natCast])⟩
  exact Zai (Zti f i (by omega) c 0 m hc) fun m1 bJ=>rfl
theorem ZsF(l:List Int)(a:Option Addr)(c:Nat)(g:Nat)(ca:List Value)(p:Int→Bool)(m:Mem)(h:rowRd m a (ZaM l))(hl:l.length≤1000000)(hg:∀x∈l,∀m',m.le m'→CX Try.prog g (([.int .i64 x]:List Value)++ca).toArray m' [] (Ret (.bool (p x)))):
  CX Try.prog 113 #[.slice a l.length c,.func (.func g) #[] ca.toArray] m [] (Ret (.bool (l.any p))):=by
 have sB:CX Try.prog 146 #[.slice a l.length c,.func (.func g) #[] ca.toArray] m [] (fun v _ _=>∃n:Int,v=.int .i64 n∧decide (n ≥ 0)=l.any p):=by
  apply Zcw a l.length c g [] ca
  unfold Zbz
  refine⟨fun xs _ _ m' q=>∃k:Nat,k≤l.length∧xs=[.int .i64 k]∧(l.drop k).any p=l.any p∧m.le m'∧q=l.length - k,⟨_,0,Nat.zero_le _,rfl,rfl,Mem.le_refl _,rfl⟩,?_⟩
  rintro z m1 q bJ ⟨k,hk,hz,he,_,hq⟩
  obtain rfl:z=k:=by simpa using hz
  subst hq
  refine Zaa (fun bM=>?_) (fun cR=>?_)
  ·have bL:k < l.length:=by have:=of_decide_eq_true bM;omega
   obtain⟨x,hx⟩:=ZaN bL
   obtain⟨b2,o,ig,cQ⟩:=Zd2 (h.mono bJ) hx
   rw[Zc0 hx,List.any_cons]at he
   refine⟨b2,o,ig,⟨by omega,by omega⟩,_,(by rw[Int.toNat_natCast];exact cQ),Zai (hg x (List.mem_of_getElem? hx) m1 bJ) fun m2 bP=>Zaa (fun h2=>?_) (fun h2=>⟨_,by omega,k+1,bL,by rw[ZaA (by omega) (by omega)];rfl,?_,Mem.le_trans bJ bP,rfl⟩)⟩
   ·refine⟨_,Mem.le_trans bJ bP,Mem.le_refl _,_,rfl,?_⟩
    rw[←he,h2];simp
   ·rw[←he,h2];rfl
  ·have:k=l.length:=by have:=of_decide_eq_false cR;omega
   subst this
   refine⟨_,bJ,Mem.le_refl _,_,rfl,?_⟩
   rw[←he,List.drop_length];rfl
 apply Zb6 a l.length c g [] ca
 unfold Zbg
 refine Zam sB (by rintro v m' css ⟨n,rfl,_⟩;rfl) ?_
 rintro n m1 bJ ⟨n',hn,he⟩
 cases hn
 exact Zag bJ (by rw[←he])
theorem Zl3{st:Bool}(A:Nf)(hA:A.Ok)(v:Value)(l:List Int)(a:Option Addr)(c:Nat)(m:Mem)(h:NfR st A v m)(hl:rowRd m a (ZaM l))(fH:l.length≤1000000)(hs:A.states l=true):CX Try.prog 68 #[v,.slice a l.length c] m [] (Ret (.bool (A.accepts l))):=by
 obtain⟨s,f,x,y,rfl,⟨sa,sc,rfl,hs',fD,jv⟩,⟨fa,fc,vs,rfl,hf,iE,iY,jc⟩,⟨xa,xc,rfl,hx,gz,iG⟩,⟨ya,yc,rfl,hy,eR,jx⟩⟩:=h
 have hn:=hA.n
 apply Zje
 unfold Zga
 intro b m1 bJ hb
 refine Zam (ZvA A.last ya yc m1 (hy.mono bJ) eR (fun p hp=>by have:=hA.last.2 p hp;unfold Nf.top at this;omega)) (by rintro v m' css rfl;rfl) ?_
 intro n0 n1 n2 n3 n4 n5 n6 m2 bP hv
 simp only[Ret,bwV,Value.agg.injEq,Array.mk.injEq,List.cons.injEq,Value.int.injEq,true_and,and_true]at hv
 obtain⟨rfl,rfl,rfl,rfl,rfl,rfl,rfl⟩:=hv
 intro b1 m3 cJ fS
 have sC:=Mem.le_trans bP cJ
 refine Zai (ZsF l a c _ [.pointer (some ⟨b,0,none⟩),.pointer (some ⟨b1,0,none⟩)] A.acc1 m3 ((hl.mono bJ).mono sC) fH fun p hp m4 cY=>?_) fun m5 eA=>Zag (Mem.le_trans bJ (Mem.le_trans sC eA)) rfl
 have:=ZlP hs p hp
 exact ZvB A (Zv7 A.last 0) p ⟨by omega,by unfold Nf.top at this;omega⟩ _ _ _ _ b b1 m4 ((hb.mono sC).mono cY) (Mem.reads.mono fS cY)
theorem Zuj{st:Bool}(A:Nf)(v:Value)(l:List Int)(a:Option Addr)(c:Nat)(m:Mem)(h:NfR st A v m)(hl:rowRd m a (ZaM l))(fH:l.length≤1000000):CX Try.prog 78 #[v,.slice a l.length c] m [] (Ret (.int .i64 (A.err l))):=by
 have h':=h
 obtain⟨s,f,x,y,rfl,⟨sa,sc,rfl,hs',fD,jv⟩,⟨fa,fc,vs,rfl,hf,iE,iY,jc⟩,⟨xa,xc,rfl,hx,gz,iG⟩,⟨ya,yc,rfl,hy,eR,jx⟩⟩:=h
 apply ZmE
 unfold Zij
 intro b m1 bJ hb
 refine Zai (Zm5 A _ m1 (h'.mono bJ)) fun m2 bP=>Zaa (fun h1=>Zag (Mem.le_trans bJ bP) ?_) (fun h1=>?_)
 ·unfold Nf.err;rw[if_pos (by simpa using h1)]
 have hr:A.right=true:=by simpa using h1
 have hw:IntKind.i64.wrap ((A.sets.length:Int) - 1)=A.top:=ZaA (by omega) (by omega)
 simp only[hw]
 refine Zai (Zir l (-1) A.top a c m2 ((hl.mono bJ).mono bP) fH ⟨by omega,by omega⟩) fun m3 cJ=>Zaa (fun h2=>Zag (Mem.le_trans bJ (Mem.le_trans bP cJ)) ?_) (fun h2=>Zag (Mem.le_trans bJ (Mem.le_trans bP cJ)) ?_)
 ·have:A.states l=false:=by unfold Nf.states;simpa using h2
  unfold Nf.err;rw[hr,this];rfl
 ·have:A.states l=true:=by unfold Nf.states;simpa using h2
  unfold Nf.err;rw[hr,this];rfl
theorem Ztn{st:Bool}(A:Nf)(hA:A.Ok)(hq:∀q∈A.sets,QOk q)(v:Value)(l:List Int)(a:Option Addr)(c ch:Nat)(lG:ch < 256)(m:Mem)(h:NfR st A v m)(hl:rowRd m a (ZaM l))(fH:l.length≤1000000)(hs:A.states l=true):CX Try.prog 79 #[v,.slice a l.length c,.int .u8 ch] m [] (fun v m' _=>SlI true (A.step l ch) v m'):=by
 obtain⟨s,f,x,y,rfl,⟨sa,sc,rfl,hs',fD,jv⟩,⟨fa,fc,vs,rfl,hf,iE,iY,jc⟩,⟨xa,xc,rfl,t9,gz,iG⟩,⟨ya,yc,rfl,hy,eR,jx⟩⟩:=h
 have hn:=hA.n
 have bO:=hA.len
 apply ZoM
 unfold Zj1
 intro b m1 bJ hb b1
 refine⟨fun xs css _ m' q=>∃(k f:Nat),k≤l.length∧xs=[.int .i64 k]∧css=[bwL f]∧A.stepM (l.drop k) ch f=A.stepM l ch 0∧m1.le m'∧q=l.length - k,⟨_,0,0,Nat.zero_le _,rfl,by rw[ZlM],rfl,Mem.le_refl _,rfl⟩,?_⟩
 rintro z cs m2 q bP ⟨k,f,hk,hz,cG,he,_,hq⟩
 obtain rfl:z=k:=by simpa using hz
 obtain rfl:cs=bwL f:=by simpa using cG
 subst hq
 have iy:=Mem.le_trans bJ bP
 refine Zaa (fun bM=>?_) (fun cR=>?_)
 ·have bL:k < l.length:=by have:=of_decide_eq_true bM;omega
  obtain⟨p,hp⟩:=ZaN bL
  obtain⟨b2,o,ig,cQ⟩:=Zd2 (hl.mono iy) hp
  have nb:=ZlP hs p (List.mem_of_getElem? hp)
  rw[Zc0 hp]at he
  have he':A.stepM (l.drop (k+1)) ch ((A.fromL p).foldl (A.step1 ch) f)=A.stepM l ch 0:=he
  have Zv9:∀(w:List Int),A.fromL p=w→w.length≤1000000→∀(wa:Option Addr),rowRd m2 wa (ZaM w)→∀(k2 f2:Nat)(m3:Mem)(x:Int),m2.le m3→w[k2]?=some x→∃(i:Nat)(bs os:Nat)(qq:QS),x=i∧i < 448∧sa=some ⟨bs,os,none⟩∧(0≤x∧x < (A.sets.length:Nat))∧m3.reads bs (os+x.toNat*4) [.int .u64 qq.1,.int .u64 qq.2.1,.int .u64 qq.2.2.1,.int .u64 qq.2.2.2]∧QOk qq∧Zw7 qq ch=A.hasAt x ch:=by
   intro w hw _ wa _ k2 f2 m3 x cJ hx
   have hb:=(Zh0 hA p).2 x (by rw[hw];exact List.mem_of_getElem? hx)
   unfold Nf.top at hb
   obtain⟨qq,sD⟩:=ZaN (l:=A.sets) (k:=x.toNat) (by omega)
   obtain⟨bs,os,mI,jd⟩:=ZkM ((hs'.mono iy).mono cJ) sD
   refine⟨x.toNat,bs,os,qq,by omega,by omega,mI,⟨by omega,by omega⟩,jd,hq qq (List.mem_of_getElem? sD),?_⟩
   unfold Nf.hasAt;rw[sD];rfl
  have eJ:IntKind.i64.wrap ((k:Int)+1)=((k+1:Nat):Int):=by rw[ZaA (by omega) (by omega)];rfl
  refine⟨b2,o,ig,⟨by omega,by omega⟩,_,(by rw[Int.toNat_natCast];exact cQ),Zab rfl (Zaa (fun dH=>?_) (fun dH=>?_))⟩
  ·have iF:¬p=-1:=by simpa[intOf]using dH
   have lm:p.toNat < A.fol.length:=by unfold Nf.top at nb;omega
   obtain⟨w,hw⟩:=ZaN lm
   obtain⟨u,hu⟩:=ZaN (l:=vs) (k:=p.toNat) (by omega)
   obtain⟨wa,wc,rfl,iC,wk,_⟩:=(jc _ u w hu hw).mono iy
   obtain⟨fb,fo,j4,ib⟩:=Zg1 (hf.mono iy) hu
   have iS:A.fromL p=w:=by unfold Nf.fromL;rw[if_neg iF,hw];rfl
   refine Zab rfl ⟨fb,fo,j4,⟨by show 0≤p;omega,by show p < (A.fol.length:Nat);omega⟩,_,(show m2 fb (fo+p.toNat*1)=some _ from ib),Zab rfl ?_⟩
   refine⟨fun xs css _ m' q=>∃(j f2:Nat),j≤w.length∧xs=[.int .i64 j]∧css=[bwL f2]∧(w.drop j).foldl (A.step1 ch) f2=(A.fromL p).foldl (A.step1 ch) f∧m2.le m'∧q=w.length - j,⟨_,0,f,Nat.zero_le _,rfl,rfl,by rw[iS];rfl,Mem.le_refl _,rfl⟩,?_⟩
   rintro z cs m3 q cJ ⟨j,f2,hj,hz,cG,iX,_,hq⟩
   obtain rfl:z=j:=by simpa using hz
   obtain rfl:cs=bwL f2:=by simpa using cG
   subst hq
   refine Zaa (fun io=>?_) (fun ja=>?_)
   ·have fP:j < w.length:=by have:=of_decide_eq_true io;simp only[slN]at this;omega
    obtain⟨x,hx⟩:=ZaN fP
    obtain⟨b3,o3,mP,kf⟩:=Zd2 (iC.mono cJ) hx
    obtain⟨i,bs,os,qq,rfl,hi,mI,gQ,jd,sE,kr⟩:=Zv9 w iS wk wa iC j f2 m3 x cJ hx
    rw[Zc0 hx,List.foldl_cons]at iX
    have eH:IntKind.i64.wrap ((j:Int)+1)=((j+1:Nat):Int):=by rw[ZaA (by omega) (by omega)];rfl
    refine Zab rfl ⟨b3,o3,mP,⟨by omega,by show(j:Int) < (w.length:Nat);omega⟩,.int .i64 (i:Int),(by rw[Int.toNat_natCast];exact kf),Zab rfl ⟨bs,os,mI,gQ,_,_,_,_,jd,?_⟩⟩
    refine Zai (Ztm qq sE ch lG m3) fun m4 cY=>Zaa (fun hh=>?_) (fun hh=>?_)
    ·refine⟨_,trivial,Zl1 f2 i hi b1 100 7 [] [] m4 (by omega),fun v _ _ h=>by rw[h.1];rfl,fun m5 eA cs5 kh=>⟨by trivial,_,by omega,j+1,f2|||2 ^ i,fP,by rw[eH],?_,?_,Mem.le_trans cJ (Mem.le_trans cY eA),rfl⟩⟩
     ·have:=kh.2
      simp only[List.nil_append,List.append_nil]at this
      exact this
     ·rw[kr]at hh
      rw[←iX];unfold Nf.step1;rw[if_pos hh,Int.toNat_natCast]
    ·refine⟨by trivial,_,by omega,j+1,f2,fP,by rw[eH],rfl,?_,Mem.le_trans cJ cY,rfl⟩
     rw[kr]at hh
     rw[←iX];unfold Nf.step1;rw[if_neg (by simp[hh])]
   ·have:j=w.length:=by have:=of_decide_eq_false ja;simp only[slN]at this;omega
    subst this
    rw[List.drop_length,List.foldl_nil]at iX
    exact⟨by trivial,_,by omega,k+1,f2,bL,by rw[eJ],rfl,by rw[iX];exact he',Mem.le_trans bP cJ,rfl⟩
  ·have iF:p=-1:=by simpa[intOf]using dH
   have iS:A.fromL p=A.first:=by unfold Nf.fromL;rw[if_pos iF]
   refine⟨fun xs css _ m' q=>∃(j f2:Nat),j≤A.first.length∧xs=[.int .i64 j]∧css=[bwL f2]∧(A.first.drop j).foldl (A.step1 ch) f2=(A.fromL p).foldl (A.step1 ch) f∧m2.le m'∧q=A.first.length - j,⟨_,0,f,Nat.zero_le _,rfl,rfl,by rw[iS];rfl,Mem.le_refl _,rfl⟩,?_⟩
   rintro z cs m3 q cJ ⟨j,f2,hj,hz,cG,iX,_,hq⟩
   obtain rfl:z=j:=by simpa using hz
   obtain rfl:cs=bwL f2:=by simpa using cG
   subst hq
   refine Zaa (fun io=>?_) (fun ja=>?_)
   ·have fP:j < A.first.length:=by have:=of_decide_eq_true io;omega
    obtain⟨x,hx⟩:=ZaN fP
    obtain⟨b3,o3,mP,kf⟩:=Zd2 ((t9.mono iy).mono cJ) hx
    obtain⟨i,bs,os,qq,rfl,hi,mI,gQ,jd,sE,kr⟩:=Zv9 A.first iS gz xa (t9.mono iy) j f2 m3 x cJ hx
    rw[Zc0 hx,List.foldl_cons]at iX
    have eH:IntKind.i64.wrap ((j:Int)+1)=((j+1:Nat):Int):=by rw[ZaA (by omega) (by omega)];rfl
    refine⟨b3,o3,mP,⟨by omega,by omega⟩,.int .i64 (i:Int),(by rw[Int.toNat_natCast];exact kf),Zab rfl ⟨bs,os,mI,gQ,_,_,_,_,jd,?_⟩⟩
    refine Zai (Ztm qq sE ch lG m3) fun m4 cY=>Zaa (fun hh=>?_) (fun hh=>?_)
    ·refine⟨_,trivial,Zl1 f2 i hi b1 100 7 [] [] m4 (by omega),fun v _ _ h=>by rw[h.1];rfl,fun m5 eA cs5 kh=>⟨by trivial,_,by omega,j+1,f2|||2 ^ i,fP,by rw[eH],?_,?_,Mem.le_trans cJ (Mem.le_trans cY eA),rfl⟩⟩
     ·have:=kh.2
      simp only[List.nil_append,List.append_nil]at this
      exact this
     ·rw[kr]at hh
      rw[←iX];unfold Nf.step1;rw[if_pos hh,Int.toNat_natCast]
    ·refine⟨by trivial,_,by omega,j+1,f2,fP,by rw[eH],rfl,?_,Mem.le_trans cJ cY,rfl⟩
     rw[kr]at hh
     rw[←iX];unfold Nf.step1;rw[if_neg (by simp[hh])]
   ·have:j=A.first.length:=by have:=of_decide_eq_false ja;omega
    subst this
    rw[List.drop_length,List.foldl_nil]at iX
    exact⟨by trivial,_,by omega,k+1,f2,bL,by rw[eJ],rfl,by rw[iX];exact he',Mem.le_trans bP cJ,rfl⟩
 ·have:k=l.length:=by have:=of_decide_eq_false cR;omega
  subst this
  rw[List.drop_length]at he
  intro m3 cJ gk
  refine Zam (Zk9 f b1 0 m3 gk) Zd4 ?_
  intro a4 n4 c4 m4 cY hR
  refine⟨m4,Mem.le_trans iy (Mem.le_trans cJ cY),Mem.le_refl _,?_⟩
  have:A.step l ch=ZbJ f:=by unfold Nf.step;rw[←he];rfl
  rw[this];exact hR
end Go.Proofs.Ytplacemlpkhmfaa

