/- Part of the proof: conditions and contracts of functions of this program. No condition of its own. -/
import Derived.Test.YtplacemlpkhmfaaPC17I
import Derived.Test.YtplacemlpkhmfaaMr
set_option linter.unusedVariables false
set_option linter.unusedSimpArgs false
namespace Go.Proofs.Ytplacemlpkhmfaa
open Go Go.Eng Go.Rx Go.Proofs Go.RowKit
set_option maxRecDepth 100000
theorem ZvM{st:Bool}{A:Nf}:∀(v:Value)(m':Mem) (css:List (List Value)),NfR st A v m'→Shape.fits (.agg [.slice,.slice,.slice,.slice,.bool]) v=true:=by
 rintro v m' css ⟨s,f,x,y,rfl,⟨_,_,rfl,_⟩,⟨_,_,_,rfl,_⟩,⟨_,_,rfl,_⟩,⟨_,_,rfl,_⟩⟩;rfl
theorem Zm4(A:Nf)(v:Value)(m:Mem)(h:NfR true A v m)(hr:A.right=true):CX Try.prog 16 #[v] m [] (NfE A.turn 0):=by
 have h':=h
 have cO:=Zgj.1 hr
 have wH:=cO.n
 have wI:=cO.len
 obtain⟨s,f,x,y,rfl,⟨sa,sc,rfl,hs,fB,jm⟩,⟨fa,fc,vs,rfl,hf,im,jJ,iK⟩,⟨xa,xc,rfl,hx,gq,iq⟩,⟨ya,yc,rfl,hy,eQ,jn⟩⟩:=h
 apply ZpZ
 unfold Zk6
 intro b m1 bJ fU kF jA b1
 refine Zak (Zma A _ m1 (h'.mono bJ)) fun m2 bT=>Za7 (by rw[hr];rfl) ?_
 refine Zap (ZvL A _ m2 ((h'.mono bJ).mono bT) (by omega)) ZvM ?_
 rintro a2 n2 c2 a3 n3 c3 a4 n4 c4 a5 n5 c5 e5 base cH ⟨s',f',x',y',hv,hs',hf',hx',hy'⟩
 simp only[Value.agg.injEq,Array.mk.injEq,List.cons.injEq,Value.bool.injEq,and_true]at hv
 obtain⟨rfl,rfl,rfl,rfl,rfl⟩:=hv
 intro b4
 have nD:m.le base:=Mem.le_trans bJ (Mem.le_trans bT cH)
 have eK:∀k,base.free k→b≠k:=fun k hk e=>by
  subst e
  have h1:=Mem.le_trans bT cH _ _ _ (fU 0 _ rfl)
  rw[hk]at h1;cases h1
 refine⟨⟨by omega,by omega,by show(A.fol.length:Int)*24≤_;omega,by omega⟩,fun b5 qc=>?_⟩
 simp only[Int.toNat_natCast]
 have mG:∀N:Nat,(List.replicate N [Value.slice none 0 0]).flatten=List.replicate N (.slice none 0 0):=fun N=>by
  induction N with
  | zero=>rfl
  | succ N ih=>rw[List.replicate_succ,List.flatten_cons,ih];rfl
 rw[mG]
 have start:TurnI base (base.add b5 (List.replicate A.fol.length (.slice none 0 0))) b5 (fun _=>none) (List.replicate A.fol.length []):=by
  refine⟨Mem.le_add qc _,qc,fun q l hq=>?_,fun _ _ _ _ _ h=>by simp at h,fun q x h=>by simp at h⟩
  rw[List.getElem?_replicate]at hq
  split at hq
  ·rename_i bS
   cases hq
   refine .inl ⟨rfl,rfl,?_⟩
   rw[Mem.add_same,List.getElem?_replicate,if_pos bS]
  ·cases hq
 refine⟨fun xs _ _ m' q=>∃(p:Nat) (F:Nat→Option (Nat×Nat)) (cur:List (List Int)),p≤A.fol.length∧xs=[.int .i64 p]∧TurnI base m' b5 F cur∧cur.length=A.fol.length∧ZdB (A.fol.drop p) p cur=ZgH A.fol∧(∀l∈cur,l.length≤p*1000000)∧q=A.fol.length - p,⟨_,0,_,_,Nat.zero_le _,rfl,start,List.length_replicate,rfl,fun l hl=>by obtain⟨_,rfl⟩:=List.mem_replicate.1 hl;exact Nat.zero_le _,rfl⟩,?_⟩
 rintro z m6 q _ ⟨p,F,cur,hp,hz,hT,fT,fC,k7,hq⟩
 obtain rfl:z=p:=by simpa using hz
 subst hq
 refine Zab (fun bS=>?_) (fun cX=>?_)
 ·have bR:p < A.fol.length:=by have:=of_decide_eq_true bS;omega
  obtain⟨l,hl⟩:=ZaF bR
  obtain⟨u,hu⟩:=ZaF (l:=vs) (k:=p) (by omega)
  obtain⟨la,lc,rfl,gX,fN,_⟩:=(iK p u l hu hl).mono (Mem.le_trans nD hT.le)
  obtain⟨fb,fo,jE,gI⟩:=Zgi (hf.mono (Mem.le_trans nD hT.le)) hu
  have sr:rowRd base la (ZaA l):=by
   obtain⟨la',lc',e,ss,_⟩:=(iK p _ l hu hl).mono nD
   simp only[Value.slice.injEq]at e
   rw[e.1];exact ss
  have kw:=cO.fol l (List.mem_of_getElem? hl)
  refine⟨fb,fo,jE,⟨by omega,by omega⟩,_,(by rw[Int.toNat_natCast];exact gI),Zaa rfl ?_⟩
  refine⟨fun xs _ _ m' q=>∃(j:Nat) (F:Nat→Option (Nat×Nat)) (cur':List (List Int)),j≤l.length∧xs=[.int .i64 j]∧TurnI base m' b5 F cur'∧cur'.length=A.fol.length∧(l.drop j).foldl (Zqa p) cur'=ZhG p cur l∧(∀x∈cur',x.length≤p*1000000+j)∧q=l.length - j,⟨_,0,F,cur,Nat.zero_le _,rfl,hT,fT,by rw[List.drop_zero];unfold ZhG;rfl,fun x hx=>Nat.le_trans (k7 x hx) (Nat.le_add_right _ _),rfl⟩,?_⟩
  rintro z m7 q _ ⟨j,F2,cur2,hj,hz,qd,oZ,iD,mS,hq⟩
  obtain rfl:z=j:=by simpa using hz
  subst hq
  refine Zab (fun iA=>?_) (fun jI=>?_)
  ·have fS:j < l.length:=by have:=of_decide_eq_true iA;simp only[slN]at this;omega
   obtain⟨x,hx⟩:=ZaF fS
   have nF:=kw.2 x (List.mem_of_getElem? hx)
   have iq:x.toNat < A.fol.length:=by have:=nF.2;unfold Nf.top at this;omega
   obtain⟨lb,lo,v7,iP⟩:=Zd9 (sr.mono qd.le) hx
   obtain⟨c,hc⟩:=ZaF (l:=cur2) (k:=x.toNat) (by omega)
   have tW:=mS c (List.mem_of_getElem? hc)
   rw[Zcd hx,List.foldl_cons]at iD
   have dL:=qd.cell _ _ hc
   obtain⟨ga,gc,su,mT,bZ,cA⟩:∃(ga:Option Addr)(gc:Nat),m7 b5 x.toNat=some (.slice ga c.length gc)∧ZyM m7 m 1 ga c.length gc∧rowRd (m7.cutA ga (c.length*1)) ga (ZaA c)∧∀k,ga=some ⟨k,0,none⟩→base.free k∧k≠b5:=by
    rcases dL with⟨_,rfl,h3⟩|⟨bq,c0,_,h2,h3,h4,h5,h6,h7,h8⟩
    ·exact⟨none,0,h3,.inl ⟨rfl,rfl,rfl⟩,.inl rfl,fun k hk=>by cases hk⟩
    ·have fV:0 < c.length:=List.length_pos_iff.2 h2
     refine⟨_,c0,h4,.inr ⟨bq,rfl,h3,by omega,fun o ho=>h5 o (by omega),Zr3 nD h7⟩,.inr ⟨bq,0,rfl,fun i v hv=>?_⟩,fun k hk=>by cases hk;exact⟨h7,h8⟩⟩
     have jR:=(List.getElem?_eq_some_iff.1 hv).1
     rw[Zcr]at jR
     simp only[Mem.cutA]
     rw[if_neg (by omega)]
     exact h6 i v hv
   have jx:(m7.cutA ga (c.length*1)) b5 x.toNat=some (.slice ga c.length gc):=by
    unfold Mem.cutA
    split
    ·rename_i k o sp
     have hk:k≠b5:=by
      rcases mT with⟨h1,_⟩|⟨k',h1,_⟩
      ·cases h1
      ·cases h1;exact(cA _ rfl).2
     rw[if_neg (fun hc=>hk hc.1.symm)];exact su
    ·exact su
   have mU:(m7.cutA ga (c.length*1)) b5 (0+(intOf (Value.int .i64 x)).toNat*1)=some (.slice ga c.length gc):=by
    have e:0+(intOf (Value.int .i64 x)).toNat*1=x.toNat:=by show 0+x.toNat*1=_;omega
    rw[e];exact jx
   refine Zaa rfl ⟨lb,lo,v7,⟨by omega,by show(j:Int) < (l.length:Nat);omega⟩,_,(by rw[Int.toNat_natCast];exact iP),ga,c.length,gc,mT,fun k hk=>⟨eK k ?_,trivial⟩,Zaa rfl ⟨b5,0,rfl,⟨by show 0≤x;omega,by show x < (A.fol.length:Nat);omega⟩,_,mU,fun b9 oY=>Zaa rfl ?_⟩⟩
   ·cases ga with
    | none=>simp[Tok.blk]at hk
    | some ad=>
     obtain⟨k',o,sp⟩:=ad
     rcases mT with⟨h1,_⟩|⟨k2,h1,_⟩
     ·cases h1
     ·cases h1
      simp[Tok.blk]at hk
      subst hk
      exact(cA _ rfl).1
   refine⟨.inl rfl,ZaA c,[.int .i64 (p:Int)],by rw[Zcr];exact(Nat.mul_one _).symm,rfl,bZ.mono (Mem.le_add oY _),Zk7,by simp[Value.oneCell'],by show(c.length+1)*8≤_;omega,by show c.length+1≤_;omega,fun a' c' m8 kH v8 lQ M dR dG gW=>Zaa rfl ⟨b5,0,rfl,⟨by show 0≤x;omega,by show x < (A.fol.length:Nat);omega⟩,⟨[.slice ga c.length gc],rfl,fun i v hv=>?_⟩,Zr3 nD qc,by trivial,fun e=>?_,eK b5 qc,fun zs oC=>⟨by trivial,?_⟩⟩⟩
   ·cases i with
    | zero=>
     simp at hv;subst hv
     show M b5 (0+x.toNat*1+0)=_
     rw[Nat.add_zero,Nat.zero_add,Nat.mul_one]
     exact dR _ _ _ jx
    | succ i=>simp at hv
   ·subst e
    rw[oY]at jx;cases jx
   ·obtain⟨F3,v9⟩:=qd.push (p:=p) (by omega:0≤x) hc su (Mem.le_add oY _) v8 lQ dR gW zs oC
    refine⟨_,by omega,j+1,F3,_,fS,by rw[Zat (by omega) (by omega)];rfl,?_,by rw[Zhc];exact oZ,iD,fun y hy=>?_,rfl⟩
    ·have e:0+(intOf (Value.int .i64 x)).toNat*1=x.toNat:=by show 0+x.toNat*1=_;omega
     rw[e];exact v9
    ·obtain⟨i,hi⟩:=List.getElem?_of_mem hy
     have jR:=(List.getElem?_eq_some_iff.1 hi).1
     rw[Zhc]at jR
     rw[ZlN (List.getElem?_eq_getElem jR)]at hi
     have:=mS _ (List.getElem_mem jR)
     split at hi <;> cases hi
     ·rw[List.length_append,List.length_singleton];omega
     ·omega
  ·have:j=l.length:=by have:=of_decide_eq_false jI;simp only[slN]at this;omega
   subst this
   rw[List.drop_length,List.foldl_nil]at iD
   refine⟨by trivial,_,by omega,p+1,F2,cur2,bR,by rw[Zat (by omega) (by omega)];rfl,qd,oZ,?_,fun y hy=>by have:=mS y hy;omega,rfl⟩
   rw[iD,←fC,Zcd hl,ZdB]
 ·have:p=A.fol.length:=by have:=of_decide_eq_false cX;omega
  subst this
  rw[List.drop_length,ZdB]at fC
  subst fC
  have gC:∀(q:Nat)(l:List Int),(ZgH A.fol)[q]?=some l→∃w,m6 b5 q=some w∧SlI true l w m6:=fun q l rM=>by
   have bX:=(ZiH rM cO.rows).2
   rcases hT.cell _ _ rM with⟨_,rfl,h3⟩|⟨bq,c0,_,h2,h3,h4,_,h6,_,_⟩
   ·exact⟨_,h3,none,0,rfl,.inl rfl,by simp,fun _ _=>rfl⟩
   ·exact⟨_,h4,_,c0,rfl,.inr ⟨bq,0,rfl,h6⟩,by omega,fun _ e=>absurd e h2⟩
  have fA:∀(i:Nat)(v:Value),((List.range A.fol.length).map fun q=>((m6 b5 q).getD (.bool false)))[i]?=some v→i < A.fol.length∧∃l,(ZgH A.fol)[i]?=some l∧m6 b5 i=some v∧SlI true l v m6:=fun i v hv=>by
   have jR:=(List.getElem?_eq_some_iff.1 hv).1
   rw[List.length_map,List.length_range]at jR
   rw[List.getElem?_map,List.getElem?_range jR]at hv
   simp only[Option.map_some,Option.some.injEq]at hv
   obtain⟨l,hl⟩:=ZaF (l:=ZgH A.fol) (k:=i) (by rw[ZdC];exact jR)
   obtain⟨w,eR,eZ⟩:=gC i l hl
   rw[eR]at hv
   have:w=v:=hv
   subst this
   exact⟨jR,l,hl,eR,eZ⟩
  refine⟨m6,Mem.le_trans nD hT.le,Mem.le_refl _,_,rfl,_,_,_,_,rfl,hs'.mono hT.le,⟨some ⟨b5,0,none⟩,A.fol.length,(List.range A.fol.length).map fun q=>((m6 b5 q).getD (.bool false)),?_,.inr ⟨b5,0,rfl,fun i v hv=>?_⟩,?_,?_,fun i v l hv hl=>?_⟩,hy'.mono hT.le,hx'.mono hT.le⟩
  ·show _=Value.slice _ (ZgH A.fol).length _
   rw[ZdC]
  ·rw[Nat.zero_add]
   obtain⟨_,l,_,h2,_⟩:=fA i v hv
   exact h2
  ·show _=(ZgH A.fol).length
   rw[ZdC,List.length_map,List.length_range]
  ·show(ZgH A.fol).length≤_
   rw[ZdC];exact jJ
  ·obtain⟨_,l2,h1,_,h3⟩:=fA i v hv
   rw[show A.turn.fol=ZgH A.fol from rfl,h1]at hl
   cases hl;exact h3
end Go.Proofs.Ytplacemlpkhmfaa

