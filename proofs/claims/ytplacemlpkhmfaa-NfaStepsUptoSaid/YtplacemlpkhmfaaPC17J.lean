/- Part of the proof: conditions and contracts of functions of this program. No condition of its own. -/
import Derived.Test.YtplacemlpkhmfaaPC17I
import Derived.Test.YtplacemlpkhmfaaMr
set_option linter.unusedVariables false
set_option linter.unusedSimpArgs false
namespace Go.Proofs.Ytplacemlpkhmfaa
open Go Go.Eng Go.Rx Go.Proofs Go.RowKit
set_option maxRecDepth 100000
theorem ZsV{st:Bool}{A:Nf}:∀(v:Value)(m':Mem) (css:List (List Value)),NfR st A v m'→Shape.fits (.agg [.slice,.slice,.slice,.slice,.bool]) v=true:=by
 rintro v m' css ⟨s,f,x,y,rfl,⟨_,_,rfl,_⟩,⟨_,_,_,rfl,_⟩,⟨_,_,rfl,_⟩,⟨_,_,rfl,_⟩⟩;rfl
theorem Zpc(A:Nf)(v:Value)(m:Mem)(h:NfR true A v m)(hr:A.right=true):CX Try.prog 16 #[v] m [] (NfE A.turn 0):=by
 have h':=h
 have cI:=ZeX.1 hr
 have wq:=cI.n
 have wt:=cI.len
 obtain⟨s,f,x,y,rfl,⟨sa,sc,rfl,hs,dL,iw⟩,⟨fa,fc,vs,rfl,hf,f8,gN,fT⟩,⟨xa,xc,rfl,hx,dY,gq⟩,⟨ya,yc,rfl,hy,dD,gC⟩⟩:=h
 apply ZnK
 unfold Zjq
 intro b m1 bD eI kS jp b1
 refine Zah (Zkf A _ m1 (h'.mono bD)) fun m2 bZ=>Zbo (by rw[hr];rfl) ?_
 refine Zat (ZsQ A _ m2 ((h'.mono bD).mono bZ) (by omega)) ZsV ?_
 rintro a2 n2 c2 a3 n3 c3 a4 n4 c4 a5 n5 c5 e5 base cD ⟨s',f',x',y',hv,hs',hf',hx',hy'⟩
 simp only[Value.agg.injEq,Array.mk.injEq,List.cons.injEq,Value.bool.injEq,and_true]at hv
 obtain⟨rfl,rfl,rfl,rfl,rfl⟩:=hv
 intro b4
 have nj:m.le base:=Mem.le_trans bD (Mem.le_trans bZ cD)
 have dG:∀k,base.free k→b≠k:=fun k hk e=>by
  subst e
  have h1:=Mem.le_trans bZ cD _ _ _ (eI 0 _ rfl)
  rw[hk]at h1;cases h1
 refine⟨⟨by omega,by omega,by show(A.fol.length:Int)*24≤_;omega,by omega⟩,fun b5 nk=>?_⟩
 simp only[Int.toNat_natCast]
 have mr:∀N:Nat,(List.replicate N [Value.slice none 0 0]).flatten=List.replicate N (.slice none 0 0):=fun N=>by
  induction N with
  | zero=>rfl
  | succ N ih=>rw[List.replicate_succ,List.flatten_cons,ih];rfl
 rw[mr]
 have start:TurnI base (base.add b5 (List.replicate A.fol.length (.slice none 0 0))) b5 (fun _=>none) (List.replicate A.fol.length []):=by
  refine⟨Mem.le_add nk _,nk,fun q l hq=>?_,fun _ _ _ _ _ h=>by simp at h,fun q x h=>by simp at h⟩
  rw[List.getElem?_replicate]at hq
  split at hq
  ·rename_i bV
   cases hq
   refine .inl ⟨rfl,rfl,?_⟩
   rw[Mem.add_same,List.getElem?_replicate,if_pos bV]
  ·cases hq
 refine⟨fun xs _ _ m' q=>∃(p:Nat) (F:Nat→Option (Nat×Nat)) (cur:List (List Int)),p≤A.fol.length∧xs=[.int .i64 p]∧TurnI base m' b5 F cur∧cur.length=A.fol.length∧Zc0 (A.fol.drop p) p cur=Zje A.fol∧(∀l∈cur,l.length≤p*1000000)∧q=A.fol.length - p,⟨_,0,_,_,Nat.zero_le _,rfl,start,List.length_replicate,rfl,fun l hl=>by obtain⟨_,rfl⟩:=List.mem_replicate.1 hl;exact Nat.zero_le _,rfl⟩,?_⟩
 rintro z m6 q _ ⟨p,F,cur,hp,hz,hT,ge,eJ,vG,hq⟩
 obtain rfl:z=p:=by simpa using hz
 subst hq
 refine Zab (fun bV=>?_) (fun cK=>?_)
 ·have bF:p < A.fol.length:=by have:=of_decide_eq_true bV;omega
  obtain⟨l,hl⟩:=Zam bF
  obtain⟨u,hu⟩:=Zam (l:=vs) (k:=p) (by omega)
  obtain⟨la,lc,rfl,pW,dM,_⟩:=(fT p u l hu hl).mono (Mem.le_trans nj hT.le)
  obtain⟨fb,fo,gz,dU⟩:=ZbO (hf.mono (Mem.le_trans nj hT.le)) hu
  have rX:rowRd base la (Zaq l):=by
   obtain⟨la',lc',e,rY,_⟩:=(fT p _ l hu hl).mono nj
   simp only[Value.slice.injEq]at e
   rw[e.1];exact rY
  have ko:=cI.fol l (List.mem_of_getElem? hl)
  refine⟨fb,fo,gz,⟨by omega,by omega⟩,_,(by rw[Int.toNat_natCast];exact dU),Zaa rfl ?_⟩
  refine⟨fun xs _ _ m' q=>∃(j:Nat) (F:Nat→Option (Nat×Nat)) (cur':List (List Int)),j≤l.length∧xs=[.int .i64 j]∧TurnI base m' b5 F cur'∧cur'.length=A.fol.length∧(l.drop j).foldl (Zog p) cur'=Zgn p cur l∧(∀x∈cur',x.length≤p*1000000+j)∧q=l.length - j,⟨_,0,F,cur,Nat.zero_le _,rfl,hT,ge,by rw[List.drop_zero];unfold Zgn;rfl,fun x hx=>Nat.le_trans (vG x hx) (Nat.le_add_right _ _),rfl⟩,?_⟩
  rintro z m7 q _ ⟨j,F2,cur2,hj,hz,pZ,oW,iy,mE,hq⟩
  obtain rfl:z=j:=by simpa using hz
  subst hq
  refine Zab (fun eK=>?_) (fun gU=>?_)
  ·have cS:j < l.length:=by have:=of_decide_eq_true eK;simp only[slN]at this;omega
   obtain⟨x,hx⟩:=Zam cS
   have nq:=ko.2 x (List.mem_of_getElem? hx)
   have gq:x.toNat < A.fol.length:=by have:=nq.2;unfold Nf.top at this;omega
   obtain⟨lb,lo,vH,iL⟩:=Zba (rX.mono pZ.le) hx
   obtain⟨c,hc⟩:=Zam (l:=cur2) (k:=x.toNat) (by omega)
   have tO:=mE c (List.mem_of_getElem? hc)
   rw[Zce hx,List.foldl_cons]at iy
   have cP:=pZ.cell _ _ hc
   obtain⟨ga,gc,rZ,mF,cV,cB⟩:∃(ga:Option Addr)(gc:Nat),m7 b5 x.toNat=some (.slice ga c.length gc)∧ZvL m7 m 1 ga c.length gc∧rowRd (m7.cutA ga (c.length*1)) ga (Zaq c)∧∀k,ga=some ⟨k,0,none⟩→base.free k∧k≠b5:=by
    rcases cP with⟨_,rfl,h3⟩|⟨bq,c0,_,h2,h3,h4,h5,h6,h7,h8⟩
    ·exact⟨none,0,h3,.inl ⟨rfl,rfl,rfl⟩,.inl rfl,fun k hk=>by cases hk⟩
    ·have ib:0 < c.length:=List.length_pos_iff.2 h2
     refine⟨_,c0,h4,.inr ⟨bq,rfl,h3,by omega,fun o ho=>h5 o (by omega),ZpP nj h7⟩,.inr ⟨bq,0,rfl,fun i v hv=>?_⟩,fun k hk=>by cases hk;exact⟨h7,h8⟩⟩
     have jI:=(List.getElem?_eq_some_iff.1 hv).1
     rw[ZcZ]at jI
     simp only[Mem.cutA]
     rw[if_neg (by omega)]
     exact h6 i v hv
   have jn:(m7.cutA ga (c.length*1)) b5 x.toNat=some (.slice ga c.length gc):=by
    unfold Mem.cutA
    split
    ·rename_i k o sp
     have hk:k≠b5:=by
      rcases mF with⟨h1,_⟩|⟨k',h1,_⟩
      ·cases h1
      ·cases h1;exact(cB _ rfl).2
     rw[if_neg (fun hc=>hk hc.1.symm)];exact rZ
    ·exact rZ
   have mG:(m7.cutA ga (c.length*1)) b5 (0+(intOf (Value.int .i64 x)).toNat*1)=some (.slice ga c.length gc):=by
    have e:0+(intOf (Value.int .i64 x)).toNat*1=x.toNat:=by show 0+x.toNat*1=_;omega
    rw[e];exact jn
   refine Zaa rfl ⟨lb,lo,vH,⟨by omega,by show(j:Int) < (l.length:Nat);omega⟩,_,(by rw[Int.toNat_natCast];exact iL),ga,c.length,gc,mF,fun k hk=>⟨dG k ?_,trivial⟩,Zaa rfl ⟨b5,0,rfl,⟨by show 0≤x;omega,by show x < (A.fol.length:Nat);omega⟩,_,mG,fun b9 oU=>Zaa rfl ?_⟩⟩
   ·cases ga with
    | none=>simp[Tok.blk]at hk
    | some ad=>
     obtain⟨k',o,sp⟩:=ad
     rcases mF with⟨h1,_⟩|⟨k2,h1,_⟩
     ·cases h1
     ·cases h1
      simp[Tok.blk]at hk
      subst hk
      exact(cB _ rfl).1
   refine⟨.inl rfl,Zaq c,[.int .i64 (p:Int)],by rw[ZcZ];exact(Nat.mul_one _).symm,rfl,cV.mono (Mem.le_add oU _),Zfk,by simp[Value.oneCell'],by show(c.length+1)*8≤_;omega,by show c.length+1≤_;omega,fun a' c' m8 kj vI p6 M gj fZ jx=>Zaa rfl ⟨b5,0,rfl,⟨by show 0≤x;omega,by show x < (A.fol.length:Nat);omega⟩,⟨[.slice ga c.length gc],rfl,fun i v hv=>?_⟩,ZpP nj nk,by trivial,fun e=>?_,dG b5 nk,fun zs lr=>⟨by trivial,?_⟩⟩⟩
   ·cases i with
    | zero=>
     simp at hv;subst hv
     show M b5 (0+x.toNat*1+0)=_
     rw[Nat.add_zero,Nat.zero_add,Nat.mul_one]
     exact gj _ _ _ jn
    | succ i=>simp at hv
   ·subst e
    rw[oU]at jn;cases jn
   ·obtain⟨F3,vJ⟩:=pZ.push (p:=p) (by omega:0≤x) hc rZ (Mem.le_add oU _) vI p6 gj jx zs lr
    refine⟨_,by omega,j+1,F3,_,cS,by rw[Zau (by omega) (by omega)];rfl,?_,by rw[ZfJ];exact oW,iy,fun y hy=>?_,rfl⟩
    ·have e:0+(intOf (Value.int .i64 x)).toNat*1=x.toNat:=by show 0+x.toNat*1=_;omega
     rw[e];exact vJ
    ·obtain⟨i,hi⟩:=List.getElem?_of_mem hy
     have jI:=(List.getElem?_eq_some_iff.1 hi).1
     rw[ZfJ]at jI
     rw[Zj3 (List.getElem?_eq_getElem jI)]at hi
     have:=mE _ (List.getElem_mem jI)
     split at hi <;> cases hi
     ·rw[List.length_append,List.length_singleton];omega
     ·omega
  ·have:j=l.length:=by have:=of_decide_eq_false gU;simp only[slN]at this;omega
   subst this
   rw[List.drop_length,List.foldl_nil]at iy
   refine⟨by trivial,_,by omega,p+1,F2,cur2,bF,by rw[Zau (by omega) (by omega)];rfl,pZ,oW,?_,fun y hy=>by have:=mE y hy;omega,rfl⟩
   rw[iy,←eJ,Zce hl,Zc0]
 ·have:p=A.fol.length:=by have:=of_decide_eq_false cK;omega
  subst this
  rw[List.drop_length,Zc0]at eJ
  subst eJ
  have gv:∀(q:Nat)(l:List Int),(Zje A.fol)[q]?=some l→∃w,m6 b5 q=some w∧SlI true l w m6:=fun q l rB=>by
   have bY:=(ZlI rB cI.rows).2
   rcases hT.cell _ _ rB with⟨_,rfl,h3⟩|⟨bq,c0,_,h2,h3,h4,_,h6,_,_⟩
   ·exact⟨_,h3,none,0,rfl,.inl rfl,by simp,fun _ _=>rfl⟩
   ·exact⟨_,h4,_,c0,rfl,.inr ⟨bq,0,rfl,h6⟩,by omega,fun _ e=>absurd e h2⟩
  have eH:∀(i:Nat)(v:Value),((List.range A.fol.length).map fun q=>((m6 b5 q).getD (.bool false)))[i]?=some v→i < A.fol.length∧∃l,(Zje A.fol)[i]?=some l∧m6 b5 i=some v∧SlI true l v m6:=fun i v hv=>by
   have jI:=(List.getElem?_eq_some_iff.1 hv).1
   rw[List.length_map,List.length_range]at jI
   rw[List.getElem?_map,List.getElem?_range jI]at hv
   simp only[Option.map_some,Option.some.injEq]at hv
   obtain⟨l,hl⟩:=Zam (l:=Zje A.fol) (k:=i) (by rw[ZfK];exact jI)
   obtain⟨w,dT,dE⟩:=gv i l hl
   rw[dT]at hv
   have:w=v:=hv
   subst this
   exact⟨jI,l,hl,dT,dE⟩
  refine⟨m6,Mem.le_trans nj hT.le,Mem.le_refl _,_,rfl,_,_,_,_,rfl,hs'.mono hT.le,⟨some ⟨b5,0,none⟩,A.fol.length,(List.range A.fol.length).map fun q=>((m6 b5 q).getD (.bool false)),?_,.inr ⟨b5,0,rfl,fun i v hv=>?_⟩,?_,?_,fun i v l hv hl=>?_⟩,hy'.mono hT.le,hx'.mono hT.le⟩
  ·show _=Value.slice _ (Zje A.fol).length _
   rw[ZfK]
  ·rw[Nat.zero_add]
   obtain⟨_,l,_,h2,_⟩:=eH i v hv
   exact h2
  ·show _=(Zje A.fol).length
   rw[ZfK,List.length_map,List.length_range]
  ·show(Zje A.fol).length≤_
   rw[ZfK];exact gN
  ·obtain⟨_,l2,h1,_,h3⟩:=eH i v hv
   rw[show A.turn.fol=Zje A.fol from rfl,h1]at hl
   cases hl;exact h3
end Go.Proofs.Ytplacemlpkhmfaa

