/- Part of the proof: conditions and contracts of functions of this program. No condition of its own. -/
import Derived.Test.YtplacemlpkhmfaaPC17I
import Derived.Test.YtplacemlpkhmfaaMr
set_option linter.unusedVariables false
set_option linter.unusedSimpArgs false
namespace Go.Proofs.Ytplacemlpkhmfaa
open Go Go.Eng Go.Rx Go.Proofs Go.RowKit
set_option maxRecDepth 100000
theorem Zui{st:Bool}{A:Nf}:∀(v:Value)(m':Mem) (css:List (List Value)),NfR st A v m'→Shape.fits (.agg [.slice,.slice,.slice,.slice,.bool]) v=true:=by
 rintro v m' css ⟨s,f,x,y,rfl,⟨_,_,rfl,_⟩,⟨_,_,_,rfl,_⟩,⟨_,_,rfl,_⟩,⟨_,_,rfl,_⟩⟩;rfl
theorem Zqh(A:Nf)(v:Value)(m:Mem)(h:NfR true A v m)(hr:A.right=true):CX Try.prog 16 #[v] m [] (NfE A.turn 0):=by
 have h':=h
 have cH:=Zg3.1 hr
 have wZ:=cH.n
 have w5:=cH.len
 obtain⟨s,f,x,y,rfl,⟨sa,sc,rfl,hs,fD,jv⟩,⟨fa,fc,vs,rfl,hf,iE,iY,jc⟩,⟨xa,xc,rfl,hx,gz,iG⟩,⟨ya,yc,rfl,hy,eR,jx⟩⟩:=h
 apply ZoY
 unfold Zj6
 intro b m1 bJ fS kV jp b1
 refine Zai (Zm5 A _ m1 (h'.mono bJ)) fun m2 bP=>ZbD (by rw[hr];rfl) ?_
 refine Zam (Zuh A _ m2 ((h'.mono bJ).mono bP) (by omega)) Zui ?_
 rintro a2 n2 c2 a3 n3 c3 a4 n4 c4 a5 n5 c5 e5 base cJ ⟨s',f',x',y',hv,hs',hf',hx',hy'⟩
 simp only[Value.agg.injEq,Array.mk.injEq,List.cons.injEq,Value.bool.injEq,and_true]at hv
 obtain⟨rfl,rfl,rfl,rfl,rfl⟩:=hv
 intro b4
 have nB:m.le base:=Mem.le_trans bJ (Mem.le_trans bP cJ)
 have dW:∀k,base.free k→b≠k:=fun k hk e=>by
  subst e
  have h1:=Mem.le_trans bP cJ _ _ _ (fS 0 _ rfl)
  rw[hk]at h1;cases h1
 refine⟨⟨by omega,by omega,by show(A.fol.length:Int)*24≤_;omega,by omega⟩,fun b5 p9=>?_⟩
 simp only[Int.toNat_natCast]
 have mD:∀N:Nat,(List.replicate N [Value.slice none 0 0]).flatten=List.replicate N (.slice none 0 0):=fun N=>by
  induction N with
  | zero=>rfl
  | succ N ih=>rw[List.replicate_succ,List.flatten_cons,ih];rfl
 rw[mD]
 have start:TurnI base (base.add b5 (List.replicate A.fol.length (.slice none 0 0))) b5 (fun _=>none) (List.replicate A.fol.length []):=by
  refine⟨Mem.le_add p9 _,p9,fun q l hq=>?_,fun _ _ _ _ _ h=>by simp at h,fun q x h=>by simp at h⟩
  rw[List.getElem?_replicate]at hq
  split at hq
  ·rename_i bM
   cases hq
   refine .inl ⟨rfl,rfl,?_⟩
   rw[Mem.add_same,List.getElem?_replicate,if_pos bM]
  ·cases hq
 refine⟨fun xs _ _ m' q=>∃(p:Nat) (F:Nat→Option (Nat×Nat)) (cur:List (List Int)),p≤A.fol.length∧xs=[.int .i64 p]∧TurnI base m' b5 F cur∧cur.length=A.fol.length∧ZdA (A.fol.drop p) p cur=ZjN A.fol∧(∀l∈cur,l.length≤p*1000000)∧q=A.fol.length - p,⟨_,0,_,_,Nat.zero_le _,rfl,start,List.length_replicate,rfl,fun l hl=>by obtain⟨_,rfl⟩:=List.mem_replicate.1 hl;exact Nat.zero_le _,rfl⟩,?_⟩
 rintro z m6 q _ ⟨p,F,cur,hp,hz,hT,eT,eV,rQ,hq⟩
 obtain rfl:z=p:=by simpa using hz
 subst hq
 refine Zaa (fun bM=>?_) (fun cR=>?_)
 ·have bL:p < A.fol.length:=by have:=of_decide_eq_true bM;omega
  obtain⟨l,hl⟩:=ZaN bL
  obtain⟨u,hu⟩:=ZaN (l:=vs) (k:=p) (by omega)
  obtain⟨la,lc,rfl,hO,fH,_⟩:=(jc p u l hu hl).mono (Mem.le_trans nB hT.le)
  obtain⟨fb,fo,j4,ib⟩:=Zg1 (hf.mono (Mem.le_trans nB hT.le)) hu
  have sx:rowRd base la (ZaM l):=by
   obtain⟨la',lc',e,sy,_⟩:=(jc p _ l hu hl).mono nB
   simp only[Value.slice.injEq]at e
   rw[e.1];exact sy
  have kq:=cH.fol l (List.mem_of_getElem? hl)
  refine⟨fb,fo,j4,⟨by omega,by omega⟩,_,(by rw[Int.toNat_natCast];exact ib),Zab rfl ?_⟩
  refine⟨fun xs _ _ m' q=>∃(j:Nat) (F:Nat→Option (Nat×Nat)) (cur':List (List Int)),j≤l.length∧xs=[.int .i64 j]∧TurnI base m' b5 F cur'∧cur'.length=A.fol.length∧(l.drop j).foldl (Zpd p) cur'=Zg2 p cur l∧(∀x∈cur',x.length≤p*1000000+j)∧q=l.length - j,⟨_,0,F,cur,Nat.zero_le _,rfl,hT,eT,by rw[List.drop_zero];unfold Zg2;rfl,fun x hx=>Nat.le_trans (rQ x hx) (Nat.le_add_right _ _),rfl⟩,?_⟩
  rintro z m7 q _ ⟨j,F2,cur2,hj,hz,qb,kY,iz,mM,hq⟩
  obtain rfl:z=j:=by simpa using hz
  subst hq
  refine Zaa (fun io=>?_) (fun ja=>?_)
  ·have fP:j < l.length:=by have:=of_decide_eq_true io;simp only[slN]at this;omega
   obtain⟨x,hx⟩:=ZaN fP
   have nG:=kq.2 x (List.mem_of_getElem? hx)
   have iG:x.toNat < A.fol.length:=by have:=nG.2;unfold Nf.top at this;omega
   obtain⟨lb,lo,wh,fY⟩:=Zd2 (sx.mono qb.le) hx
   obtain⟨c,hc⟩:=ZaN (l:=cur2) (k:=x.toNat) (by omega)
   have t8:=mM c (List.mem_of_getElem? hc)
   rw[Zc0 hx,List.foldl_cons]at iz
   have dE:=qb.cell _ _ hc
   obtain⟨ga,gc,sA,mN,bQ,bW⟩:∃(ga:Option Addr)(gc:Nat),m7 b5 x.toNat=some (.slice ga c.length gc)∧Zxg m7 m 1 ga c.length gc∧rowRd (m7.cutA ga (c.length*1)) ga (ZaM c)∧∀k,ga=some ⟨k,0,none⟩→base.free k∧k≠b5:=by
    rcases dE with⟨_,rfl,h3⟩|⟨bq,c0,_,h2,h3,h4,h5,h6,h7,h8⟩
    ·exact⟨none,0,h3,.inl ⟨rfl,rfl,rfl⟩,.inl rfl,fun k hk=>by cases hk⟩
    ·have gU:0 < c.length:=List.length_pos_iff.2 h2
     refine⟨_,c0,h4,.inr ⟨bq,rfl,h3,by omega,fun o ho=>h5 o (by omega),ZqY nB h7⟩,.inr ⟨bq,0,rfl,fun i v hv=>?_⟩,fun k hk=>by cases hk;exact⟨h7,h8⟩⟩
     have jJ:=(List.getElem?_eq_some_iff.1 hv).1
     rw[Zec]at jJ
     simp only[Mem.cutA]
     rw[if_neg (by omega)]
     exact h6 i v hv
   have jm:(m7.cutA ga (c.length*1)) b5 x.toNat=some (.slice ga c.length gc):=by
    unfold Mem.cutA
    split
    ·rename_i k o sp
     have hk:k≠b5:=by
      rcases mN with⟨h1,_⟩|⟨k',h1,_⟩
      ·cases h1
      ·cases h1;exact(bW _ rfl).2
     rw[if_neg (fun hc=>hk hc.1.symm)];exact sA
    ·exact sA
   have mO:(m7.cutA ga (c.length*1)) b5 (0+(intOf (Value.int .i64 x)).toNat*1)=some (.slice ga c.length gc):=by
    have e:0+(intOf (Value.int .i64 x)).toNat*1=x.toNat:=by show 0+x.toNat*1=_;omega
    rw[e];exact jm
   refine Zab rfl ⟨lb,lo,wh,⟨by omega,by show(j:Int) < (l.length:Nat);omega⟩,_,(by rw[Int.toNat_natCast];exact fY),ga,c.length,gc,mN,fun k hk=>⟨dW k ?_,trivial⟩,Zab rfl ⟨b5,0,rfl,⟨by show 0≤x;omega,by show x < (A.fol.length:Nat);omega⟩,_,mO,fun b9 pb=>Zab rfl ?_⟩⟩
   ·cases ga with
    | none=>simp[Tok.blk]at hk
    | some ad=>
     obtain⟨k',o,sp⟩:=ad
     rcases mN with⟨h1,_⟩|⟨k2,h1,_⟩
     ·cases h1
     ·cases h1
      simp[Tok.blk]at hk
      subst hk
      exact(bW _ rfl).1
   refine⟨.inl rfl,ZaM c,[.int .i64 (p:Int)],by rw[Zec];exact(Nat.mul_one _).symm,rfl,bQ.mono (Mem.le_add pb _),Zj7,by simp[Value.oneCell'],by show(c.length+1)*8≤_;omega,by show c.length+1≤_;omega,fun a' c' m8 kp wi nC M gC fJ ju=>Zab rfl ⟨b5,0,rfl,⟨by show 0≤x;omega,by show x < (A.fol.length:Nat);omega⟩,⟨[.slice ga c.length gc],rfl,fun i v hv=>?_⟩,ZqY nB p9,by trivial,fun e=>?_,dW b5 p9,fun zs oE=>⟨by trivial,?_⟩⟩⟩
   ·cases i with
    | zero=>
     simp at hv;subst hv
     show M b5 (0+x.toNat*1+0)=_
     rw[Nat.add_zero,Nat.zero_add,Nat.mul_one]
     exact gC _ _ _ jm
    | succ i=>simp at hv
   ·subst e
    rw[pb]at jm;cases jm
   ·obtain⟨F3,wj⟩:=qb.push (p:=p) (by omega:0≤x) hc sA (Mem.le_add pb _) wi nC gC ju zs oE
    refine⟨_,by omega,j+1,F3,_,fP,by rw[ZaA (by omega) (by omega)];rfl,?_,by rw[Zgv];exact kY,iz,fun y hy=>?_,rfl⟩
    ·have e:0+(intOf (Value.int .i64 x)).toNat*1=x.toNat:=by show 0+x.toNat*1=_;omega
     rw[e];exact wj
    ·obtain⟨i,hi⟩:=List.getElem?_of_mem hy
     have jJ:=(List.getElem?_eq_some_iff.1 hi).1
     rw[Zgv]at jJ
     rw[ZkN (List.getElem?_eq_getElem jJ)]at hi
     have:=mM _ (List.getElem_mem jJ)
     split at hi <;> cases hi
     ·rw[List.length_append,List.length_singleton];omega
     ·omega
  ·have:j=l.length:=by have:=of_decide_eq_false ja;simp only[slN]at this;omega
   subst this
   rw[List.drop_length,List.foldl_nil]at iz
   refine⟨by trivial,_,by omega,p+1,F2,cur2,bL,by rw[ZaA (by omega) (by omega)];rfl,qb,kY,?_,fun y hy=>by have:=mM y hy;omega,rfl⟩
   rw[iz,←eV,Zc0 hl,ZdA]
 ·have:p=A.fol.length:=by have:=of_decide_eq_false cR;omega
  subst this
  rw[List.drop_length,ZdA]at eV
  subst eV
  have gq:∀(q:Nat)(l:List Int),(ZjN A.fol)[q]?=some l→∃w,m6 b5 q=some w∧SlI true l w m6:=fun q l rR=>by
   have bO:=(Zms rR cH.rows).2
   rcases hT.cell _ _ rR with⟨_,rfl,h3⟩|⟨bq,c0,_,h2,h3,h4,_,h6,_,_⟩
   ·exact⟨_,h3,none,0,rfl,.inl rfl,by simp,fun _ _=>rfl⟩
   ·exact⟨_,h4,_,c0,rfl,.inr ⟨bq,0,rfl,h6⟩,by omega,fun _ e=>absurd e h2⟩
  have eU:∀(i:Nat)(v:Value),((List.range A.fol.length).map fun q=>((m6 b5 q).getD (.bool false)))[i]?=some v→i < A.fol.length∧∃l,(ZjN A.fol)[i]?=some l∧m6 b5 i=some v∧SlI true l v m6:=fun i v hv=>by
   have jJ:=(List.getElem?_eq_some_iff.1 hv).1
   rw[List.length_map,List.length_range]at jJ
   rw[List.getElem?_map,List.getElem?_range jJ]at hv
   simp only[Option.map_some,Option.some.injEq]at hv
   obtain⟨l,hl⟩:=ZaN (l:=ZjN A.fol) (k:=i) (by rw[Zgw];exact jJ)
   obtain⟨w,eJ,eH⟩:=gq i l hl
   rw[eJ]at hv
   have:w=v:=hv
   subst this
   exact⟨jJ,l,hl,eJ,eH⟩
  refine⟨m6,Mem.le_trans nB hT.le,Mem.le_refl _,_,rfl,_,_,_,_,rfl,hs'.mono hT.le,⟨some ⟨b5,0,none⟩,A.fol.length,(List.range A.fol.length).map fun q=>((m6 b5 q).getD (.bool false)),?_,.inr ⟨b5,0,rfl,fun i v hv=>?_⟩,?_,?_,fun i v l hv hl=>?_⟩,hy'.mono hT.le,hx'.mono hT.le⟩
  ·show _=Value.slice _ (ZjN A.fol).length _
   rw[Zgw]
  ·rw[Nat.zero_add]
   obtain⟨_,l,_,h2,_⟩:=eU i v hv
   exact h2
  ·show _=(ZjN A.fol).length
   rw[Zgw,List.length_map,List.length_range]
  ·show(ZjN A.fol).length≤_
   rw[Zgw];exact iY
  ·obtain⟨_,l2,h1,_,h3⟩:=eU i v hv
   rw[show A.turn.fol=ZjN A.fol from rfl,h1]at hl
   cases hl;exact h3
end Go.Proofs.Ytplacemlpkhmfaa

