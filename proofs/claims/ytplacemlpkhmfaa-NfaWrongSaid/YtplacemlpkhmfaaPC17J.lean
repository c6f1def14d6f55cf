/- Part of the proof: conditions and contracts of functions of this program. No condition of its own. -/
import Derived.Test.YtplacemlpkhmfaaPC17I
import Derived.Test.YtplacemlpkhmfaaMr
set_option linter.unusedVariables false
set_option linter.unusedSimpArgs false
namespace Go.Proofs.Ytplacemlpkhmfaa
open Go Go.Eng Go.Rx Go.Proofs Go.RowKit
set_option maxRecDepth 100000
theorem ZqB{st:Bool}{A:Nf}:∀(v:Value)(m':Mem) (css:List (List Value)),NfR st A v m'→Shape.fits (.agg [.slice,.slice,.slice,.slice,.bool]) v=true:=by
 rintro v m' css ⟨s,f,x,y,rfl,⟨_,_,rfl,_⟩,⟨_,_,_,rfl,_⟩,⟨_,_,rfl,_⟩,⟨_,_,rfl,_⟩⟩;rfl
theorem ZpC(A:Nf)(v:Value)(m:Mem)(h:NfR true A v m)(hr:A.right=true):CX Try.prog 16 #[v] m [] (NfE A.turn 0):=by
 have h':=h
 have cD:=Zfy.1 hr
 have wl:=cD.n
 have wm:=cD.len
 obtain⟨s,f,x,y,rfl,⟨sa,sc,rfl,hs,eP,jd⟩,⟨fa,fc,vs,rfl,hf,ie,iE,iM⟩,⟨xa,xc,rfl,hx,gd,hU⟩,⟨ya,yc,rfl,hy,eI,iN⟩⟩:=h
 apply ZjH
 unfold ZgT
 intro b m1 bH fP kn iP b1
 refine Zaj (Zip A _ m1 (h'.mono bH)) fun m2 bN=>Zbz (by rw[hr];rfl) ?_
 refine Zam (Ztw A _ m2 ((h'.mono bH).mono bN) (by omega)) ZqB ?_
 rintro a2 n2 c2 a3 n3 c3 a4 n4 c4 a5 n5 c5 e5 base cG ⟨s',f',x',y',hv,hs',hf',hx',hy'⟩
 simp only[Value.agg.injEq,Array.mk.injEq,List.cons.injEq,Value.bool.injEq,and_true]at hv
 obtain⟨rfl,rfl,rfl,rfl,rfl⟩:=hv
 intro b4
 have mZ:m.le base:=Mem.le_trans bH (Mem.le_trans bN cG)
 have dS:∀k,base.free k→b≠k:=fun k hk e=>by
  subst e
  have h1:=Mem.le_trans bN cG _ _ _ (fP 0 _ rfl)
  rw[hk]at h1;cases h1
 refine⟨⟨by omega,by omega,by show(A.fol.length:Int)*24≤_;omega,by omega⟩,fun b5 pM=>?_⟩
 simp only[Int.toNat_natCast]
 have l7:∀N:Nat,(List.replicate N [Value.slice none 0 0]).flatten=List.replicate N (.slice none 0 0):=fun N=>by
  induction N with
  | zero=>rfl
  | succ N ih=>rw[List.replicate_succ,List.flatten_cons,ih];rfl
 rw[l7]
 have start:TurnI base (base.add b5 (List.replicate A.fol.length (.slice none 0 0))) b5 (fun _=>none) (List.replicate A.fol.length []):=by
  refine⟨Mem.le_add pM _,pM,fun q l hq=>?_,fun _ _ _ _ _ h=>by simp at h,fun q x h=>by simp at h⟩
  rw[List.getElem?_replicate]at hq
  split at hq
  ·rename_i bK
   cases hq
   refine .inl ⟨rfl,rfl,?_⟩
   rw[Mem.add_same,List.getElem?_replicate,if_pos bK]
  ·cases hq
 refine⟨fun xs _ _ m' q=>∃(p:Nat) (F:Nat→Option (Nat×Nat)) (cur:List (List Int)),p≤A.fol.length∧xs=[.int .i64 p]∧TurnI base m' b5 F cur∧cur.length=A.fol.length∧Zdm (A.fol.drop p) p cur=Zjp A.fol∧(∀l∈cur,l.length≤p*1000000)∧q=A.fol.length - p,⟨_,0,_,_,Nat.zero_le _,rfl,start,List.length_replicate,rfl,fun l hl=>by obtain⟨_,rfl⟩:=List.mem_replicate.1 hl;exact Nat.zero_le _,rfl⟩,?_⟩
 rintro z m6 q _ ⟨p,F,cur,hp,hz,hT,fM,eQ,vO,hq⟩
 obtain rfl:z=p:=by simpa using hz
 subst hq
 refine Zab (fun bK=>?_) (fun cS=>?_)
 ·have bJ:p < A.fol.length:=by have:=of_decide_eq_true bK;omega
  obtain⟨l,hl⟩:=ZaE bJ
  obtain⟨u,hu⟩:=ZaE (l:=vs) (k:=p) (by omega)
  obtain⟨la,lc,rfl,gX,eL,_⟩:=(iM p u l hu hl).mono (Mem.le_trans mZ hT.le)
  obtain⟨fb,fo,fX,fL⟩:=ZgK (hf.mono (Mem.le_trans mZ hT.le)) hu
  have rW:rowRd base la (ZaA l):=by
   obtain⟨la',lc',e,rX,_⟩:=(iM p _ l hu hl).mono mZ
   simp only[Value.slice.injEq]at e
   rw[e.1];exact rX
  have kd:=cD.fol l (List.mem_of_getElem? hl)
  refine⟨fb,fo,fX,⟨by omega,by omega⟩,_,(by rw[Int.toNat_natCast];exact fL),Zaa rfl ?_⟩
  refine⟨fun xs _ _ m' q=>∃(j:Nat) (F:Nat→Option (Nat×Nat)) (cur':List (List Int)),j≤l.length∧xs=[.int .i64 j]∧TurnI base m' b5 F cur'∧cur'.length=A.fol.length∧(l.drop j).foldl (Zov p) cur'=ZgL p cur l∧(∀x∈cur',x.length≤p*1000000+j)∧q=l.length - j,⟨_,0,F,cur,Nat.zero_le _,rfl,hT,fM,by rw[List.drop_zero];unfold ZgL;rfl,fun x hx=>Nat.le_trans (vO x hx) (Nat.le_add_right _ _),rfl⟩,?_⟩
  rintro z m7 q _ ⟨j,F2,cur2,hj,hz,pN,oI,im,mo,hq⟩
  obtain rfl:z=j:=by simpa using hz
  subst hq
  refine Zab (fun ii=>?_) (fun iX=>?_)
  ·have fI:j < l.length:=by have:=of_decide_eq_true ii;simp only[slN]at this;omega
   obtain⟨x,hx⟩:=ZaE fI
   have nh:=kd.2 x (List.mem_of_getElem? hx)
   have hU:x.toNat < A.fol.length:=by have:=nh.2;unfold Nf.top at this;omega
   obtain⟨lb,lo,vP,fV⟩:=ZdP (rW.mono pN.le) hx
   obtain⟨c,hc⟩:=ZaE (l:=cur2) (k:=x.toNat) (by omega)
   have tI:=mo c (List.mem_of_getElem? hc)
   rw[ZcO hx,List.foldl_cons]at im
   have cV:=pN.cell _ _ hc
   obtain⟨ga,gc,rY,mq,bM,bT⟩:∃(ga:Option Addr)(gc:Nat),m7 b5 x.toNat=some (.slice ga c.length gc)∧Zwo m7 m 1 ga c.length gc∧rowRd (m7.cutA ga (c.length*1)) ga (ZaA c)∧∀k,ga=some ⟨k,0,none⟩→base.free k∧k≠b5:=by
    rcases cV with⟨_,rfl,h3⟩|⟨bq,c0,_,h2,h3,h4,h5,h6,h7,h8⟩
    ·exact⟨none,0,h3,.inl ⟨rfl,rfl,rfl⟩,.inl rfl,fun k hk=>by cases hk⟩
    ·have gy:0 < c.length:=List.length_pos_iff.2 h2
     refine⟨_,c0,h4,.inr ⟨bq,rfl,h3,by omega,fun o ho=>h5 o (by omega),Zqk mZ h7⟩,.inr ⟨bq,0,rfl,fun i v hv=>?_⟩,fun k hk=>by cases hk;exact⟨h7,h8⟩⟩
     have jC:=(List.getElem?_eq_some_iff.1 hv).1
     rw[Zch]at jC
     simp only[Mem.cutA]
     rw[if_neg (by omega)]
     exact h6 i v hv
   have jf:(m7.cutA ga (c.length*1)) b5 x.toNat=some (.slice ga c.length gc):=by
    unfold Mem.cutA
    split
    ·rename_i k o sp
     have hk:k≠b5:=by
      rcases mq with⟨h1,_⟩|⟨k',h1,_⟩
      ·cases h1
      ·cases h1;exact(bT _ rfl).2
     rw[if_neg (fun hc=>hk hc.1.symm)];exact rY
    ·exact rY
   have mr:(m7.cutA ga (c.length*1)) b5 (0+(intOf (Value.int .i64 x)).toNat*1)=some (.slice ga c.length gc):=by
    have e:0+(intOf (Value.int .i64 x)).toNat*1=x.toNat:=by show 0+x.toNat*1=_;omega
    rw[e];exact jf
   refine Zaa rfl ⟨lb,lo,vP,⟨by omega,by show(j:Int) < (l.length:Nat);omega⟩,_,(by rw[Int.toNat_natCast];exact fV),ga,c.length,gc,mq,fun k hk=>⟨dS k ?_,trivial⟩,Zaa rfl ⟨b5,0,rfl,⟨by show 0≤x;omega,by show x < (A.fol.length:Nat);omega⟩,_,mr,fun b9 oH=>Zaa rfl ?_⟩⟩
   ·cases ga with
    | none=>simp[Tok.blk]at hk
    | some ad=>
     obtain⟨k',o,sp⟩:=ad
     rcases mq with⟨h1,_⟩|⟨k2,h1,_⟩
     ·cases h1
     ·cases h1
      simp[Tok.blk]at hk
      subst hk
      exact(bT _ rfl).1
   refine⟨.inl rfl,ZaA c,[.int .i64 (p:Int)],by rw[Zch];exact(Nat.mul_one _).symm,rfl,bM.mono (Mem.le_add oH _),Zfo,by simp[Value.oneCell'],by show(c.length+1)*8≤_;omega,by show c.length+1≤_;omega,fun a' c' m8 kp vQ mU M gR fN jA=>Zaa rfl ⟨b5,0,rfl,⟨by show 0≤x;omega,by show x < (A.fol.length:Nat);omega⟩,⟨[.slice ga c.length gc],rfl,fun i v hv=>?_⟩,Zqk mZ pM,by trivial,fun e=>?_,dS b5 pM,fun zs kC=>⟨by trivial,?_⟩⟩⟩
   ·cases i with
    | zero=>
     simp at hv;subst hv
     show M b5 (0+x.toNat*1+0)=_
     rw[Nat.add_zero,Nat.zero_add,Nat.mul_one]
     exact gR _ _ _ jf
    | succ i=>simp at hv
   ·subst e
    rw[oH]at jf;cases jf
   ·obtain⟨F3,vR⟩:=pN.push (p:=p) (by omega:0≤x) hc rY (Mem.le_add oH _) vQ mU gR jA zs kC
    refine⟨_,by omega,j+1,F3,_,fI,by rw[Zax (by omega) (by omega)];rfl,?_,by rw[Zgf];exact oI,im,fun y hy=>?_,rfl⟩
    ·have e:0+(intOf (Value.int .i64 x)).toNat*1=x.toNat:=by show 0+x.toNat*1=_;omega
     rw[e];exact vR
    ·obtain⟨i,hi⟩:=List.getElem?_of_mem hy
     have jC:=(List.getElem?_eq_some_iff.1 hi).1
     rw[Zgf]at jC
     rw[Zkn (List.getElem?_eq_getElem jC)]at hi
     have:=mo _ (List.getElem_mem jC)
     split at hi <;> cases hi
     ·rw[List.length_append,List.length_singleton];omega
     ·omega
  ·have:j=l.length:=by have:=of_decide_eq_false iX;simp only[slN]at this;omega
   subst this
   rw[List.drop_length,List.foldl_nil]at im
   refine⟨by trivial,_,by omega,p+1,F2,cur2,bJ,by rw[Zax (by omega) (by omega)];rfl,pN,oI,?_,fun y hy=>by have:=mo y hy;omega,rfl⟩
   rw[im,←eQ,ZcO hl,Zdm]
 ·have:p=A.fol.length:=by have:=of_decide_eq_false cS;omega
  subst this
  rw[List.drop_length,Zdm]at eQ
  subst eQ
  have ge:∀(q:Nat)(l:List Int),(Zjp A.fol)[q]?=some l→∃w,m6 b5 q=some w∧SlI true l w m6:=fun q l ro=>by
   have bO:=(ZlY ro cD.rows).2
   rcases hT.cell _ _ ro with⟨_,rfl,h3⟩|⟨bq,c0,_,h2,h3,h4,_,h6,_,_⟩
   ·exact⟨_,h3,none,0,rfl,.inl rfl,by simp,fun _ _=>rfl⟩
   ·exact⟨_,h4,_,c0,rfl,.inr ⟨bq,0,rfl,h6⟩,by omega,fun _ e=>absurd e h2⟩
  have eO:∀(i:Nat)(v:Value),((List.range A.fol.length).map fun q=>((m6 b5 q).getD (.bool false)))[i]?=some v→i < A.fol.length∧∃l,(Zjp A.fol)[i]?=some l∧m6 b5 i=some v∧SlI true l v m6:=fun i v hv=>by
   have jC:=(List.getElem?_eq_some_iff.1 hv).1
   rw[List.length_map,List.length_range]at jC
   rw[List.getElem?_map,List.getElem?_range jC]at hv
   simp only[Option.map_some,Option.some.injEq]at hv
   obtain⟨l,hl⟩:=ZaE (l:=Zjp A.fol) (k:=i) (by rw[Zgg];exact jC)
   obtain⟨w,eD,eC⟩:=ge i l hl
   rw[eD]at hv
   have:w=v:=hv
   subst this
   exact⟨jC,l,hl,eD,eC⟩
  refine⟨m6,Mem.le_trans mZ hT.le,Mem.le_refl _,_,rfl,_,_,_,_,rfl,hs'.mono hT.le,⟨some ⟨b5,0,none⟩,A.fol.length,(List.range A.fol.length).map fun q=>((m6 b5 q).getD (.bool false)),?_,.inr ⟨b5,0,rfl,fun i v hv=>?_⟩,?_,?_,fun i v l hv hl=>?_⟩,hy'.mono hT.le,hx'.mono hT.le⟩
  ·show _=Value.slice _ (Zjp A.fol).length _
   rw[Zgg]
  ·rw[Nat.zero_add]
   obtain⟨_,l,_,h2,_⟩:=eO i v hv
   exact h2
  ·show _=(Zjp A.fol).length
   rw[Zgg,List.length_map,List.length_range]
  ·show(Zjp A.fol).length≤_
   rw[Zgg];exact iE
  ·obtain⟨_,l2,h1,_,h3⟩:=eO i v hv
   rw[show A.turn.fol=Zjp A.fol from rfl,h1]at hl
   cases hl;exact h3
end Go.Proofs.Ytplacemlpkhmfaa

