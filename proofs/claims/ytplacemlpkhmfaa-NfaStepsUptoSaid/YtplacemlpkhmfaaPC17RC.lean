/- Part of the proof: conditions and contracts of functions of this program. No condition of its own. -/
import Derived.Test.YtplacemlpkhmfaaPC17HS
import Derived.Test.YtplacemlpkhmfaaMr
import Derived.Test.YtplacemlpkhmfaaPVND
import Derived.Test.YtplacemlpkhmfaaPVNR
import Derived.Test.YtplacemlpkhmfaaPC17RA
set_option linter.unusedVariables false
set_option linter.unusedSimpArgs false
namespace Go.Proofs.Ytplacemlpkhmfaa
open Go Go.Eng Go.Rx Go.Proofs Go.RowKit
set_option maxRecDepth 100000
def ZvO(st:Bool)(A:Nf)(m:Mem):Value→Mem→List (List Value)→Prop:=fun v m' _=>∃w,v=.tuple #[w,.int .i64 0]∧CopyS st A m w m'
theorem Zrj{st:Bool}(A:Nf)(v:Value)(m:Mem)(h:NfR st A v m)(hr:A.right=true):CX Try.prog 16 #[v] m [] (ZvO st A.turn m):=by
 have h':=h
 have cI:=ZeW.1 hr
 have wq:=cI.n
 have wt:=cI.len
 obtain⟨s,f,x,y,rfl,⟨sa,sc,rfl,hs,dP,iN⟩,⟨fa,fc,vs,rfl,hf,f9,gZ,fW⟩,⟨xa,xc,rfl,hx,eD,gz⟩,⟨ya,yc,rfl,hy,dD,hH⟩⟩:=h
 apply ZnG
 unfold Zjj
 intro b m1 bE eI kL jj b1
 refine Zah (Zj8 A _ m1 (h'.mono bE)) fun m2 bZ=>Zbo (by rw[hr];rfl) ?_
 refine Zas (ZpX A _ m2 ((h'.mono bE).mono bZ) (by omega)) Zlf ?_
 rintro a2 n2 c2 a3 n3 c3 a4 n4 c4 a5 n5 c5 e5 base cD ⟨s',f',x',y',hv,hs',hx',hy',_,_,_,_,_,_,_,_⟩
 simp only[Value.agg.injEq,Array.mk.injEq,List.cons.injEq,Value.bool.injEq,and_true]at hv
 obtain⟨rfl,rfl,rfl,rfl,rfl⟩:=hv
 intro b4
 have mA:m.le base:=Mem.le_trans bE (Mem.le_trans bZ cD)
 have dG:∀k,base.free k→b≠k:=fun k hk e=>by
  subst e
  have h1:=Mem.le_trans bZ cD _ _ _ (eI 0 _ rfl)
  rw[hk]at h1;cases h1
 refine⟨⟨by omega,by omega,by show(A.fol.length:Int)*24≤_;omega,by omega⟩,fun b5 kR=>?_⟩
 simp only[Int.toNat_natCast]
 have mg:∀N:Nat,(List.replicate N [Value.slice none 0 0]).flatten=List.replicate N (.slice none 0 0):=fun N=>by
  induction N with
  | zero=>rfl
  | succ N ih=>rw[List.replicate_succ,List.flatten_cons,ih];rfl
 rw[mg]
 have start:TurnI base (base.add b5 (List.replicate A.fol.length (.slice none 0 0))) b5 (fun _=>none) (List.replicate A.fol.length []):=by
  refine⟨Mem.le_add kR _,kR,fun q l hq=>?_,fun _ _ _ _ _ h=>by simp at h,fun q x h=>by simp at h⟩
  rw[List.getElem?_replicate]at hq
  split at hq
  ·rename_i bV
   cases hq
   refine .inl ⟨rfl,rfl,?_⟩
   rw[Mem.add_same,List.getElem?_replicate,if_pos bV]
  ·cases hq
 refine⟨fun xs _ _ m' q=>∃(p:Nat) (F:Nat→Option (Nat×Nat)) (cur:List (List Int)),p≤A.fol.length∧xs=[.int .i64 p]∧TurnI base m' b5 F cur∧cur.length=A.fol.length∧Zc0 (A.fol.drop p) p cur=Zi7 A.fol∧(∀l∈cur,l.length≤p*1000000)∧q=A.fol.length - p,⟨_,0,_,_,Nat.zero_le _,rfl,start,List.length_replicate,rfl,fun l hl=>by obtain⟨_,rfl⟩:=List.mem_replicate.1 hl;exact Nat.zero_le _,rfl⟩,?_⟩
 rintro z m6 q _ ⟨p,F,cur,hp,hz,hT,fZ,eJ,vG,hq⟩
 obtain rfl:z=p:=by simpa using hz
 subst hq
 refine Zab (fun bV=>?_) (fun cM=>?_)
 ·have bF:p < A.fol.length:=by have:=of_decide_eq_true bV;omega
  obtain⟨l,hl⟩:=Zam bF
  obtain⟨u,hu⟩:=Zam (l:=vs) (k:=p) (by omega)
  obtain⟨la,lc,rfl,pT,dL,_⟩:=(fW p u l hu hl).mono (Mem.le_trans mA hT.le)
  obtain⟨fb,fo,gE,eA⟩:=ZbX (hf.mono (Mem.le_trans mA hT.le)) hu
  have rU:rowRd base la (Zaq l):=by
   obtain⟨la',lc',e,rV,_⟩:=(fW p _ l hu hl).mono mA
   simp only[Value.slice.injEq]at e
   rw[e.1];exact rV
  have j8:=cI.fol l (List.mem_of_getElem? hl)
  refine⟨fb,fo,gE,⟨by omega,by omega⟩,_,(by rw[Int.toNat_natCast];exact eA),Zaa rfl ?_⟩
  refine⟨fun xs _ _ m' q=>∃(j:Nat) (F:Nat→Option (Nat×Nat)) (cur':List (List Int)),j≤l.length∧xs=[.int .i64 j]∧TurnI base m' b5 F cur'∧cur'.length=A.fol.length∧(l.drop j).foldl (Zoc p) cur'=Zgj p cur l∧(∀x∈cur',x.length≤p*1000000+j)∧q=l.length - j,⟨_,0,F,cur,Nat.zero_le _,rfl,hT,fZ,by rw[List.drop_zero];unfold Zgj;rfl,fun x hx=>Nat.le_trans (vG x hx) (Nat.le_add_right _ _),rfl⟩,?_⟩
  rintro z m7 q _ ⟨j,F2,cur2,hj,hz,pW,oT,iu,mB,hq⟩
  obtain rfl:z=j:=by simpa using hz
  subst hq
  refine Zab (fun eK=>?_) (fun gP=>?_)
  ·have cR:j < l.length:=by have:=of_decide_eq_true eK;simp only[slN]at this;omega
   obtain⟨x,hx⟩:=Zam cR
   have nk:=j8.2 x (List.mem_of_getElem? hx)
   have gz:x.toNat < A.fol.length:=by have:=nk.2;unfold Nf.top at this;omega
   obtain⟨lb,lo,vH,iI⟩:=Zba (rU.mono pW.le) hx
   obtain⟨c,hc⟩:=Zam (l:=cur2) (k:=x.toNat) (by omega)
   have tL:=mB c (List.mem_of_getElem? hc)
   rw[Zce hx,List.foldl_cons]at iu
   have cO:=pW.cell _ _ hc
   obtain⟨ga,gc,rW,mC,cV,cB⟩:∃(ga:Option Addr)(gc:Nat),m7 b5 x.toNat=some (.slice ga c.length gc)∧ZvD m7 m 1 ga c.length gc∧rowRd (m7.cutA ga (c.length*1)) ga (Zaq c)∧∀k,ga=some ⟨k,0,none⟩→base.free k∧k≠b5:=by
    rcases cO with⟨_,rfl,h3⟩|⟨bq,c0,_,h2,h3,h4,h5,h6,h7,h8⟩
    ·exact⟨none,0,h3,.inl ⟨rfl,rfl,rfl⟩,.inl rfl,fun k hk=>by cases hk⟩
    ·have hQ:0 < c.length:=List.length_pos_iff.2 h2
     refine⟨_,c0,h4,.inr ⟨bq,rfl,h3,by omega,fun o ho=>h5 o (by omega),Zmb mA h7⟩,.inr ⟨bq,0,rfl,fun i v hv=>?_⟩,fun k hk=>by cases hk;exact⟨h7,h8⟩⟩
     have jz:=(List.getElem?_eq_some_iff.1 hv).1
     rw[ZcZ]at jz
     simp only[Mem.cutA]
     rw[if_neg (by omega)]
     exact h6 i v hv
   have jh:(m7.cutA ga (c.length*1)) b5 x.toNat=some (.slice ga c.length gc):=by
    unfold Mem.cutA
    split
    ·rename_i k o sp
     have hk:k≠b5:=by
      rcases mC with⟨h1,_⟩|⟨k',h1,_⟩
      ·cases h1
      ·cases h1;exact(cB _ rfl).2
     rw[if_neg (fun hc=>hk hc.1.symm)];exact rW
    ·exact rW
   have mD:(m7.cutA ga (c.length*1)) b5 (0+(intOf (Value.int .i64 x)).toNat*1)=some (.slice ga c.length gc):=by
    have e:0+(intOf (Value.int .i64 x)).toNat*1=x.toNat:=by show 0+x.toNat*1=_;omega
    rw[e];exact jh
   refine Zaa rfl ⟨lb,lo,vH,⟨by omega,by show(j:Int) < (l.length:Nat);omega⟩,_,(by rw[Int.toNat_natCast];exact iI),ga,c.length,gc,mC,fun k hk=>⟨dG k ?_,trivial⟩,Zaa rfl ⟨b5,0,rfl,⟨by show 0≤x;omega,by show x < (A.fol.length:Nat);omega⟩,_,mD,fun b9 oP=>Zaa rfl ?_⟩⟩
   ·cases ga with
    | none=>simp[Tok.blk]at hk
    | some ad=>
     obtain⟨k',o,sp⟩:=ad
     rcases mC with⟨h1,_⟩|⟨k2,h1,_⟩
     ·cases h1
     ·cases h1
      simp[Tok.blk]at hk
      subst hk
      exact(cB _ rfl).1
   refine⟨.inl rfl,Zaq c,[.int .i64 (p:Int)],by rw[ZcZ];exact(Nat.mul_one _).symm,rfl,cV.mono (Mem.le_add oP _),Zgq,by simp[Value.oneCell'],by show(c.length+1)*8≤_;omega,by show c.length+1≤_;omega,fun a' c' m8 j6 vI pX M gt gq kq=>Zaa rfl ⟨b5,0,rfl,⟨by show 0≤x;omega,by show x < (A.fol.length:Nat);omega⟩,⟨[.slice ga c.length gc],rfl,fun i v hv=>?_⟩,Zmb mA kR,by trivial,fun e=>?_,dG b5 kR,fun zs li=>⟨by trivial,?_⟩⟩⟩
   ·cases i with
    | zero=>
     simp at hv;subst hv
     show M b5 (0+x.toNat*1+0)=_
     rw[Nat.add_zero,Nat.zero_add,Nat.mul_one]
     exact gt _ _ _ jh
    | succ i=>simp at hv
   ·subst e
    rw[oP]at jh;cases jh
   ·obtain⟨F3,vJ⟩:=pW.push (p:=p) (by omega:0≤x) hc rW (Mem.le_add oP _) vI pX gt kq zs li
    refine⟨_,by omega,j+1,F3,_,cR,by rw[Zau (by omega) (by omega)];rfl,?_,by rw[ZfG];exact oT,iu,fun y hy=>?_,rfl⟩
    ·have e:0+(intOf (Value.int .i64 x)).toNat*1=x.toNat:=by show 0+x.toNat*1=_;omega
     rw[e];exact vJ
    ·obtain⟨i,hi⟩:=List.getElem?_of_mem hy
     have jz:=(List.getElem?_eq_some_iff.1 hi).1
     rw[ZfG]at jz
     rw[ZjW (List.getElem?_eq_getElem jz)]at hi
     have:=mB _ (List.getElem_mem jz)
     split at hi <;> cases hi
     ·rw[List.length_append,List.length_singleton];omega
     ·omega
  ·have:j=l.length:=by have:=of_decide_eq_false gP;simp only[slN]at this;omega
   subst this
   rw[List.drop_length,List.foldl_nil]at iu
   refine⟨by trivial,_,by omega,p+1,F2,cur2,bF,by rw[Zau (by omega) (by omega)];rfl,pW,oT,?_,fun y hy=>by have:=mB y hy;omega,rfl⟩
   rw[iu,←eJ,Zce hl,Zc0]
 ·have:p=A.fol.length:=by have:=of_decide_eq_false cM;omega
  subst this
  rw[List.drop_length,Zc0]at eJ
  subst eJ
  have gn:∀(q:Nat)(l:List Int),(Zi7 A.fol)[q]?=some l→∃w,m6 b5 q=some w∧SlI st l w m6∧NewS m w∧(l≠[]→Zri (some ⟨b5,0,none⟩) w):=fun q l ry=>by
   have bY:=(ZlC ry cI.rows).2
   rcases hT.cell _ _ ry with⟨_,rfl,h3⟩|⟨bq,c0,_,h2,h3,h4,_,h6,h7,h8⟩
   ·exact⟨_,h3,⟨none,0,rfl,.inl rfl,by simp,fun _ _=>rfl⟩,fun b o e=>by simp[slA]at e,fun cJ=>absurd rfl cJ⟩
   ·exact⟨_,h4,⟨_,c0,rfl,.inr ⟨bq,0,rfl,h6⟩,by omega,fun _ e=>absurd e h2⟩,fun b o e=>by simp[slA]at e;exact e.1 ▸ Zmb mA h7,fun _ b o o' e ea=>by simp[slA]at e ea;exact h8 (e.1.trans ea.1.symm)⟩
  have eH:∀(i:Nat)(v:Value),((List.range A.fol.length).map fun q=>((m6 b5 q).getD (.bool false)))[i]?=some v→i < A.fol.length∧∃l,(Zi7 A.fol)[i]?=some l∧m6 b5 i=some v∧SlI st l v m6∧NewS m v∧(l≠[]→Zri (some ⟨b5,0,none⟩) v):=fun i v hv=>by
   have jz:=(List.getElem?_eq_some_iff.1 hv).1
   rw[List.length_map,List.length_range]at jz
   rw[List.getElem?_map,List.getElem?_range jz]at hv
   simp only[Option.map_some,Option.some.injEq]at hv
   obtain⟨l,hl⟩:=Zam (l:=Zi7 A.fol) (k:=i) (by rw[ZfH];exact jz)
   obtain⟨w,eF,dQ⟩:=gn i l hl
   rw[eF]at hv
   have:w=v:=hv
   subst this
   exact⟨jz,l,hl,eF,dQ⟩
  have dE:=Mem.le_trans bE bZ
  refine⟨m6,Mem.le_trans mA hT.le,Mem.le_refl _,_,rfl,_,_,_,_,rfl,⟨hs'.1.mono hT.le,hs'.2.less dE⟩,⟨hy'.1.mono hT.le,hy'.2.less dE⟩,⟨hx'.1.mono hT.le,hx'.2.less dE⟩,some ⟨b5,0,none⟩,A.fol.length,(List.range A.fol.length).map fun q=>((m6 b5 q).getD (.bool false)),?_,.inr ⟨b5,0,rfl,fun i v hv=>?_⟩,?_,?_,fun cJ b o o' e ea=>?_,fun cJ b o o' e ea=>?_,fun cJ b o o' e ea=>?_,fun i v l hv hl=>?_⟩
  ·show _=Value.slice _ (Zi7 A.fol).length _
   rw[ZfH]
  ·rw[Nat.zero_add]
   obtain⟨_,l,_,h2,_⟩:=eH i v hv
   exact h2
  ·show _=(Zi7 A.fol).length
   rw[ZfH,List.length_map,List.length_range]
  ·show(Zi7 A.fol).length≤_
   rw[ZfH];exact gZ
  ·cases ea;exact Zv0 hs'.1 cJ e kR
  ·cases ea;exact Zuj hy'.1 cJ e kR
  ·cases ea;exact Zuj hx'.1 cJ e kR
  ·obtain⟨_,l2,h1,_,h3⟩:=eH i v hv
   rw[show A.turn.fol=Zi7 A.fol from rfl,h1]at hl
   cases hl;exact h3
theorem Zo9{st:Bool}(A:Nf)(v:Value)(m:Mem)(h:NfR st A v m)(hr:A.right=true):CX Try.prog 16 #[v] m [] (fun v m' _=>∃w,v=.tuple #[w,.int .i64 0]∧NfR st A.turn w m'):=(Zrj A v m h hr).mono fun _ _ _ _ ⟨w,h1,h2⟩=>⟨w,h1,h2.nf⟩
end Go.Proofs.Ytplacemlpkhmfaa
set_option linter.unusedVariables false
set_option linter.unusedSimpArgs false
namespace Go.Proofs.Ytplacemlpkhmfaa
open Go Go.Eng Go.Rx Go.Proofs Go.RowKit
set_option maxRecDepth 100000
theorem Zr1(q:QS)(hq:QOk q)(c:Nat)(hc:c < 256)(m:Mem):CX Try.prog 117 #[.agg #[.int .u64 q.1,.int .u64 q.2.1,.int .u64 q.2.2.1,.int .u64 q.2.2.2],.int .u8 c] m [] (Ret (.bool (ZqV q c))):=
 ZtT (ZtL q) c hc m (ZvI hq m)
theorem Zt4(l:List Int)(a:Option Addr)(c:Nat)(m:Mem)(h:rowRd m a (Zaq l))(hl:l.length≤1000000)(gu:∀p∈l,0≤p∧p < 448):CX Try.prog 112 #[.slice a l.length c] m [] (Ret (bwV (ZuE l 0))):=by
 apply ZoZ
 unfold Zk8
 intro b b1
 refine⟨fun xs css _ m' q=>∃(k f:Nat),k≤l.length∧xs=[.int .i64 k]∧css=[bwL f]∧ZuE (l.drop k) f=ZuE l 0∧m.le m'∧q=l.length - k,⟨_,0,0,Nat.zero_le _,rfl,by rw[ZkY],rfl,Mem.le_refl _,rfl⟩,?_⟩
 rintro z cs m1 q bE ⟨k,f,hk,hz,cG,he,_,hq⟩
 obtain rfl:z=k:=by simpa using hz
 obtain rfl:cs=bwL f:=by simpa using cG
 subst hq
 refine Zab (fun bV=>?_) (fun cM=>?_)
 ·have bF:k < l.length:=by have:=of_decide_eq_true bV;omega
  obtain⟨x,hx⟩:=Zam bF
  obtain⟨b2,o,gj,cN⟩:=Zba (h.mono bE) hx
  have wu:=gu x (List.mem_of_getElem? hx)
  obtain⟨i,rfl⟩:∃i:Nat,x=i:=⟨x.toNat,by omega⟩
  rw[Zce hx]at he
  refine⟨b2,o,gj,⟨by omega,by omega⟩,_,(by rw[Int.toNat_natCast];exact cN),_,trivial,Zk9 f i (by omega) b1 100 7 [] [] m1 (by omega),fun v _ _ h=>by rw[h.1];rfl,fun m2 bZ cs2 j0=>⟨by trivial,_,by omega,k+1,f|||2 ^ i,bF,by rw[Zau (by omega) (by omega)];rfl,?_,he,Mem.le_trans bE bZ,rfl⟩⟩
  have:=j0.2
  simp only[List.nil_append,List.append_nil]at this
  exact this
 ·have:k=l.length:=by have:=of_decide_eq_false cM;omega
  subst this
  rw[List.drop_length]at he
  refine Zaa rfl (Zad bE ?_)
  rw[←he];rfl
theorem Zt5(A:Nf)(f:Nat)(p:Int)(hp : -1≤p∧p < 448)(s0 s1 s2 s3:Value)(b c:Nat)(m:Mem)(hb:m.reads b 0 [s0,s1,s2,s3,.bool A.empty])(hc:m.reads c 0 (bwL f)):CX Try.prog 114 #[.int .i64 p,.pointer (some ⟨b,0,none⟩),.pointer (some ⟨c,0,none⟩)] m [] (Ret (.bool (if p=-1 then A.empty else f.testBit p.toNat))):=by
 apply ZgA
 unfold ZdK
 by_cases h:p=-1
 ·subst h
  rw[if_pos rfl]
  refine⟨A.empty,Zcc (by decide) ⟨_,(by simpa using hb 4 _ rfl),?_⟩,Zad (Mem.le_refl _) rfl⟩
  cases A.empty
  ·exact Zaa rfl (Zbo rfl (Zbo (by decide) rfl))
  ·exact Zaa rfl (Zcc rfl rfl)
 ·rw[if_neg h]
  obtain⟨i,rfl⟩:∃i:Nat,p=i:=⟨p.toNat,by omega⟩
  refine⟨f.testBit i,Zbo (by simp) (Zcc (by simp) ?_),Zad (Mem.le_refl _) (by rw[Int.toNat_natCast])⟩
  exact Zah (ZrU f i (by omega) c 0 m hc) fun m1 bE=>rfl
theorem Zrk(l:List Int)(a:Option Addr)(c:Nat)(g:Nat)(ca:List Value)(p:Int→Bool)(m:Mem)(h:rowRd m a (Zaq l))(hl:l.length≤1000000)(hg:∀x∈l,∀m',m.le m'→CX Try.prog g (([.int .i64 x]:List Value)++ca).toArray m' [] (Ret (.bool (p x)))):
  CX Try.prog 113 #[.slice a l.length c,.func (.func g) #[] ca.toArray] m [] (Ret (.bool (l.any p))):=by
 have rX:CX Try.prog 146 #[.slice a l.length c,.func (.func g) #[] ca.toArray] m [] (fun v _ _=>∃n:Int,v=.int .i64 n∧decide (n ≥ 0)=l.any p):=by
  apply Zb4 a l.length c g [] ca
  unfold Zbm
  refine⟨fun xs _ _ m' q=>∃k:Nat,k≤l.length∧xs=[.int .i64 k]∧(l.drop k).any p=l.any p∧m.le m'∧q=l.length - k,⟨_,0,Nat.zero_le _,rfl,rfl,Mem.le_refl _,rfl⟩,?_⟩
  rintro z m1 q bE ⟨k,hk,hz,he,_,hq⟩
  obtain rfl:z=k:=by simpa using hz
  subst hq
  refine Zab (fun bV=>?_) (fun cM=>?_)
  ·have bF:k < l.length:=by have:=of_decide_eq_true bV;omega
   obtain⟨x,hx⟩:=Zam bF
   obtain⟨b2,o,gj,cN⟩:=Zba (h.mono bE) hx
   rw[Zce hx,List.any_cons]at he
   refine⟨b2,o,gj,⟨by omega,by omega⟩,_,(by rw[Int.toNat_natCast];exact cN),Zah (hg x (List.mem_of_getElem? hx) m1 bE) fun m2 bZ=>Zab (fun h2=>?_) (fun h2=>⟨_,by omega,k+1,bF,by rw[Zau (by omega) (by omega)];rfl,?_,Mem.le_trans bE bZ,rfl⟩)⟩
   ·refine⟨_,Mem.le_trans bE bZ,Mem.le_refl _,_,rfl,?_⟩
    rw[←he,h2];simp
   ·rw[←he,h2];rfl
  ·have:k=l.length:=by have:=of_decide_eq_false cM;omega
   subst this
   refine⟨_,bE,Mem.le_refl _,_,rfl,?_⟩
   rw[←he,List.drop_length];rfl
 apply ZbL a l.length c g [] ca
 unfold Za1
 refine Zas rX (by rintro v m' css ⟨n,rfl,_⟩;rfl) ?_
 rintro n m1 bE ⟨n',hn,he⟩
 cases hn
 exact Zad bE (by rw[←he])
theorem Zh4{st:Bool}(A:Nf)(hA:A.Ok)(v:Value)(l:List Int)(a:Option Addr)(c:Nat)(m:Mem)(h:NfR st A v m)(hl:rowRd m a (Zaq l))(dL:l.length≤1000000)(hs:A.states l=true):CX Try.prog 68 #[v,.slice a l.length c] m [] (Ret (.bool (A.accepts l))):=by
 obtain⟨s,f,x,y,rfl,⟨sa,sc,rfl,hs',dP,iN⟩,⟨fa,fc,vs,rfl,hf,f9,gZ,fW⟩,⟨xa,xc,rfl,hx,eD,gz⟩,⟨ya,yc,rfl,hy,dD,hH⟩⟩:=h
 have hn:=hA.n
 apply Ziv
 unfold Zfj
 intro b m1 bE hb
 refine Zas (Zt4 A.last ya yc m1 (hy.mono bE) dD (fun p hp=>by have:=hA.last.2 p hp;unfold Nf.top at this;omega)) (by rintro v m' css rfl;rfl) ?_
 intro n0 n1 n2 n3 n4 n5 n6 m2 bZ hv
 simp only[Ret,bwV,Value.agg.injEq,Array.mk.injEq,List.cons.injEq,Value.int.injEq,true_and,and_true]at hv
 obtain⟨rfl,rfl,rfl,rfl,rfl,rfl,rfl⟩:=hv
 intro b1 m3 cD eI
 have my:=Mem.le_trans bZ cD
 refine Zah (Zrk l a c _ [.pointer (some ⟨b,0,none⟩),.pointer (some ⟨b1,0,none⟩)] A.acc1 m3 ((hl.mono bE).mono my) dL fun p hp m4 cZ=>?_) fun m5 dB=>Zad (Mem.le_trans bE (Mem.le_trans my dB)) rfl
 have:=ZfI hs p hp
 exact Zt5 A (ZuE A.last 0) p ⟨by omega,by unfold Nf.top at this;omega⟩ _ _ _ _ b b1 m4 ((hb.mono my).mono cZ) (Mem.reads.mono eI cZ)
theorem ZpY{st:Bool}(A:Nf)(v:Value)(l:List Int)(a:Option Addr)(c:Nat)(m:Mem)(h:NfR st A v m)(hl:rowRd m a (Zaq l))(dL:l.length≤1000000):CX Try.prog 78 #[v,.slice a l.length c] m [] (Ret (.int .i64 (A.err l))):=by
 have h':=h
 obtain⟨s,f,x,y,rfl,⟨sa,sc,rfl,hs',dP,iN⟩,⟨fa,fc,vs,rfl,hf,f9,gZ,fW⟩,⟨xa,xc,rfl,hx,eD,gz⟩,⟨ya,yc,rfl,hy,dD,hH⟩⟩:=h
 apply ZlQ
 unfold ZhA
 intro b m1 bE hb
 refine Zah (Zj8 A _ m1 (h'.mono bE)) fun m2 bZ=>Zab (fun h1=>Zad (Mem.le_trans bE bZ) ?_) (fun h1=>?_)
 ·unfold Nf.err;rw[if_pos (by simpa using h1)]
 have hr:A.right=true:=by simpa using h1
 have hw:IntKind.i64.wrap ((A.sets.length:Int) - 1)=A.top:=Zau (by omega) (by omega)
 simp only[hw]
 refine Zah (Zhx l (-1) A.top a c m2 ((hl.mono bE).mono bZ) dL ⟨by omega,by omega⟩) fun m3 cD=>Zab (fun h2=>Zad (Mem.le_trans bE (Mem.le_trans bZ cD)) ?_) (fun h2=>Zad (Mem.le_trans bE (Mem.le_trans bZ cD)) ?_)
 ·have:A.states l=false:=by unfold Nf.states;simpa using h2
  unfold Nf.err;rw[hr,this];rfl
 ·have:A.states l=true:=by unfold Nf.states;simpa using h2
  unfold Nf.err;rw[hr,this];rfl
theorem ZpZ{st:Bool}(A:Nf)(hA:A.Ok)(hq:∀q∈A.sets,QOk q)(v:Value)(l:List Int)(a:Option Addr)(c ch:Nat)(il:ch < 256)(m:Mem)(h:NfR st A v m)(hl:rowRd m a (Zaq l))(dL:l.length≤1000000)(hs:A.states l=true):CX Try.prog 79 #[v,.slice a l.length c,.int .u8 ch] m [] (fun v m' _=>SlI true (A.step l ch) v m'∧NewS m v):=by
 obtain⟨s,f,x,y,rfl,⟨sa,sc,rfl,hs',dP,iN⟩,⟨fa,fc,vs,rfl,hf,f9,gZ,fW⟩,⟨xa,xc,rfl,kS,eD,gz⟩,⟨ya,yc,rfl,hy,dD,hH⟩⟩:=h
 have hn:=hA.n
 have bY:=hA.len
 apply ZnO
 unfold Zjk
 intro b m1 bE hb b1
 refine⟨fun xs css _ m' q=>∃(k f:Nat),k≤l.length∧xs=[.int .i64 k]∧css=[bwL f]∧A.stepM (l.drop k) ch f=A.stepM l ch 0∧m1.le m'∧q=l.length - k,⟨_,0,0,Nat.zero_le _,rfl,by rw[ZkY],rfl,Mem.le_refl _,rfl⟩,?_⟩
 rintro z cs m2 q bZ ⟨k,f,hk,hz,cG,he,_,hq⟩
 obtain rfl:z=k:=by simpa using hz
 obtain rfl:cs=bwL f:=by simpa using cG
 subst hq
 have dE:=Mem.le_trans bE bZ
 refine Zab (fun bV=>?_) (fun cM=>?_)
 ·have bF:k < l.length:=by have:=of_decide_eq_true bV;omega
  obtain⟨p,hp⟩:=Zam bF
  obtain⟨b2,o,gj,cN⟩:=Zba (hl.mono dE) hp
  have kE:=ZfI hs p (List.mem_of_getElem? hp)
  rw[Zce hp]at he
  have he':A.stepM (l.drop (k+1)) ch ((A.fromL p).foldl (A.step1 ch) f)=A.stepM l ch 0:=he
  have ZuF:∀(w:List Int),A.fromL p=w→w.length≤1000000→∀(wa:Option Addr),rowRd m2 wa (Zaq w)→∀(k2 f2:Nat)(m3:Mem)(x:Int),m2.le m3→w[k2]?=some x→∃(i:Nat)(bs os:Nat)(qq:QS),x=i∧i < 448∧sa=some ⟨bs,os,none⟩∧(0≤x∧x < (A.sets.length:Nat))∧m3.reads bs (os+x.toNat*4) [.int .u64 qq.1,.int .u64 qq.2.1,.int .u64 qq.2.2.1,.int .u64 qq.2.2.2]∧QOk qq∧ZqV qq ch=A.hasAt x ch:=by
   intro w hw _ wa _ k2 f2 m3 x cD hx
   have hb:=(ZfJ hA p).2 x (by rw[hw];exact List.mem_of_getElem? hx)
   unfold Nf.top at hb
   obtain⟨qq,jq⟩:=Zam (l:=A.sets) (k:=x.toNat) (by omega)
   obtain⟨bs,os,iA,eB⟩:=Zgi ((hs'.mono dE).mono cD) jq
   refine⟨x.toNat,bs,os,qq,by omega,by omega,iA,⟨by omega,by omega⟩,eB,hq qq (List.mem_of_getElem? jq),?_⟩
   unfold Nf.hasAt;rw[jq];rfl
  have eF:IntKind.i64.wrap ((k:Int)+1)=((k+1:Nat):Int):=by rw[Zau (by omega) (by omega)];rfl
  refine⟨b2,o,gj,⟨by omega,by omega⟩,_,(by rw[Int.toNat_natCast];exact cN),Zaa rfl (Zab (fun cJ=>?_) (fun cJ=>?_))⟩
  ·have jX:¬p=-1:=by simpa[intOf]using cJ
   have kh:p.toNat < A.fol.length:=by unfold Nf.top at kE;omega
   obtain⟨w,hw⟩:=Zam kh
   obtain⟨u,hu⟩:=Zam (l:=vs) (k:=p.toNat) (by omega)
   obtain⟨wa,wc,rfl,iR,rY,_⟩:=(fW _ u w hu hw).mono dE
   obtain⟨fb,fo,gE,eA⟩:=ZbX (hf.mono dE) hu
   have fD:A.fromL p=w:=by unfold Nf.fromL;rw[if_neg jX,hw];rfl
   refine Zaa rfl ⟨fb,fo,gE,⟨by show 0≤p;omega,by show p < (A.fol.length:Nat);omega⟩,_,(show m2 fb (fo+p.toNat*1)=some _ from eA),Zaa rfl ?_⟩
   refine⟨fun xs css _ m' q=>∃(j f2:Nat),j≤w.length∧xs=[.int .i64 j]∧css=[bwL f2]∧(w.drop j).foldl (A.step1 ch) f2=(A.fromL p).foldl (A.step1 ch) f∧m2.le m'∧q=w.length - j,⟨_,0,f,Nat.zero_le _,rfl,rfl,by rw[fD];rfl,Mem.le_refl _,rfl⟩,?_⟩
   rintro z cs m3 q cD ⟨j,f2,hj,hz,cG,iU,_,hq⟩
   obtain rfl:z=j:=by simpa using hz
   obtain rfl:cs=bwL f2:=by simpa using cG
   subst hq
   refine Zab (fun eK=>?_) (fun gP=>?_)
   ·have cR:j < w.length:=by have:=of_decide_eq_true eK;simp only[slN]at this;omega
    obtain⟨x,hx⟩:=Zam cR
    obtain⟨b3,o3,iv,gO⟩:=Zba (iR.mono cD) hx
    obtain⟨i,bs,os,qq,rfl,hi,iA,gu,eB,rZ,gQ⟩:=ZuF w fD rY wa iR j f2 m3 x cD hx
    rw[Zce hx,List.foldl_cons]at iU
    have dQ:IntKind.i64.wrap ((j:Int)+1)=((j+1:Nat):Int):=by rw[Zau (by omega) (by omega)];rfl
    refine Zaa rfl ⟨b3,o3,iv,⟨by omega,by show(j:Int) < (w.length:Nat);omega⟩,.int .i64 (i:Int),(by rw[Int.toNat_natCast];exact gO),Zaa rfl ⟨bs,os,iA,gu,_,_,_,_,eB,?_⟩⟩
    refine Zah (Zr1 qq rZ ch il m3) fun m4 cZ=>Zab (fun hh=>?_) (fun hh=>?_)
    ·refine⟨_,trivial,Zk9 f2 i hi b1 100 7 [] [] m4 (by omega),fun v _ _ h=>by rw[h.1];rfl,fun m5 dB cs5 j2=>⟨by trivial,_,by omega,j+1,f2|||2 ^ i,cR,by rw[dQ],?_,?_,Mem.le_trans cD (Mem.le_trans cZ dB),rfl⟩⟩
     ·have:=j2.2
      simp only[List.nil_append,List.append_nil]at this
      exact this
     ·rw[gQ]at hh
      rw[←iU];unfold Nf.step1;rw[if_pos hh,Int.toNat_natCast]
    ·refine⟨by trivial,_,by omega,j+1,f2,cR,by rw[dQ],rfl,?_,Mem.le_trans cD cZ,rfl⟩
     rw[gQ]at hh
     rw[←iU];unfold Nf.step1;rw[if_neg (by simp[hh])]
   ·have:j=w.length:=by have:=of_decide_eq_false gP;simp only[slN]at this;omega
    subst this
    rw[List.drop_length,List.foldl_nil]at iU
    exact⟨by trivial,_,by omega,k+1,f2,bF,by rw[eF],rfl,by rw[iU];exact he',Mem.le_trans bZ cD,rfl⟩
  ·have jX:p=-1:=by simpa[intOf]using cJ
   have fD:A.fromL p=A.first:=by unfold Nf.fromL;rw[if_pos jX]
   refine⟨fun xs css _ m' q=>∃(j f2:Nat),j≤A.first.length∧xs=[.int .i64 j]∧css=[bwL f2]∧(A.first.drop j).foldl (A.step1 ch) f2=(A.fromL p).foldl (A.step1 ch) f∧m2.le m'∧q=A.first.length - j,⟨_,0,f,Nat.zero_le _,rfl,rfl,by rw[fD];rfl,Mem.le_refl _,rfl⟩,?_⟩
   rintro z cs m3 q cD ⟨j,f2,hj,hz,cG,iU,_,hq⟩
   obtain rfl:z=j:=by simpa using hz
   obtain rfl:cs=bwL f2:=by simpa using cG
   subst hq
   refine Zab (fun eK=>?_) (fun gP=>?_)
   ·have cR:j < A.first.length:=by have:=of_decide_eq_true eK;omega
    obtain⟨x,hx⟩:=Zam cR
    obtain⟨b3,o3,iv,gO⟩:=Zba ((kS.mono dE).mono cD) hx
    obtain⟨i,bs,os,qq,rfl,hi,iA,gu,eB,rZ,gQ⟩:=ZuF A.first fD eD xa (kS.mono dE) j f2 m3 x cD hx
    rw[Zce hx,List.foldl_cons]at iU
    have dQ:IntKind.i64.wrap ((j:Int)+1)=((j+1:Nat):Int):=by rw[Zau (by omega) (by omega)];rfl
    refine⟨b3,o3,iv,⟨by omega,by omega⟩,.int .i64 (i:Int),(by rw[Int.toNat_natCast];exact gO),Zaa rfl ⟨bs,os,iA,gu,_,_,_,_,eB,?_⟩⟩
    refine Zah (Zr1 qq rZ ch il m3) fun m4 cZ=>Zab (fun hh=>?_) (fun hh=>?_)
    ·refine⟨_,trivial,Zk9 f2 i hi b1 100 7 [] [] m4 (by omega),fun v _ _ h=>by rw[h.1];rfl,fun m5 dB cs5 j2=>⟨by trivial,_,by omega,j+1,f2|||2 ^ i,cR,by rw[dQ],?_,?_,Mem.le_trans cD (Mem.le_trans cZ dB),rfl⟩⟩
     ·have:=j2.2
      simp only[List.nil_append,List.append_nil]at this
      exact this
     ·rw[gQ]at hh
      rw[←iU];unfold Nf.step1;rw[if_pos hh,Int.toNat_natCast]
    ·refine⟨by trivial,_,by omega,j+1,f2,cR,by rw[dQ],rfl,?_,Mem.le_trans cD cZ,rfl⟩
     rw[gQ]at hh
     rw[←iU];unfold Nf.step1;rw[if_neg (by simp[hh])]
   ·have:j=A.first.length:=by have:=of_decide_eq_false gP;omega
    subst this
    rw[List.drop_length,List.foldl_nil]at iU
    exact⟨by trivial,_,by omega,k+1,f2,bF,by rw[eF],rfl,by rw[iU];exact he',Mem.le_trans bZ cD,rfl⟩
 ·have:k=l.length:=by have:=of_decide_eq_false cM;omega
  subst this
  rw[List.drop_length]at he
  intro m3 cD fP
  refine Zas (ZsN f b1 0 m3 fP) (fun v m' css h=>ZbH v m' css h.1) ?_
  intro a4 n4 c4 m4 cZ hR
  refine⟨m4,Mem.le_trans dE (Mem.le_trans cD cZ),Mem.le_refl _,?_⟩
  have:A.step l ch=ZbZ f:=by unfold Nf.step;rw[←he];rfl
  rw[this];exact⟨hR.1,hR.2.less (Mem.le_trans dE cD)⟩
theorem Zt6{st:Bool}(A:Nf)(hA:A.Ok)(hq:∀q∈A.sets,QOk q)(v:Value)(l:List Int)(a:Option Addr)(c ch:Nat)(il:ch < 256)(m:Mem)(h:NfR st A v m)(hl:rowRd m a (Zaq l))(dL:l.length≤1000000)(hs:A.states l=true):CX Try.prog 79 #[v,.slice a l.length c,.int .u8 ch] m [] (fun v m' _=>SlI true (A.step l ch) v m'):=(ZpZ A hA hq v l a c ch il m h hl dL hs).mono fun _ _ _ _ h=>h.1
end Go.Proofs.Ytplacemlpkhmfaa
set_option linter.unusedVariables false
set_option linter.unusedSimpArgs false
namespace Go.Proofs.Ytplacemlpkhmfaa
open Go Go.Eng Go.Rx Go.Proofs Go.RowKit
set_option maxRecDepth 100000
theorem Zp0{st:Bool}(A:Nf)(hq:∀q∈A.sets,QOk q)(v:Value)(l:List Int)(a:Option Addr)(c ch:Nat)(il:ch < 256)(m:Mem)(h:NfR st A v m)(hl:rowRd m a (Zaq l))(dL:l.length≤1000000):
  CX Try.prog 27 #[v,.slice a l.length c,.int .u8 ch] m [] (fun v m' _=>∃w,v=.tuple #[w,.int .i64 (A.err l)]∧SlI true (if A.err l=0 then A.step l ch else[]) w m'∧NewS m w):=by
 have h':=h
 obtain⟨s,f,x,y,rfl,⟨sa,sc,rfl,hs',dP,iN⟩,⟨fa,fc,vs,rfl,hf,f9,gZ,fW⟩,⟨xa,xc,rfl,hx,eD,gz⟩,⟨ya,yc,rfl,hy,dD,hH⟩⟩:=h
 apply ZnP
 unfold Zjl
 intro b m1 bE hb
 refine Zdo (ZpY A _ l a c m1 (h'.mono bE) (hl.mono bE) dL) fun m2 bZ=>Zab (fun h1=>?_) (fun h1=>?_)
 ·have he:A.err l≠0:=by simpa using h1
  refine⟨_,Mem.le_trans bE bZ,Mem.le_refl _,_,rfl,?_⟩
  rw[if_neg he]
  exact⟨⟨none,0,rfl,.inl rfl,by simp,fun _ _=>rfl⟩,fun b o e=>by simp[slA]at e⟩
 ·have he:A.err l=0:=by simpa using h1
  have hr:A.right=true:=by
   unfold Nf.err at he
   cases hr:A.right with
   | true=>rfl
   | false=>rw[hr]at he;simp at he
  have hs:A.states l=true:=by
   unfold Nf.err at he
   cases hs:A.states l with
   | true=>rfl
   | false=>rw[hr,hs]at he;simp at he
  have ir:=Mem.le_trans bE bZ
  refine Zas (ZpZ A (ZeW.1 hr) hq _ l a c ch il m2 (h'.mono ir) (hl.mono ir) dL hs) (fun v m' css h=>ZbH v m' css h.1) ?_
  intro a3 n3 c3 m3 cD hR
  refine⟨_,Mem.le_trans ir cD,Mem.le_refl _,_,by rw[he],?_⟩
  rw[if_pos he];exact⟨hR.1,hR.2.less ir⟩
theorem Zr2{st:Bool}(A:Nf)(hq:∀q∈A.sets,QOk q)(v:Value)(l:List Int)(a:Option Addr)(c ch:Nat)(il:ch < 256)(m:Mem)(h:NfR st A v m)(hl:rowRd m a (Zaq l))(dL:l.length≤1000000):
  CX Try.prog 27 #[v,.slice a l.length c,.int .u8 ch] m [] (fun v m' _=>∃w,v=.tuple #[w,.int .i64 (A.err l)]∧SlI true (if A.err l=0 then A.step l ch else[]) w m'):=(Zp0 A hq v l a c ch il m h hl dL).mono fun _ _ _ _ ⟨w,h1,h2,_⟩=>⟨w,h1,h2⟩
theorem ZnU{P:Program}{g:FuncId}{args:Array Value}{m:Mem}{v0:Value}{xs:List Box}{R0:Value→Mem→List (List Value)→List Value→Prop}{Q:Nat→Prop}{F:Shape}{K:(Nat→Prop)→(Value→Mem→List (List Value)→List Value→Prop)→Prop}(h:CXY P g args m (fun k=>(Tok.mk v0 1).blk=some k) xs [⟨v0,1⟩] R0)(hf:∀v m' css tvs,R0 v m' css tvs→Shape.fits F v=true)(k:K (fun k=>(Tok.mk v0 1).blk=some k) R0):
  ∃(Y1:Nat→Prop) (R:Value→Mem→List (List Value)→List Value→Prop),CXY P g args m Y1 xs [⟨v0,1⟩] R∧(∀t:Tok,t∈[Tok.mk v0 1]→∀b,t.blk=some b→Y1 b)∧(∀b,Y1 b→(∃t:Tok,t∈[Tok.mk v0 1]∧t.blk=some b)∨Q b)∧(∀v m' css tvs,R v m' css tvs→Shape.fits F v=true)∧K Y1 R:=
 ⟨_,_,h,fun t ht b hb=>by rw[List.mem_singleton]at ht;subst ht;exact hb,fun b hb=>.inl ⟨_,List.mem_singleton.2 rfl,hb⟩,hf,k⟩
def CbR{S:Type}(j:Nat)(Inv:Nat→S→Value→Value→Mem→Prop)(m:Mem)(s:S):Value→Mem→List (List Value)→List Value→Prop:=fun v m' css tvs=>
 v=.tuple #[]∧m.le m'∧∃a n c a1 n1 c1,css=[[.slice a n c]]∧tvs=[.slice a1 n1 c1]∧Inv j s (.slice a n c) (.slice a1 n1 c1) m'
def Zv1{S:Type}(A:Nf)(g:FuncId)(fi cap:List Value)(cb:Nat)(st:S→Nat→List Int→S)(Inv:Nat→S→Value→Value→Mem→Prop)(base:Mem):Prop:=
 ∀(s:S)(n:Nat)(l:List Int)(la:Option Addr)(lc:Nat)(ca:Option Addr)(cn cc:Nat)(ta:Option Addr)(tn tc:Nat)(m:Mem),base.le m→Inv n s (.slice ca cn cc) (.slice ta tn tc) m→rowRd m la (Zaq l)→l.length≤1000000→A.states l=true→n≤4096→
  CXY Try.prog g ((fi++([Value.int .i64 (n:Nat),Value.slice la l.length lc]:List Value))++cap).toArray m (fun k=>(Tok.mk (.slice ta tn tc) 1).blk=some k) [⟨cb,[.slice ca cn cc],24,1,false,true⟩] [⟨.slice ta tn tc,1⟩] (CbR (n+1) Inv m (st s n l))
theorem ZnV{S:Type}{j:Nat}{Inv:Nat→S→Value→Value→Mem→Prop}{m:Mem}{s:S}:∀v m' css tvs,CbR j Inv m s v m' css tvs→Shape.fits (.tup []) v=true:=by
 rintro v m' css tvs ⟨rfl,_⟩;rfl
theorem Zr3{S:Type}{stt:Bool}(A:Nf)(hq:∀q∈A.sets,QOk q)(v:Value)(bs:List Nat)(ba:Option Addr)(bc:Nat)(again:Bool)(g:FuncId)(fi cap:List Value)(cb:Nat)(st:S→Nat→List Int→S)(Inv:Nat→S→Value→Value→Mem→Prop)(im:∀j s a b m m',Inv j s a b m→m.le m'→Inv j s a b m')
  (s0:S) (ca:Option Addr) (cn cc:Nat) (ta:Option Addr) (tn tc:Nat) (m:Mem) (mZ:Zv1 A g fi cap cb st Inv m) (h:NfR stt A v m) (hb:Byt m ba bs) (cY:Inv 0 s0 (.slice ca cn cc) (.slice ta tn tc) m):
  CXY Try.prog 80 #[v,.slice ba bs.length bc,.bool again,.func (.func g) fi.toArray cap.toArray] m (fun k=>(Tok.mk (.slice ta tn tc) 1).blk=some k) [⟨cb,[.slice ca cn cc],24,1,false,true⟩] [⟨.slice ta tn tc,1⟩]
   (fun v m' css tvs=>v=.int .i64 (A.runE bs.length)∧m.le m'∧∃j a n c a1 n1 c1,css=[[.slice a n c]]∧tvs=[.slice a1 n1 c1]∧Inv j (if A.runE bs.length=0 then A.runL again st bs 0 [-1] (st s0 0 [-1])else s0) (.slice a n c) (.slice a1 n1 c1) m'):=by
 have h':=h
 obtain⟨s,f,x,y,rfl,⟨sa,sc,rfl,hs',dP,iN⟩,⟨fa,fc,vs,rfl,hf,f9,gZ,fW⟩,⟨xa,xc,rfl,hx,eD,gz⟩,⟨ya,yc,rfl,hy,dD,hH⟩⟩:=h
 apply ZnQ
 unfold Zld
 intro b m1 bE _ _ _
 refine Zah (Zj8 A _ m1 (h'.mono bE)) fun m2 bZ=>Zab (fun h1=>?_) (fun h1=>?_)
 ·have he:A.runE bs.length=171:=by unfold Nf.runE;rw[if_pos (by simpa using h1)]
  rw[he]
  exact⟨by trivial,rfl,Mem.le_trans bE bZ,_,_,_,_,_,_,_,rfl,rfl,im _ _ _ _ _ _ cY (Mem.le_trans bE bZ)⟩
 have hr:A.right=true:=by simpa using h1
 have hA:=ZeW.1 hr
 have ir:=Mem.le_trans bE bZ
 refine Zab (fun h2=>?_) (fun h2=>?_)
 ·have h2':4096 < bs.length:=by have:=of_decide_eq_true h2;omega
  have he:A.runE bs.length=3:=by unfold Nf.runE;rw[hr,if_pos h2'];rfl
  rw[he]
  exact⟨by trivial,rfl,ir,_,_,_,_,_,_,_,rfl,rfl,im _ _ _ _ _ _ cY ir⟩
 have h2':bs.length≤4096:=by have:=of_decide_eq_false h2;omega
 have he:A.runE bs.length=0:=by unfold Nf.runE;rw[if_neg (by rw[hr];simp),if_neg (by omega)]
 rw[he]
 simp only[if_true]
 intro b2 ip
 have dE:m.le (m2.add b2 [.int .i64 (-1)]):=Mem.le_trans ir (Mem.le_add ip _)
 have dZ:rowRd (m2.add b2 [.int .i64 (-1)]) (some ⟨b2,0,none⟩) (Zaq [-1]):=Zgq
 have mE:A.states [-1]=true:=by
  unfold Nf.states
  rw[Zcm]
  exact⟨by simp,fun x hx=>by rw[List.mem_singleton]at hx;subst hx;unfold Nf.top;omega⟩
 refine ZnU (mZ s0 0 [-1] (some ⟨b2,0,none⟩) 1 ca cn cc ta tn tc _ dE (im _ _ _ _ _ _ cY dE) dZ (by simp) mE (by omega)) ZnV ?_
 rintro m3 vK _ cs a3 n3 c3 ⟨_,cD,a4,n4,c4,a5,n5,c5,cG,dA,oU⟩
 simp only[List.cons.injEq,Value.slice.injEq,and_true]at dA
 obtain⟨rfl,rfl,rfl⟩:=dA
 obtain rfl:cs=[.slice a4 n4 c4]:=by simpa using cG
 have iB:=Mem.le_trans dE cD
 refine⟨fun xs css tvs m' q=>∃(k:Nat)(l:List Int)(la:Option Addr)(lc:Nat)(z:S)(a n:_)(c:Nat)(a1:Option Addr)(n1 c1:Nat)(w:Value),k≤bs.length∧xs=[.slice la l.length lc,.int .i64 k]∧css=[[.slice a n c]]∧tvs=[w,.slice a1 n1 c1]∧m.le m'∧Inv (k+1) z (.slice a n c) (.slice a1 n1 c1) m'∧rowRd m' la (Zaq l)∧l.length≤1000000∧A.states l=true∧A.runL again st (bs.drop k) k l z=A.runL again st bs 0 [-1] (st s0 0 [-1])∧q=bs.length - k,
  ⟨_,0,[-1],some ⟨b2,0,none⟩,1,st s0 0 [-1],a4,n4,c4,a3,n3,c3,.slice none 0 0,Nat.zero_le _,rfl,rfl,rfl,iB,oU,dZ.mono cD,by simp,mE,rfl,rfl⟩,?_⟩
 rintro la ln lc z cs a6 n6 c6 a7 n7 c7 m4 q _ ⟨k,l,la',lc',zz,a,n,c,a1,n1,c1,w,hk,hx,cG,dA,iC,ji,j8,dL,jp,eJ,hq⟩
 simp only[List.cons.injEq,Value.slice.injEq,Value.int.injEq,true_and,and_true]at hx
 obtain⟨⟨rfl,rfl,rfl⟩,rfl⟩:=hx
 simp only[List.cons.injEq,and_true]at cG dA
 subst cG
 obtain⟨rfl,dA⟩:=dA
 simp only[Value.slice.injEq]at dA
 obtain⟨rfl,rfl,rfl⟩:=dA
 subst hq
 refine Zab (fun bV=>?_) (fun cM=>?_)
 ·have bF:k < bs.length:=by have:=of_decide_eq_true bV;omega
  obtain⟨ch,il⟩:=Zam bF
  have oV:=hb.2 ch (List.mem_of_getElem? il)
  rcases(hb.mono iC).1 with h0|⟨bb,bo,vL,r5⟩
  ·rw[h0]at bF;simp at bF
  have r6:m4 bb (bo+k*1)=some (.int .u8 ch):=by
   have:=r5 k (.int .u8 ch) (by simp[il])
   rwa [Nat.mul_one]
  have eF:IntKind.i64.wrap ((k:Int)+1)=((k+1:Nat):Int):=by rw[Zau (by omega) (by omega)];rfl
  rw[Zce il,Nf.runL]at eJ
  refine⟨bb,bo,vL,⟨by omega,by omega⟩,_,(by rw[Int.toNat_natCast];exact r6),?_⟩
  refine Zas (Zt6 A hA hq _ l la lc ch oV m4 (h'.mono iC) j8 dL jp) ZbH ?_
  rintro a8 n8 c8 m5 dB ⟨a8',c8',nh,j9,tM,_⟩
  simp only[Value.slice.injEq]at nh
  obtain⟨rfl,rfl,rfl⟩:=nh
  have iD:=Mem.le_trans iC dB
  have tN:(A.step l ch).length≤448:=Znk _
  have r7:=Znn hA again l ch
  have fin:∀(l2:List Int)(la2:Option Addr)(lc2:Nat)(m6:Mem)(w:Value),l2=A.next again l ch→m.le m6→rowRd m6 la2 (Zaq l2)→l2.length≤1000000→∀(m7:Mem)(cs:List Value)(a9:Option Addr)(n9 c9:Nat),CbR (k+1+1) Inv m6 (st zz (k+1) l2) (.tuple #[]) m7 [cs] [.slice a9 n9 c9]→
    ∃n',n' < bs.length - k∧(fun(xs:List Value) (css:List (List Value)) (tvs:List Value) (m':Mem) (q:Nat)=>∃(k:Nat)(l:List Int)(la:Option Addr)(lc:Nat)(z:S)(a:Option Addr)(n c:Nat)(a1:Option Addr)(n1 c1:Nat)(w:Value),k≤bs.length∧xs=[.slice la l.length lc,.int .i64 k]∧css=[[.slice a n c]]∧tvs=[w,.slice a1 n1 c1]∧m.le m'∧Inv (k+1) z (.slice a n c) (.slice a1 n1 c1) m'∧rowRd m' la (Zaq l)∧l.length≤1000000∧A.states l=true∧A.runL again st (bs.drop k) k l z=A.runL again st bs 0 [-1] (st s0 0 [-1])∧q=bs.length - k) [.slice la2 l2.length lc2,.int .i64 (IntKind.i64.wrap ((k:Int)+1))] [cs] [w,.slice a9 n9 c9] m7 n':=by
   rintro l2 la2 lc2 m6 w rfl mF iO oW m7 cs a9 n9 c9 ⟨_,jC,e1,e2,e3,e4,e5,e6,cG,dA,oX⟩
   simp only[List.cons.injEq,Value.slice.injEq,and_true]at dA
   obtain⟨rfl,rfl,rfl⟩:=dA
   obtain rfl:cs=[.slice e1 e2 e3]:=by simpa using cG
   exact⟨_,by omega,k+1,_,la2,lc2,st zz (k+1) (A.next again l ch),e1,e2,e3,a9,n9,c9,w,bF,by rw[eF],rfl,rfl,Mem.le_trans mF jC,oX,iO.mono jC,oW,r7,eJ,rfl⟩
  refine Zab (fun lH=>?_) (fun lH=>?_)
  ·have jr:A.next again l ch=-1::A.step l ch:=by unfold Nf.next;rw[lH];rfl
   intro b4 oS
   have iP:rowRd (m5.add b4 [.int .i64 (-1)]) (some ⟨b4,0,none⟩) (Zaq [-1]):=Zgq
   have ni:=Mem.le_add oS [Value.int .i64 (-1)]
   refine Zab (fun hz=>?_) (fun hz=>?_)
   ·have jL:A.step l ch=[]:=List.eq_nil_of_length_eq_zero (Nat.eq_of_beq_eq_true hz)
    have lj:([-1]:List Int)=A.next again l ch:=by rw[jr,jL]
    rw[eF]
    refine ZnU (mZ zz (k+1) [-1] (some ⟨b4,0,none⟩) 1 _ _ _ _ _ _ _ (Mem.le_trans iD ni) (im _ _ _ _ _ _ ji (Mem.le_trans dB ni)) iP (by simp) mE (by omega)) ZnV ?_
    rintro m7 oY _ cs a9 n9 c9 oZ
    refine⟨by trivial,by trivial,?_⟩
    have:=fin [-1] (some ⟨b4,0,none⟩) 1 _ (Value.slice a6 n6 c6) lj (Mem.le_trans iD ni) iP (by simp) m7 cs a9 n9 c9 oZ
    rw[eF]at this
    exact this
   ·have jL:(A.step l ch).length≠0:=fun e=>by rw[e]at hz;cases hz
    refine⟨.inr (.inr (by show 1 < 1+(A.step l ch).length;omega)),Zaq [-1],Zaq (A.step l ch),rfl,by rw[ZcZ,Nat.mul_one],iP,j9.mono ni,fun u hu=>?_,by show(1+(A.step l ch).length)*8≤_;omega,by show 1+(A.step l ch).length≤_;omega,fun a' c' m6 gd vM pX=>?_⟩
    ·obtain⟨i,_,rfl⟩:=List.mem_map.1 hu
     rfl
    have lj:(-1::A.step l ch:List Int)=A.next again l ch:=by rw[jr]
    have pY:(-1::A.step l ch:List Int).length=1+(A.step l ch).length:=by rw[List.length_cons];omega
    have o6:rowRd m6 a' (Zaq (-1::A.step l ch)):=vM
    have tO:m.le m6:=Mem.le_trans iD (Mem.le_trans ni gd)
    have dK:=mZ zz (k+1) (-1::A.step l ch) a' c' _ _ _ _ _ _ m6 tO (im _ _ _ _ _ _ ji (Mem.le_trans dB (Mem.le_trans ni gd))) o6 (by rw[pY];omega) (by rw[lj];exact r7) (by omega)
    rw[pY]at dK
    rw[eF]
    refine ZnU dK ZnV ?_
    rintro m7 oY _ cs a9 n9 c9 oZ
    refine⟨by trivial,by trivial,?_⟩
    have:=fin (-1::A.step l ch) a' c' m6 (.slice a' (1+(A.step l ch).length) c') lj tO o6 (by rw[pY];omega) m7 cs a9 n9 c9 oZ
    rw[eF,pY]at this
    exact this
  ·have jr:A.step l ch=A.next again l ch:=by unfold Nf.next;rw[lH];rfl
   rw[eF]
   refine ZnU (mZ zz (k+1) (A.step l ch) a8 c8 _ _ _ _ _ _ m5 iD (im _ _ _ _ _ _ ji dB) j9 (by omega) (by rw[jr];exact r7) (by omega)) ZnV ?_
   rintro m7 oY _ cs a9 n9 c9 oZ
   refine⟨by trivial,by trivial,?_⟩
   have:=fin (A.step l ch) a8 c8 m5 (Value.slice a6 n6 c6) jr iD j9 (by omega) m7 cs a9 n9 c9 oZ
   rw[eF]at this
   exact this
 ·have:k=bs.length:=by have:=of_decide_eq_false cM;omega
  subst this
  rw[List.drop_length,Nf.runL]at eJ
  subst eJ
  exact⟨by trivial,by trivial,iC,_,_,_,_,_,_,_,rfl,rfl,ji⟩
end Go.Proofs.Ytplacemlpkhmfaa
set_option linter.unusedVariables false
set_option linter.unusedSimpArgs false
namespace Go.Proofs.Ytplacemlpkhmfaa
open Go Go.Eng Go.Rx Go.Proofs Go.RowKit
set_option maxRecDepth 100000
theorem ZfR(l:List Int)(lo hi:Int)(a:Option Addr)(c:Nat)(m:Mem)(h:rowRd m a (Zaq l))(hl:l.length≤1000000):CX Try.prog 100 #[.slice a l.length c,.int .i64 lo,.int .i64 hi] m [] (Ret (.bool (ZbC l (lo - 1) (hi - 1)))):=by
 apply Zhn
 unfold Zev
 refine⟨fun xs _ _ m' q=>∃k:Nat,k≤l.length∧xs=[.int .i64 k]∧ZbC (l.take k) (lo - 1) (hi - 1)=true∧m.le m'∧q=l.length - k,⟨_,0,Nat.zero_le _,rfl,rfl,Mem.le_refl _,rfl⟩,?_⟩
 rintro z m1 q bE ⟨k,hk,hz,he,_,hq⟩
 obtain rfl:z=k:=by simpa using hz
 subst hq
 refine Zab (fun bV=>?_) (fun cM=>?_)
 ·have bF:k < l.length:=by have:=of_decide_eq_true bV;omega
  obtain⟨x,hx⟩:=Zam bF
  obtain⟨b,o,gj,cN⟩:=Zba (h.mono bE) hx
  have no:(ZbC l (lo - 1) (hi - 1)=true→False)→Ret (.bool (ZbC l (lo - 1) (hi - 1))) (.bool false) m1 []:=fun hh=>by
   have:ZbC l (lo - 1) (hi - 1)=false:=by rw[Bool.eq_false_iff];exact hh
   rw[this]
  have nx:(∀u,0 < k→l[k - 1]?=some u→u < x)→lo≤x→x < hi→∃n',n' < l.length - k∧∃k':Nat,k'≤l.length∧([.int .i64 (IntKind.i64.wrap ((k:Int)+1))]:List Value)=[.int .i64 k']∧ZbC (l.take k') (lo - 1) (hi - 1)=true∧m.le m1∧n'=l.length - k':=fun h1 h2 h3=>
   ⟨_,by omega,k+1,bF,by rw[Zau (by omega) (by omega)];rfl,ZqW hx he (by omega) (by omega) h1,bE,rfl⟩
  have gJ:m1 b (o+(k:Int).toNat*1)=some (.int .i64 x):=by rw[Int.toNat_natCast];exact cN
  refine⟨b,o,gj,⟨by omega,by omega⟩,_,gJ,Zaa rfl (Zab (fun h1=>Zad bE (no fun hr=>?_)) (fun h1=>⟨b,o,gj,⟨by omega,by omega⟩,_,gJ,Zaa rfl (Zab (fun h2=>Zad bE (no fun hr=>?_)) (fun h2=>Zab (fun h3=>?_) (fun h3=>?_)))⟩))⟩
  ·have:=(ZpO hr hx).1
   have:=of_decide_eq_true h1
   simp only[intOf]at this;omega
  ·have:=(ZpO hr hx).2.1
   have:=of_decide_eq_true h2
   simp only[intOf]at this;omega
  ·have h3':0 < k:=by have:=of_decide_eq_true h3;omega
   have g1:lo≤x:=by have:=of_decide_eq_false h1;simp only[intOf]at this;omega
   have g2:x < hi:=by have:=of_decide_eq_false h2;simp only[intOf]at this;omega
   obtain⟨u,hu⟩:=Zam (l:=l) (k:=k - 1) (by omega)
   obtain⟨b2,o2,r8,eC⟩:=Zba (h.mono bE) hu
   have hw:IntKind.i64.wrap ((k:Int) - 1)=((k - 1:Nat):Int):=by rw[Zau (by omega) (by omega)];omega
   rw[hw]
   refine⟨b,o,gj,⟨by omega,by omega⟩,_,gJ,b2,o2,r8,⟨by omega,by omega⟩,.int .i64 u,(by rw[Int.toNat_natCast];exact eC),Zaa rfl (Zab (fun h4=>Zad bE (no fun hr=>?_)) (fun h4=>nx (fun u' _ hu'=>?_) g1 g2))⟩
   ·have:=(ZpO hr hx).2.2 u h3' hu
    have:=of_decide_eq_true h4
    simp only[intOf]at this;omega
   ·rw[hu]at hu';cases hu'
    have:=of_decide_eq_false h4
    simp only[intOf]at this;omega
  ·have g1:lo≤x:=by have:=of_decide_eq_false h1;simp only[intOf]at this;omega
   have g2:x < hi:=by have:=of_decide_eq_false h2;simp only[intOf]at this;omega
   have h3':¬0 < k:=by have:=of_decide_eq_false h3;omega
   exact nx (fun u h _=>absurd h h3') g1 g2
 ·have:k=l.length:=by have:=of_decide_eq_false cM;omega
  subst this
  rw[List.take_length]at he
  rw[he];exact Zad bE rfl
theorem Zt7(l:List Int)(x:Int)(a:Option Addr)(c:Nat)(m:Mem)(h:rowRd m a (Zaq l))(hl:l.length≤1000000):CX Try.prog 104 #[.slice a l.length c,.int .i64 x] m [] (Ret (.bool (decide (x∈l)))):=by
 apply ZlL
 unfold Zho
 refine⟨fun xs _ _ m' q=>∃k:Nat,k≤l.length∧xs=[.int .i64 k]∧(x∈l.drop k↔x∈l)∧m.le m'∧q=l.length - k,⟨_,0,Nat.zero_le _,rfl,Iff.rfl,Mem.le_refl _,rfl⟩,?_⟩
 rintro z m1 q bE ⟨k,hk,hz,he,_,hq⟩
 obtain rfl:z=k:=by simpa using hz
 subst hq
 refine Zab (fun bV=>?_) (fun cM=>?_)
 ·have bF:k < l.length:=by have:=of_decide_eq_true bV;omega
  obtain⟨y,hy⟩:=Zam bF
  obtain⟨b,o,gj,cN⟩:=Zba (h.mono bE) hy
  rw[Zce hy,List.mem_cons]at he
  refine⟨b,o,gj,⟨by omega,by omega⟩,_,(by rw[Int.toNat_natCast];exact cN),Zaa rfl (Zab (fun h1=>Zad bE ?_) (fun h1=>⟨_,by omega,k+1,bF,by rw[Zau (by omega) (by omega)];rfl,?_,bE,rfl⟩))⟩
  ·have:y=x:=by simpa[intOf]using h1
   have:x∈l:=he.1 (.inl this.symm)
   simp[Ret,this]
  ·have:¬y=x:=by simpa[intOf]using h1
   rw[←he]
   constructor
   ·intro hh;exact .inr hh
   ·rintro(hh|hh)
    ·exact absurd hh.symm this
    ·exact hh
 ·have:k=l.length:=by have:=of_decide_eq_false cM;omega
  subst this
  rw[List.drop_length]at he
  have:¬x∈l:=fun hh=>by have:=he.2 hh;cases this
  refine Zad bE ?_
  simp[Ret,this]
theorem ZsO(g:Nat→Bool)(n:Nat)(a:Option Addr)(c:Nat)(m:Mem)(h:rowRd m a (ZbW (ZgI g n)))(hn:n≤1000000):CX Try.prog 103 #[.slice a n c] m [] (fun v m' _=>SlI true (Zgk g n) v m'):=by
 apply Zj2
 unfold Zgn
 refine⟨fun xs css tvs m' q=>∃(k:Nat)(a:Option Addr)(c:Nat),k≤n∧xs=[.slice a (Zgk g k).length c,.int .i64 k]∧tvs=[.slice a (Zgk g k).length c]∧m.le m'∧rowRd m' a (Zaq (Zgk g k))∧(Zgk g k=[]→a=none)∧q=n - k,⟨_,0,none,0,Nat.zero_le _,rfl,rfl,Mem.le_refl _,.inl rfl,fun _=>rfl,rfl⟩,?_⟩
 rintro a1 n1 c1 z a2 n2 c2 m1 q bE ⟨k,a',c',hk,hx,dA,_,cV,fN,hq⟩
 simp only[List.cons.injEq,Value.slice.injEq,Value.int.injEq,true_and,and_true]at hx dA
 obtain⟨⟨rfl,rfl,rfl⟩,rfl⟩:=hx
 obtain⟨rfl,rfl,rfl⟩:=dA
 subst hq
 have bY:=ZqX g k
 refine Zab (fun bV=>?_) (fun cM=>?_)
 ·have bF:k < n:=by have:=of_decide_eq_true bV;omega
  have gf:(ZbW (ZgI g n))[k]?=some (.int .i64 ((if g k then 1 else 0:Nat):Int)):=by simp[ZbW,ZjX g bF]
  obtain⟨b,o,gj,cN⟩:=ZbX (h.mono bE) gf
  have dX:=ZoK g k
  have hw:IntKind.i64.wrap ((k:Int)+1)=((k+1:Nat):Int):=by rw[Zau (by omega) (by omega)];rfl
  refine⟨b,o,gj,⟨by omega,by omega⟩,_,(by rw[Int.toNat_natCast];exact cN),Zaa rfl (Zab (fun h1=>?_) (fun h1=>?_))⟩
  ·have hg:g k=true:=by
    cases hg:g k with
    | true=>rfl
    | false=>rw[hg]at h1;simp[intOf]at h1
   rw[hg]at dX
   simp only[if_true]at dX
   intro b1 eI
   have cP:=Mem.le_add eI [Value.int .i64 (k:Int)]
   refine⟨.inl rfl,Zaq (Zgk g k),Zaq [(k:Int)],by rw[ZcZ];omega,rfl,cV.mono cP,Zgq,fun u hu=>?_,by omega,by omega,fun a3 c3 m2 bZ gw=>⟨_,by omega,k+1,a3,c3,bF,?_,?_,Mem.le_trans bE (Mem.le_trans cP bZ),?_,fun e=>?_,rfl⟩⟩
   ·simp only[Zaq,List.map_cons,List.map_nil,List.mem_singleton]at hu
    subst hu;rfl
   ·rw[dX,hw,List.length_append];rfl
   ·rw[dX,List.length_append];rfl
   ·rw[dX]
    have e:Zaq (Zgk g k++[(k:Int)])=Zaq (Zgk g k)++Zaq [(k:Int)]:=by simp[Zaq]
    rw[e];exact gw
   ·rw[dX]at e;simp at e
  ·have hg:g k=false:=by
    cases hg:g k with
    | false=>rfl
    | true=>rw[hg]at h1;simp[intOf]at h1
   rw[hg]at dX
   simp only[Bool.false_eq_true,if_false,List.append_nil]at dX
   refine⟨_,by omega,k+1,a2,c2,bF,?_,?_,bE,?_,?_,rfl⟩
   ·rw[dX,hw]
   ·rw[dX]
   ·rw[dX];exact cV
   ·rw[dX];exact fN
 ·have:k=n:=by have:=of_decide_eq_false cM;omega
  subst this
  exact⟨m1,bE,Mem.le_refl _,a2,c2,rfl,cV,by omega,fun _=>fN⟩
theorem ZnW(A:Nf)(o7:∀q∈A.sets,QOk q)(v:Value)(m:Mem)(h:RefR A v m):CX Try.prog 45 #[v] m [] (Ret (.bool A.right)):=by
 obtain⟨s,f,x,y,rfl,⟨sa,sc,rfl,hs,dP⟩,⟨fa,fc,vs,rfl,hf,f9,gZ,fW⟩,⟨xa,xc,rfl,hx,eD,gz⟩,⟨ya,yc,rfl,hy,dD,hH⟩⟩:=h
 apply Zio
 unfold Zfg
 intro b m1 bE _
 have kT:A.top=(A.sets.length:Int) - 1:=rfl
 have tP:(0:Int) - 1=-1:=rfl
 refine⟨!(decide (A.sets.length≤400)&&(decide (A.fol.length=A.sets.length)&&(ZbC A.first (-1) A.top&&ZbC A.last (-1) A.top))),?_,?_⟩
 ·refine Zab (fun h1=>⟨by trivial,?_⟩) (fun h1=>Zab (fun h2=>⟨by trivial,?_⟩) (fun h2=>?_))
  ·have:¬A.sets.length≤400:=by have:=of_decide_eq_true h1;omega
   simp[this]
  ·have:¬A.fol.length=A.sets.length:=by
    simp only[Bool.not_eq_true',beq_eq_false_iff_ne,ne_eq]at h2;omega
   simp[this]
  ·have h1':A.sets.length≤400:=by have:=of_decide_eq_false h1;omega
   have h2':A.fol.length=A.sets.length:=by
    simp only[Bool.not_eq_false',beq_iff_eq]at h2;omega
   refine Zah (ZfR A.first 0 A.sets.length xa xc m1 (hx.mono bE) eD) fun m2 bZ=>Zab (fun h3=>⟨by trivial,?_⟩) (fun h3=>?_)
   ·have:ZbC A.first (-1) A.top=false:=by rw[kT];simpa using h3
    simp[this]
   ·have h3':ZbC A.first (-1) A.top=true:=by rw[kT];simpa using h3
    refine Zah (ZfR A.last 0 A.sets.length ya yc m2 ((hy.mono bE).mono bZ) dD) fun m3 cD=>⟨by trivial,?_⟩
    rw[tP,←kT]
    simp[h1',h2',h3']
 ·refine Zab (fun h1=>Zad bE ?_) (fun h1=>?_)
  ·simp only[Bool.not_eq_true']at h1
   show Value.bool false=.bool A.right
   congr 1
   unfold Nf.right
   revert h1
   cases decide (A.sets.length≤400) <;> cases decide (A.fol.length=A.sets.length) <;> cases ZbC A.first (-1) A.top <;> cases ZbC A.last (-1) A.top <;> simp
  ·simp only[Bool.not_eq_false',Bool.and_eq_true,decide_eq_true_eq]at h1
   obtain⟨rE,oz,rF,rG⟩:=h1
   have hA:A.right=(A.fol.zip A.sets).all fun p=>ZbC p.1 (-1) A.top&&!(p.2 == zQ):=by
    unfold Nf.right;simp[rE,oz,rF,rG]
   have gV:(A.fol.zip A.sets).length=A.fol.length:=by simp[oz]
   refine⟨fun xs _ _ m' q=>∃k:Nat,k≤A.fol.length∧xs=[.int .i64 k]∧((A.fol.zip A.sets).drop k).all (fun p=>ZbC p.1 (-1) A.top&&!(p.2 == zQ))=A.right∧m.le m'∧q=A.fol.length - k,⟨_,0,Nat.zero_le _,rfl,by rw[hA];rfl,bE,rfl⟩,?_⟩
   rintro z m2 q bZ ⟨k,hk,hz,he,_,hq⟩
   obtain rfl:z=k:=by simpa using hz
   subst hq
   have ge:=Mem.le_trans bE bZ
   refine Zab (fun bV=>?_) (fun cM=>?_)
   ·have bF:k < A.fol.length:=by have:=of_decide_eq_true bV;omega
    obtain⟨l,hl⟩:=Zam bF
    obtain⟨q4,kA⟩:=Zam (l:=A.sets) (k:=k) (by omega)
    obtain⟨u,hu⟩:=Zam (l:=vs) (k:=k) (by omega)
    obtain⟨la,lc,rfl,pT,dL,tC⟩:=(fW k u l hu hl).mono ge
    obtain⟨fb,fo,gE,eA⟩:=ZbX (hf.mono ge) hu
    obtain⟨sb,so,iA,eB⟩:=Zh1 (hs.mono ge) kA
    have mj:(A.fol.zip A.sets)[k]?=some (l,q4):=List.getElem?_zip_eq_some.2 ⟨hl,kA⟩
    rw[ZpR mj]at he
    have o8:=o7 q4 (List.mem_of_getElem? kA)
    refine⟨!(ZbC l (-1) A.top&&!(q4 == zQ)),⟨sb,so,iA,⟨by omega,by omega⟩,_,Zbe q4,(by rw[Int.toNat_natCast];exact eB),?_⟩,Zab (fun h2=>Zad ge ?_) (fun h2=>⟨by trivial,_,by omega,k+1,bF,by rw[Zau (by omega) (by omega)];rfl,?_,ge,rfl⟩)⟩
    ·refine Zdo (ZsM q4 m2) fun m3 cD=>Zab (fun h3=>⟨by trivial,?_⟩) (fun h3=>?_)
     ·have:q4=zQ:=(Znq o8).1 (by simpa using h3)
      simp[this]
     ·have h3':¬q4=zQ:=fun e=>by rw[(Znq o8).2 e]at h3;simp at h3
      refine⟨fb,fo,gE,⟨by omega,by omega⟩,_,(by rw[Int.toNat_natCast];exact cD _ _ _ eA),?_⟩
      refine Zah (ZfR l 0 A.sets.length la lc m3 (pT.mono cD) dL) fun m4 cZ=>⟨by trivial,?_⟩
      rw[tP,←kT]
      simp[h3']
    ·simp only[Bool.not_eq_true']at h2
     rw[←he,h2];rfl
    ·simp only[Bool.not_eq_false']at h2
     rw[←he,h2,Bool.true_and]
   ·have:k=A.fol.length:=by have:=of_decide_eq_false cM;omega
    subst this
    refine Zad ge ?_
    rw[←he,←gV,List.drop_length];rfl
theorem Zrl(A:Nf)(o7:∀q∈A.sets,QOk q)(v:Value)(l:List Int)(a:Option Addr)(c:Nat)(m:Mem)(h:RefR A v m)(hl:rowRd m a (Zaq l))(dL:l.length≤1000000):CX Try.prog 47 #[v,.slice a l.length c] m [] (Ret (.int .i64 (A.err l))):=by
 have h':=h
 obtain⟨s,f,x,y,rfl,⟨sa,sc,rfl,hs,dP⟩,⟨fa,fc,vs,rfl,hf,f9,gZ,fW⟩,⟨xa,xc,rfl,hx,eD,gz⟩,⟨ya,yc,rfl,hy,dD,hH⟩⟩:=h
 apply Zip
 unfold Zfh
 intro b m1 bE _
 refine Zah (ZnW A o7 _ m1 (h'.mono bE)) fun m2 bZ=>Zab (fun h1=>?_) (fun h1=>?_)
 ·have:A.right=false:=by simpa using h1
  refine Zad (Mem.le_trans bE bZ) ?_
  simp[Ret,Nf.err,this]
 have hr:A.right=true:=by simpa using h1
 refine Zah (ZfR l (-1) A.sets.length a c m2 ((hl.mono bE).mono bZ) dL) fun m3 cD=>Zab (fun h2=>?_) (fun h2=>?_)
 ·have:A.states l=false:=by unfold Nf.states Nf.top;simpa using h2
  refine Zad (Mem.le_trans bE (Mem.le_trans bZ cD)) ?_
  simp[Ret,Nf.err,hr,this]
 ·have:A.states l=true:=by unfold Nf.states Nf.top;simpa using h2
  refine Zad (Mem.le_trans bE (Mem.le_trans bZ cD)) ?_
  simp[Ret,Nf.err,hr,this]
theorem Zrm(n:Nat):(List.replicate n [Value.int .i64 0]).flatten=ZbW (ZgI (fun _=>false) n):=by
 have:∀n:Nat,(List.replicate n [Value.int .i64 0]).flatten=List.replicate n (Value.int .i64 0):=by
  intro n
  induction n with
  | zero=>rfl
  | succ n ih=>rw[List.replicate_succ,List.flatten_cons,ih];rfl
 rw[this]
 refine(List.eq_replicate_iff.2 ⟨by rw[Zhw,ZeX],fun u hu=>?_⟩).symm
 simp only[ZbW,ZgI,List.map_map,List.mem_map]at hu
 obtain⟨i,_,rfl⟩:=hu
 rfl
theorem Zrn(l:List Nat)(i x:Nat):(ZbW l).set i (.int .i64 (x:Int))=ZbW (l.set i x):=by
 unfold ZbW
 rw[List.map_set]
theorem Zr4{l:List Nat}{x n:Nat}(hl:l.length=n)(hx:x < n){P:List (List Value)→Prop}(h:P [ZbW (l.set x 1)]):bif Nat.beq (n*1) 1&&Nat.beq (x*1) 0 then P [[.int .i64 1]]else chk (Nat.ble (x*1+1) (ZbW l).length) (P [Zan (ZbW l) (x*1) [.int .i64 1]]):=by
 rw[Nat.mul_one,Nat.mul_one]
 cases hb:Nat.beq n 1&&Nat.beq x 0 with
 | true=>
  rw[Bool.and_eq_true]at hb
  obtain rfl:=Nat.eq_of_beq_eq_true hb.1
  obtain rfl:=Nat.eq_of_beq_eq_true hb.2
  match l,hl with
  | [y],_=>exact h
 | false=>
  refine Zaa (by rw[Zhw,hl,Nat.ble_eq];omega) ?_
  rw[Zk3 (by rw[Zhw];omega)]
  have:=Zrn l x 1
  rw[show(Value.int .i64 ((1:Nat):Int))=.int .i64 1 from rfl]at this
  rw[this];exact h
theorem Zp1{A:Nf}(hA:A.Ok){p x:Int}{k:Nat}(h:(A.fromL p)[k]?=some x):∃i:Nat,x=i∧i < A.sets.length∧∃q,A.sets[i]?=some q∧∀c,ZqV q c=A.hasAt i c:=by
 have hb:=(ZfJ hA p).2 x (List.mem_of_getElem? h)
 unfold Nf.top at hb
 obtain⟨q,hq⟩:=Zam (l:=A.sets) (k:=x.toNat) (by omega)
 refine⟨x.toNat,by omega,by omega,q,hq,fun c=>?_⟩
 unfold Nf.hasAt;rw[Int.toNat_natCast,hq];rfl
end Go.Proofs.Ytplacemlpkhmfaa
set_option linter.unusedVariables false
set_option linter.unusedSimpArgs false
namespace Go.Proofs.Ytplacemlpkhmfaa
open Go Go.Eng Go.Rx Go.Proofs Go.RowKit
set_option maxRecDepth 100000
theorem Zr5(q:QS)(c:Nat):(intOf (.int .i64 (Zod q c)) == 1)=ZqV q c:=by
 unfold Zod
 cases ZqV q c <;> rfl
set_option maxHeartbeats 1600000 in
theorem ZsP(A:Nf)(hA:A.Ok)(v:Value)(l:List Int)(a:Option Addr)(c ch:Nat)(il:ch < 256)(m:Mem)(h:RefR A v m)(hl:rowRd m a (Zaq l))(dL:l.length≤1000000)(hs:A.states l=true):CX Try.prog 48 #[v,.slice a l.length c,.int .u8 ch] m [] (fun v m' _=>SlI true (A.step l ch) v m'):=by
 obtain⟨s,f,x,y,rfl,⟨sa,sc,rfl,hs',dP⟩,⟨fa,fc,vs,rfl,hf,f9,gZ,fW⟩,⟨xa,xc,rfl,kS,eD,gz⟩,⟨ya,yc,rfl,hy,dD,hH⟩⟩:=h
 have hn:=hA.n
 have bY:=hA.len
 apply Zj5
 unfold Zgo
 intro b m1 bE _
 refine⟨⟨by omega,by omega,by omega,by omega⟩,fun b1=>?_⟩
 simp only[Int.toNat_natCast]
 refine⟨fun xs css _ m' q=>∃k:Nat,k≤l.length∧xs=[.int .i64 k]∧css=[ZbW (ZgI (Zkr A l ch k 0) A.sets.length)]∧m1.le m'∧q=l.length - k,⟨_,0,Nat.zero_le _,rfl,by rw[Zrm,ZoL],Mem.le_refl _,rfl⟩,?_⟩
 rintro z cs m2 q bZ ⟨k,hk,hz,cG,_,hq⟩
 obtain rfl:z=k:=by simpa using hz
 obtain rfl:cs=ZbW (ZgI (Zkr A l ch k 0) A.sets.length):=by simpa using cG
 subst hq
 have dE:=Mem.le_trans bE bZ
 refine Zab (fun bV=>?_) (fun cM=>?_)
 ·have bF:k < l.length:=by have:=of_decide_eq_true bV;omega
  obtain⟨p,hp⟩:=Zam bF
  obtain⟨b2,o,gj,cN⟩:=Zba (hl.mono dE) hp
  have kE:=ZfI hs p (List.mem_of_getElem? hp)
  have eF:IntKind.i64.wrap ((k:Int)+1)=((k+1:Nat):Int):=by rw[Zau (by omega) (by omega)];rfl
  have fin:∀(j:Nat)(m3:Mem),m2.le m3→(A.fromL p).length=j→∃n',n' < l.length - k∧∃k':Nat,k'≤l.length∧([.int .i64 (IntKind.i64.wrap ((k:Int)+1))]:List Value)=[.int .i64 k']∧[ZbW (ZgI (Zkr A l ch k j) A.sets.length)]=[ZbW (ZgI (Zkr A l ch k' 0) A.sets.length)]∧m1.le m3∧n'=l.length - k':=fun j m3 cD hj=>
   ⟨_,by omega,k+1,bF,by rw[eF],by rw[←hj,ZqZ hp],Mem.le_trans bZ cD,rfl⟩
  refine⟨b2,o,gj,⟨by omega,by omega⟩,_,(by rw[Int.toNat_natCast];exact cN),Zaa rfl (Zab (fun cJ=>?_) (fun cJ=>?_))⟩
  ·have lW:0≤p:=by simpa[intOf]using cJ
   have jX:¬p=-1:=by omega
   have kh:p.toNat < A.fol.length:=by unfold Nf.top at kE;omega
   obtain⟨w,hw⟩:=Zam kh
   obtain⟨u,hu⟩:=Zam (l:=vs) (k:=p.toNat) (by omega)
   obtain⟨wa,wc,rfl,iR,rY,_⟩:=(fW _ u w hu hw).mono dE
   obtain⟨fb,fo,gE,eA⟩:=ZbX (hf.mono dE) hu
   have fD:A.fromL p=w:=by unfold Nf.fromL;rw[if_neg jX,hw];rfl
   refine⟨b2,o,gj,⟨by omega,by omega⟩,.int .i64 p,(by rw[Int.toNat_natCast];exact cN),Zaa rfl ⟨fb,fo,gE,⟨by show 0≤p;omega,by show p < (A.fol.length:Nat);omega⟩,_,(show m2 fb (fo+p.toNat*1)=some _ from eA),?_⟩⟩
   refine⟨fun xs css _ m' q=>∃j:Nat,j≤w.length∧xs=[.int .i64 j]∧css=[ZbW (ZgI (Zkr A l ch k j) A.sets.length)]∧m2.le m'∧q=w.length - j,⟨_,0,Nat.zero_le _,rfl,rfl,Mem.le_refl _,rfl⟩,?_⟩
   rintro z cs m3 q cD ⟨j,hj,hz,cG,_,hq⟩
   obtain rfl:z=j:=by simpa using hz
   obtain rfl:cs=ZbW (ZgI (Zkr A l ch k j) A.sets.length):=by simpa using cG
   subst hq
   refine Zaa rfl (Zab (fun eK=>?_) (fun gP=>?_))
   ·have cR:j < w.length:=by have:=of_decide_eq_true eK;simp only[slN]at this;omega
    obtain⟨x,hx⟩:=Zam cR
    obtain⟨b3,o3,iv,gO⟩:=Zba (iR.mono cD) hx
    have kS:(A.fromL p)[j]?=some x:=by rw[fD];exact hx
    obtain⟨i,rfl,hi,qq,jq,gQ⟩:=Zp1 hA kS
    obtain⟨sb,so,iA,eB⟩:=Zh1 ((hs'.mono dE).mono cD) jq
    have dQ:IntKind.i64.wrap ((j:Int)+1)=((j+1:Nat):Int):=by rw[Zau (by omega) (by omega)];rfl
    have cO:=eB ch _ (ZfL qq il)
    refine Zaa rfl ⟨b3,o3,iv,⟨by omega,by show(j:Int) < (w.length:Nat);omega⟩,.int .i64 (i:Int),(by rw[Int.toNat_natCast];exact gO),Zaa rfl ⟨sb,so,iA,⟨by show(0:Int)≤(i:Int);omega,by show(i:Int) < (A.sets.length:Nat);omega⟩,⟨by omega,by omega⟩,_,(by simp only[intOf,Int.toNat_natCast,Nat.mul_one];exact cO),Zaa rfl ?_⟩⟩
    rw[Zr5]
    refine Zab (fun hh=>?_) (fun hh=>?_)
    ·refine Zaa rfl ⟨b3,o3,iv,⟨by omega,by show(j:Int) < (w.length:Nat);omega⟩,.int .i64 (i:Int),(by rw[Int.toNat_natCast];exact gO),Zaa rfl ⟨⟨by show(0:Int)≤(i:Int);omega,by show(i:Int) < (A.sets.length:Nat);omega⟩,?_⟩⟩
     have mG:=ZpP hp kS hi (by rw[←gQ];exact hh)
     have jr:[ZbW ((ZgI (Zkr A l ch k j) A.sets.length).set i 1)]=[ZbW (ZgI (Zkr A l ch k (j+1)) A.sets.length)]:=by rw[mG]
     refine Zr4 (P:=fun cc=>_∧∃n',n' < w.length - j∧∃j':Nat,j'≤w.length∧([.int .i64 (IntKind.i64.wrap ((j:Int)+1))]:List Value)=[.int .i64 j']∧cc=[ZbW (ZgI (Zkr A l ch k j') A.sets.length)]∧m2.le m3∧n'=w.length - j') (ZeX _ _) hi ⟨by trivial,_,by omega,j+1,cR,by rw[dQ],jr,cD,rfl⟩
    ·have jr:=Znr (n:=A.sets.length) hp kS (by rw[←gQ];exact hh)
     exact⟨by trivial,_,by omega,j+1,cR,by rw[dQ],by rw[jr],cD,rfl⟩
   ·have:j=w.length:=by have:=of_decide_eq_false gP;simp only[slN]at this;omega
    exact⟨by trivial,fin j m3 cD (by rw[fD,this])⟩
  ·have jX:p=-1:=by
    have:¬0≤p:=by simpa[intOf]using cJ
    omega
   have fD:A.fromL p=A.first:=by unfold Nf.fromL;rw[if_pos jX]
   refine⟨fun xs css _ m' q=>∃j:Nat,j≤A.first.length∧xs=[.int .i64 j]∧css=[ZbW (ZgI (Zkr A l ch k j) A.sets.length)]∧m2.le m'∧q=A.first.length - j,⟨_,0,Nat.zero_le _,rfl,rfl,Mem.le_refl _,rfl⟩,?_⟩
   rintro z cs m3 q cD ⟨j,hj,hz,cG,_,hq⟩
   obtain rfl:z=j:=by simpa using hz
   obtain rfl:cs=ZbW (ZgI (Zkr A l ch k j) A.sets.length):=by simpa using cG
   subst hq
   refine Zab (fun eK=>?_) (fun gP=>?_)
   ·have cR:j < A.first.length:=by have:=of_decide_eq_true eK;omega
    obtain⟨x,hx⟩:=Zam cR
    obtain⟨b3,o3,iv,gO⟩:=Zba ((kS.mono dE).mono cD) hx
    have mH:(A.fromL p)[j]?=some x:=by rw[fD];exact hx
    obtain⟨i,rfl,hi,qq,jq,gQ⟩:=Zp1 hA mH
    obtain⟨sb,so,iA,eB⟩:=Zh1 ((hs'.mono dE).mono cD) jq
    have dQ:IntKind.i64.wrap ((j:Int)+1)=((j+1:Nat):Int):=by rw[Zau (by omega) (by omega)];rfl
    have cO:=eB ch _ (ZfL qq il)
    refine⟨b3,o3,iv,⟨by omega,by omega⟩,.int .i64 (i:Int),(by rw[Int.toNat_natCast];exact gO),Zaa rfl ⟨sb,so,iA,⟨by show(0:Int)≤(i:Int);omega,by show(i:Int) < (A.sets.length:Nat);omega⟩,⟨by omega,by omega⟩,_,(by simp only[intOf,Int.toNat_natCast,Nat.mul_one];exact cO),Zaa rfl ?_⟩⟩
    rw[Zr5]
    refine Zab (fun hh=>?_) (fun hh=>?_)
    ·refine⟨b3,o3,iv,⟨by omega,by omega⟩,.int .i64 (i:Int),(by rw[Int.toNat_natCast];exact gO),Zaa rfl ⟨⟨by show(0:Int)≤(i:Int);omega,by show(i:Int) < (A.sets.length:Nat);omega⟩,?_⟩⟩
     have mG:=ZpP hp mH hi (by rw[←gQ];exact hh)
     have jr:[ZbW ((ZgI (Zkr A l ch k j) A.sets.length).set i 1)]=[ZbW (ZgI (Zkr A l ch k (j+1)) A.sets.length)]:=by rw[mG]
     refine Zr4 (P:=fun cc=>_∧∃n',n' < A.first.length - j∧∃j':Nat,j'≤A.first.length∧([.int .i64 (IntKind.i64.wrap ((j:Int)+1))]:List Value)=[.int .i64 j']∧cc=[ZbW (ZgI (Zkr A l ch k j') A.sets.length)]∧m2.le m3∧n'=A.first.length - j') (ZeX _ _) hi ⟨by trivial,_,by omega,j+1,cR,by rw[dQ],jr,cD,rfl⟩
    ·have jr:=Znr (n:=A.sets.length) hp mH (by rw[←gQ];exact hh)
     exact⟨by trivial,_,by omega,j+1,cR,by rw[dQ],by rw[jr],cD,rfl⟩
   ·have:j=A.first.length:=by have:=of_decide_eq_false gP;omega
    exact⟨by trivial,fin j m3 cD (by rw[fD,this])⟩
 ·have:k=l.length:=by have:=of_decide_eq_false cM;omega
  subst this
  intro m3 cD fP
  have cV:rowRd m3 (some ⟨b1,0,none⟩) (ZbW (ZgI (Zkr A l ch l.length 0) A.sets.length)):=.inr ⟨b1,0,rfl,fP⟩
  refine Zas (ZsO (Zkr A l ch l.length 0) A.sets.length _ _ m3 cV (by omega)) ZbH ?_
  intro a4 n4 c4 m4 cZ hR
  refine⟨m4,Mem.le_trans dE (Mem.le_trans cD cZ),Mem.le_refl _,?_⟩
  rw[Zsz hA]at hR
  exact hR
theorem ZnX(A:Nf)(hA:A.Ok)(v:Value)(l:List Int)(a:Option Addr)(c:Nat)(m:Mem)(h:RefR A v m)(hl:rowRd m a (Zaq l))(dL:l.length≤1000000)(hs:A.states l=true):CX Try.prog 49 #[v,.slice a l.length c] m [] (Ret (.bool (A.accepts l))):=by
 obtain⟨s,f,x,y,rfl,⟨sa,sc,rfl,hs',dP⟩,⟨fa,fc,vs,rfl,hf,f9,gZ,fW⟩,⟨xa,xc,rfl,kS,eD,gz⟩,⟨ya,yc,rfl,hy,dD,hH⟩⟩:=h
 apply Zgx
 unfold ZdH
 intro b m1 bE _
 refine⟨fun xs css _ m' q=>∃k:Nat,k≤l.length∧xs=[.int .i64 k]∧(l.drop k).any A.acc1=A.accepts l∧m.le m'∧q=l.length - k,⟨_,0,Nat.zero_le _,rfl,rfl,bE,rfl⟩,?_⟩
 rintro z m2 q bZ ⟨k,hk,hz,he,dE,hq⟩
 obtain rfl:z=k:=by simpa using hz
 subst hq
 refine Zab (fun bV=>?_) (fun cM=>?_)
 ·have bF:k < l.length:=by have:=of_decide_eq_true bV;omega
  obtain⟨p,hp⟩:=Zam bF
  obtain⟨b2,o,gj,cN⟩:=Zba (hl.mono dE) hp
  have gJ:m2 b2 (o+(k:Int).toNat*1)=some (.int .i64 p):=by rw[Int.toNat_natCast];exact cN
  have kE:=ZfI hs p (List.mem_of_getElem? hp)
  rw[Zce hp,List.any_cons]at he
  have nx:A.acc1 p=false→∀M:Mem,m2.le M→∃n',n' < l.length - k∧∃k':Nat,k'≤l.length∧([.int .i64 (IntKind.i64.wrap ((k:Int)+1))]:List Value)=[.int .i64 k']∧(l.drop k').any A.acc1=A.accepts l∧m.le M∧n'=l.length - k':=fun ha M hM=>
   ⟨_,by omega,k+1,bF,by rw[Zau (by omega) (by omega)];rfl,by rw[←he,ha,Bool.false_or],Mem.le_trans dE hM,rfl⟩
  have yes:A.acc1 p=true→Ret (.bool (A.accepts l)) (.bool true) m2 []:=fun ha=>by
   rw[←he,ha,Bool.true_or]
  have o9:0≤p→A.acc1 p=decide (p∈A.last):=fun h0=>by
   rw[Bool.eq_iff_iff,decide_eq_true_eq];exact ZsA hA h0
  refine⟨fun _ _ _=>Ret (.bool (decide (p∈A.last))),b2,o,gj,⟨by omega,by omega⟩,_,gJ,Zaa rfl (Zab (fun h1=>?_) (fun h1=>?_))⟩
  ·have jX:p=-1:=by have:=of_decide_eq_true h1;simp only[intOf]at this;omega
   have ha:A.acc1 p=A.empty:=by unfold Nf.acc1;rw[if_pos jX]
   refine Zab (fun h2 M hM _=>?_) (fun h2=>?_)
   ·refine⟨m2,dE,hM,?_⟩
    exact yes (by rw[ha];exact h2)
   ·refine⟨b2,o,gj,⟨by omega,by omega⟩,_,gJ,Zaa rfl (Zab (fun h3=>?_) (fun h3 M hM _=>⟨by trivial,nx (by rw[ha];exact h2) M hM⟩))⟩
    have:0≤p:=by simpa[intOf]using h3
    omega
  ·have lW:0≤p:=by have:=of_decide_eq_false h1;simp only[intOf]at this;omega
   refine⟨b2,o,gj,⟨by omega,by omega⟩,.int .i64 p,gJ,Zaa rfl (Zab (fun h3=>?_) (fun h3=>?_))⟩
   ·refine⟨b2,o,gj,⟨by omega,by omega⟩,.int .i64 p,gJ,_,rfl,Zt7 A.last p ya yc m2 (hy.mono dE) dD,fun v _ _ h=>by rw[h];rfl,?_⟩
    intro b4 m3 cD hv M gt gq
    obtain rfl:b4=decide (p∈A.last):=by simpa[Ret]using hv
    refine Zab (fun h4=>⟨m2,dE,gt,yes (by rw[o9 lW];exact h4)⟩) (fun h4=>⟨by trivial,nx (by rw[o9 lW];exact h4) M gt⟩)
   ·exfalso
    have:=of_decide_eq_false h3
    simp only[intOf]at this;omega
 ·have:k=l.length:=by have:=of_decide_eq_false cM;omega
  subst this
  rw[List.drop_length]at he
  refine Zad dE ?_
  rw[←he];rfl
end Go.Proofs.Ytplacemlpkhmfaa
