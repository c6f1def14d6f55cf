/- Part of the proof: conditions and contracts of functions of this program. No condition of its own. -/
import Derived.Test.YtplacemlpkhmfaaPC17HS
import Derived.Test.YtplacemlpkhmfaaMr
import Derived.Test.YtplacemlpkhmfaaPVND
set_option linter.unusedVariables false
set_option linter.unusedSimpArgs false
namespace Go.Proofs.Ytplacemlpkhmfaa
open Go Go.Eng Go.Rx Go.Proofs Go.RowKit
set_option maxRecDepth 100000
theorem Zuc{st:Bool}{A:Nf}:∀(v:Value)(m':Mem) (css:List (List Value)),NfR st A v m'→Shape.fits (.agg [.slice,.slice,.slice,.slice,.bool]) v=true:=by
 rintro v m' css ⟨s,f,x,y,rfl,⟨_,_,rfl,_⟩,⟨_,_,_,rfl,_⟩,⟨_,_,rfl,_⟩,⟨_,_,rfl,_⟩⟩;rfl
theorem ZlZ{st:Bool}(A:Nf)(v:Value)(m:Mem)(h:NfR st A v m)(hr:A.right=false):CX Try.prog 16 #[v] m [] (NfE nf0 171):=by
 have h':=h
 obtain⟨s,f,x,y,rfl,⟨sa,sc,rfl,hs,dK,iq⟩,⟨fa,fc,vs,rfl,hf,eR,f8,eF⟩,⟨xa,xc,rfl,hx,dU,fX⟩,⟨ya,yc,rfl,hy,dG,gj⟩⟩:=h
 apply ZjP
 unfold ZgQ
 intro b m1 aZ _ k8 jv b1
 refine Zah (Ziz A _ m1 (h'.mono aZ)) fun m2 bO=>ZbW (by rw[hr];rfl) ⟨_,Mem.le_trans aZ bO,Mem.le_refl _,_,rfl,Zwg _⟩
def Zw4(st:Bool)(A:Nf)(m:Mem):Value→Mem→List (List Value)→Prop:=fun v m' _=>∃w,v=.tuple #[w,.int .i64 0]∧CopyS st A m w m'
theorem ZoP{st:Bool}(A:Nf)(v:Value)(m:Mem)(h:NfR st A v m)(hr:A.right=true):CX Try.prog 16 #[v] m [] (Zw4 st A.turn m):=by
 have h':=h
 have cK:=ZdI.1 hr
 have xL:=cK.n
 have xM:=cK.len
 obtain⟨s,f,x,y,rfl,⟨sa,sc,rfl,hs,dK,iq⟩,⟨fa,fc,vs,rfl,hf,eR,f8,eF⟩,⟨xa,xc,rfl,hx,dU,fX⟩,⟨ya,yc,rfl,hy,dG,gj⟩⟩:=h
 apply ZjP
 unfold ZgQ
 intro b m1 aZ eL k8 jv b1
 refine Zah (Ziz A _ m1 (h'.mono aZ)) fun m2 bO=>Zbe (by rw[hr];rfl) ?_
 refine Zaq (Zq6 A _ m2 ((h'.mono aZ).mono bO) (by omega)) ZiG ?_
 rintro a2 n2 c2 a3 n3 c3 a4 n4 c4 a5 n5 c5 e5 base bR ⟨s',f',x',y',hv,hs',hx',hy',_,_,_,_,_,_,_,_⟩
 simp only[Value.agg.injEq,Array.mk.injEq,List.cons.injEq,Value.bool.injEq,and_true]at hv
 obtain⟨rfl,rfl,rfl,rfl,rfl⟩:=hv
 intro b4
 have nv:m.le base:=Mem.le_trans aZ (Mem.le_trans bO bR)
 have dI:∀k,base.free k→b≠k:=fun k hk e=>by
  subst e
  have h1:=Mem.le_trans bO bR _ _ _ (eL 0 _ rfl)
  rw[hk]at h1;cases h1
 refine⟨⟨by omega,by omega,by show(A.fol.length:Int)*24≤_;omega,by omega⟩,fun b5 jX=>?_⟩
 simp only[Int.toNat_natCast]
 have ng:∀N:Nat,(List.replicate N [Value.slice none 0 0]).flatten=List.replicate N (.slice none 0 0):=fun N=>by
  induction N with
  | zero=>rfl
  | succ N ih=>rw[List.replicate_succ,List.flatten_cons,ih];rfl
 rw[ng]
 have start:TurnI base (base.add b5 (List.replicate A.fol.length (.slice none 0 0))) b5 (fun _=>none) (List.replicate A.fol.length []):=by
  refine⟨Mem.le_add jX _,jX,fun q l hq=>?_,fun _ _ _ _ _ h=>by simp at h,fun q x h=>by simp at h⟩
  rw[List.getElem?_replicate]at hq
  split at hq
  ·rename_i bK
   cases hq
   refine .inl ⟨rfl,rfl,?_⟩
   rw[Mem.add_same,List.getElem?_replicate,if_pos bK]
  ·cases hq
 refine⟨fun xs _ _ m' q=>∃(p:Nat) (F:Nat→Option (Nat×Nat)) (cur:List (List Int)),p≤A.fol.length∧xs=[.int .i64 p]∧TurnI base m' b5 F cur∧cur.length=A.fol.length∧Zdh (A.fol.drop p) p cur=Zf3 A.fol∧(∀l∈cur,l.length≤p*1000000)∧q=A.fol.length - p,⟨_,0,_,_,Nat.zero_le _,rfl,start,List.length_replicate,rfl,fun l hl=>by obtain⟨_,rfl⟩:=List.mem_replicate.1 hl;exact Nat.zero_le _,rfl⟩,?_⟩
 rintro z m6 q _ ⟨p,F,cur,hp,hz,hT,gq,eT,nw,hq⟩
 obtain rfl:z=p:=by simpa using hz
 subst hq
 refine Zab (fun bK=>?_) (fun cL=>?_)
 ·have aY:p < A.fol.length:=by have:=of_decide_eq_true bK;omega
  obtain⟨l,hl⟩:=Zak aY
  obtain⟨u,hu⟩:=Zak (l:=vs) (k:=p) (by omega)
  obtain⟨la,lc,rfl,oE,eA,_⟩:=(eF p u l hu hl).mono (Mem.le_trans nv hT.le)
  obtain⟨fb,fo,eU,dH⟩:=Za6 (hf.mono (Mem.le_trans nv hT.le)) hu
  have s7:rowRd base la (Zap l):=by
   obtain⟨la',lc',e,s8,_⟩:=(eF p _ l hu hl).mono nv
   simp only[Value.slice.injEq]at e
   rw[e.1];exact s8
  have kH:=cK.fol l (List.mem_of_getElem? hl)
  refine⟨fb,fo,eU,⟨by omega,by omega⟩,_,(by rw[Int.toNat_natCast];exact dH),Zaa rfl ?_⟩
  refine⟨fun xs _ _ m' q=>∃(j:Nat) (F:Nat→Option (Nat×Nat)) (cur':List (List Int)),j≤l.length∧xs=[.int .i64 j]∧TurnI base m' b5 F cur'∧cur'.length=A.fol.length∧(l.drop j).foldl (Zo6 p) cur'=ZgG p cur l∧(∀x∈cur',x.length≤p*1000000+j)∧q=l.length - j,⟨_,0,F,cur,Nat.zero_le _,rfl,hT,gq,by rw[List.drop_zero];unfold ZgG;rfl,fun x hx=>Nat.le_trans (nw x hx) (Nat.le_add_right _ _),rfl⟩,?_⟩
  rintro z m7 q _ ⟨j,F2,cur2,hj,hz,qN,pM,iI,nB,hq⟩
  obtain rfl:z=j:=by simpa using hz
  subst hq
  refine Zab (fun dY=>?_) (fun fZ=>?_)
  ·have cQ:j < l.length:=by have:=of_decide_eq_true dY;simp only[slN]at this;omega
   obtain⟨x,hx⟩:=Zak cQ
   have lg:=kH.2 x (List.mem_of_getElem? hx)
   have fX:x.toNat < A.fol.length:=by have:=lg.2;unfold Nf.top at this;omega
   obtain⟨lb,lo,wS,iV⟩:=Za5 (s7.mono qN.le) hx
   obtain⟨c,hc⟩:=Zak (l:=cur2) (k:=x.toNat) (by omega)
   have uP:=nB c (List.mem_of_getElem? hc)
   rw[Zcw hx,List.foldl_cons]at iI
   have cS:=qN.cell _ _ hc
   obtain⟨ga,gc,s9,nC,bU,bQ⟩:∃(ga:Option Addr)(gc:Nat),m7 b5 x.toNat=some (.slice ga c.length gc)∧Zxi m7 m 1 ga c.length gc∧rowRd (m7.cutA ga (c.length*1)) ga (Zap c)∧∀k,ga=some ⟨k,0,none⟩→base.free k∧k≠b5:=by
    rcases cS with⟨_,rfl,h3⟩|⟨bq,c0,_,h2,h3,h4,h5,h6,h7,h8⟩
    ·exact⟨none,0,h3,.inl ⟨rfl,rfl,rfl⟩,.inl rfl,fun k hk=>by cases hk⟩
    ·have gu:0 < c.length:=List.length_pos_iff.2 h2
     refine⟨_,c0,h4,.inr ⟨bq,rfl,h3,by omega,fun o ho=>h5 o (by omega),Zm1 nv h7⟩,.inr ⟨bq,0,rfl,fun i v hv=>?_⟩,fun k hk=>by cases hk;exact⟨h7,h8⟩⟩
     have j4:=(List.getElem?_eq_some_iff.1 hv).1
     rw[ZbS]at j4
     simp only[Mem.cutA]
     rw[if_neg (by omega)]
     exact h6 i v hv
   have jH:(m7.cutA ga (c.length*1)) b5 x.toNat=some (.slice ga c.length gc):=by
    unfold Mem.cutA
    split
    ·rename_i k o sp
     have hk:k≠b5:=by
      rcases nC with⟨h1,_⟩|⟨k',h1,_⟩
      ·cases h1
      ·cases h1;exact(bQ _ rfl).2
     rw[if_neg (fun hc=>hk hc.1.symm)];exact s9
    ·exact s9
   have nD:(m7.cutA ga (c.length*1)) b5 (0+(intOf (Value.int .i64 x)).toNat*1)=some (.slice ga c.length gc):=by
    have e:0+(intOf (Value.int .i64 x)).toNat*1=x.toNat:=by show 0+x.toNat*1=_;omega
    rw[e];exact jH
   refine Zaa rfl ⟨lb,lo,wS,⟨by omega,by show(j:Int) < (l.length:Nat);omega⟩,_,(by rw[Int.toNat_natCast];exact iV),ga,c.length,gc,nC,fun k hk=>⟨dI k ?_,trivial⟩,Zaa rfl ⟨b5,0,rfl,⟨by show 0≤x;omega,by show x < (A.fol.length:Nat);omega⟩,_,nD,fun b9 pL=>Zaa rfl ?_⟩⟩
   ·cases ga with
    | none=>simp[Tok.blk]at hk
    | some ad=>
     obtain⟨k',o,sp⟩:=ad
     rcases nC with⟨h1,_⟩|⟨k2,h1,_⟩
     ·cases h1
     ·cases h1
      simp[Tok.blk]at hk
      subst hk
      exact(bQ _ rfl).1
   refine⟨.inl rfl,Zap c,[.int .i64 (p:Int)],by rw[ZbS];exact(Nat.mul_one _).symm,rfl,bU.mono (Mem.le_add pL _),ZdB,by simp[Value.oneCell'],by show(c.length+1)*8≤_;omega,by show c.length+1≤_;omega,fun a' c' m8 je wT j7 M fK eQ jo=>Zaa rfl ⟨b5,0,rfl,⟨by show 0≤x;omega,by show x < (A.fol.length:Nat);omega⟩,⟨[.slice ga c.length gc],rfl,fun i v hv=>?_⟩,Zm1 nv jX,by trivial,fun e=>?_,dI b5 jX,fun zs l5=>⟨by trivial,?_⟩⟩⟩
   ·cases i with
    | zero=>
     simp at hv;subst hv
     show M b5 (0+x.toNat*1+0)=_
     rw[Nat.add_zero,Nat.zero_add,Nat.mul_one]
     exact fK _ _ _ jH
    | succ i=>simp at hv
   ·subst e
    rw[pL]at jH;cases jH
   ·obtain⟨F3,pN⟩:=qN.push (p:=p) (by omega:0≤x) hc s9 (Mem.le_add pL _) wT j7 fK jo zs l5
    refine⟨_,by omega,j+1,F3,_,cQ,by rw[Zat (by omega) (by omega)];rfl,?_,by rw[Zf4];exact pM,iI,fun y hy=>?_,rfl⟩
    ·have e:0+(intOf (Value.int .i64 x)).toNat*1=x.toNat:=by show 0+x.toNat*1=_;omega
     rw[e];exact pN
    ·obtain⟨i,hi⟩:=List.getElem?_of_mem hy
     have j4:=(List.getElem?_eq_some_iff.1 hi).1
     rw[Zf4]at j4
     rw[ZkC (List.getElem?_eq_getElem j4)]at hi
     have:=nB _ (List.getElem_mem j4)
     split at hi <;> cases hi
     ·rw[List.length_append,List.length_singleton];omega
     ·omega
  ·have:j=l.length:=by have:=of_decide_eq_false fZ;simp only[slN]at this;omega
   subst this
   rw[List.drop_length,List.foldl_nil]at iI
   refine⟨by trivial,_,by omega,p+1,F2,cur2,aY,by rw[Zat (by omega) (by omega)];rfl,qN,pM,?_,fun y hy=>by have:=nB y hy;omega,rfl⟩
   rw[iI,←eT,Zcw hl,Zdh]
 ·have:p=A.fol.length:=by have:=of_decide_eq_false cL;omega
  subst this
  rw[List.drop_length,Zdh]at eT
  subst eT
  have gD:∀(q:Nat)(l:List Int),(Zf3 A.fol)[q]?=some l→∃w,m6 b5 q=some w∧SlI st l w m6∧NewS m w∧(l≠[]→Zsv (some ⟨b5,0,none⟩) w):=fun q l sM=>by
   have bN:=(ZhL sM cK.rows).2
   rcases hT.cell _ _ sM with⟨_,rfl,h3⟩|⟨bq,c0,_,h2,h3,h4,_,h6,h7,h8⟩
   ·exact⟨_,h3,⟨none,0,rfl,.inl rfl,by simp,fun _ _=>rfl⟩,fun b o e=>by simp[slA]at e,fun cM=>absurd rfl cM⟩
   ·exact⟨_,h4,⟨_,c0,rfl,.inr ⟨bq,0,rfl,h6⟩,by omega,fun _ e=>absurd e h2⟩,fun b o e=>by simp[slA]at e;exact e.1 ▸ Zm1 nv h7,fun _ b o o' e ea=>by simp[slA]at e ea;exact h8 (e.1.trans ea.1.symm)⟩
  have eP:∀(i:Nat)(v:Value),((List.range A.fol.length).map fun q=>((m6 b5 q).getD (.bool false)))[i]?=some v→i < A.fol.length∧∃l,(Zf3 A.fol)[i]?=some l∧m6 b5 i=some v∧SlI st l v m6∧NewS m v∧(l≠[]→Zsv (some ⟨b5,0,none⟩) v):=fun i v hv=>by
   have j4:=(List.getElem?_eq_some_iff.1 hv).1
   rw[List.length_map,List.length_range]at j4
   rw[List.getElem?_map,List.getElem?_range j4]at hv
   simp only[Option.map_some,Option.some.injEq]at hv
   obtain⟨l,hl⟩:=Zak (l:=Zf3 A.fol) (k:=i) (by rw[Zdi];exact j4)
   obtain⟨w,dZ,dL⟩:=gD i l hl
   rw[dZ]at hv
   have:w=v:=hv
   subst this
   exact⟨j4,l,hl,dZ,dL⟩
  have dD:=Mem.le_trans aZ bO
  refine⟨m6,Mem.le_trans nv hT.le,Mem.le_refl _,_,rfl,_,_,_,_,rfl,⟨hs'.1.mono hT.le,hs'.2.less dD⟩,⟨hy'.1.mono hT.le,hy'.2.less dD⟩,⟨hx'.1.mono hT.le,hx'.2.less dD⟩,some ⟨b5,0,none⟩,A.fol.length,(List.range A.fol.length).map fun q=>((m6 b5 q).getD (.bool false)),?_,.inr ⟨b5,0,rfl,fun i v hv=>?_⟩,?_,?_,fun cM b o o' e ea=>?_,fun cM b o o' e ea=>?_,fun cM b o o' e ea=>?_,fun i v l hv hl=>?_⟩
  ·show _=Value.slice _ (Zf3 A.fol).length _
   rw[Zdi]
  ·rw[Nat.zero_add]
   obtain⟨_,l,_,h2,_⟩:=eP i v hv
   exact h2
  ·show _=(Zf3 A.fol).length
   rw[Zdi,List.length_map,List.length_range]
  ·show(Zf3 A.fol).length≤_
   rw[Zdi];exact f8
  ·cases ea;exact ZxC hs'.1 cM e jX
  ·cases ea;exact ZvS hy'.1 cM e jX
  ·cases ea;exact ZvS hx'.1 cM e jX
  ·obtain⟨_,l2,h1,_,h3⟩:=eP i v hv
   rw[show A.turn.fol=Zf3 A.fol from rfl,h1]at hl
   cases hl;exact h3
theorem Zl0{st:Bool}(A:Nf)(v:Value)(m:Mem)(h:NfR st A v m)(hr:A.right=true):CX Try.prog 16 #[v] m [] (fun v m' _=>∃w,v=.tuple #[w,.int .i64 0]∧NfR st A.turn w m'):=(ZoP A v m h hr).mono fun _ _ _ _ ⟨w,h1,h2⟩=>⟨w,h1,h2.nf⟩
end Go.Proofs.Ytplacemlpkhmfaa
set_option linter.unusedVariables false
set_option linter.unusedSimpArgs false
namespace Go.Proofs.Ytplacemlpkhmfaa
open Go Go.Eng Go.Rx Go.Proofs Go.RowKit
set_option maxRecDepth 100000
theorem Ztj(q:QS)(hq:QOk q)(c:Nat)(hc:c < 256)(m:Mem):CX Try.prog 117 #[.agg #[.int .u64 q.1,.int .u64 q.2.1,.int .u64 q.2.2.1,.int .u64 q.2.2.2],.int .u8 c] m [] (Ret (.bool (Zrh q c))):=
 Zvs (Zvf q) c hc m (Zxn hq m)
theorem ZvA(l:List Int)(a:Option Addr)(c:Nat)(m:Mem)(h:rowRd m a (Zap l))(hl:l.length≤1000000)(gd:∀p∈l,0≤p∧p < 448):CX Try.prog 112 #[.slice a l.length c] m [] (Ret (bwV (Zwd l 0))):=by
 apply ZpO
 unfold ZlR
 intro b b1
 refine⟨fun xs css _ m' q=>∃(k f:Nat),k≤l.length∧xs=[.int .i64 k]∧css=[bwL f]∧Zwd (l.drop k) f=Zwd l 0∧m.le m'∧q=l.length - k,⟨_,0,0,Nat.zero_le _,rfl,by rw[ZjE],rfl,Mem.le_refl _,rfl⟩,?_⟩
 rintro z cs m1 q aZ ⟨k,f,hk,hz,bT,he,_,hq⟩
 obtain rfl:z=k:=by simpa using hz
 obtain rfl:cs=bwL f:=by simpa using bT
 subst hq
 refine Zab (fun bK=>?_) (fun cL=>?_)
 ·have aY:k < l.length:=by have:=of_decide_eq_true bK;omega
  obtain⟨x,hx⟩:=Zak aY
  obtain⟨b2,o,gn,cO⟩:=Za5 (h.mono aZ) hx
  have xN:=gd x (List.mem_of_getElem? hx)
  obtain⟨i,rfl⟩:∃i:Nat,x=i:=⟨x.toNat,by omega⟩
  rw[Zcw hx]at he
  refine⟨b2,o,gn,⟨by omega,by omega⟩,_,(by rw[Int.toNat_natCast];exact cO),_,trivial,ZjQ f i (by omega) b1 100 7 [] [] m1 (by omega),fun v _ _ h=>by rw[h.1];rfl,fun m2 bO cs2 kD=>⟨by trivial,_,by omega,k+1,f|||2 ^ i,aY,by rw[Zat (by omega) (by omega)];rfl,?_,he,Mem.le_trans aZ bO,rfl⟩⟩
  have:=kD.2
  simp only[List.nil_append,List.append_nil]at this
  exact this
 ·have:k=l.length:=by have:=of_decide_eq_false cL;omega
  subst this
  rw[List.drop_length]at he
  refine Zaa rfl (Zag aZ ?_)
  rw[←he];rfl
theorem ZvB(A:Nf)(f:Nat)(p:Int)(hp : -1≤p∧p < 448)(s0 s1 s2 s3:Value)(b c:Nat)(m:Mem)(hb:m.reads b 0 [s0,s1,s2,s3,.bool A.empty])(hc:m.reads c 0 (bwL f)):CX Try.prog 114 #[.int .i64 p,.pointer (some ⟨b,0,none⟩),.pointer (some ⟨c,0,none⟩)] m [] (Ret (.bool (if p=-1 then A.empty else f.testBit p.toNat))):=by
 apply Zg4
 unfold Zd4
 by_cases h:p=-1
 ·subst h
  rw[if_pos rfl]
  refine⟨A.empty,ZbW (by decide) ⟨_,(by simpa using hb 4 _ rfl),?_⟩,Zag (Mem.le_refl _) rfl⟩
  cases A.empty
  ·exact Zaa rfl (Zbe rfl (Zbe (by decide) rfl))
  ·exact Zaa rfl (ZbW rfl rfl)
 ·rw[if_neg h]
  obtain⟨i,rfl⟩:∃i:Nat,p=i:=⟨p.toNat,by omega⟩
  refine⟨f.testBit i,Zbe (by simp) (ZbW (by simp) ?_),Zag (Mem.le_refl _) (by rw[Int.toNat_natCast])⟩
  exact Zah (Ztb f i (by omega) c 0 m hc) fun m1 aZ=>rfl
theorem Zsw(l:List Int)(a:Option Addr)(c:Nat)(g:Nat)(ca:List Value)(p:Int→Bool)(m:Mem)(h:rowRd m a (Zap l))(hl:l.length≤1000000)(hg:∀x∈l,∀m',m.le m'→CX Try.prog g (([.int .i64 x]:List Value)++ca).toArray m' [] (Ret (.bool (p x)))):
  CX Try.prog 113 #[.slice a l.length c,.func (.func g) #[] ca.toArray] m [] (Ret (.bool (l.any p))):=by
 have td:CX Try.prog 146 #[.slice a l.length c,.func (.func g) #[] ca.toArray] m [] (fun v _ _=>∃n:Int,v=.int .i64 n∧decide (n ≥ 0)=l.any p):=by
  apply Zck a l.length c g [] ca
  unfold Zbt
  refine⟨fun xs _ _ m' q=>∃k:Nat,k≤l.length∧xs=[.int .i64 k]∧(l.drop k).any p=l.any p∧m.le m'∧q=l.length - k,⟨_,0,Nat.zero_le _,rfl,rfl,Mem.le_refl _,rfl⟩,?_⟩
  rintro z m1 q aZ ⟨k,hk,hz,he,_,hq⟩
  obtain rfl:z=k:=by simpa using hz
  subst hq
  refine Zab (fun bK=>?_) (fun cL=>?_)
  ·have aY:k < l.length:=by have:=of_decide_eq_true bK;omega
   obtain⟨x,hx⟩:=Zak aY
   obtain⟨b2,o,gn,cO⟩:=Za5 (h.mono aZ) hx
   rw[Zcw hx,List.any_cons]at he
   refine⟨b2,o,gn,⟨by omega,by omega⟩,_,(by rw[Int.toNat_natCast];exact cO),Zah (hg x (List.mem_of_getElem? hx) m1 aZ) fun m2 bO=>Zab (fun h2=>?_) (fun h2=>⟨_,by omega,k+1,aY,by rw[Zat (by omega) (by omega)];rfl,?_,Mem.le_trans aZ bO,rfl⟩)⟩
   ·refine⟨_,Mem.le_trans aZ bO,Mem.le_refl _,_,rfl,?_⟩
    rw[←he,h2];simp
   ·rw[←he,h2];rfl
  ·have:k=l.length:=by have:=of_decide_eq_false cL;omega
   subst this
   refine⟨_,aZ,Mem.le_refl _,_,rfl,?_⟩
   rw[←he,List.drop_length];rfl
 apply ZbU a l.length c g [] ca
 unfold Za3
 refine Zaq td (by rintro v m' css ⟨n,rfl,_⟩;rfl) ?_
 rintro n m1 aZ ⟨n',hn,he⟩
 cases hn
 exact Zag aZ (by rw[←he])
theorem Zl1{st:Bool}(A:Nf)(hA:A.Ok)(v:Value)(l:List Int)(a:Option Addr)(c:Nat)(m:Mem)(h:NfR st A v m)(hl:rowRd m a (Zap l))(eA:l.length≤1000000)(hs:A.states l=true):CX Try.prog 68 #[v,.slice a l.length c] m [] (Ret (.bool (A.accepts l))):=by
 obtain⟨s,f,x,y,rfl,⟨sa,sc,rfl,hs',dK,iq⟩,⟨fa,fc,vs,rfl,hf,eR,f8,eF⟩,⟨xa,xc,rfl,hx,dU,fX⟩,⟨ya,yc,rfl,hy,dG,gj⟩⟩:=h
 have hn:=hA.n
 apply Zi9
 unfold ZfH
 intro b m1 aZ hb
 refine Zaq (ZvA A.last ya yc m1 (hy.mono aZ) dG (fun p hp=>by have:=hA.last.2 p hp;unfold Nf.top at this;omega)) (by rintro v m' css rfl;rfl) ?_
 intro n0 n1 n2 n3 n4 n5 n6 m2 bO hv
 simp only[Ret,bwV,Value.agg.injEq,Array.mk.injEq,List.cons.injEq,Value.int.injEq,true_and,and_true]at hv
 obtain⟨rfl,rfl,rfl,rfl,rfl,rfl,rfl⟩:=hv
 intro b1 m3 bR eL
 have nr:=Mem.le_trans bO bR
 refine Zah (Zsw l a c _ [.pointer (some ⟨b,0,none⟩),.pointer (some ⟨b1,0,none⟩)] A.acc1 m3 ((hl.mono aZ).mono nr) eA fun p hp m4 cT=>?_) fun m5 cV=>Zag (Mem.le_trans aZ (Mem.le_trans nr cV)) rfl
 have:=Zf5 hs p hp
 exact ZvB A (Zwd A.last 0) p ⟨by omega,by unfold Nf.top at this;omega⟩ _ _ _ _ b b1 m4 ((hb.mono nr).mono cT) (Mem.reads.mono eL cT)
theorem Zud{st:Bool}(A:Nf)(v:Value)(l:List Int)(a:Option Addr)(c:Nat)(m:Mem)(h:NfR st A v m)(hl:rowRd m a (Zap l))(eA:l.length≤1000000):CX Try.prog 78 #[v,.slice a l.length c] m [] (Ret (.int .i64 (A.err l))):=by
 have h':=h
 obtain⟨s,f,x,y,rfl,⟨sa,sc,rfl,hs',dK,iq⟩,⟨fa,fc,vs,rfl,hf,eR,f8,eF⟩,⟨xa,xc,rfl,hx,dU,fX⟩,⟨ya,yc,rfl,hy,dG,gj⟩⟩:=h
 apply ZmF
 unfold Zh9
 intro b m1 aZ hb
 refine Zah (Ziz A _ m1 (h'.mono aZ)) fun m2 bO=>Zab (fun h1=>Zag (Mem.le_trans aZ bO) ?_) (fun h1=>?_)
 ·unfold Nf.err;rw[if_pos (by simpa using h1)]
 have hr:A.right=true:=by simpa using h1
 have hw:IntKind.i64.wrap ((A.sets.length:Int) - 1)=A.top:=Zat (by omega) (by omega)
 simp only[hw]
 refine Zah (Zh1 l (-1) A.top a c m2 ((hl.mono aZ).mono bO) eA ⟨by omega,by omega⟩) fun m3 bR=>Zab (fun h2=>Zag (Mem.le_trans aZ (Mem.le_trans bO bR)) ?_) (fun h2=>Zag (Mem.le_trans aZ (Mem.le_trans bO bR)) ?_)
 ·have:A.states l=false:=by unfold Nf.states;simpa using h2
  unfold Nf.err;rw[hr,this];rfl
 ·have:A.states l=true:=by unfold Nf.states;simpa using h2
  unfold Nf.err;rw[hr,this];rfl
theorem Zq7{st:Bool}(A:Nf)(hA:A.Ok)(hq:∀q∈A.sets,QOk q)(v:Value)(l:List Int)(a:Option Addr)(c ch:Nat)(iy:ch < 256)(m:Mem)(h:NfR st A v m)(hl:rowRd m a (Zap l))(eA:l.length≤1000000)(hs:A.states l=true):CX Try.prog 79 #[v,.slice a l.length c,.int .u8 ch] m [] (fun v m' _=>SlI true (A.step l ch) v m'∧NewS m v):=by
 obtain⟨s,f,x,y,rfl,⟨sa,sc,rfl,hs',dK,iq⟩,⟨fa,fc,vs,rfl,hf,eR,f8,eF⟩,⟨xa,xc,rfl,lI,dU,fX⟩,⟨ya,yc,rfl,hy,dG,gj⟩⟩:=h
 have hn:=hA.n
 have bN:=hA.len
 apply ZoK
 unfold ZjX
 intro b m1 aZ hb b1
 refine⟨fun xs css _ m' q=>∃(k f:Nat),k≤l.length∧xs=[.int .i64 k]∧css=[bwL f]∧A.stepM (l.drop k) ch f=A.stepM l ch 0∧m1.le m'∧q=l.length - k,⟨_,0,0,Nat.zero_le _,rfl,by rw[ZjE],rfl,Mem.le_refl _,rfl⟩,?_⟩
 rintro z cs m2 q bO ⟨k,f,hk,hz,bT,he,_,hq⟩
 obtain rfl:z=k:=by simpa using hz
 obtain rfl:cs=bwL f:=by simpa using bT
 subst hq
 have dD:=Mem.le_trans aZ bO
 refine Zab (fun bK=>?_) (fun cL=>?_)
 ·have aY:k < l.length:=by have:=of_decide_eq_true bK;omega
  obtain⟨p,hp⟩:=Zak aY
  obtain⟨b2,o,gn,cO⟩:=Za5 (hl.mono dD) hp
  have lu:=Zf5 hs p (List.mem_of_getElem? hp)
  rw[Zcw hp]at he
  have he':A.stepM (l.drop (k+1)) ch ((A.fromL p).foldl (A.step1 ch) f)=A.stepM l ch 0:=he
  have Zwf:∀(w:List Int),A.fromL p=w→w.length≤1000000→∀(wa:Option Addr),rowRd m2 wa (Zap w)→∀(k2 f2:Nat)(m3:Mem)(x:Int),m2.le m3→w[k2]?=some x→∃(i:Nat)(bs os:Nat)(qq:QS),x=i∧i < 448∧sa=some ⟨bs,os,none⟩∧(0≤x∧x < (A.sets.length:Nat))∧m3.reads bs (os+x.toNat*4) [.int .u64 qq.1,.int .u64 qq.2.1,.int .u64 qq.2.2.1,.int .u64 qq.2.2.2]∧QOk qq∧Zrh qq ch=A.hasAt x ch:=by
   intro w hw _ wa _ k2 f2 m3 x bR hx
   have hb:=(Zf6 hA p).2 x (by rw[hw];exact List.mem_of_getElem? hx)
   unfold Nf.top at hb
   obtain⟨qq,jY⟩:=Zak (l:=A.sets) (k:=x.toNat) (by omega)
   obtain⟨bs,os,iP,eI⟩:=ZgF ((hs'.mono dD).mono bR) jY
   refine⟨x.toNat,bs,os,qq,by omega,by omega,iP,⟨by omega,by omega⟩,eI,hq qq (List.mem_of_getElem? jY),?_⟩
   unfold Nf.hasAt;rw[jY];rfl
  have dZ:IntKind.i64.wrap ((k:Int)+1)=((k+1:Nat):Int):=by rw[Zat (by omega) (by omega)];rfl
  refine⟨b2,o,gn,⟨by omega,by omega⟩,_,(by rw[Int.toNat_natCast];exact cO),Zaa rfl (Zab (fun cM=>?_) (fun cM=>?_))⟩
  ·have iG:¬p=-1:=by simpa[intOf]using cM
   have kX:p.toNat < A.fol.length:=by unfold Nf.top at lu;omega
   obtain⟨w,hw⟩:=Zak kX
   obtain⟨u,hu⟩:=Zak (l:=vs) (k:=p.toNat) (by omega)
   obtain⟨wa,wc,rfl,iB,oG,_⟩:=(eF _ u w hu hw).mono dD
   obtain⟨fb,fo,eU,dH⟩:=Za6 (hf.mono dD) hu
   have fL:A.fromL p=w:=by unfold Nf.fromL;rw[if_neg iG,hw];rfl
   refine Zaa rfl ⟨fb,fo,eU,⟨by show 0≤p;omega,by show p < (A.fol.length:Nat);omega⟩,_,(show m2 fb (fo+p.toNat*1)=some _ from dH),Zaa rfl ?_⟩
   refine⟨fun xs css _ m' q=>∃(j f2:Nat),j≤w.length∧xs=[.int .i64 j]∧css=[bwL f2]∧(w.drop j).foldl (A.step1 ch) f2=(A.fromL p).foldl (A.step1 ch) f∧m2.le m'∧q=w.length - j,⟨_,0,f,Nat.zero_le _,rfl,rfl,by rw[fL];rfl,Mem.le_refl _,rfl⟩,?_⟩
   rintro z cs m3 q bR ⟨j,f2,hj,hz,bT,jd,_,hq⟩
   obtain rfl:z=j:=by simpa using hz
   obtain rfl:cs=bwL f2:=by simpa using bT
   subst hq
   refine Zab (fun dY=>?_) (fun fZ=>?_)
   ·have cQ:j < w.length:=by have:=of_decide_eq_true dY;simp only[slN]at this;omega
    obtain⟨x,hx⟩:=Zak cQ
    obtain⟨b3,o3,iJ,hU⟩:=Za5 (iB.mono bR) hx
    obtain⟨i,bs,os,qq,rfl,hi,iP,gd,eI,tf,hZ⟩:=Zwf w fL oG wa iB j f2 m3 x bR hx
    rw[Zcw hx,List.foldl_cons]at jd
    have dL:IntKind.i64.wrap ((j:Int)+1)=((j+1:Nat):Int):=by rw[Zat (by omega) (by omega)];rfl
    refine Zaa rfl ⟨b3,o3,iJ,⟨by omega,by show(j:Int) < (w.length:Nat);omega⟩,.int .i64 (i:Int),(by rw[Int.toNat_natCast];exact hU),Zaa rfl ⟨bs,os,iP,gd,_,_,_,_,eI,?_⟩⟩
    refine Zah (Ztj qq tf ch iy m3) fun m4 cT=>Zab (fun hh=>?_) (fun hh=>?_)
    ·refine⟨_,trivial,ZjQ f2 i hi b1 100 7 [] [] m4 (by omega),fun v _ _ h=>by rw[h.1];rfl,fun m5 cV cs5 jp=>⟨by trivial,_,by omega,j+1,f2|||2 ^ i,cQ,by rw[dL],?_,?_,Mem.le_trans bR (Mem.le_trans cT cV),rfl⟩⟩
     ·have:=jp.2
      simp only[List.nil_append,List.append_nil]at this
      exact this
     ·rw[hZ]at hh
      rw[←jd];unfold Nf.step1;rw[if_pos hh,Int.toNat_natCast]
    ·refine⟨by trivial,_,by omega,j+1,f2,cQ,by rw[dL],rfl,?_,Mem.le_trans bR cT,rfl⟩
     rw[hZ]at hh
     rw[←jd];unfold Nf.step1;rw[if_neg (by simp[hh])]
   ·have:j=w.length:=by have:=of_decide_eq_false fZ;simp only[slN]at this;omega
    subst this
    rw[List.drop_length,List.foldl_nil]at jd
    exact⟨by trivial,_,by omega,k+1,f2,aY,by rw[dZ],rfl,by rw[jd];exact he',Mem.le_trans bO bR,rfl⟩
  ·have iG:p=-1:=by simpa[intOf]using cM
   have fL:A.fromL p=A.first:=by unfold Nf.fromL;rw[if_pos iG]
   refine⟨fun xs css _ m' q=>∃(j f2:Nat),j≤A.first.length∧xs=[.int .i64 j]∧css=[bwL f2]∧(A.first.drop j).foldl (A.step1 ch) f2=(A.fromL p).foldl (A.step1 ch) f∧m2.le m'∧q=A.first.length - j,⟨_,0,f,Nat.zero_le _,rfl,rfl,by rw[fL];rfl,Mem.le_refl _,rfl⟩,?_⟩
   rintro z cs m3 q bR ⟨j,f2,hj,hz,bT,jd,_,hq⟩
   obtain rfl:z=j:=by simpa using hz
   obtain rfl:cs=bwL f2:=by simpa using bT
   subst hq
   refine Zab (fun dY=>?_) (fun fZ=>?_)
   ·have cQ:j < A.first.length:=by have:=of_decide_eq_true dY;omega
    obtain⟨x,hx⟩:=Zak cQ
    obtain⟨b3,o3,iJ,hU⟩:=Za5 ((lI.mono dD).mono bR) hx
    obtain⟨i,bs,os,qq,rfl,hi,iP,gd,eI,tf,hZ⟩:=Zwf A.first fL dU xa (lI.mono dD) j f2 m3 x bR hx
    rw[Zcw hx,List.foldl_cons]at jd
    have dL:IntKind.i64.wrap ((j:Int)+1)=((j+1:Nat):Int):=by rw[Zat (by omega) (by omega)];rfl
    refine⟨b3,o3,iJ,⟨by omega,by omega⟩,.int .i64 (i:Int),(by rw[Int.toNat_natCast];exact hU),Zaa rfl ⟨bs,os,iP,gd,_,_,_,_,eI,?_⟩⟩
    refine Zah (Ztj qq tf ch iy m3) fun m4 cT=>Zab (fun hh=>?_) (fun hh=>?_)
    ·refine⟨_,trivial,ZjQ f2 i hi b1 100 7 [] [] m4 (by omega),fun v _ _ h=>by rw[h.1];rfl,fun m5 cV cs5 jp=>⟨by trivial,_,by omega,j+1,f2|||2 ^ i,cQ,by rw[dL],?_,?_,Mem.le_trans bR (Mem.le_trans cT cV),rfl⟩⟩
     ·have:=jp.2
      simp only[List.nil_append,List.append_nil]at this
      exact this
     ·rw[hZ]at hh
      rw[←jd];unfold Nf.step1;rw[if_pos hh,Int.toNat_natCast]
    ·refine⟨by trivial,_,by omega,j+1,f2,cQ,by rw[dL],rfl,?_,Mem.le_trans bR cT,rfl⟩
     rw[hZ]at hh
     rw[←jd];unfold Nf.step1;rw[if_neg (by simp[hh])]
   ·have:j=A.first.length:=by have:=of_decide_eq_false fZ;omega
    subst this
    rw[List.drop_length,List.foldl_nil]at jd
    exact⟨by trivial,_,by omega,k+1,f2,aY,by rw[dZ],rfl,by rw[jd];exact he',Mem.le_trans bO bR,rfl⟩
 ·have:k=l.length:=by have:=of_decide_eq_false cL;omega
  subst this
  rw[List.drop_length]at he
  intro m3 bR fW
  refine Zaq (Zub f b1 0 m3 fW) (fun v m' css h=>Za7 v m' css h.1) ?_
  intro a4 n4 c4 m4 cT hR
  refine⟨m4,Mem.le_trans dD (Mem.le_trans bR cT),Mem.le_refl _,?_⟩
  have:A.step l ch=Zb0 f:=by unfold Nf.step;rw[←he];rfl
  rw[this];exact⟨hR.1,hR.2.less (Mem.le_trans dD bR)⟩
theorem ZvC{st:Bool}(A:Nf)(hA:A.Ok)(hq:∀q∈A.sets,QOk q)(v:Value)(l:List Int)(a:Option Addr)(c ch:Nat)(iy:ch < 256)(m:Mem)(h:NfR st A v m)(hl:rowRd m a (Zap l))(eA:l.length≤1000000)(hs:A.states l=true):CX Try.prog 79 #[v,.slice a l.length c,.int .u8 ch] m [] (fun v m' _=>SlI true (A.step l ch) v m'):=(Zq7 A hA hq v l a c ch iy m h hl eA hs).mono fun _ _ _ _ h=>h.1
end Go.Proofs.Ytplacemlpkhmfaa
set_option linter.unusedVariables false
set_option linter.unusedSimpArgs false
namespace Go.Proofs.Ytplacemlpkhmfaa
open Go Go.Eng Go.Rx Go.Proofs Go.RowKit
set_option maxRecDepth 100000
theorem Zue{st:Bool}(A:Nf)(hq:∀q∈A.sets,QOk q)(v:Value)(l:List Int)(a:Option Addr)(c ch:Nat)(iy:ch < 256)(m:Mem)(h:NfR st A v m)(hl:rowRd m a (Zap l))(eA:l.length≤1000000):
  CX Try.prog 27 #[v,.slice a l.length c,.int .u8 ch] m [] (fun v m' _=>∃w,v=.tuple #[w,.int .i64 (A.err l)]∧SlI true (if A.err l=0 then A.step l ch else[]) w m'∧NewS m w):=by
 have h':=h
 obtain⟨s,f,x,y,rfl,⟨sa,sc,rfl,hs',dK,iq⟩,⟨fa,fc,vs,rfl,hf,eR,f8,eF⟩,⟨xa,xc,rfl,hx,dU,fX⟩,⟨ya,yc,rfl,hy,dG,gj⟩⟩:=h
 apply ZoL
 unfold ZjY
 intro b m1 aZ hb
 refine Zfh (Zud A _ l a c m1 (h'.mono aZ) (hl.mono aZ) eA) fun m2 bO=>Zab (fun h1=>?_) (fun h1=>?_)
 ·have he:A.err l≠0:=by simpa using h1
  refine⟨_,Mem.le_trans aZ bO,Mem.le_refl _,_,rfl,?_⟩
  rw[if_neg he]
  exact⟨⟨none,0,rfl,.inl rfl,by simp,fun _ _=>rfl⟩,fun b o e=>by simp[slA]at e⟩
 ·have he:A.err l=0:=by simpa using h1
  have hr:A.right=true:=by
   unfold Nf.err at he
   cases hr:A.right with
   | true=>rfl
   | false=>rw[hr]at he;simp at he
  have hs:A.states l=true:=by
   unfold Nf.err at he
   cases hs:A.states l with
   | true=>rfl
   | false=>rw[hr,hs]at he;simp at he
  have js:=Mem.le_trans aZ bO
  refine Zaq (Zq7 A (ZdI.1 hr) hq _ l a c ch iy m2 (h'.mono js) (hl.mono js) eA hs) (fun v m' css h=>Za7 v m' css h.1) ?_
  intro a3 n3 c3 m3 bR hR
  refine⟨_,Mem.le_trans js bR,Mem.le_refl _,_,by rw[he],?_⟩
  rw[if_pos he];exact⟨hR.1,hR.2.less js⟩
theorem Ztk{st:Bool}(A:Nf)(hq:∀q∈A.sets,QOk q)(v:Value)(l:List Int)(a:Option Addr)(c ch:Nat)(iy:ch < 256)(m:Mem)(h:NfR st A v m)(hl:rowRd m a (Zap l))(eA:l.length≤1000000):
  CX Try.prog 27 #[v,.slice a l.length c,.int .u8 ch] m [] (fun v m' _=>∃w,v=.tuple #[w,.int .i64 (A.err l)]∧SlI true (if A.err l=0 then A.step l ch else[]) w m'):=(Zue A hq v l a c ch iy m h hl eA).mono fun _ _ _ _ ⟨w,h1,h2,_⟩=>⟨w,h1,h2⟩
def Zxr(bs:List Nat)(m:Mem):Value→Mem→List (List Value)→Prop:=fun v m' _=>∃a c,v=.slice a bs.length c∧Byt m' a bs∧∀k,(Tok.mk v 1).blk=some k→m.free k
theorem Zp9(bs:List Nat)(a:Option Addr)(c:Nat)(m:Mem)(h:Byt m a bs)(hl:bs.length≤100000):CXT Try.prog 17 #[.slice a bs.length c] m 1 (Zxr bs m):=by
 have bU:rowRd m a (bs.map fun c:Nat=>Value.int .u8 c):=by
  rcases h.1 with h1|h1
  ·exact .inl (by rw[h1];rfl)
  ·exact .inr h1
 apply Zct
 unfold ZbI
 refine Zab (fun hz=>?_) (fun hz=>⟨⟨rfl,Int.le_refl _,by decide,by decide⟩,fun b hb=>⟨.inl rfl,[],bs.map fun c:Nat=>Value.int .u8 c,rfl,by rw[List.length_map];omega,.inl rfl,bU,fun u hu=>?_,by omega,by omega,fun a' c' m' hm' hr j7=>⟨rfl,a',c',by rw[Nat.zero_add],⟨?_,h.2⟩,fun k hk=>?_⟩⟩⟩)
 ·have mZ:bs=[]:=by
   rcases h.1 with h1|⟨b,o,h1,_⟩
   ·exact h1
   ·rw[h1]at hz;simp at hz
  subst mZ
  exact⟨rfl,none,0,rfl,⟨.inl rfl,by simp⟩,fun k hk=>by simp[Tok.blk]at hk⟩
 ·obtain⟨i,_,rfl⟩:=List.mem_map.1 hu
  rfl
 ·rcases hr with hr|hr
  ·left
   have:=congrArg List.length hr
   simp at this;exact this
  ·exact .inr hr
 ·rcases(j7.old (fun _ _ e=>by cases e;rfl)).2 with h1|⟨b',h1,h2|h2⟩
  ·rw[h1]at hk;simp[Tok.blk]at hk
  ·rw[←h2]at hk
   simp[Tok.blk]at hk
   subst hk;exact hb
  ·rw[h1]at hk
   simp[Tok.blk]at hk
   subst hk;exact h2
theorem ZmI{P:Program}{g:FuncId}{args:Array Value}{m:Mem}{v0:Value}{xs:List Box}{R0:Value→Mem→List (List Value)→List Value→Prop}{Q:Nat→Prop}{F:Shape}{K:(Nat→Prop)→(Value→Mem→List (List Value)→List Value→Prop)→Prop}(h:CXY P g args m (fun k=>(Tok.mk v0 1).blk=some k) xs [⟨v0,1⟩] R0)(hf:∀v m' css tvs,R0 v m' css tvs→Shape.fits F v=true)(k:K (fun k=>(Tok.mk v0 1).blk=some k) R0):
  ∃(Y1:Nat→Prop) (R:Value→Mem→List (List Value)→List Value→Prop),CXY P g args m Y1 xs [⟨v0,1⟩] R∧(∀t:Tok,t∈[Tok.mk v0 1]→∀b,t.blk=some b→Y1 b)∧(∀b,Y1 b→(∃t:Tok,t∈[Tok.mk v0 1]∧t.blk=some b)∨Q b)∧(∀v m' css tvs,R v m' css tvs→Shape.fits F v=true)∧K Y1 R:=
 ⟨_,_,h,fun t ht b hb=>by rw[List.mem_singleton]at ht;subst ht;exact hb,fun b hb=>.inl ⟨_,List.mem_singleton.2 rfl,hb⟩,hf,k⟩
def CbR{S:Type}(j:Nat)(Inv:Nat→S→Value→Value→Mem→Prop)(m:Mem)(s:S):Value→Mem→List (List Value)→List Value→Prop:=fun v m' css tvs=>
 v=.tuple #[]∧m.le m'∧∃a n c a1 n1 c1,css=[[.slice a n c]]∧tvs=[.slice a1 n1 c1]∧Inv j s (.slice a n c) (.slice a1 n1 c1) m'
def ZxD{S:Type}(A:Nf)(g:FuncId)(fi cap:List Value)(cb:Nat)(st:S→Nat→List Int→S)(Inv:Nat→S→Value→Value→Mem→Prop)(base:Mem):Prop:=
 ∀(s:S)(n:Nat)(l:List Int)(la:Option Addr)(lc:Nat)(ca:Option Addr)(cn cc:Nat)(ta:Option Addr)(tn tc:Nat)(m:Mem),base.le m→Inv n s (.slice ca cn cc) (.slice ta tn tc) m→rowRd m la (Zap l)→l.length≤1000000→A.states l=true→n≤4096→
  CXY Try.prog g ((fi++([Value.int .i64 (n:Nat),Value.slice la l.length lc]:List Value))++cap).toArray m (fun k=>(Tok.mk (.slice ta tn tc) 1).blk=some k) [⟨cb,[.slice ca cn cc],24,1,false,true⟩] [⟨.slice ta tn tc,1⟩] (CbR (n+1) Inv m (st s n l))
theorem ZoQ{S:Type}{j:Nat}{Inv:Nat→S→Value→Value→Mem→Prop}{m:Mem}{s:S}:∀v m' css tvs,CbR j Inv m s v m' css tvs→Shape.fits (.tup []) v=true:=by
 rintro v m' css tvs ⟨rfl,_⟩;rfl
theorem Ztl{S:Type}{stt:Bool}(A:Nf)(hq:∀q∈A.sets,QOk q)(v:Value)(bs:List Nat)(ba:Option Addr)(bc:Nat)(again:Bool)(g:FuncId)(fi cap:List Value)(cb:Nat)(st:S→Nat→List Int→S)(Inv:Nat→S→Value→Value→Mem→Prop)(iE:∀j s a b m m',Inv j s a b m→m.le m'→Inv j s a b m')
  (s0:S) (ca:Option Addr) (cn cc:Nat) (ta:Option Addr) (tn tc:Nat) (m:Mem) (oC:ZxD A g fi cap cb st Inv m) (h:NfR stt A v m) (hb:Byt m ba bs) (dF:Inv 0 s0 (.slice ca cn cc) (.slice ta tn tc) m):
  CXY Try.prog 80 #[v,.slice ba bs.length bc,.bool again,.func (.func g) fi.toArray cap.toArray] m (fun k=>(Tok.mk (.slice ta tn tc) 1).blk=some k) [⟨cb,[.slice ca cn cc],24,1,false,true⟩] [⟨.slice ta tn tc,1⟩]
   (fun v m' css tvs=>v=.int .i64 (A.runE bs.length)∧m.le m'∧∃j a n c a1 n1 c1,css=[[.slice a n c]]∧tvs=[.slice a1 n1 c1]∧Inv j (if A.runE bs.length=0 then A.runL again st bs 0 [-1] (st s0 0 [-1])else s0) (.slice a n c) (.slice a1 n1 c1) m'):=by
 have h':=h
 obtain⟨s,f,x,y,rfl,⟨sa,sc,rfl,hs',dK,iq⟩,⟨fa,fc,vs,rfl,hf,eR,f8,eF⟩,⟨xa,xc,rfl,hx,dU,fX⟩,⟨ya,yc,rfl,hy,dG,gj⟩⟩:=h
 apply ZjZ
 unfold ZiD
 intro b m1 aZ _ _ _
 refine Zah (Ziz A _ m1 (h'.mono aZ)) fun m2 bO=>Zab (fun h1=>?_) (fun h1=>?_)
 ·have he:A.runE bs.length=171:=by unfold Nf.runE;rw[if_pos (by simpa using h1)]
  rw[he]
  exact⟨by trivial,rfl,Mem.le_trans aZ bO,_,_,_,_,_,_,_,rfl,rfl,iE _ _ _ _ _ _ dF (Mem.le_trans aZ bO)⟩
 have hr:A.right=true:=by simpa using h1
 have hA:=ZdI.1 hr
 have js:=Mem.le_trans aZ bO
 refine Zab (fun h2=>?_) (fun h2=>?_)
 ·have h2':4096 < bs.length:=by have:=of_decide_eq_true h2;omega
  have he:A.runE bs.length=3:=by unfold Nf.runE;rw[hr,if_pos h2'];rfl
  rw[he]
  exact⟨by trivial,rfl,js,_,_,_,_,_,_,_,rfl,rfl,iE _ _ _ _ _ _ dF js⟩
 have h2':bs.length≤4096:=by have:=of_decide_eq_false h2;omega
 have he:A.runE bs.length=0:=by unfold Nf.runE;rw[if_neg (by rw[hr];simp),if_neg (by omega)]
 rw[he]
 simp only[if_true]
 intro b2 gN
 have dD:m.le (m2.add b2 [.int .i64 (-1)]):=Mem.le_trans js (Mem.le_add gN _)
 have dJ:rowRd (m2.add b2 [.int .i64 (-1)]) (some ⟨b2,0,none⟩) (Zap [-1]):=ZdB
 have nE:A.states [-1]=true:=by
  unfold Nf.states
  rw[Zce]
  exact⟨by simp,fun x hx=>by rw[List.mem_singleton]at hx;subst hx;unfold Nf.top;omega⟩
 refine ZmI (oC s0 0 [-1] (some ⟨b2,0,none⟩) 1 ca cn cc ta tn tc _ dD (iE _ _ _ _ _ _ dF dD) dJ (by simp) nE (by omega)) ZoQ ?_
 rintro m3 wU _ cs a3 n3 c3 ⟨_,bR,a4,n4,c4,a5,n5,c5,bT,dC,pO⟩
 simp only[List.cons.injEq,Value.slice.injEq,and_true]at dC
 obtain⟨rfl,rfl,rfl⟩:=dC
 obtain rfl:cs=[.slice a4 n4 c4]:=by simpa using bT
 have gH:=Mem.le_trans dD bR
 refine⟨fun xs css tvs m' q=>∃(k:Nat)(l:List Int)(la:Option Addr)(lc:Nat)(z:S)(a n:_)(c:Nat)(a1:Option Addr)(n1 c1:Nat)(w:Value),k≤bs.length∧xs=[.slice la l.length lc,.int .i64 k]∧css=[[.slice a n c]]∧tvs=[w,.slice a1 n1 c1]∧m.le m'∧Inv (k+1) z (.slice a n c) (.slice a1 n1 c1) m'∧rowRd m' la (Zap l)∧l.length≤1000000∧A.states l=true∧A.runL again st (bs.drop k) k l z=A.runL again st bs 0 [-1] (st s0 0 [-1])∧q=bs.length - k,
  ⟨_,0,[-1],some ⟨b2,0,none⟩,1,st s0 0 [-1],a4,n4,c4,a3,n3,c3,.slice none 0 0,Nat.zero_le _,rfl,rfl,rfl,gH,pO,dJ.mono bR,by simp,nE,rfl,rfl⟩,?_⟩
 rintro la ln lc z cs a6 n6 c6 a7 n7 c7 m4 q _ ⟨k,l,la',lc',zz,a,n,c,a1,n1,c1,w,hk,hx,bT,dC,jm,jI,kH,eA,jQ,eT,hq⟩
 simp only[List.cons.injEq,Value.slice.injEq,Value.int.injEq,true_and,and_true]at hx
 obtain⟨⟨rfl,rfl,rfl⟩,rfl⟩:=hx
 simp only[List.cons.injEq,and_true]at bT dC
 subst bT
 obtain⟨rfl,dC⟩:=dC
 simp only[Value.slice.injEq]at dC
 obtain⟨rfl,rfl,rfl⟩:=dC
 subst hq
 refine Zab (fun bK=>?_) (fun cL=>?_)
 ·have aY:k < bs.length:=by have:=of_decide_eq_true bK;omega
  obtain⟨ch,iy⟩:=Zak aY
  have i8:=hb.2 ch (List.mem_of_getElem? iy)
  rcases(hb.mono jm).1 with h0|⟨bb,bo,nF,nG⟩
  ·rw[h0]at aY;simp at aY
  have tg:m4 bb (bo+k*1)=some (.int .u8 ch):=by
   have:=nG k (.int .u8 ch) (by simp[iy])
   rwa [Nat.mul_one]
  have dZ:IntKind.i64.wrap ((k:Int)+1)=((k+1:Nat):Int):=by rw[Zat (by omega) (by omega)];rfl
  rw[Zcw iy,Nf.runL]at eT
  refine⟨bb,bo,nF,⟨by omega,by omega⟩,_,(by rw[Int.toNat_natCast];exact tg),?_⟩
  refine Zaq (ZvC A hA hq _ l la lc ch i8 m4 (h'.mono jm) kH eA jQ) Za7 ?_
  rintro a8 n8 c8 m5 cV ⟨a8',c8',oH,kI,uQ,_⟩
  simp only[Value.slice.injEq]at oH
  obtain⟨rfl,rfl,rfl⟩:=oH
  have jG:=Mem.le_trans jm cV
  have uR:(A.step l ch).length≤448:=Zob _
  have ti:=Zod hA again l ch
  have fin:∀(l2:List Int)(la2:Option Addr)(lc2:Nat)(m6:Mem)(w:Value),l2=A.next again l ch→m.le m6→rowRd m6 la2 (Zap l2)→l2.length≤1000000→∀(m7:Mem)(cs:List Value)(a9:Option Addr)(n9 c9:Nat),CbR (k+1+1) Inv m6 (st zz (k+1) l2) (.tuple #[]) m7 [cs] [.slice a9 n9 c9]→
    ∃n',n' < bs.length - k∧(fun(xs:List Value) (css:List (List Value)) (tvs:List Value) (m':Mem) (q:Nat)=>∃(k:Nat)(l:List Int)(la:Option Addr)(lc:Nat)(z:S)(a:Option Addr)(n c:Nat)(a1:Option Addr)(n1 c1:Nat)(w:Value),k≤bs.length∧xs=[.slice la l.length lc,.int .i64 k]∧css=[[.slice a n c]]∧tvs=[w,.slice a1 n1 c1]∧m.le m'∧Inv (k+1) z (.slice a n c) (.slice a1 n1 c1) m'∧rowRd m' la (Zap l)∧l.length≤1000000∧A.states l=true∧A.runL again st (bs.drop k) k l z=A.runL again st bs 0 [-1] (st s0 0 [-1])∧q=bs.length - k) [.slice la2 l2.length lc2,.int .i64 (IntKind.i64.wrap ((k:Int)+1))] [cs] [w,.slice a9 n9 c9] m7 n':=by
   rintro l2 la2 lc2 m6 w rfl nH i5 pP m7 cs a9 n9 c9 ⟨_,iH,e1,e2,e3,e4,e5,e6,bT,dC,pQ⟩
   simp only[List.cons.injEq,Value.slice.injEq,and_true]at dC
   obtain⟨rfl,rfl,rfl⟩:=dC
   obtain rfl:cs=[.slice e1 e2 e3]:=by simpa using bT
   exact⟨_,by omega,k+1,_,la2,lc2,st zz (k+1) (A.next again l ch),e1,e2,e3,a9,n9,c9,w,aY,by rw[dZ],rfl,rfl,Mem.le_trans nH iH,pQ,i5.mono iH,pP,ti,eT,rfl⟩
  refine Zab (fun my=>?_) (fun my=>?_)
  ·have iQ:A.next again l ch=-1::A.step l ch:=by unfold Nf.next;rw[my];rfl
   intro b4 nt
   have gk:rowRd (m5.add b4 [.int .i64 (-1)]) (some ⟨b4,0,none⟩) (Zap [-1]):=ZdB
   have oI:=Mem.le_add nt [Value.int .i64 (-1)]
   refine Zab (fun hz=>?_) (fun hz=>?_)
   ·have kj:A.step l ch=[]:=List.eq_nil_of_length_eq_zero (Nat.eq_of_beq_eq_true hz)
    have jA:([-1]:List Int)=A.next again l ch:=by rw[iQ,kj]
    rw[dZ]
    refine ZmI (oC zz (k+1) [-1] (some ⟨b4,0,none⟩) 1 _ _ _ _ _ _ _ (Mem.le_trans jG oI) (iE _ _ _ _ _ _ jI (Mem.le_trans cV oI)) gk (by simp) nE (by omega)) ZoQ ?_
    rintro m7 pR _ cs a9 n9 c9 nI
    refine⟨by trivial,by trivial,?_⟩
    have:=fin [-1] (some ⟨b4,0,none⟩) 1 _ (Value.slice a6 n6 c6) jA (Mem.le_trans jG oI) gk (by simp) m7 cs a9 n9 c9 nI
    rw[dZ]at this
    exact this
   ·have kj:(A.step l ch).length≠0:=fun e=>by rw[e]at hz;cases hz
    refine⟨.inr (.inr (by show 1 < 1+(A.step l ch).length;omega)),Zap [-1],Zap (A.step l ch),rfl,by rw[ZbS,Nat.mul_one],gk,kI.mono oI,fun u hu=>?_,by show(1+(A.step l ch).length)*8≤_;omega,by show 1+(A.step l ch).length≤_;omega,fun a' c' m6 eJ nJ j7=>?_⟩
    ·obtain⟨i,_,rfl⟩:=List.mem_map.1 hu
     rfl
    have jA:(-1::A.step l ch:List Int)=A.next again l ch:=by rw[iQ]
    have qO:(-1::A.step l ch:List Int).length=1+(A.step l ch).length:=by rw[List.length_cons];omega
    have pS:rowRd m6 a' (Zap (-1::A.step l ch)):=nJ
    have uS:m.le m6:=Mem.le_trans jG (Mem.le_trans oI eJ)
    have dS:=oC zz (k+1) (-1::A.step l ch) a' c' _ _ _ _ _ _ m6 uS (iE _ _ _ _ _ _ jI (Mem.le_trans cV (Mem.le_trans oI eJ))) pS (by rw[qO];omega) (by rw[jA];exact ti) (by omega)
    rw[qO]at dS
    rw[dZ]
    refine ZmI dS ZoQ ?_
    rintro m7 pR _ cs a9 n9 c9 nI
    refine⟨by trivial,by trivial,?_⟩
    have:=fin (-1::A.step l ch) a' c' m6 (.slice a' (1+(A.step l ch).length) c') jA uS pS (by rw[qO];omega) m7 cs a9 n9 c9 nI
    rw[dZ,qO]at this
    exact this
  ·have iQ:A.step l ch=A.next again l ch:=by unfold Nf.next;rw[my];rfl
   rw[dZ]
   refine ZmI (oC zz (k+1) (A.step l ch) a8 c8 _ _ _ _ _ _ m5 jG (iE _ _ _ _ _ _ jI cV) kI (by omega) (by rw[iQ];exact ti) (by omega)) ZoQ ?_
   rintro m7 pR _ cs a9 n9 c9 nI
   refine⟨by trivial,by trivial,?_⟩
   have:=fin (A.step l ch) a8 c8 m5 (Value.slice a6 n6 c6) iQ jG kI (by omega) m7 cs a9 n9 c9 nI
   rw[dZ]at this
   exact this
 ·have:k=bs.length:=by have:=of_decide_eq_false cL;omega
  subst this
  rw[List.drop_length,Nf.runL]at eT
  subst eT
  exact⟨by trivial,by trivial,jm,_,_,_,_,_,_,_,rfl,rfl,jI⟩
end Go.Proofs.Ytplacemlpkhmfaa
set_option linter.unusedVariables false
set_option linter.unusedSimpArgs false
namespace Go.Proofs.Ytplacemlpkhmfaa
open Go Go.Eng Go.Rx Go.Proofs Go.RowKit
set_option maxRecDepth 100000
theorem ZiH(l:List Int)(lo hi:Int)(a:Option Addr)(c:Nat)(m:Mem)(h:rowRd m a (Zap l))(hl:l.length≤1000000):CX Try.prog 100 #[.slice a l.length c,.int .i64 lo,.int .i64 hi] m [] (Ret (.bool (ZbG l (lo - 1) (hi - 1)))):=by
 apply ZhR
 unfold ZeQ
 refine⟨fun xs _ _ m' q=>∃k:Nat,k≤l.length∧xs=[.int .i64 k]∧ZbG (l.take k) (lo - 1) (hi - 1)=true∧m.le m'∧q=l.length - k,⟨_,0,Nat.zero_le _,rfl,rfl,Mem.le_refl _,rfl⟩,?_⟩
 rintro z m1 q aZ ⟨k,hk,hz,he,_,hq⟩
 obtain rfl:z=k:=by simpa using hz
 subst hq
 refine Zab (fun bK=>?_) (fun cL=>?_)
 ·have aY:k < l.length:=by have:=of_decide_eq_true bK;omega
  obtain⟨x,hx⟩:=Zak aY
  obtain⟨b,o,gn,cO⟩:=Za5 (h.mono aZ) hx
  have no:(ZbG l (lo - 1) (hi - 1)=true→False)→Ret (.bool (ZbG l (lo - 1) (hi - 1))) (.bool false) m1 []:=fun hh=>by
   have:ZbG l (lo - 1) (hi - 1)=false:=by rw[Bool.eq_false_iff];exact hh
   rw[this]
  have nx:(∀u,0 < k→l[k - 1]?=some u→u < x)→lo≤x→x < hi→∃n',n' < l.length - k∧∃k':Nat,k'≤l.length∧([.int .i64 (IntKind.i64.wrap ((k:Int)+1))]:List Value)=[.int .i64 k']∧ZbG (l.take k') (lo - 1) (hi - 1)=true∧m.le m1∧n'=l.length - k':=fun h1 h2 h3=>
   ⟨_,by omega,k+1,aY,by rw[Zat (by omega) (by omega)];rfl,Zr8 hx he (by omega) (by omega) h1,aZ,rfl⟩
  have gV:m1 b (o+(k:Int).toNat*1)=some (.int .i64 x):=by rw[Int.toNat_natCast];exact cO
  refine⟨b,o,gn,⟨by omega,by omega⟩,_,gV,Zaa rfl (Zab (fun h1=>Zag aZ (no fun hr=>?_)) (fun h1=>⟨b,o,gn,⟨by omega,by omega⟩,_,gV,Zaa rfl (Zab (fun h2=>Zag aZ (no fun hr=>?_)) (fun h2=>Zab (fun h3=>?_) (fun h3=>?_)))⟩))⟩
  ·have:=(ZqW hr hx).1
   have:=of_decide_eq_true h1
   simp only[intOf]at this;omega
  ·have:=(ZqW hr hx).2.1
   have:=of_decide_eq_true h2
   simp only[intOf]at this;omega
  ·have h3':0 < k:=by have:=of_decide_eq_true h3;omega
   have g1:lo≤x:=by have:=of_decide_eq_false h1;simp only[intOf]at this;omega
   have g2:x < hi:=by have:=of_decide_eq_false h2;simp only[intOf]at this;omega
   obtain⟨u,hu⟩:=Zak (l:=l) (k:=k - 1) (by omega)
   obtain⟨b2,o2,tj,eK⟩:=Za5 (h.mono aZ) hu
   have hw:IntKind.i64.wrap ((k:Int) - 1)=((k - 1:Nat):Int):=by rw[Zat (by omega) (by omega)];omega
   rw[hw]
   refine⟨b,o,gn,⟨by omega,by omega⟩,_,gV,b2,o2,tj,⟨by omega,by omega⟩,.int .i64 u,(by rw[Int.toNat_natCast];exact eK),Zaa rfl (Zab (fun h4=>Zag aZ (no fun hr=>?_)) (fun h4=>nx (fun u' _ hu'=>?_) g1 g2))⟩
   ·have:=(ZqW hr hx).2.2 u h3' hu
    have:=of_decide_eq_true h4
    simp only[intOf]at this;omega
   ·rw[hu]at hu';cases hu'
    have:=of_decide_eq_false h4
    simp only[intOf]at this;omega
  ·have g1:lo≤x:=by have:=of_decide_eq_false h1;simp only[intOf]at this;omega
   have g2:x < hi:=by have:=of_decide_eq_false h2;simp only[intOf]at this;omega
   have h3':¬0 < k:=by have:=of_decide_eq_false h3;omega
   exact nx (fun u h _=>absurd h h3') g1 g2
 ·have:k=l.length:=by have:=of_decide_eq_false cL;omega
  subst this
  rw[List.take_length]at he
  rw[he];exact Zag aZ rfl
theorem Ztm(l:List Int)(x:Int)(a:Option Addr)(c:Nat)(m:Mem)(h:rowRd m a (Zap l))(hl:l.length≤1000000):CX Try.prog 104 #[.slice a l.length c,.int .i64 x] m [] (Ret (.bool (decide (x∈l)))):=by
 apply Zmv
 unfold ZhS
 refine⟨fun xs _ _ m' q=>∃k:Nat,k≤l.length∧xs=[.int .i64 k]∧(x∈l.drop k↔x∈l)∧m.le m'∧q=l.length - k,⟨_,0,Nat.zero_le _,rfl,Iff.rfl,Mem.le_refl _,rfl⟩,?_⟩
 rintro z m1 q aZ ⟨k,hk,hz,he,_,hq⟩
 obtain rfl:z=k:=by simpa using hz
 subst hq
 refine Zab (fun bK=>?_) (fun cL=>?_)
 ·have aY:k < l.length:=by have:=of_decide_eq_true bK;omega
  obtain⟨y,hy⟩:=Zak aY
  obtain⟨b,o,gn,cO⟩:=Za5 (h.mono aZ) hy
  rw[Zcw hy,List.mem_cons]at he
  refine⟨b,o,gn,⟨by omega,by omega⟩,_,(by rw[Int.toNat_natCast];exact cO),Zaa rfl (Zab (fun h1=>Zag aZ ?_) (fun h1=>⟨_,by omega,k+1,aY,by rw[Zat (by omega) (by omega)];rfl,?_,aZ,rfl⟩))⟩
  ·have:y=x:=by simpa[intOf]using h1
   have:x∈l:=he.1 (.inl this.symm)
   simp[Ret,this]
  ·have:¬y=x:=by simpa[intOf]using h1
   rw[←he]
   constructor
   ·intro hh;exact .inr hh
   ·rintro(hh|hh)
    ·exact absurd hh.symm this
    ·exact hh
 ·have:k=l.length:=by have:=of_decide_eq_false cL;omega
  subst this
  rw[List.drop_length]at he
  have:¬x∈l:=fun hh=>by have:=he.2 hh;cases this
  refine Zag aZ ?_
  simp[Ret,this]
theorem Zm8(g:Nat→Bool)(n:Nat)(a:Option Addr)(c:Nat)(m:Mem)(h:rowRd m a (ZaT (Zcf g n)))(hn:n≤1000000):CX Try.prog 103 #[.slice a n c] m [] (fun v m' _=>SlI true (Zcg g n) v m'):=by
 apply ZkP
 unfold ZgN
 refine⟨fun xs css tvs m' q=>∃(k:Nat)(a:Option Addr)(c:Nat),k≤n∧xs=[.slice a (Zcg g k).length c,.int .i64 k]∧tvs=[.slice a (Zcg g k).length c]∧m.le m'∧rowRd m' a (Zap (Zcg g k))∧(Zcg g k=[]→a=none)∧q=n - k,⟨_,0,none,0,Nat.zero_le _,rfl,rfl,Mem.le_refl _,.inl rfl,fun _=>rfl,rfl⟩,?_⟩
 rintro a1 n1 c1 z a2 n2 c2 m1 q aZ ⟨k,a',c',hk,hx,dC,_,bU,fV,hq⟩
 simp only[List.cons.injEq,Value.slice.injEq,Value.int.injEq,true_and,and_true]at hx dC
 obtain⟨⟨rfl,rfl,rfl⟩,rfl⟩:=hx
 obtain⟨rfl,rfl,rfl⟩:=dC
 subst hq
 have bN:=Zoh g k
 refine Zab (fun bK=>?_) (fun cL=>?_)
 ·have aY:k < n:=by have:=of_decide_eq_true bK;omega
  have gw:(ZaT (Zcf g n))[k]?=some (.int .i64 ((if g k then 1 else 0:Nat):Int)):=by simp[ZaT,Ziy g aY]
  obtain⟨b,o,gn,cO⟩:=Za6 (h.mono aZ) gw
  have dA:=ZlQ g k
  have hw:IntKind.i64.wrap ((k:Int)+1)=((k+1:Nat):Int):=by rw[Zat (by omega) (by omega)];rfl
  refine⟨b,o,gn,⟨by omega,by omega⟩,_,(by rw[Int.toNat_natCast];exact cO),Zaa rfl (Zab (fun h1=>?_) (fun h1=>?_))⟩
  ·have hg:g k=true:=by
    cases hg:g k with
    | true=>rfl
    | false=>rw[hg]at h1;simp[intOf]at h1
   rw[hg]at dA
   simp only[if_true]at dA
   intro b1 eL
   have cP:=Mem.le_add eL [Value.int .i64 (k:Int)]
   refine⟨.inl rfl,Zap (Zcg g k),Zap [(k:Int)],by rw[ZbS];omega,rfl,bU.mono cP,ZdB,fun u hu=>?_,by omega,by omega,fun a3 c3 m2 bO gJ=>⟨_,by omega,k+1,a3,c3,aY,?_,?_,Mem.le_trans aZ (Mem.le_trans cP bO),?_,fun e=>?_,rfl⟩⟩
   ·simp only[Zap,List.map_cons,List.map_nil,List.mem_singleton]at hu
    subst hu;rfl
   ·rw[dA,hw,List.length_append];rfl
   ·rw[dA,List.length_append];rfl
   ·rw[dA]
    have e:Zap (Zcg g k++[(k:Int)])=Zap (Zcg g k)++Zap [(k:Int)]:=by simp[Zap]
    rw[e];exact gJ
   ·rw[dA]at e;simp at e
  ·have hg:g k=false:=by
    cases hg:g k with
    | false=>rfl
    | true=>rw[hg]at h1;simp[intOf]at h1
   rw[hg]at dA
   simp only[Bool.false_eq_true,if_false,List.append_nil]at dA
   refine⟨_,by omega,k+1,a2,c2,aY,?_,?_,aZ,?_,?_,rfl⟩
   ·rw[dA,hw]
   ·rw[dA]
   ·rw[dA];exact bU
   ·rw[dA];exact fV
 ·have:k=n:=by have:=of_decide_eq_false cL;omega
  subst this
  exact⟨m1,aZ,Mem.le_refl _,a2,c2,rfl,bU,by omega,fun _=>fV⟩
theorem Zsx(A:Nf)(nK:∀q∈A.sets,QOk q)(v:Value)(m:Mem)(h:RefR A v m):CX Try.prog 45 #[v] m [] (Ret (.bool A.right)):=by
 obtain⟨s,f,x,y,rfl,⟨sa,sc,rfl,hs,dK⟩,⟨fa,fc,vs,rfl,hf,eR,f8,eF⟩,⟨xa,xc,rfl,hx,dU,fX⟩,⟨ya,yc,rfl,hy,dG,gj⟩⟩:=h
 apply Zi2
 unfold ZfF
 intro b m1 aZ _
 have lJ:A.top=(A.sets.length:Int) - 1:=rfl
 have uT:(0:Int) - 1=-1:=rfl
 refine⟨!(decide (A.sets.length≤400)&&(decide (A.fol.length=A.sets.length)&&(ZbG A.first (-1) A.top&&ZbG A.last (-1) A.top))),?_,?_⟩
 ·refine Zab (fun h1=>⟨by trivial,?_⟩) (fun h1=>Zab (fun h2=>⟨by trivial,?_⟩) (fun h2=>?_))
  ·have:¬A.sets.length≤400:=by have:=of_decide_eq_true h1;omega
   simp[this]
  ·have:¬A.fol.length=A.sets.length:=by
    simp only[Bool.not_eq_true',beq_eq_false_iff_ne,ne_eq]at h2;omega
   simp[this]
  ·have h1':A.sets.length≤400:=by have:=of_decide_eq_false h1;omega
   have h2':A.fol.length=A.sets.length:=by
    simp only[Bool.not_eq_false',beq_iff_eq]at h2;omega
   refine Zah (ZiH A.first 0 A.sets.length xa xc m1 (hx.mono aZ) dU) fun m2 bO=>Zab (fun h3=>⟨by trivial,?_⟩) (fun h3=>?_)
   ·have:ZbG A.first (-1) A.top=false:=by rw[lJ];simpa using h3
    simp[this]
   ·have h3':ZbG A.first (-1) A.top=true:=by rw[lJ];simpa using h3
    refine Zah (ZiH A.last 0 A.sets.length ya yc m2 ((hy.mono aZ).mono bO) dG) fun m3 bR=>⟨by trivial,?_⟩
    rw[uT,←lJ]
    simp[h1',h2',h3']
 ·refine Zab (fun h1=>Zag aZ ?_) (fun h1=>?_)
  ·simp only[Bool.not_eq_true']at h1
   show Value.bool false=.bool A.right
   congr 1
   unfold Nf.right
   revert h1
   cases decide (A.sets.length≤400) <;> cases decide (A.fol.length=A.sets.length) <;> cases ZbG A.first (-1) A.top <;> cases ZbG A.last (-1) A.top <;> simp
  ·simp only[Bool.not_eq_false',Bool.and_eq_true,decide_eq_true_eq]at h1
   obtain⟨sC,py,sD,sE⟩:=h1
   have hA:A.right=(A.fol.zip A.sets).all fun p=>ZbG p.1 (-1) A.top&&!(p.2 == zQ):=by
    unfold Nf.right;simp[sC,py,sD,sE]
   have ie:(A.fol.zip A.sets).length=A.fol.length:=by simp[py]
   refine⟨fun xs _ _ m' q=>∃k:Nat,k≤A.fol.length∧xs=[.int .i64 k]∧((A.fol.zip A.sets).drop k).all (fun p=>ZbG p.1 (-1) A.top&&!(p.2 == zQ))=A.right∧m.le m'∧q=A.fol.length - k,⟨_,0,Nat.zero_le _,rfl,by rw[hA];rfl,aZ,rfl⟩,?_⟩
   rintro z m2 q bO ⟨k,hk,hz,he,_,hq⟩
   obtain rfl:z=k:=by simpa using hz
   subst hq
   have gv:=Mem.le_trans aZ bO
   refine Zab (fun bK=>?_) (fun cL=>?_)
   ·have aY:k < A.fol.length:=by have:=of_decide_eq_true bK;omega
    obtain⟨l,hl⟩:=Zak aY
    obtain⟨q4,lp⟩:=Zak (l:=A.sets) (k:=k) (by omega)
    obtain⟨u,hu⟩:=Zak (l:=vs) (k:=k) (by omega)
    obtain⟨la,lc,rfl,oE,eA,uH⟩:=(eF k u l hu hl).mono gv
    obtain⟨fb,fo,eU,dH⟩:=Za6 (hf.mono gv) hu
    obtain⟨sb,so,iP,eI⟩:=ZiC (hs.mono gv) lp
    have nb:(A.fol.zip A.sets)[k]?=some (l,q4):=List.getElem?_zip_eq_some.2 ⟨hl,lp⟩
    rw[Zq0 nb]at he
    have pT:=nK q4 (List.mem_of_getElem? lp)
    refine⟨!(ZbG l (-1) A.top&&!(q4 == zQ)),⟨sb,so,iP,⟨by omega,by omega⟩,_,Zbl q4,(by rw[Int.toNat_natCast];exact eI),?_⟩,Zab (fun h2=>Zag gv ?_) (fun h2=>⟨by trivial,_,by omega,k+1,aY,by rw[Zat (by omega) (by omega)];rfl,?_,gv,rfl⟩)⟩
    ·refine Zfh (Zua q4 m2) fun m3 bR=>Zab (fun h3=>⟨by trivial,?_⟩) (fun h3=>?_)
     ·have:q4=zQ:=(Zog pT).1 (by simpa using h3)
      simp[this]
     ·have h3':¬q4=zQ:=fun e=>by rw[(Zog pT).2 e]at h3;simp at h3
      refine⟨fb,fo,eU,⟨by omega,by omega⟩,_,(by rw[Int.toNat_natCast];exact bR _ _ _ dH),?_⟩
      refine Zah (ZiH l 0 A.sets.length la lc m3 (oE.mono bR) eA) fun m4 cT=>⟨by trivial,?_⟩
      rw[uT,←lJ]
      simp[h3']
    ·simp only[Bool.not_eq_true']at h2
     rw[←he,h2];rfl
    ·simp only[Bool.not_eq_false']at h2
     rw[←he,h2,Bool.true_and]
   ·have:k=A.fol.length:=by have:=of_decide_eq_false cL;omega
    subst this
    refine Zag gv ?_
    rw[←he,←ie,List.drop_length];rfl
theorem Zk5(n:Nat):(List.replicate n [Value.int .i64 0]).flatten=ZaT (Zcf (fun _=>false) n):=by
 have:∀n:Nat,(List.replicate n [Value.int .i64 0]).flatten=List.replicate n (Value.int .i64 0):=by
  intro n
  induction n with
  | zero=>rfl
  | succ n ih=>rw[List.replicate_succ,List.flatten_cons,ih];rfl
 rw[this]
 refine(List.eq_replicate_iff.2 ⟨by rw[Zcj,ZbN],fun u hu=>?_⟩).symm
 simp only[ZaT,Zcf,List.map_map,List.mem_map]at hu
 obtain⟨i,_,rfl⟩:=hu
 rfl
theorem Zk6(l:List Nat)(i x:Nat):(ZaT l).set i (.int .i64 (x:Int))=ZaT (l.set i x):=by
 unfold ZaT
 rw[List.map_set]
theorem Ztn{l:List Nat}{x n:Nat}(hl:l.length=n)(hx:x < n){P:List (List Value)→Prop}(h:P [ZaT (l.set x 1)]):bif Nat.beq (n*1) 1&&Nat.beq (x*1) 0 then P [[.int .i64 1]]else chk (Nat.ble (x*1+1) (ZaT l).length) (P [Zan (ZaT l) (x*1) [.int .i64 1]]):=by
 rw[Nat.mul_one,Nat.mul_one]
 cases hb:Nat.beq n 1&&Nat.beq x 0 with
 | true=>
  rw[Bool.and_eq_true]at hb
  obtain rfl:=Nat.eq_of_beq_eq_true hb.1
  obtain rfl:=Nat.eq_of_beq_eq_true hb.2
  match l,hl with
  | [y],_=>exact h
 | false=>
  refine Zaa (by rw[Zcj,hl,Nat.ble_eq];omega) ?_
  rw[Zf8 (by rw[Zcj];omega)]
  have:=Zk6 l x 1
  rw[show(Value.int .i64 ((1:Nat):Int))=.int .i64 1 from rfl]at this
  rw[this];exact h
theorem Zq8{A:Nf}(hA:A.Ok){p x:Int}{k:Nat}(h:(A.fromL p)[k]?=some x):∃i:Nat,x=i∧i < A.sets.length∧∃q,A.sets[i]?=some q∧∀c,Zrh q c=A.hasAt i c:=by
 have hb:=(Zf6 hA p).2 x (List.mem_of_getElem? h)
 unfold Nf.top at hb
 obtain⟨q,hq⟩:=Zak (l:=A.sets) (k:=x.toNat) (by omega)
 refine⟨x.toNat,by omega,by omega,q,hq,fun c=>?_⟩
 unfold Nf.hasAt;rw[Int.toNat_natCast,hq];rfl
end Go.Proofs.Ytplacemlpkhmfaa
set_option linter.unusedVariables false
set_option linter.unusedSimpArgs false
namespace Go.Proofs.Ytplacemlpkhmfaa
open Go Go.Eng Go.Rx Go.Proofs Go.RowKit
set_option maxRecDepth 100000
theorem Zto(q:QS)(c:Nat):(intOf (.int .i64 (Zo8 q c)) == 1)=Zrh q c:=by
 unfold Zo8
 cases Zrh q c <;> rfl
set_option maxHeartbeats 1600000 in
theorem Zq9(A:Nf)(hA:A.Ok)(v:Value)(l:List Int)(a:Option Addr)(c ch:Nat)(iy:ch < 256)(m:Mem)(h:RefR A v m)(hl:rowRd m a (Zap l))(eA:l.length≤1000000)(hs:A.states l=true):CX Try.prog 48 #[v,.slice a l.length c,.int .u8 ch] m [] (fun v m' _=>SlI true (A.step l ch) v m'):=by
 obtain⟨s,f,x,y,rfl,⟨sa,sc,rfl,hs',dK⟩,⟨fa,fc,vs,rfl,hf,eR,f8,eF⟩,⟨xa,xc,rfl,lI,dU,fX⟩,⟨ya,yc,rfl,hy,dG,gj⟩⟩:=h
 have hn:=hA.n
 have bN:=hA.len
 apply ZkR
 unfold ZgO
 intro b m1 aZ _
 refine⟨⟨by omega,by omega,by omega,by omega⟩,fun b1=>?_⟩
 simp only[Int.toNat_natCast]
 refine⟨fun xs css _ m' q=>∃k:Nat,k≤l.length∧xs=[.int .i64 k]∧css=[ZaT (Zcf (Zlf A l ch k 0) A.sets.length)]∧m1.le m'∧q=l.length - k,⟨_,0,Nat.zero_le _,rfl,by rw[Zk5,ZpF],Mem.le_refl _,rfl⟩,?_⟩
 rintro z cs m2 q bO ⟨k,hk,hz,bT,_,hq⟩
 obtain rfl:z=k:=by simpa using hz
 obtain rfl:cs=ZaT (Zcf (Zlf A l ch k 0) A.sets.length):=by simpa using bT
 subst hq
 have dD:=Mem.le_trans aZ bO
 refine Zab (fun bK=>?_) (fun cL=>?_)
 ·have aY:k < l.length:=by have:=of_decide_eq_true bK;omega
  obtain⟨p,hp⟩:=Zak aY
  obtain⟨b2,o,gn,cO⟩:=Za5 (hl.mono dD) hp
  have lu:=Zf5 hs p (List.mem_of_getElem? hp)
  have dZ:IntKind.i64.wrap ((k:Int)+1)=((k+1:Nat):Int):=by rw[Zat (by omega) (by omega)];rfl
  have fin:∀(j:Nat)(m3:Mem),m2.le m3→(A.fromL p).length=j→∃n',n' < l.length - k∧∃k':Nat,k'≤l.length∧([.int .i64 (IntKind.i64.wrap ((k:Int)+1))]:List Value)=[.int .i64 k']∧[ZaT (Zcf (Zlf A l ch k j) A.sets.length)]=[ZaT (Zcf (Zlf A l ch k' 0) A.sets.length)]∧m1.le m3∧n'=l.length - k':=fun j m3 bR hj=>
   ⟨_,by omega,k+1,aY,by rw[dZ],by rw[←hj,Zr9 hp],Mem.le_trans bO bR,rfl⟩
  refine⟨b2,o,gn,⟨by omega,by omega⟩,_,(by rw[Int.toNat_natCast];exact cO),Zaa rfl (Zab (fun cM=>?_) (fun cM=>?_))⟩
  ·have ls:0≤p:=by simpa[intOf]using cM
   have iG:¬p=-1:=by omega
   have kX:p.toNat < A.fol.length:=by unfold Nf.top at lu;omega
   obtain⟨w,hw⟩:=Zak kX
   obtain⟨u,hu⟩:=Zak (l:=vs) (k:=p.toNat) (by omega)
   obtain⟨wa,wc,rfl,iB,oG,_⟩:=(eF _ u w hu hw).mono dD
   obtain⟨fb,fo,eU,dH⟩:=Za6 (hf.mono dD) hu
   have fL:A.fromL p=w:=by unfold Nf.fromL;rw[if_neg iG,hw];rfl
   refine⟨b2,o,gn,⟨by omega,by omega⟩,.int .i64 p,(by rw[Int.toNat_natCast];exact cO),Zaa rfl ⟨fb,fo,eU,⟨by show 0≤p;omega,by show p < (A.fol.length:Nat);omega⟩,_,(show m2 fb (fo+p.toNat*1)=some _ from dH),?_⟩⟩
   refine⟨fun xs css _ m' q=>∃j:Nat,j≤w.length∧xs=[.int .i64 j]∧css=[ZaT (Zcf (Zlf A l ch k j) A.sets.length)]∧m2.le m'∧q=w.length - j,⟨_,0,Nat.zero_le _,rfl,rfl,Mem.le_refl _,rfl⟩,?_⟩
   rintro z cs m3 q bR ⟨j,hj,hz,bT,_,hq⟩
   obtain rfl:z=j:=by simpa using hz
   obtain rfl:cs=ZaT (Zcf (Zlf A l ch k j) A.sets.length):=by simpa using bT
   subst hq
   refine Zaa rfl (Zab (fun dY=>?_) (fun fZ=>?_))
   ·have cQ:j < w.length:=by have:=of_decide_eq_true dY;simp only[slN]at this;omega
    obtain⟨x,hx⟩:=Zak cQ
    obtain⟨b3,o3,iJ,hU⟩:=Za5 (iB.mono bR) hx
    have lI:(A.fromL p)[j]?=some x:=by rw[fL];exact hx
    obtain⟨i,rfl,hi,qq,jY,hZ⟩:=Zq8 hA lI
    obtain⟨sb,so,iP,eI⟩:=ZiC ((hs'.mono dD).mono bR) jY
    have dL:IntKind.i64.wrap ((j:Int)+1)=((j+1:Nat):Int):=by rw[Zat (by omega) (by omega)];rfl
    have cS:=eI ch _ (Zf9 qq iy)
    refine Zaa rfl ⟨b3,o3,iJ,⟨by omega,by show(j:Int) < (w.length:Nat);omega⟩,.int .i64 (i:Int),(by rw[Int.toNat_natCast];exact hU),Zaa rfl ⟨sb,so,iP,⟨by show(0:Int)≤(i:Int);omega,by show(i:Int) < (A.sets.length:Nat);omega⟩,⟨by omega,by omega⟩,_,(by simp only[intOf,Int.toNat_natCast,Nat.mul_one];exact cS),Zaa rfl ?_⟩⟩
    rw[Zto]
    refine Zab (fun hh=>?_) (fun hh=>?_)
    ·refine Zaa rfl ⟨b3,o3,iJ,⟨by omega,by show(j:Int) < (w.length:Nat);omega⟩,.int .i64 (i:Int),(by rw[Int.toNat_natCast];exact hU),Zaa rfl ⟨⟨by show(0:Int)≤(i:Int);omega,by show(i:Int) < (A.sets.length:Nat);omega⟩,?_⟩⟩
     have kJ:=ZqX hp lI hi (by rw[←hZ];exact hh)
     have iQ:[ZaT ((Zcf (Zlf A l ch k j) A.sets.length).set i 1)]=[ZaT (Zcf (Zlf A l ch k (j+1)) A.sets.length)]:=by rw[kJ]
     refine Ztn (P:=fun cc=>_∧∃n',n' < w.length - j∧∃j':Nat,j'≤w.length∧([.int .i64 (IntKind.i64.wrap ((j:Int)+1))]:List Value)=[.int .i64 j']∧cc=[ZaT (Zcf (Zlf A l ch k j') A.sets.length)]∧m2.le m3∧n'=w.length - j') (ZbN _ _) hi ⟨by trivial,_,by omega,j+1,cQ,by rw[dL],iQ,bR,rfl⟩
    ·have iQ:=Zoj (n:=A.sets.length) hp lI (by rw[←hZ];exact hh)
     exact⟨by trivial,_,by omega,j+1,cQ,by rw[dL],by rw[iQ],bR,rfl⟩
   ·have:j=w.length:=by have:=of_decide_eq_false fZ;simp only[slN]at this;omega
    exact⟨by trivial,fin j m3 bR (by rw[fL,this])⟩
  ·have iG:p=-1:=by
    have:¬0≤p:=by simpa[intOf]using cM
    omega
   have fL:A.fromL p=A.first:=by unfold Nf.fromL;rw[if_pos iG]
   refine⟨fun xs css _ m' q=>∃j:Nat,j≤A.first.length∧xs=[.int .i64 j]∧css=[ZaT (Zcf (Zlf A l ch k j) A.sets.length)]∧m2.le m'∧q=A.first.length - j,⟨_,0,Nat.zero_le _,rfl,rfl,Mem.le_refl _,rfl⟩,?_⟩
   rintro z cs m3 q bR ⟨j,hj,hz,bT,_,hq⟩
   obtain rfl:z=j:=by simpa using hz
   obtain rfl:cs=ZaT (Zcf (Zlf A l ch k j) A.sets.length):=by simpa using bT
   subst hq
   refine Zab (fun dY=>?_) (fun fZ=>?_)
   ·have cQ:j < A.first.length:=by have:=of_decide_eq_true dY;omega
    obtain⟨x,hx⟩:=Zak cQ
    obtain⟨b3,o3,iJ,hU⟩:=Za5 ((lI.mono dD).mono bR) hx
    have nL:(A.fromL p)[j]?=some x:=by rw[fL];exact hx
    obtain⟨i,rfl,hi,qq,jY,hZ⟩:=Zq8 hA nL
    obtain⟨sb,so,iP,eI⟩:=ZiC ((hs'.mono dD).mono bR) jY
    have dL:IntKind.i64.wrap ((j:Int)+1)=((j+1:Nat):Int):=by rw[Zat (by omega) (by omega)];rfl
    have cS:=eI ch _ (Zf9 qq iy)
    refine⟨b3,o3,iJ,⟨by omega,by omega⟩,.int .i64 (i:Int),(by rw[Int.toNat_natCast];exact hU),Zaa rfl ⟨sb,so,iP,⟨by show(0:Int)≤(i:Int);omega,by show(i:Int) < (A.sets.length:Nat);omega⟩,⟨by omega,by omega⟩,_,(by simp only[intOf,Int.toNat_natCast,Nat.mul_one];exact cS),Zaa rfl ?_⟩⟩
    rw[Zto]
    refine Zab (fun hh=>?_) (fun hh=>?_)
    ·refine⟨b3,o3,iJ,⟨by omega,by omega⟩,.int .i64 (i:Int),(by rw[Int.toNat_natCast];exact hU),Zaa rfl ⟨⟨by show(0:Int)≤(i:Int);omega,by show(i:Int) < (A.sets.length:Nat);omega⟩,?_⟩⟩
     have kJ:=ZqX hp nL hi (by rw[←hZ];exact hh)
     have iQ:[ZaT ((Zcf (Zlf A l ch k j) A.sets.length).set i 1)]=[ZaT (Zcf (Zlf A l ch k (j+1)) A.sets.length)]:=by rw[kJ]
     refine Ztn (P:=fun cc=>_∧∃n',n' < A.first.length - j∧∃j':Nat,j'≤A.first.length∧([.int .i64 (IntKind.i64.wrap ((j:Int)+1))]:List Value)=[.int .i64 j']∧cc=[ZaT (Zcf (Zlf A l ch k j') A.sets.length)]∧m2.le m3∧n'=A.first.length - j') (ZbN _ _) hi ⟨by trivial,_,by omega,j+1,cQ,by rw[dL],iQ,bR,rfl⟩
    ·have iQ:=Zoj (n:=A.sets.length) hp nL (by rw[←hZ];exact hh)
     exact⟨by trivial,_,by omega,j+1,cQ,by rw[dL],by rw[iQ],bR,rfl⟩
   ·have:j=A.first.length:=by have:=of_decide_eq_false fZ;omega
    exact⟨by trivial,fin j m3 bR (by rw[fL,this])⟩
 ·have:k=l.length:=by have:=of_decide_eq_false cL;omega
  subst this
  intro m3 bR fW
  have bU:rowRd m3 (some ⟨b1,0,none⟩) (ZaT (Zcf (Zlf A l ch l.length 0) A.sets.length)):=.inr ⟨b1,0,rfl,fW⟩
  refine Zaq (Zm8 (Zlf A l ch l.length 0) A.sets.length _ _ m3 bU (by omega)) Za7 ?_
  intro a4 n4 c4 m4 cT hR
  refine⟨m4,Mem.le_trans dD (Mem.le_trans bR cT),Mem.le_refl _,?_⟩
  rw[ZtT hA]at hR
  exact hR
theorem Zj3(A:Nf)(hA:A.Ok)(v:Value)(l:List Int)(a:Option Addr)(c:Nat)(m:Mem)(h:RefR A v m)(hl:rowRd m a (Zap l))(eA:l.length≤1000000)(hs:A.states l=true):CX Try.prog 49 #[v,.slice a l.length c] m [] (Ret (.bool (A.accepts l))):=by
 obtain⟨s,f,x,y,rfl,⟨sa,sc,rfl,hs',dK⟩,⟨fa,fc,vs,rfl,hf,eR,f8,eF⟩,⟨xa,xc,rfl,lI,dU,fX⟩,⟨ya,yc,rfl,hy,dG,gj⟩⟩:=h
 apply Zg0
 unfold Zd1
 intro b m1 aZ _
 refine⟨fun xs css _ m' q=>∃k:Nat,k≤l.length∧xs=[.int .i64 k]∧(l.drop k).any A.acc1=A.accepts l∧m.le m'∧q=l.length - k,⟨_,0,Nat.zero_le _,rfl,rfl,aZ,rfl⟩,?_⟩
 rintro z m2 q bO ⟨k,hk,hz,he,dD,hq⟩
 obtain rfl:z=k:=by simpa using hz
 subst hq
 refine Zab (fun bK=>?_) (fun cL=>?_)
 ·have aY:k < l.length:=by have:=of_decide_eq_true bK;omega
  obtain⟨p,hp⟩:=Zak aY
  obtain⟨b2,o,gn,cO⟩:=Za5 (hl.mono dD) hp
  have gV:m2 b2 (o+(k:Int).toNat*1)=some (.int .i64 p):=by rw[Int.toNat_natCast];exact cO
  have lu:=Zf5 hs p (List.mem_of_getElem? hp)
  rw[Zcw hp,List.any_cons]at he
  have nx:A.acc1 p=false→∀M:Mem,m2.le M→∃n',n' < l.length - k∧∃k':Nat,k'≤l.length∧([.int .i64 (IntKind.i64.wrap ((k:Int)+1))]:List Value)=[.int .i64 k']∧(l.drop k').any A.acc1=A.accepts l∧m.le M∧n'=l.length - k':=fun ha M hM=>
   ⟨_,by omega,k+1,aY,by rw[Zat (by omega) (by omega)];rfl,by rw[←he,ha,Bool.false_or],Mem.le_trans dD hM,rfl⟩
  have yes:A.acc1 p=true→Ret (.bool (A.accepts l)) (.bool true) m2 []:=fun ha=>by
   rw[←he,ha,Bool.true_or]
  have pU:0≤p→A.acc1 p=decide (p∈A.last):=fun h0=>by
   rw[Bool.eq_iff_iff,decide_eq_true_eq];exact ZtU hA h0
  refine⟨fun _ _ _=>Ret (.bool (decide (p∈A.last))),b2,o,gn,⟨by omega,by omega⟩,_,gV,Zaa rfl (Zab (fun h1=>?_) (fun h1=>?_))⟩
  ·have iG:p=-1:=by have:=of_decide_eq_true h1;simp only[intOf]at this;omega
   have ha:A.acc1 p=A.empty:=by unfold Nf.acc1;rw[if_pos iG]
   refine Zab (fun h2 M hM _=>?_) (fun h2=>?_)
   ·refine⟨m2,dD,hM,?_⟩
    exact yes (by rw[ha];exact h2)
   ·refine⟨b2,o,gn,⟨by omega,by omega⟩,_,gV,Zaa rfl (Zab (fun h3=>?_) (fun h3 M hM _=>⟨by trivial,nx (by rw[ha];exact h2) M hM⟩))⟩
    have:0≤p:=by simpa[intOf]using h3
    omega
  ·have ls:0≤p:=by have:=of_decide_eq_false h1;simp only[intOf]at this;omega
   refine⟨b2,o,gn,⟨by omega,by omega⟩,.int .i64 p,gV,Zaa rfl (Zab (fun h3=>?_) (fun h3=>?_))⟩
   ·refine⟨b2,o,gn,⟨by omega,by omega⟩,.int .i64 p,gV,_,rfl,Ztm A.last p ya yc m2 (hy.mono dD) dG,fun v _ _ h=>by rw[h];rfl,?_⟩
    intro b4 m3 bR hv M fK eQ
    obtain rfl:b4=decide (p∈A.last):=by simpa[Ret]using hv
    refine Zab (fun h4=>⟨m2,dD,fK,yes (by rw[pU ls];exact h4)⟩) (fun h4=>⟨by trivial,nx (by rw[pU ls];exact h4) M fK⟩)
   ·exfalso
    have:=of_decide_eq_false h3
    simp only[intOf]at this;omega
 ·have:k=l.length:=by have:=of_decide_eq_false cL;omega
  subst this
  rw[List.drop_length]at he
  refine Zag dD ?_
  rw[←he];rfl
end Go.Proofs.Ytplacemlpkhmfaa
