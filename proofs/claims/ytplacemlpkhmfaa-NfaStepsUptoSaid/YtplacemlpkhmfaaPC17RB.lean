/- Part of the proof: conditions and contracts of functions of this program. No condition of its own. -/
import Derived.Test.YtplacemlpkhmfaaPC17RA
import Derived.Test.YtplacemlpkhmfaaPC17L
import Derived.Test.YtplacemlpkhmfaaMr
set_option linter.unusedVariables false
set_option linter.unusedSimpArgs false
namespace Go.Proofs.Ytplacemlpkhmfaa
open Go Go.Eng Go.Rx Go.Proofs Go.RowKit
set_option maxRecDepth 100000
theorem ZfV(l:List Int)(lo hi:Int)(a:Option Addr)(c:Nat)(m:Mem)(h:rowRd m a (Zaq l))(hl:l.length≤1000000):CX Try.prog 100 #[.slice a l.length c,.int .i64 lo,.int .i64 hi] m [] (Ret (.bool (ZbD l (lo - 1) (hi - 1)))):=by
 apply Zhr
 unfold Zev
 refine⟨fun xs _ _ m' q=>∃k:Nat,k≤l.length∧xs=[.int .i64 k]∧ZbD (l.take k) (lo - 1) (hi - 1)=true∧m.le m'∧q=l.length - k,⟨_,0,Nat.zero_le _,rfl,rfl,Mem.le_refl _,rfl⟩,?_⟩
 rintro z m1 q bD ⟨k,hk,hz,he,_,hq⟩
 obtain rfl:z=k:=by simpa using hz
 subst hq
 refine Zab (fun bV=>?_) (fun cK=>?_)
 ·have bF:k < l.length:=by have:=of_decide_eq_true bV;omega
  obtain⟨x,hx⟩:=Zam bF
  obtain⟨b,o,gp,cO⟩:=Zba (h.mono bD) hx
  have no:(ZbD l (lo - 1) (hi - 1)=true→False)→Ret (.bool (ZbD l (lo - 1) (hi - 1))) (.bool false) m1 []:=fun hh=>by
   have:ZbD l (lo - 1) (hi - 1)=false:=by rw[Bool.eq_false_iff];exact hh
   rw[this]
  have nx:(∀u,0 < k→l[k - 1]?=some u→u < x)→lo≤x→x < hi→∃n',n' < l.length - k∧∃k':Nat,k'≤l.length∧([.int .i64 (IntKind.i64.wrap ((k:Int)+1))]:List Value)=[.int .i64 k']∧ZbD (l.take k') (lo - 1) (hi - 1)=true∧m.le m1∧n'=l.length - k':=fun h1 h2 h3=>
   ⟨_,by omega,k+1,bF,by rw[Zau (by omega) (by omega)];rfl,Zq2 hx he (by omega) (by omega) h1,bD,rfl⟩
  have gL:m1 b (o+(k:Int).toNat*1)=some (.int .i64 x):=by rw[Int.toNat_natCast];exact cO
  refine⟨b,o,gp,⟨by omega,by omega⟩,_,gL,Zaa rfl (Zab (fun h1=>Zad bD (no fun hr=>?_)) (fun h1=>⟨b,o,gp,⟨by omega,by omega⟩,_,gL,Zaa rfl (Zab (fun h2=>Zad bD (no fun hr=>?_)) (fun h2=>Zab (fun h3=>?_) (fun h3=>?_)))⟩))⟩
  ·have:=(ZpU hr hx).1
   have:=of_decide_eq_true h1
   simp only[intOf]at this;omega
  ·have:=(ZpU hr hx).2.1
   have:=of_decide_eq_true h2
   simp only[intOf]at this;omega
  ·have h3':0 < k:=by have:=of_decide_eq_true h3;omega
   have g1:lo≤x:=by have:=of_decide_eq_false h1;simp only[intOf]at this;omega
   have g2:x < hi:=by have:=of_decide_eq_false h2;simp only[intOf]at this;omega
   obtain⟨u,hu⟩:=Zam (l:=l) (k:=k - 1) (by omega)
   obtain⟨b2,o2,sg,eF⟩:=Zba (h.mono bD) hu
   have hw:IntKind.i64.wrap ((k:Int) - 1)=((k - 1:Nat):Int):=by rw[Zau (by omega) (by omega)];omega
   rw[hw]
   refine⟨b,o,gp,⟨by omega,by omega⟩,_,gL,b2,o2,sg,⟨by omega,by omega⟩,.int .i64 u,(by rw[Int.toNat_natCast];exact eF),Zaa rfl (Zab (fun h4=>Zad bD (no fun hr=>?_)) (fun h4=>nx (fun u' _ hu'=>?_) g1 g2))⟩
   ·have:=(ZpU hr hx).2.2 u h3' hu
    have:=of_decide_eq_true h4
    simp only[intOf]at this;omega
   ·rw[hu]at hu';cases hu'
    have:=of_decide_eq_false h4
    simp only[intOf]at this;omega
  ·have g1:lo≤x:=by have:=of_decide_eq_false h1;simp only[intOf]at this;omega
   have g2:x < hi:=by have:=of_decide_eq_false h2;simp only[intOf]at this;omega
   have h3':¬0 < k:=by have:=of_decide_eq_false h3;omega
   exact nx (fun u h _=>absurd h h3') g1 g2
 ·have:k=l.length:=by have:=of_decide_eq_false cK;omega
  subst this
  rw[List.take_length]at he
  rw[he];exact Zad bD rfl
theorem Zuh(l:List Int)(x:Int)(a:Option Addr)(c:Nat)(m:Mem)(h:rowRd m a (Zaq l))(hl:l.length≤1000000):CX Try.prog 104 #[.slice a l.length c,.int .i64 x] m [] (Ret (.bool (decide (x∈l)))):=by
 apply ZlR
 unfold Zhs
 refine⟨fun xs _ _ m' q=>∃k:Nat,k≤l.length∧xs=[.int .i64 k]∧(x∈l.drop k↔x∈l)∧m.le m'∧q=l.length - k,⟨_,0,Nat.zero_le _,rfl,Iff.rfl,Mem.le_refl _,rfl⟩,?_⟩
 rintro z m1 q bD ⟨k,hk,hz,he,_,hq⟩
 obtain rfl:z=k:=by simpa using hz
 subst hq
 refine Zab (fun bV=>?_) (fun cK=>?_)
 ·have bF:k < l.length:=by have:=of_decide_eq_true bV;omega
  obtain⟨y,hy⟩:=Zam bF
  obtain⟨b,o,gp,cO⟩:=Zba (h.mono bD) hy
  rw[Zce hy,List.mem_cons]at he
  refine⟨b,o,gp,⟨by omega,by omega⟩,_,(by rw[Int.toNat_natCast];exact cO),Zaa rfl (Zab (fun h1=>Zad bD ?_) (fun h1=>⟨_,by omega,k+1,bF,by rw[Zau (by omega) (by omega)];rfl,?_,bD,rfl⟩))⟩
  ·have:y=x:=by simpa[intOf]using h1
   have:x∈l:=he.1 (.inl this.symm)
   simp[Ret,this]
  ·have:¬y=x:=by simpa[intOf]using h1
   rw[←he]
   constructor
   ·intro hh;exact .inr hh
   ·rintro(hh|hh)
    ·exact absurd hh.symm this
    ·exact hh
 ·have:k=l.length:=by have:=of_decide_eq_false cK;omega
  subst this
  rw[List.drop_length]at he
  have:¬x∈l:=fun hh=>by have:=he.2 hh;cases this
  refine Zad bD ?_
  simp[Ret,this]
theorem ZsW(g:Nat→Bool)(n:Nat)(a:Option Addr)(c:Nat)(m:Mem)(h:rowRd m a (ZbX (ZgM g n)))(hn:n≤1000000):CX Try.prog 103 #[.slice a n c] m [] (fun v m' _=>SlI true (Zgo g n) v m'):=by
 apply Zj9
 unfold Zgr
 refine⟨fun xs css tvs m' q=>∃(k:Nat)(a:Option Addr)(c:Nat),k≤n∧xs=[.slice a (Zgo g k).length c,.int .i64 k]∧tvs=[.slice a (Zgo g k).length c]∧m.le m'∧rowRd m' a (Zaq (Zgo g k))∧(Zgo g k=[]→a=none)∧q=n - k,⟨_,0,none,0,Nat.zero_le _,rfl,rfl,Mem.le_refl _,.inl rfl,fun _=>rfl,rfl⟩,?_⟩
 rintro a1 n1 c1 z a2 n2 c2 m1 q bD ⟨k,a',c',hk,hx,dB,_,cV,fN,hq⟩
 simp only[List.cons.injEq,Value.slice.injEq,Value.int.injEq,true_and,and_true]at hx dB
 obtain⟨⟨rfl,rfl,rfl⟩,rfl⟩:=hx
 obtain⟨rfl,rfl,rfl⟩:=dB
 subst hq
 have bY:=Zq3 g k
 refine Zab (fun bV=>?_) (fun cK=>?_)
 ·have bF:k < n:=by have:=of_decide_eq_true bV;omega
  have gm:(ZbX (ZgM g n))[k]?=some (.int .i64 ((if g k then 1 else 0:Nat):Int)):=by simp[ZbX,Zj4 g bF]
  obtain⟨b,o,gp,cO⟩:=ZbO (h.mono bD) gm
  have eA:=ZoO g k
  have hw:IntKind.i64.wrap ((k:Int)+1)=((k+1:Nat):Int):=by rw[Zau (by omega) (by omega)];rfl
  refine⟨b,o,gp,⟨by omega,by omega⟩,_,(by rw[Int.toNat_natCast];exact cO),Zaa rfl (Zab (fun h1=>?_) (fun h1=>?_))⟩
  ·have hg:g k=true:=by
    cases hg:g k with
    | true=>rfl
    | false=>rw[hg]at h1;simp[intOf]at h1
   rw[hg]at eA
   simp only[if_true]at eA
   intro b1 eI
   have cQ:=Mem.le_add eI [Value.int .i64 (k:Int)]
   refine⟨.inl rfl,Zaq (Zgo g k),Zaq [(k:Int)],by rw[ZcZ];omega,rfl,cV.mono cQ,Zfk,fun u hu=>?_,by omega,by omega,fun a3 c3 m2 bZ gB=>⟨_,by omega,k+1,a3,c3,bF,?_,?_,Mem.le_trans bD (Mem.le_trans cQ bZ),?_,fun e=>?_,rfl⟩⟩
   ·simp only[Zaq,List.map_cons,List.map_nil,List.mem_singleton]at hu
    subst hu;rfl
   ·rw[eA,hw,List.length_append];rfl
   ·rw[eA,List.length_append];rfl
   ·rw[eA]
    have e:Zaq (Zgo g k++[(k:Int)])=Zaq (Zgo g k)++Zaq [(k:Int)]:=by simp[Zaq]
    rw[e];exact gB
   ·rw[eA]at e;simp at e
  ·have hg:g k=false:=by
    cases hg:g k with
    | false=>rfl
    | true=>rw[hg]at h1;simp[intOf]at h1
   rw[hg]at eA
   simp only[Bool.false_eq_true,if_false,List.append_nil]at eA
   refine⟨_,by omega,k+1,a2,c2,bF,?_,?_,bD,?_,?_,rfl⟩
   ·rw[eA,hw]
   ·rw[eA]
   ·rw[eA];exact cV
   ·rw[eA];exact fN
 ·have:k=n:=by have:=of_decide_eq_false cK;omega
  subst this
  exact⟨m1,bD,Mem.le_refl _,a2,c2,rfl,cV,by omega,fun _=>fN⟩
theorem Zn0(A:Nf)(pa:∀q∈A.sets,QOk q)(v:Value)(m:Mem)(h:RefR A v m):CX Try.prog 45 #[v] m [] (Ret (.bool A.right)):=by
 obtain⟨s,f,x,y,rfl,⟨sa,sc,rfl,hs,dL⟩,⟨fa,fc,vs,rfl,hf,f8,gN,fT⟩,⟨xa,xc,rfl,hx,dY,gq⟩,⟨ya,yc,rfl,hy,dD,gC⟩⟩:=h
 apply Ziv
 unfold Zfh
 intro b m1 bD _
 have k5:A.top=(A.sets.length:Int) - 1:=rfl
 have tS:(0:Int) - 1=-1:=rfl
 refine⟨!(decide (A.sets.length≤400)&&(decide (A.fol.length=A.sets.length)&&(ZbD A.first (-1) A.top&&ZbD A.last (-1) A.top))),?_,?_⟩
 ·refine Zab (fun h1=>⟨by trivial,?_⟩) (fun h1=>Zab (fun h2=>⟨by trivial,?_⟩) (fun h2=>?_))
  ·have:¬A.sets.length≤400:=by have:=of_decide_eq_true h1;omega
   simp[this]
  ·have:¬A.fol.length=A.sets.length:=by
    simp only[Bool.not_eq_true',beq_eq_false_iff_ne,ne_eq]at h2;omega
   simp[this]
  ·have h1':A.sets.length≤400:=by have:=of_decide_eq_false h1;omega
   have h2':A.fol.length=A.sets.length:=by
    simp only[Bool.not_eq_false',beq_iff_eq]at h2;omega
   refine Zah (ZfV A.first 0 A.sets.length xa xc m1 (hx.mono bD) dY) fun m2 bZ=>Zab (fun h3=>⟨by trivial,?_⟩) (fun h3=>?_)
   ·have:ZbD A.first (-1) A.top=false:=by rw[k5];simpa using h3
    simp[this]
   ·have h3':ZbD A.first (-1) A.top=true:=by rw[k5];simpa using h3
    refine Zah (ZfV A.last 0 A.sets.length ya yc m2 ((hy.mono bD).mono bZ) dD) fun m3 cD=>⟨by trivial,?_⟩
    rw[tS,←k5]
    simp[h1',h2',h3']
 ·refine Zab (fun h1=>Zad bD ?_) (fun h1=>?_)
  ·simp only[Bool.not_eq_true']at h1
   show Value.bool false=.bool A.right
   congr 1
   unfold Nf.right
   revert h1
   cases decide (A.sets.length≤400) <;> cases decide (A.fol.length=A.sets.length) <;> cases ZbD A.first (-1) A.top <;> cases ZbD A.last (-1) A.top <;> simp
  ·simp only[Bool.not_eq_false',Bool.and_eq_true,decide_eq_true_eq]at h1
   obtain⟨rH,oD,rI,rJ⟩:=h1
   have hA:A.right=(A.fol.zip A.sets).all fun p=>ZbD p.1 (-1) A.top&&!(p.2 == zQ):=by
    unfold Nf.right;simp[rH,oD,rI,rJ]
   have hP:(A.fol.zip A.sets).length=A.fol.length:=by simp[oD]
   refine⟨fun xs _ _ m' q=>∃k:Nat,k≤A.fol.length∧xs=[.int .i64 k]∧((A.fol.zip A.sets).drop k).all (fun p=>ZbD p.1 (-1) A.top&&!(p.2 == zQ))=A.right∧m.le m'∧q=A.fol.length - k,⟨_,0,Nat.zero_le _,rfl,by rw[hA];rfl,bD,rfl⟩,?_⟩
   rintro z m2 q bZ ⟨k,hk,hz,he,_,hq⟩
   obtain rfl:z=k:=by simpa using hz
   subst hq
   have gi:=Mem.le_trans bD bZ
   refine Zab (fun bV=>?_) (fun cK=>?_)
   ·have bF:k < A.fol.length:=by have:=of_decide_eq_true bV;omega
    obtain⟨l,hl⟩:=Zam bF
    obtain⟨q4,kH⟩:=Zam (l:=A.sets) (k:=k) (by omega)
    obtain⟨u,hu⟩:=Zam (l:=vs) (k:=k) (by omega)
    obtain⟨la,lc,rfl,pW,dM,tF⟩:=(fT k u l hu hl).mono gi
    obtain⟨fb,fo,gz,dU⟩:=ZbO (hf.mono gi) hu
    obtain⟨sb,so,iD,eD⟩:=Zh8 (hs.mono gi) kH
    have mu:(A.fol.zip A.sets)[k]?=some (l,q4):=List.getElem?_zip_eq_some.2 ⟨hl,kH⟩
    rw[ZpX mu]at he
    have pb:=pa q4 (List.mem_of_getElem? kH)
    refine⟨!(ZbD l (-1) A.top&&!(q4 == zQ)),⟨sb,so,iD,⟨by omega,by omega⟩,_,Zbe q4,(by rw[Int.toNat_natCast];exact eD),?_⟩,Zab (fun h2=>Zad gi ?_) (fun h2=>⟨by trivial,_,by omega,k+1,bF,by rw[Zau (by omega) (by omega)];rfl,?_,gi,rfl⟩)⟩
    ·refine Zdo (ZsT q4 m2) fun m3 cD=>Zab (fun h3=>⟨by trivial,?_⟩) (fun h3=>?_)
     ·have:q4=zQ:=(Znv pb).1 (by simpa using h3)
      simp[this]
     ·have h3':¬q4=zQ:=fun e=>by rw[(Znv pb).2 e]at h3;simp at h3
      refine⟨fb,fo,gz,⟨by omega,by omega⟩,_,(by rw[Int.toNat_natCast];exact cD _ _ _ dU),?_⟩
      refine Zah (ZfV l 0 A.sets.length la lc m3 (pW.mono cD) dM) fun m4 dC=>⟨by trivial,?_⟩
      rw[tS,←k5]
      simp[h3']
    ·simp only[Bool.not_eq_true']at h2
     rw[←he,h2];rfl
    ·simp only[Bool.not_eq_false']at h2
     rw[←he,h2,Bool.true_and]
   ·have:k=A.fol.length:=by have:=of_decide_eq_false cK;omega
    subst this
    refine Zad gi ?_
    rw[←he,←hP,List.drop_length];rfl
theorem Zrr(A:Nf)(pa:∀q∈A.sets,QOk q)(v:Value)(l:List Int)(a:Option Addr)(c:Nat)(m:Mem)(h:RefR A v m)(hl:rowRd m a (Zaq l))(dM:l.length≤1000000):CX Try.prog 47 #[v,.slice a l.length c] m [] (Ret (.int .i64 (A.err l))):=by
 have h':=h
 obtain⟨s,f,x,y,rfl,⟨sa,sc,rfl,hs,dL⟩,⟨fa,fc,vs,rfl,hf,f8,gN,fT⟩,⟨xa,xc,rfl,hx,dY,gq⟩,⟨ya,yc,rfl,hy,dD,gC⟩⟩:=h
 apply Ziw
 unfold Zfi
 intro b m1 bD _
 refine Zah (Zn0 A pa _ m1 (h'.mono bD)) fun m2 bZ=>Zab (fun h1=>?_) (fun h1=>?_)
 ·have:A.right=false:=by simpa using h1
  refine Zad (Mem.le_trans bD bZ) ?_
  simp[Ret,Nf.err,this]
 have hr:A.right=true:=by simpa using h1
 refine Zah (ZfV l (-1) A.sets.length a c m2 ((hl.mono bD).mono bZ) dM) fun m3 cD=>Zab (fun h2=>?_) (fun h2=>?_)
 ·have:A.states l=false:=by unfold Nf.states Nf.top;simpa using h2
  refine Zad (Mem.le_trans bD (Mem.le_trans bZ cD)) ?_
  simp[Ret,Nf.err,hr,this]
 ·have:A.states l=true:=by unfold Nf.states Nf.top;simpa using h2
  refine Zad (Mem.le_trans bD (Mem.le_trans bZ cD)) ?_
  simp[Ret,Nf.err,hr,this]
theorem Zrs(n:Nat):(List.replicate n [Value.int .i64 0]).flatten=ZbX (ZgM (fun _=>false) n):=by
 have:∀n:Nat,(List.replicate n [Value.int .i64 0]).flatten=List.replicate n (Value.int .i64 0):=by
  intro n
  induction n with
  | zero=>rfl
  | succ n ih=>rw[List.replicate_succ,List.flatten_cons,ih];rfl
 rw[this]
 refine(List.eq_replicate_iff.2 ⟨by rw[ZhA,ZeY],fun u hu=>?_⟩).symm
 simp only[ZbX,ZgM,List.map_map,List.mem_map]at hu
 obtain⟨i,_,rfl⟩:=hu
 rfl
theorem Zrt(l:List Nat)(i x:Nat):(ZbX l).set i (.int .i64 (x:Int))=ZbX (l.set i x):=by
 unfold ZbX
 rw[List.map_set]
theorem Zsa{l:List Nat}{x n:Nat}(hl:l.length=n)(hx:x < n){P:List (List Value)→Prop}(h:P [ZbX (l.set x 1)]):bif Nat.beq (n*1) 1&&Nat.beq (x*1) 0 then P [[.int .i64 1]]else chk (Nat.ble (x*1+1) (ZbX l).length) (P [Zan (ZbX l) (x*1) [.int .i64 1]]):=by
 rw[Nat.mul_one,Nat.mul_one]
 cases hb:Nat.beq n 1&&Nat.beq x 0 with
 | true=>
  rw[Bool.and_eq_true]at hb
  obtain rfl:=Nat.eq_of_beq_eq_true hb.1
  obtain rfl:=Nat.eq_of_beq_eq_true hb.2
  match l,hl with
  | [y],_=>exact h
 | false=>
  refine Zaa (by rw[ZhA,hl,Nat.ble_eq];omega) ?_
  rw[Zla (by rw[ZhA];omega)]
  have:=Zrt l x 1
  rw[show(Value.int .i64 ((1:Nat):Int))=.int .i64 1 from rfl]at this
  rw[this];exact h
theorem Zp7{A:Nf}(hA:A.Ok){p x:Int}{k:Nat}(h:(A.fromL p)[k]?=some x):∃i:Nat,x=i∧i < A.sets.length∧∃q,A.sets[i]?=some q∧∀c,Zq1 q c=A.hasAt i c:=by
 have hb:=(ZfM hA p).2 x (List.mem_of_getElem? h)
 unfold Nf.top at hb
 obtain⟨q,hq⟩:=Zam (l:=A.sets) (k:=x.toNat) (by omega)
 refine⟨x.toNat,by omega,by omega,q,hq,fun c=>?_⟩
 unfold Nf.hasAt;rw[Int.toNat_natCast,hq];rfl
end Go.Proofs.Ytplacemlpkhmfaa

