/- Part of the proof: conditions and contracts of functions of this program. No condition of its own. -/
import Derived.Test.YtplacemlpkhmfaaPVNS
import Derived.Test.YtplacemlpkhmfaaPC17RB
set_option linter.unusedVariables false
set_option linter.unusedSimpArgs false
namespace Go.Proofs.Ytplacemlpkhmfaa
open Go Go.Eng Go.Rx Go.Proofs Go.RowKit
set_option maxRecDepth 100000
structure NfW (A:Nf)(m:Mem)(sa:Option Addr)(fa:Option Addr)(fc:Nat)(xa:Option Addr)(ya:Option Addr)(vs:List Value):Prop where
 sets:rowRd m sa (Zby A.sets)
 row:rowRd m fa vs
 len:vs.length=A.fol.length
 cap:A.fol.length≤fc
 fol:∀(i:Nat)(v:Value)(l:List Int),vs[i]?=some v→A.fol[i]?=some l→∃a c,v=.slice a l.length c∧rowRd m a (Zaq l)∧l.length≤1048576
 first:rowRd m xa (Zaq A.first)
 last:rowRd m ya (Zaq A.last)
 sl:A.sets.length≤1048576
 fl:A.fol.length≤1048576
 xl:A.first.length≤1048576
 yl:A.last.length≤1048576
 ok:∀q∈A.sets,QOk q
abbrev VN(A:Nf)(sa:Option Addr)(sc:Nat)(fa:Option Addr)(fc:Nat)(xa:Option Addr)(xc:Nat)(ya:Option Addr)(yc:Nat):Value:=.agg #[.slice sa A.sets.length sc,.slice fa A.fol.length fc,.slice xa A.first.length xc,.slice ya A.last.length yc,.bool A.empty]
theorem NfW.mono{A:Nf}{m M:Mem}{sa:Option Addr}{fa:Option Addr}{fc:Nat}{xa:Option Addr}{ya:Option Addr}{vs:List Value}(h:NfW A m sa fa fc xa ya vs)(k:m.le M):NfW A M sa fa fc xa ya vs:=
 {h with
  sets:=h.sets.mono k
  row:=h.row.mono k
  fol:=fun i v l hv hl=>by
   obtain⟨a,c,e,h1,h2⟩:=h.fol i v l hv hl
   exact⟨a,c,e,h1.mono k,h2⟩
  first:=h.first.mono k
  last:=h.last.mono k }
def Zui(A:Nf)(k:Nat):Nat:=A.first.length+A.last.length+((A.fol.take k).map List.length).sum
def Zpd(A:Nf):Bool:=decide (A.sets.length≤60)&&(decide (A.fol.length≤60)&&decide (Zui A (min 61 A.fol.length)≤1000))
theorem Zru{A:Nf}{k:Nat}{l:List Int}(h:A.fol[k]?=some l):Zui A (k+1)=Zui A k+l.length:=by
 unfold Zui
 rw[List.take_add_one,h]
 simp;omega
theorem Zn2{A:Nf}{m:Mem}{sa:Option Addr}{sc:Nat}{fa:Option Addr}{fc:Nat}{xa:Option Addr}{xc:Nat}{ya:Option Addr}{yc:Nat}{vs:List Value}(h:NfW A m sa fa fc xa ya vs)(hs:Zpd A=true):NfR false A (VN A sa sc fa fc xa xc ya yc) m∧A.fol.length≤60:=by
 unfold Zpd at hs
 simp only[Bool.and_eq_true,decide_eq_true_eq]at hs
 obtain⟨h1,h2,h3⟩:=hs
 rw[show min 61 A.fol.length=A.fol.length by omega]at h3
 unfold Zui at h3
 rw[List.take_length]at h3
 refine⟨⟨_,_,_,_,rfl,⟨sa,sc,rfl,h.sets,by omega,fun e=>by cases e⟩,⟨fa,fc,vs,rfl,h.row,h.len,by omega,fun i v l hv hl=>?_⟩,⟨xa,xc,rfl,h.first,by omega,fun e=>by cases e⟩,⟨ya,yc,rfl,h.last,by omega,fun e=>by cases e⟩⟩,h2⟩
 obtain⟨a,c,e,h4,_⟩:=h.fol i v l hv hl
 have:l.length≤(A.fol.map List.length).sum:=by
  have hm:l.length∈A.fol.map List.length:=List.mem_map.2 ⟨l,List.mem_of_getElem? hl,rfl⟩
  generalize A.fol.map List.length=L at hm
  induction L with
  | nil=>cases hm
  | cons x L ih=>
   rw[List.sum_cons]
   rcases List.mem_cons.1 hm with rfl|hm
   ·omega
   ·have:=ih hm;omega
 exact⟨a,c,e,h4,by omega,fun e=>by cases e⟩
theorem Zu8{l:List Nat}{n:Nat}(h:∀x∈l,x≤n):l.sum≤l.length*n:=by
 induction l with
 | nil=>simp
 | cons x l ih=>
  have h1:=h x (by simp)
  have h2:=ih fun y hy=>h y (by simp[hy])
  rw[List.sum_cons,List.length_cons,Nat.add_mul];omega
theorem Zp8(A:Nf)(sa:Option Addr)(sc:Nat)(fa:Option Addr)(fc:Nat)(xa:Option Addr)(xc:Nat)(ya:Option Addr)(yc:Nat)(vs:List Value)(m:Mem)(h:NfW A m sa fa fc xa ya vs):CX Try.prog 10 #[VN A sa sc fa fc xa xc ya yc,.int .i64 60,.int .i64 1000] m [] (Ret (.bool (Zpd A))):=by
 apply ZiG
 unfold Zfo
 intro b m1 bD _
 have dY:=h.xl
 have dD:=h.yl
 have gN:=h.fl
 have fV:=h.cap
 have vN:IntKind.i64.wrap ((60:Int)+1)=61:=rfl
 have hM:(if IntKind.i64.wrap ((60:Int)+1) < (A.fol.length:Int)then IntKind.i64.wrap ((60:Int)+1)else(A.fol.length:Int))=((min 61 A.fol.length:Nat):Int):=by
  rw[vN];split <;> omega
 simp only[hM]
 generalize vO:min 61 A.fol.length=M at *
 have si:∀k,k≤M→Zui A k≤70000000:=fun k hk=>by
  unfold Zui
  have:=Zu8 (l:=(A.fol.take k).map List.length) (n:=1048576) (by
   intro x hx
   obtain⟨l,hl,rfl⟩:=List.mem_map.1 hx
   obtain⟨i,hi⟩:=List.getElem?_of_mem (List.mem_of_mem_take hl)
   obtain⟨v,hv⟩:=Zam (l:=vs) (k:=i) (by have:=(List.getElem?_eq_some_iff.1 hi).1;have:=h.len;omega)
   obtain⟨_,_,_,_,h5⟩:=h.fol i v l hv hi
   exact h5)
  have h6:((A.fol.take k).map List.length).length≤61:=by simp;omega
  have h7:((A.fol.take k).map List.length).length*1048576≤61*1048576:=Nat.mul_le_mul_right _ h6
  omega
 have h0:Zui A 0=A.first.length+A.last.length:=by simp[Zui]
 refine⟨⟨by omega,by omega⟩,fun xs _ _ m' q=>∃k:Nat,k≤M∧xs=[.int .i64 (Zui A k),.int .i64 k]∧m.le m'∧q=M - k,⟨_,0,by omega,?_,bD,rfl⟩,?_⟩
 ·rw[Zau (by omega) (by omega),h0];rfl
 rintro s z m2 q bZ ⟨k,hk,hx,dN,hq⟩
 simp only[List.cons.injEq,Value.int.injEq,true_and,and_true]at hx
 obtain⟨rfl,rfl⟩:=hx
 subst hq
 simp only[Int.toNat_natCast,Nat.sub_zero]
 refine Zab (fun bV=>?_) (fun cK=>?_)
 ·have bF:k < M:=by have:=of_decide_eq_true bV;omega
  obtain⟨l,hl⟩:=Zam (l:=A.fol) (k:=k) (by omega)
  obtain⟨u,hu⟩:=Zam (l:=vs) (k:=k) (by have:=h.len;omega)
  obtain⟨la,lc,rfl,_,h5⟩:=h.fol k u l hu hl
  obtain⟨fb,fo,gz,dU⟩:=ZbO (h.row.mono dN) hu
  have sj:=si k hk
  refine⟨fb,fo,gz,⟨by omega,by omega⟩,_,dU,Zaa rfl ⟨trivial,_,by omega,k+1,bF,?_,dN,rfl⟩⟩
  rw[Zru hl]
  simp only[slN]
  rw[Zau (by omega) (by omega),Zau (by omega) (by omega)];rfl
 ·have:k=M:=by have:=of_decide_eq_false cK;omega
  subst this
  refine⟨Zpd A,?_,Zad dN rfl⟩
  unfold Zpd
  rw[vO]
  refine Zab (fun h1=>?_) (fun h1=>?_)
  ·have h1':A.sets.length≤60:=by have:=of_decide_eq_true h1;omega
   refine Zab (fun h2=>?_) (fun h2=>?_)
   ·have h2':A.fol.length≤60:=by have:=of_decide_eq_true h2;omega
    refine⟨by trivial,congrArg (fun z=>[Value.bool z]) ?_⟩
    simp only[h1',h2',decide_true,Bool.true_and]
    rw[decide_eq_decide];omega
   ·have h2':¬A.fol.length≤60:=by have:=of_decide_eq_false h2;omega
    exact⟨by trivial,by simp[h2']⟩
  ·have h1':¬A.sets.length≤60:=by have:=of_decide_eq_false h1;omega
   exact⟨by trivial,by simp[h1']⟩
theorem Zml{A:Nf}:∀(v:Value)(m':Mem) (css:List (List Value)),RefR A v m'→Shape.fits (.agg [.slice,.slice,.slice,.slice,.bool]) v=true:=by
 rintro v m' css ⟨s,f,x,y,rfl,⟨_,_,rfl,_⟩,⟨_,_,_,rfl,_⟩,⟨_,_,rfl,_⟩,⟨_,_,rfl,_⟩⟩;rfl
theorem Zn3(l:List QS)(q:QS):Zc7 (l++[q])=Zc7 l++Zbz q:=by simp[Zc7]
set_option maxHeartbeats 800000 in
theorem Zkr{st:Bool}(A:Nf)(pa:∀q∈A.sets,QOk q)(v:Value)(m:Mem)(h:NfR st A v m):CX Try.prog 43 #[v] m [] (fun v m' _=>RefR A v m'):=by
 obtain⟨s,f,x,y,rfl,⟨sa,sc,rfl,hs,dL,iw⟩,⟨fa,fc,vs,rfl,hf,f8,gN,fT⟩,⟨xa,xc,rfl,hx,dY,gq⟩,⟨ya,yc,rfl,hy,dD,gC⟩⟩:=h
 apply ZhG
 unfold ZeN
 intro b0 m1 bD _ b1
 refine⟨fun i _ _=>if i=2 then(fun v m' _=>SlI st A.first v m')else(fun v m' _=>SlI st A.last v m'),?_⟩
 refine⟨_,rfl,ZhC A.first _ m1 ⟨xa,xc,rfl,hx.mono bD,dY,gq⟩,ZbB,fun a3 n3 c3 m3 cD iQ=>?_⟩
 refine⟨_,rfl,ZhC A.last _ m3 ⟨ya,yc,rfl,(hy.mono bD).mono cD,dD,gC⟩,ZbB,fun a4 n4 c4 m4 dC iR=>?_⟩
 have iQ:SlI st A.first (.slice a3 n3 c3) m3:=iQ
 have iR:SlI st A.last (.slice a4 n4 c4) m4:=iR
 intro b2 M gj jx j8
 have lF:m.le M:=Mem.le_trans bD gj
 refine⟨fun xs css tvs m' q=>∃(k:Nat)(a:Option Addr)(c:Nat),k≤A.sets.length∧xs=[.int .i64 k]∧css=[[.slice a k c,.slice none 0 0,.slice a3 n3 c3,.slice a4 n4 c4,.bool A.empty]]∧tvs=[.slice a k c]∧M.le m'∧rowRd m' a (Zc7 (A.sets.take k))∧q=A.sets.length - k,
  ⟨_,0,none,0,by omega,rfl,rfl,rfl,Mem.le_refl _,.inl rfl,rfl⟩,?_⟩
 rintro z cs a n c m5 q _ ⟨k,a',c',hk,hz,cF,dB,cX,cV,hq⟩
 obtain rfl:z=k:=by simpa using hz
 obtain rfl:cs=_:=by simpa using cF
 simp only[List.cons.injEq,Value.slice.injEq,and_true]at dB
 obtain⟨rfl,rfl,rfl⟩:=dB
 subst hq
 refine Zab (fun bV=>?_) (fun cK=>?_)
 ·have bF:n < A.sets.length:=by have:=of_decide_eq_true bV;omega
  obtain⟨qq,jA⟩:=Zam bF
  obtain⟨sb,so,iD,eD⟩:=Zgm (hs.mono (Mem.le_trans lF cX)) jA
  have oz:=pa qq (List.mem_of_getElem? jA)
  refine⟨sb,so,iD,⟨by omega,by omega⟩,_,_,_,_,(by rw[Int.toNat_natCast];exact eD),fun b4=>Zaa rfl ⟨fun _ _ _=>Ret (.agg (Zbz qq).toArray),Zas (v:=.slice a n c) rfl ⟨_,rfl,ZsS qq oz m5,fun v _ _ h=>by rw[h];rfl,?_⟩⟩⟩
  intro cs1 m6 fQ hv
  have hv:Value.agg (Array.mk cs1)=.agg (Zbz qq).toArray:=hv
  simp only[Value.agg.injEq,Array.mk.injEq]at hv
  subst hv
  refine Zaa (by rw[Zbe];rfl) fun b5 nk=>Zaa rfl ?_
  have kX:=Mem.le_add nk (List.append (Zbz qq) [])
  have eC:rowRd (m6.add b5 (List.append (Zbz qq) [])) (some ⟨b5,0,none⟩) (Zbz qq):=.inr ⟨b5,0,rfl,fun j u hj=>by rw[Nat.zero_add,Mem.add_same];show((Zbz qq)++[])[j]?=_;rw[List.append_nil];exact hj⟩
  refine⟨.inl rfl,Zc7 (A.sets.take n),Zbz qq,by rw[Zlj];simp[slN];omega,by rw[Zbe],(cV.mono fQ).mono kX,eC,Zlb qq,by simp only[slN];omega,by simp only[slN];omega,fun a7 c7 m7 jy kU=>Zaa rfl fun M2 jz lz pX kV=>⟨by trivial,A.sets.length - (n+1),by omega,n+1,a7,c7,by omega,?_,rfl,rfl,Mem.le_trans cX jz,?_,rfl⟩⟩
  ·rw[Zau (by omega) (by omega)];rfl
  ·have e:Zc7 (A.sets.take (n+1))=Zc7 (A.sets.take n)++Zbz qq:=by rw[List.take_add_one,jA];exact Zn3 _ _
   rw[e];exact kU.mono kV
 ·have:n=A.sets.length:=by have:=of_decide_eq_false cK;omega
  subst this
  rw[List.take_length]at cV
  refine⟨fun xs css tvs m' q=>∃(k:Nat)(a2:Option Addr)(c2:Nat),k≤A.fol.length∧xs=[.int .i64 k]∧css=[[.slice a A.sets.length c,.slice a2 k c2,.slice a3 n3 c3,.slice a4 n4 c4,.bool A.empty]]∧tvs=[.slice a2 k c2]∧m5.le m'∧(∃ws,rowRd m' a2 ws∧ws.length=k∧∀(i:Nat)(v:Value)(l:List Int),ws[i]?=some v→A.fol[i]?=some l→SlI false l v m')∧q=A.fol.length - k,
   ⟨_,0,none,0,by omega,rfl,rfl,rfl,Mem.le_refl _,⟨[],.inl rfl,rfl,fun i v l hv=>by simp at hv⟩,rfl⟩,?_⟩
  rintro z cs a6 n6 c6 m6 q _ ⟨k,a6',c6',hk,hz,cF,dB,fQ,⟨ws,dT,dE,iv⟩,hq⟩
  obtain rfl:z=k:=by simpa using hz
  obtain rfl:cs=_:=by simpa using cF
  simp only[List.cons.injEq,Value.slice.injEq,and_true]at dB
  obtain⟨rfl,rfl,rfl⟩:=dB
  subst hq
  have mI:m.le m6:=Mem.le_trans lF (Mem.le_trans cX fQ)
  refine Zab (fun bV=>?_) (fun cK=>?_)
  ·have bF:n6 < A.fol.length:=by have:=of_decide_eq_true bV;omega
   obtain⟨l,hl⟩:=Zam bF
   obtain⟨u,hu⟩:=Zam (l:=vs) (k:=n6) (by omega)
   obtain⟨fb,fo,gz,dU⟩:=ZbO (hf.mono mI) hu
   refine⟨fb,fo,gz,⟨by omega,by omega⟩,_,(by rw[Int.toNat_natCast];exact dU),fun _ _ _=>(fun v m' _=>SlI st l v m'),Zas (v:=.slice a6 n6 c6) rfl ⟨_,rfl,ZhC l u m6 ((fT n6 u l hu hl).mono mI),ZbB,fun a8 n8 c8 m8 kj sk b4 mw=>Zaa rfl ?_⟩⟩
   have sk:SlI st l (.slice a8 n8 c8) m8:=sk
   have sm:SlI false l (.slice a8 n8 c8) m8:=by
    obtain⟨a,c,e,g1,g2,_⟩:=sk
    exact⟨a,c,e,g1,g2,fun e=>by cases e⟩
   have fR:=Mem.le_add mw [Value.slice a8 n8 c8]
   refine⟨.inl rfl,ws,[.slice a8 n8 c8],by simp only[slN];omega,rfl,(dT.mono kj).mono fR,Zfk,by simp[Value.oneCell'],by simp only[slN];omega,by simp only[slN];omega,fun a7 c7 m7 jy kU=>Zaa rfl fun M2 jz lz pX kV=>⟨by trivial,by trivial,A.fol.length - (n6+1),by omega,n6+1,a7,c7,by omega,?_,rfl,rfl,Mem.le_trans fQ jz,⟨ws++[.slice a8 n8 c8],kU.mono kV,by simp[dE],fun i v l' hv hl'=>?_⟩,rfl⟩⟩
   ·rw[Zau (by omega) (by omega)];rfl
   ·rw[List.getElem?_append]at hv
    split at hv
    ·exact(iv i v l' hv hl').mono jz
    ·rename_i cK
     have gk:i=n6:=by
      have:=(List.getElem?_eq_some_iff.1 hv).1
      simp at this;omega
     subst gk
     rw[dE,Nat.sub_self]at hv
     obtain rfl:Value.slice a8 n8 c8=v:=by simpa using hv
     obtain rfl:l=l':=by rw[hl]at hl';exact Option.some.inj hl'
     exact sm.mono lz
  ·have:n6=A.fol.length:=by have:=of_decide_eq_false cK;omega
   subst this
   have kW:=Mem.le_trans cX fQ
   have g3:SlI false A.first (.slice a3 n3 c3) m6:=by
    obtain⟨a,c,e,g1,g2,_⟩:=iQ.mono (Mem.le_trans jx kW)
    exact⟨a,c,e,g1,g2,fun e=>by cases e⟩
   have g4:SlI false A.last (.slice a4 n4 c4) m6:=by
    obtain⟨a,c,e,g1,g2,_⟩:=iR.mono (Mem.le_trans j8 kW)
    exact⟨a,c,e,g1,g2,fun e=>by cases e⟩
   exact Zaa rfl ⟨m6,mI,Mem.le_refl _,_,_,_,_,rfl,⟨a,c,rfl,cV.mono fQ,dL⟩,⟨a6,c6,ws,rfl,dT,dE,gN,iv⟩,g3,g4⟩
theorem Zuj(l r:List (List Int))(v w:Value)(m:Mem)(hl:FolR false l v m)(hr:FolR false r w m):CX Try.prog 72 #[v,w,.func (.func 23) #[] #[]] m [] (Ret (.bool (decide (l=r)))):=Zt6 l r v w m hl hr
theorem Zks{st:Bool}(A B:Nf)(hA:∀q∈A.sets,QOk q)(hB:∀q∈B.sets,QOk q)(v w:Value)(m:Mem)(h:NfR st A v m)(k:RefR B w m):CX Try.prog 46 #[v,w] m [] (Ret (.bool (decide (A=B)))):=by
 have h':=h
 obtain⟨s,f,x,y,rfl,⟨sa,sc,rfl,hs,dL,iw⟩,⟨fa,fc,vs,rfl,hf⟩,⟨xa,xc,rfl,hx,dY,gq⟩,⟨ya,yc,rfl,hy,dD,gC⟩⟩:=h
 obtain⟨s',f',x',y',rfl,⟨sa',sc',rfl,hs',oE⟩,hf',⟨xa',xc',rfl,hx',oF,oG⟩,⟨ya',yc',rfl,hy',oH,oI⟩⟩:=k
 obtain⟨fa',fc',vs',rfl,rL⟩:=id hf'
 apply Zko
 unfold Zgx
 intro b m1 bD _ b1 m2 bZ _
 have dN:=Mem.le_trans bD bZ
 refine Zat (Zkr A hA _ m2 (h'.mono dN)) Zml ?_
 rintro a n c a1 n1 c1 a2 n2 c2 a3 n3 c3 e m3 cD ⟨t1,t2,t3,t4,hv,⟨ua,uc,rfl,hu,ww⟩,tT,⟨va,vc,rfl,vP,jq,_⟩,⟨wa,wc,rfl,rE,r6,_⟩⟩
 obtain⟨ga,gc,gs,rfl,tx⟩:=id tT
 simp only[Value.agg.injEq,Array.mk.injEq,List.cons.injEq,Value.slice.injEq,Value.bool.injEq,true_and,and_true]at hv
 obtain⟨⟨rfl,rfl,rfl⟩,⟨rfl,rfl,rfl⟩,⟨rfl,rfl,rfl⟩,⟨rfl,rfl,rfl⟩,rfl⟩:=hv
 have iE:=Mem.le_trans dN cD
 intro b3
 obtain⟨As,Af,A1,A2,Ae⟩:=A
 obtain⟨Bs,Bf,B1,B2,Be⟩:=B
 refine⟨decide ((⟨As,Af,A1,A2,Ae⟩:Nf)=⟨Bs,Bf,B1,B2,Be⟩),?_,Zad iE rfl⟩
 refine Zah (Zu7 As Bs hA hB _ _ _ _ m3 hu (hs'.mono iE) dL) fun m4 dC=>?_
 have iF:=Mem.le_trans iE dC
 refine Zab (fun e1=>?_) (fun e1=>⟨by trivial,by simp[show ¬As=Bs by simpa using e1]⟩)
 refine Zah (Zuj Af Bf _ _ m4 (tT.mono dC) (hf'.mono iF)) fun m5 cX=>?_
 have iG:=Mem.le_trans iF cX
 have np:=Mem.le_trans dC cX
 refine Zab (fun e2=>?_) (fun e2=>⟨by trivial,by simp[show ¬Af=Bf by simpa using e2]⟩)
 refine Zah (ZiB A1 B1 _ _ _ _ m5 (vP.mono np) (hx'.mono iG) dY) fun m6 fQ=>?_
 have mI:=Mem.le_trans iG fQ
 refine Zab (fun e3=>?_) (fun e3=>⟨by trivial,by simp[show ¬A1=B1 by simpa using e3]⟩)
 refine Zah (ZiB A2 B2 _ _ _ _ m6 ((rE.mono np).mono fQ) (hy'.mono mI) dD) fun m7 jy=>?_
 refine Zab (fun e4=>⟨by trivial,?_⟩) (fun e4=>⟨by trivial,by simp[show ¬A2=B2 by simpa using e4]⟩)
 refine congrArg (fun z=>[Value.bool z]) ?_
 rw[Bool.eq_iff_iff]
 simp[of_decide_eq_true e1,of_decide_eq_true e2,of_decide_eq_true e3,of_decide_eq_true e4]
end Go.Proofs.Ytplacemlpkhmfaa

