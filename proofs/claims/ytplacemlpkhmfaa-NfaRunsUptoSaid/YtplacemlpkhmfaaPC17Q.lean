/- Part of the proof: conditions and contracts of functions of this program. No condition of its own. -/
import Derived.Test.YtplacemlpkhmfaaPVNW
import Derived.Test.YtplacemlpkhmfaaPC17HS
import Derived.Test.YtplacemlpkhmfaaPEnv
import Derived.Test.YtplacemlpkhmfaaPVND
import Derived.Test.YtplacemlpkhmfaaMr
import Derived.Test.YtplacemlpkhmfaaMc
import Derived.Test.YtplacemlpkhmfaaRows
set_option linter.unusedVariables false
set_option linter.unusedSimpArgs false
namespace Go.Proofs.Ytplacemlpkhmfaa
open Go Go.Eng Go.Rx Go.Proofs Go.RowKit
set_option maxRecDepth 100000
def DomK(m m':Mem):Prop:=∀b o v,m b o=some v→∃u,m' b o=some u
theorem DomK.le{m m':Mem}(h:m.le m'):DomK m m':=fun b o v hv=>⟨v,h b o v hv⟩
theorem DomK.trans{m m' M:Mem}(h:DomK m m')(k:DomK m' M):DomK m M:=fun b o v hv=>by
 obtain⟨u,hu⟩:=h b o v hv
 exact k b o u hu
theorem DomK.upd{m m':Mem}(h:DomK m m')(b p:Nat)(ys:List Value):DomK m (m'.upd b p ys):=fun k o v hv=>by
 obtain⟨u,hu⟩:=h k o v hv
 show ∃u,(if k=b∧p≤o∧o < p+ys.length then ys[o - p]? else m' k o)=some u
 by_cases hc:k=b∧p≤o∧o < p+ys.length
 ·rw[if_pos hc]
  exact⟨_,List.getElem?_eq_getElem (by omega)⟩
 ·rw[if_neg hc];exact⟨u,hu⟩
theorem DomK.one{m m':Mem}(h:DomK m m'){b o:Nat}{v:Value}(hv:m b o=some v):∃vs:List Value,vs.length=1∧m'.reads b o vs:=by
 obtain⟨u,hu⟩:=h b o v hv
 refine⟨[u],rfl,fun j w hj=>?_⟩
 cases j with
 | zero=>cases hj;exact hu
 | succ j=>simp at hj
theorem DomK.many{m m':Mem}(h:DomK m m'){b o:Nat}{vs:List Value}(hv:m.reads b o vs):∃ws:List Value,ws.length=vs.length∧m'.reads b o ws:=by
 have:∀n,n≤vs.length→∃ws:List Value,ws.length=n∧m'.reads b o ws:=by
  intro n
  induction n with
  | zero=>intro _;exact⟨[],rfl,fun j w hj=>by simp at hj⟩
  | succ n ih=>
   intro hn
   obtain⟨ws,h1,h2⟩:=ih (by omega)
   obtain⟨u,hu⟩:=h b (o+n) _ (hv n _ (List.getElem?_eq_getElem (by omega)))
   refine⟨ws++[u],by simp[h1],fun j w hj=>?_⟩
   rw[List.getElem?_append]at hj
   split at hj
   ·exact h2 j w hj
   ·have hl:=(List.getElem?_eq_some_iff.1 hj).1
    have:j=n:=by simp at hl;omega
    subst this
    rw[h1,Nat.sub_self]at hj
    cases hj;exact hu
 exact this _ (Nat.le_refl _)
theorem Zuj{m:Mem}{a:Option Addr}{xs:List Value}{b p:Nat}{ys:List Value}(h:rowRd m a xs)(hn:∀b' o,a=some ⟨b',o,none⟩→b'≠b):rowRd (m.upd b p ys) a xs:=by
 rcases h with h|⟨b',o,e,h⟩
 ·exact .inl h
 ·refine .inr ⟨b',o,e,fun j v hv=>?_⟩
  rw[Mem.upd_other _ (hn b' o e)];exact h j v hv
theorem off_free{m:Mem}{Y:Nat→Prop}{b:Nat}(h:Y b):(m.off Y).free b:=fun o=>Mem.off_free h o
theorem ZsF(A:Nf)(sa:Option Addr)(sc:Nat)(fa:Option Addr)(fc:Nat)(xa:Option Addr)(xc:Nat)(ya:Option Addr)(yc:Nat)(vs:List Value)(m:Mem)(Y:Nat→Prop)(hS:SlQ false A.sets (.slice sa A.sets.length sc) m)(hX:SlI false A.first (.slice xa A.first.length xc) m)(w8:SlI false A.last (.slice ya A.last.length yc) m)
  (hf:rowRd m fa vs) (eR:vs.length=A.fol.length) (f8:A.fol.length≤1000000) (eF:∀(i:Nat)(v:Value)(l:List Int),vs[i]?=some v→A.fol[i]?=some l→SlI false l v m)
  (yS:∀b o,sa=some ⟨b,o,none⟩→A.sets≠[]→Y b) (yX:∀b o,xa=some ⟨b,o,none⟩→A.first≠[]→Y b) (yY:∀b o,ya=some ⟨b,o,none⟩→A.last≠[]→Y b) (yN:∀b o,fa=some ⟨b,o,none⟩→¬Y b)
  (yF:∀(i:Nat)(w:Value)(l:List Int),vs[i]?=some w→A.fol[i]?=some l→∀b o,slA w=some ⟨b,o,none⟩→l≠[]→Y b):
  CXY Try.prog 50 #[VN A sa sc fa fc xa xc ya yc] m Y [] [] (fun v _ _ _=>v=.tuple #[]):=by
 obtain⟨_,_,e0,hs,dK,_⟩:=id hS
 simp only[Value.slice.injEq,true_and]at e0
 obtain⟨rfl,rfl⟩:=e0
 apply Zic
 unfold ZfL
 intro b m1 aZ eL pV _
 refine⟨fun xs _ _ m' q=>∃k:Nat,k≤A.sets.length∧xs=[.int .i64 k]∧DomK m1 m'∧(∀u o,¬Y u→m' u o=m1 u o)∧q=A.sets.length - k,⟨_,0,by omega,rfl,DomK.le (Mem.le_refl _),fun _ _ _=>rfl,rfl⟩,?_⟩
 rintro z m2 q _ ⟨k,hk,hz,hd,fP,hq⟩
 obtain rfl:z=k:=by simpa using hz
 subst hq
 refine Zab (fun bK=>?_) (fun cL=>?_)
 ·have aY:k < A.sets.length:=by have:=of_decide_eq_true bK;omega
  obtain⟨qq,jY⟩:=Zak aY
  obtain⟨sb,so,iP,eI⟩:=ZgF hs jY
  have cM:A.sets≠[]:=fun e=>by rw[e]at aY;simp at aY
  have kq:=yS sb so iP cM
  have oK:b≠sb:=fun e=>by
   subst e
   have:=eI 0 _ rfl
   rw[pV]at this;cases this
  obtain⟨ws,dZ,dL⟩:=hd.many (eI.mono aZ)
  rw[Int.toNat_natCast]
  refine⟨sb,so,iP,⟨by omega,by omega⟩,⟨ws,dZ,dL⟩,off_free kq,by trivial,oK,by trivial,_,by omega,k+1,aY,by rw[Zat (by omega) (by omega)];rfl,hd.upd _ _ _,fun u o hu=>?_,rfl⟩
  rw[Mem.upd_other _ (fun e=>hu (by rw[e];exact kq))];exact fP u o hu
 ·intro b1 ja
  have jM:∀u o w,m1 u o=some w→u≠b1:=fun u o w hw e=>by
   subst e
   obtain⟨u',hu'⟩:=hd _ _ _ hw
   rw[ja]at hu';cases hu'
  have row:∀(w:Value)(l:List Int),SlI false l w m→(∀b o,slA w=some ⟨b,o,none⟩→l≠[]→Y b)→∀(m3:Mem),DomK m1 m3→∀j:Nat,j < l.length→∃b3 o3,slA w=some ⟨b3,o3,none⟩∧slN w=l.length∧(∃ws:List Value,ws.length=1∧m3.reads b3 (o3+j*1) ws)∧Y b3∧b1≠b3∧b≠b3∧∃o u,m b3 o=some u:=by
   rintro w l ⟨la,lc,rfl,hr,eA,_⟩ pW m3 pX j hj
   obtain⟨x,hx⟩:=Zak hj
   obtain⟨b3,o3,e3,cO⟩:=Za5 hr hx
   have cM:l≠[]:=fun e=>by rw[e]at hj;simp at hj
   refine⟨b3,o3,e3,rfl,pX.one (aZ _ _ _ cO),pW b3 o3 e3 cM,fun e=>jM _ _ _ (aZ _ _ _ cO) e.symm,fun e=>?_,_,_,cO⟩
   subst e
   rw[pV]at cO;cases cO
  have bN:∀(w:Value)(l:List Int),SlI false l w m→∃a c,w=.slice a l.length c∧l.length≤1000000:=fun w l ⟨a,c,e,_,h2,_⟩=>⟨a,c,e,h2⟩
  have kh:=Mem.le_add ja [Value.slice xa A.first.length xc,Value.slice ya A.last.length yc]
  have k9:rowRd (m2.add b1 [Value.slice xa A.first.length xc,Value.slice ya A.last.length yc]) (some ⟨b1,0,none⟩) [Value.slice xa A.first.length xc,Value.slice ya A.last.length yc]:=.inr ⟨b1,0,rfl,fun j u hj=>by rw[Nat.zero_add,Mem.add_same];exact hj⟩
  have all:∀(n:Nat)(w:Value),([Value.slice xa A.first.length xc,Value.slice ya A.last.length yc]++vs)[n]?=some w→∃l:List Int,SlI false l w m∧∀b o,slA w=some ⟨b,o,none⟩→l≠[]→Y b:=fun n w hw=>by
   match n with
   | 0=>cases hw;exact⟨A.first,hX,yX⟩
   | 1=>cases hw;exact⟨A.last,w8,yY⟩
   | n+2=>
    have hw':vs[n]?=some w:=by simpa using hw
    obtain⟨l,hl⟩:=Zak (l:=A.fol) (k:=n) (by have:=(List.getElem?_eq_some_iff.1 hw').1;omega)
    exact⟨l,eF n w l hw' hl,yF n w l hw' hl⟩
  refine Zab (fun hz=>?_) (fun hz=>?_)
  ·refine⟨fun xs _ _ m' q=>∃k:Nat,k≤2∧xs=[.int .i64 k]∧DomK m1 m'∧rowRd m' (some ⟨b1,0,none⟩) [Value.slice xa A.first.length xc,Value.slice ya A.last.length yc]∧q=2 - k,⟨_,0,by omega,rfl,hd.trans (DomK.le kh),k9,rfl⟩,?_⟩
   rintro z m3 q _ ⟨k2,gt,ji,pX,mQ,hq⟩
   obtain rfl:z=k2:=by simpa using ji
   subst hq
   refine Zab (fun bK=>?_) (fun cL=>rfl)
   have aY:k2 < 2:=by have:=of_decide_eq_true bK;omega
   obtain⟨w,hw⟩:=Zak (l:=[Value.slice xa A.first.length xc,Value.slice ya A.last.length yc]) (k:=k2) (by simpa using aY)
   obtain⟨l,hl,pW⟩:=all k2 w (by rw[List.getElem?_append_left (by simpa using aY)];exact hw)
   obtain⟨a0,c0,nN,eA⟩:=bN w l hl
   obtain⟨b2,o2,e2,eK⟩:=Za6 mQ hw
   refine⟨b2,o2,e2,⟨by omega,by omega⟩,w,(by rw[Int.toNat_natCast];exact eK),Zaa (by rw[nN];rfl) ?_⟩
   refine⟨fun xs _ _ m' q=>∃j:Nat,j≤l.length∧xs=[.int .i64 j]∧DomK m1 m'∧rowRd m' (some ⟨b1,0,none⟩) [Value.slice xa A.first.length xc,Value.slice ya A.last.length yc]∧q=l.length - j,⟨_,0,by omega,rfl,pX,mQ,rfl⟩,?_⟩
   rintro z m4 q _ ⟨j,hj,tz,nO,kY,hq⟩
   obtain rfl:z=j:=by simpa using tz
   subst hq
   refine Zab (fun dY=>?_) (fun fZ=>?_)
   ·have cQ:j < l.length:=by have:=of_decide_eq_true dY;rw[nN]at this;simp only[slN]at this;omega
    obtain⟨b3,o3,e3,e4,lk,kq,kK,fW,_⟩:=row w l hl pW m4 nO j cQ
    rw[Int.toNat_natCast]
    refine Zaa (by rw[nN];rfl) ⟨b3,o3,e3,⟨by omega,by rw[e4];omega⟩,lk,off_free kq,by trivial,kK,fW,by trivial,by trivial,_,by omega,j+1,cQ,by rw[Zat (by omega) (by omega)];rfl,nO.upd _ _ _,Zuj kY fun b' o e=>by cases e;exact kK,rfl⟩
   ·exact⟨by trivial,by trivial,_,by omega,k2+1,aY,by rw[Zat (by omega) (by omega)];rfl,nO,kY,rfl⟩
  ·have gK:rowRd (m2.add b1 [Value.slice xa A.first.length xc,Value.slice ya A.last.length yc]) fa vs:=by
    have h2:rowRd m2 fa vs:=by
     rcases hf with hf|⟨b',o,e,hf⟩
     ·exact .inl hf
     ·refine .inr ⟨b',o,e,fun j v hv=>?_⟩
      rw[fP b' _ (yN b' o e)]
      exact aZ _ _ _ (hf j v hv)
    exact h2.mono kh
   have hz':A.fol.length≠0:=fun e=>by rw[e]at hz;cases hz
   refine⟨.inr (by omega),[Value.slice xa A.first.length xc,Value.slice ya A.last.length yc],vs,rfl,by omega,k9,gK,fun u hu=>?_,by omega,by omega,fun a7 c7 m7 iH nu j7=>?_⟩
   ·obtain⟨i,hi⟩:=List.getElem?_of_mem hu
    obtain⟨l,hl⟩:=Zak (l:=A.fol) (k:=i) (by have:=(List.getElem?_eq_some_iff.1 hi).1;omega)
    obtain⟨_,_,rfl,_⟩:=eF i u l hi hl
    rfl
   have w9:DomK m1 m7:=(hd.trans (DomK.le kh)).trans (DomK.le iH)
   have xb:∀b' o,a7=some ⟨b',o,none⟩→∀b3,b1≠b3→(∃o u,m b3 o=some u)→b'≠b3:=fun b' o e b3 nr ⟨o3,u,hu⟩ e3=>by
    subst e3
    rcases j7.2 with h|⟨b'',o'',h1,h2⟩
    ·rw[h]at e;cases e
    ·rw[h1]at e;cases e
     rcases h2 with h2|h2
     ·rw[h1]at h2;cases h2
      exact nr rfl
     ·obtain⟨u',hu'⟩:=(hd.trans (DomK.le kh)) _ _ _ (aZ _ _ _ hu)
      rw[h2.2 o3]at hu';cases hu'
   refine⟨fun xs _ _ m' q=>∃k:Nat,k≤2+A.fol.length∧xs=[.int .i64 k]∧DomK m1 m'∧rowRd m' a7 ([Value.slice xa A.first.length xc,Value.slice ya A.last.length yc]++vs)∧q=2+A.fol.length - k,⟨_,0,by omega,rfl,w9,nu,rfl⟩,?_⟩
   rintro z m3 q _ ⟨k2,gt,ji,pX,mQ,hq⟩
   obtain rfl:z=k2:=by simpa using ji
   subst hq
   refine Zab (fun bK=>?_) (fun cL=>rfl)
   have aY:k2 < 2+A.fol.length:=by have:=of_decide_eq_true bK;omega
   obtain⟨w,hw⟩:=Zak (l:=[Value.slice xa A.first.length xc,Value.slice ya A.last.length yc]++vs) (k:=k2) (by rw[List.length_append,eR];exact aY)
   obtain⟨l,hl,pW⟩:=all k2 w hw
   obtain⟨a0,c0,nN,eA⟩:=bN w l hl
   obtain⟨b2,o2,e2,eK⟩:=Za6 mQ hw
   refine⟨b2,o2,e2,⟨by omega,by omega⟩,w,(by rw[Int.toNat_natCast];exact eK),Zaa (by rw[nN];rfl) ?_⟩
   refine⟨fun xs _ _ m' q=>∃j:Nat,j≤l.length∧xs=[.int .i64 j]∧DomK m1 m'∧rowRd m' a7 ([Value.slice xa A.first.length xc,Value.slice ya A.last.length yc]++vs)∧q=l.length - j,⟨_,0,by omega,rfl,pX,mQ,rfl⟩,?_⟩
   rintro z m4 q _ ⟨j,hj,tz,nO,kY,hq⟩
   obtain rfl:z=j:=by simpa using tz
   subst hq
   refine Zab (fun dY=>?_) (fun fZ=>?_)
   ·have cQ:j < l.length:=by have:=of_decide_eq_true dY;rw[nN]at this;simp only[slN]at this;omega
    obtain⟨b3,o3,e3,e4,lk,kq,kK,fW,lP⟩:=row w l hl pW m4 nO j cQ
    rw[Int.toNat_natCast]
    refine Zaa (by rw[nN];rfl) ⟨b3,o3,e3,⟨by omega,by rw[e4];omega⟩,lk,off_free kq,by trivial,kK,fW,by trivial,by trivial,_,by omega,j+1,cQ,by rw[Zat (by omega) (by omega)];rfl,nO.upd _ _ _,Zuj kY fun b' o e=>xb b' o e b3 kK lP,rfl⟩
   ·exact⟨by trivial,by trivial,_,by omega,k2+1,aY,by rw[Zat (by omega) (by omega)];rfl,nO,kY,rfl⟩
end Go.Proofs.Ytplacemlpkhmfaa
set_option linter.unusedVariables false
set_option linter.unusedSimpArgs false
namespace Go.Proofs.Ytplacemlpkhmfaa
open Go Go.Eng Go.Rx Go.Proofs Go.RowKit
set_option maxRecDepth 100000
set_option maxHeartbeats 1600000 in
theorem Zrc(A:Nf)(hA:A.Ok)(v:Value)(m:Mem)(h:RefR A v m):CX Try.prog 55 #[v] m [] (fun v m' _=>RefR A.turn v m'):=by
 have h':=h
 have hN:=hA.n
 have bN:=hA.len
 obtain⟨s,f,x,y,rfl,hs,⟨fa,fc,vs,rfl,hf,eR,f8,eF⟩,hx,hy⟩:=h
 obtain⟨sa,sc,rfl,_⟩:=id hs
 obtain⟨xa,xc,rfl,_⟩:=id hx
 obtain⟨ya,yc,rfl,_⟩:=id hy
 apply ZkJ
 unfold ZgJ
 intro b m1 aZ _ b1 b2
 refine⟨fun xs css tvs m' q=>∃(k:Nat)(a:Option Addr)(c:Nat),k≤A.sets.length∧xs=[.int .i64 k]∧css=[[.slice sa A.sets.length sc,.slice a k c,.slice ya A.last.length yc,.slice xa A.first.length xc,.bool A.empty]]∧tvs=[.slice a k c]∧m1.le m'∧(∃ws,rowRd m' a ws∧ws.length=k∧∀(i:Nat)(v:Value)(l:List Int),ws[i]?=some v→A.turn.fol[i]?=some l→SlI false l v m')∧q=A.sets.length - k,
  ⟨_,0,none,0,by omega,rfl,rfl,rfl,Mem.le_refl _,⟨[],.inl rfl,rfl,fun i v l hv=>by simp at hv⟩,rfl⟩,?_⟩
 rintro z cs a n c m2 q _ ⟨p,a',c',hp,hz,bT,dC,bO,⟨ws,dZ,dL,jS⟩,hq⟩
 obtain rfl:z=p:=by simpa using hz
 obtain rfl:cs=_:=by simpa using bT
 simp only[List.cons.injEq,Value.slice.injEq,and_true]at dC
 obtain⟨rfl,rfl,rfl⟩:=dC
 subst hq
 have dD:=Mem.le_trans aZ bO
 refine Zab (fun bK=>?_) (fun cL=>?_)
 ·have aY:n < A.sets.length:=by have:=of_decide_eq_true bK;omega
  refine⟨fun xs css tvs m' q=>∃(k:Nat)(a:Option Addr)(c:Nat),k≤A.sets.length∧xs=[.slice a (Zcg (Zri A n) k).length c,.int .i64 k]∧tvs=[.slice a (Zcg (Zri A n) k).length c]∧m2.le m'∧rowRd m' a (Zap (Zcg (Zri A n) k))∧q=A.sets.length - k,⟨_,0,none,0,Nat.zero_le _,rfl,rfl,Mem.le_refl _,.inl rfl,rfl⟩,?_⟩
  rintro a3 n3 c3 z a4 n4 c4 m3 q _ ⟨k,a',c',hk,iO,dC,bR,bU,hq⟩
  simp only[List.cons.injEq,Value.slice.injEq,Value.int.injEq,true_and,and_true]at iO dC
  obtain⟨⟨rfl,rfl,rfl⟩,rfl⟩:=iO
  obtain⟨rfl,rfl,rfl⟩:=dC
  subst hq
  have gH:=Mem.le_trans dD bR
  have sq:=Zoh (Zri A n) k
  have dA:=ZlQ (Zri A n) k
  have hw:IntKind.i64.wrap ((k:Int)+1)=((k+1:Nat):Int):=by rw[Zat (by omega) (by omega)];rfl
  refine Zab (fun dY=>?_) (fun fZ=>?_)
  ·have cQ:k < A.sets.length:=by have:=of_decide_eq_true dY;omega
   obtain⟨w,pY⟩:=Zak (l:=A.fol) (k:=k) (by omega)
   obtain⟨u,hu⟩:=Zak (l:=vs) (k:=k) (by omega)
   obtain⟨wa,wc,rfl,iB,oG,_⟩:=(eF k u w hu pY).mono gH
   obtain⟨fb,fo,eU,dH⟩:=Za6 (hf.mono gH) hu
   have hg:Zri A n k=decide ((n:Int)∈w):=by unfold Zri;rw[pY];rfl
   refine⟨fb,fo,eU,⟨by omega,by omega⟩,_,(by rw[Int.toNat_natCast];exact dH),?_⟩
   refine Zah (Ztm w n wa wc m3 iB oG) fun m4 cT=>?_
   rw[←hg]
   refine Zab (fun h1=>?_) (fun h1=>?_)
   ·rw[h1]at dA
    simp only[if_true]at dA
    intro b5 jX
    have cP:=Mem.le_add jX [Value.int .i64 (k:Int)]
    refine⟨.inl rfl,Zap (Zcg (Zri A n) k),Zap [(k:Int)],by rw[ZbS];omega,rfl,(bU.mono cT).mono cP,ZdB,fun u hu=>?_,by omega,by omega,fun a6 c6 m6 eJ nJ=>⟨by trivial,by trivial,_,by omega,k+1,a6,c6,cQ,?_,?_,Mem.le_trans bR (Mem.le_trans cT (Mem.le_trans cP eJ)),?_,rfl⟩⟩
    ·simp only[Zap,List.map_cons,List.map_nil,List.mem_singleton]at hu
     subst hu;rfl
    ·rw[dA,hw,List.length_append];rfl
    ·rw[dA,List.length_append];rfl
    ·rw[dA]
     have e:Zap (Zcg (Zri A n) k++[(k:Int)])=Zap (Zcg (Zri A n) k)++Zap [(k:Int)]:=by simp[Zap]
     rw[e];exact nJ
   ·rw[h1]at dA
    simp only[Bool.false_eq_true,if_false,List.append_nil]at dA
    refine⟨by trivial,by trivial,_,by omega,k+1,a4,c4,cQ,?_,?_,Mem.le_trans bR cT,?_,rfl⟩
    ·rw[dA,hw]
    ·rw[dA]
    ·rw[dA];exact bU.mono cT
  ·have:k=A.sets.length:=by have:=of_decide_eq_false fZ;omega
   subst this
   refine Zas (v:=.slice a n c) rfl fun b5 jX=>Zaa rfl ?_
   have cP:=Mem.le_add jX [Value.slice a4 (Zcg (Zri A n) A.sets.length).length c4]
   have jK:SlI false (Zcg (Zri A n) A.sets.length) (.slice a4 (Zcg (Zri A n) A.sets.length).length c4) m3:=⟨_,_,rfl,bU,by omega,fun e=>by cases e⟩
   refine⟨.inl rfl,ws,[.slice a4 (Zcg (Zri A n) A.sets.length).length c4],by simp only[slN];omega,rfl,(dZ.mono bR).mono cP,ZdB,by simp[Value.oneCell'],by simp only[slN];omega,by simp only[slN];omega,fun a6 c6 m6 eJ nJ=>Zaa rfl ⟨by trivial,_,by omega,n+1,a6,c6,aY,by rw[Zat (by omega) (by omega)];rfl,rfl,rfl,Mem.le_trans bO (Mem.le_trans bR (Mem.le_trans cP eJ)),⟨ws++[.slice a4 (Zcg (Zri A n) A.sets.length).length c4],nJ,by simp[dL],fun i v l hv hl=>?_⟩,rfl⟩⟩
   rw[List.getElem?_append]at hv
   split at hv
   ·exact(jS i v l hv hl).mono (Mem.le_trans bR (Mem.le_trans cP eJ))
   ·rename_i xd
    have gd:i=n:=by
     have:=(List.getElem?_eq_some_iff.1 hv).1
     simp at this;omega
    subst gd
    rw[dL,Nat.sub_self]at hv
    obtain rfl:Value.slice a4 (Zcg (Zri A i) A.sets.length).length c4=v:=by simpa using hv
    rw[ZtX hA (by omega),bN]at hl
    cases hl
    exact jK.mono (Mem.le_trans cP eJ)
 ·have:n=A.sets.length:=by have:=of_decide_eq_false cL;omega
  subst this
  have e1:A.turn.fol.length=A.sets.length:=by show(Zf3 A.fol).length=_;rw[Zdi,bN]
  refine Zaa rfl ⟨m2,dD,Mem.le_refl _,_,_,_,_,rfl,hs.mono dD,⟨a,c,ws,?_,dZ,?_,by omega,jS⟩,hy.mono dD,hx.mono dD⟩
  ·rw[e1]
  ·rw[e1,dL]
end Go.Proofs.Ytplacemlpkhmfaa
set_option linter.unusedVariables false
set_option linter.unusedSimpArgs false
namespace Go.Proofs.Ytplacemlpkhmfaa
open Go Go.Eng Go.Rx Go.Proofs Go.RowKit
set_option maxRecDepth 100000
theorem ZvH{m M:Mem}{b p:Nat}{ys:List Value}(h:m.le M)(hf:m.free b):m.le (M.upd b p ys):=fun k o v hv=>by
 have hk:k≠b:=fun e=>by subst e;rw[hf o]at hv;cases hv
 rw[Mem.upd_other _ hk];exact h k o v hv
theorem Zrd{m:Mem}{b o p:Nat}{xs ys:List Value}(h:m.reads b o xs)(hp:p+ys.length≤xs.length):(m.upd b (o+p) ys).reads b o (Zan xs p ys):=by
 intro j u hu
 unfold Zan at hu
 simp only[Mem.upd]
 by_cases hj:j < p
 ·rw[if_neg (by omega)]
  rw[List.append_assoc,List.getElem?_append_left (by simp;omega),List.getElem?_take,if_pos hj]at hu
  exact h j u hu
 ·by_cases uC:j < p+ys.length
  ·rw[if_pos ⟨trivial,by omega,by omega⟩]
   rw[List.append_assoc,List.getElem?_append_right (by simp;omega),List.getElem?_append_left (by simp;omega)]at hu
   rw[show o+j - (o+p)=j - (xs.take p).length by simp;omega];exact hu
  ·rw[if_neg (by omega)]
   rw[List.getElem?_append_right (by simp;omega),List.getElem?_drop]at hu
   rw[show p+ys.length+(j - (xs.take p++ys).length)=j by simp;omega]at hu
   exact h j u hu
theorem ZoU{l:List Nat}{x n:Nat}(hl:l.length=n)(hx:x < n)(y:Nat):Zan (ZaT l) x [.int .i64 (y:Int)]=ZaT (l.set x y):=by
 rw[Zf8 (by rw[Zcj];omega),Zk6]
theorem ZoV(g:Nat→Bool){n x:Nat}(h:x < n):(ZaT (Zcf g n))[x]?=some (.int .i64 ((if g x then 1 else 0:Nat):Int)):=by simp[ZaT,Ziy g h]
structure TabI (m1:Mem)(b1 N:Nat)(g:Nat→Bool)(m':Mem):Prop where
 le:m1.le m'
 row:m'.reads b1 0 (ZaT (Zcf g N))
theorem TabI.put{m1:Mem}{b1 N:Nat}{g:Nat→Bool}{m':Mem}(h:TabI m1 b1 N g m')(hf:m1.free b1){x:Nat}(hx:x < N):TabI m1 b1 N (Zuy g x) (m'.upd b1 (0+x*1) [.int .i64 1]):=by
 refine⟨ZvH h.le hf,?_⟩
 have:=Zrd (p:=x) (ys:=[.int .i64 1]) h.row (by rw[Zcj,ZbN];simp;omega)
 rw[show([.int .i64 1]:List Value)=[.int .i64 ((1:Nat):Int)] from rfl,ZoU (ZbN _ _) hx,ZtZ hx]at this
 rw[Nat.mul_one]
 exact this
theorem TabI.at{m1:Mem}{b1 N:Nat}{g:Nat→Bool}{m':Mem}(h:TabI m1 b1 N g m'){x:Nat}(hx:x < N):m' b1 (0+x*1)=some (.int .i64 ((if g x then 1 else 0:Nat):Int)):=by
 rw[Nat.mul_one]
 exact h.row x _ (ZoV g hx)
noncomputable def ZbV(A:Nf):Nat→Bool:=open Classical in fun x=>decide (A.Reach x)
theorem Zez{A:Nf}{x:Nat}:ZbV A x=true↔A.Reach x:=by unfold ZbV;simp
def Zw5(g:Nat→Bool)(N:Nat)(m:Mem):Value→Mem→List (List Value)→Prop:=fun v m' _=>∃a c,v=.slice a N c∧rowRd m' a (ZaT (Zcf g N))∧NewS m v
set_option maxHeartbeats 3200000 in
theorem ZoW(A:Nf)(hA:A.Ok)(v:Value)(m:Mem)(h:RefR A v m):CX Try.prog 105 #[v] m [] (Zw5 (ZbV A) A.sets.length m):=by
 have hN:=hA.n
 have bN:=hA.len
 obtain⟨s,f,x,y,rfl,⟨sa,sc,rfl,hs,dK⟩,⟨fa,fc,vs,rfl,hf,eR,f8,eF⟩,⟨xa,xc,rfl,hx,dU,fX⟩,⟨ya,yc,rfl,hy,dG,gj⟩⟩:=h
 apply ZiZ
 unfold ZfD
 intro b m1 aZ eL pV _
 refine⟨⟨by omega,by omega,by omega,by omega⟩,fun b1 ja=>?_⟩
 simp only[Int.toNat_natCast]
 have pZ:b≠b1:=fun e=>by
  subst e
  have:=eL 0 _ rfl
  rw[ja]at this;cases this
 have tA:m.free b1:=ZlT aZ ja
 have dJ:∀(m':Mem)(g:Nat→Bool)(x:Nat),TabI m1 b1 A.sets.length g m'→x < A.sets.length→∃ws:List Value,ws.length=1∧m'.reads b1 (0+x*1) ws:=fun m' g x hT hx=>⟨[.int .i64 ((if g x then 1 else 0:Nat):Int)],rfl,fun j u hj=>by
  cases j with
  | zero=>cases hj;exact hT.at hx
  | succ j=>simp at hj⟩
 refine⟨fun xs _ _ m' q=>∃(k:Nat)(g:Nat→Bool),k≤A.first.length∧xs=[.int .i64 k]∧TabI m1 b1 A.sets.length g m'∧(∀x,g x=true→A.Reach x)∧(∀x:Nat,(x:Int)∈A.first.take k→g x=true)∧q=A.first.length - k,⟨_,0,fun _=>false,Nat.zero_le _,rfl,⟨Mem.le_add ja _,fun j u hj=>?_⟩,fun x h=>(by cases h),fun x h=>by simp at h,rfl⟩,?_⟩
 ·rw[Zk5,Nat.zero_add,Mem.add_same];exact hj
 rintro z m2 q _ ⟨k,g,hk,hz,hT,gd,lZ,hq⟩
 obtain rfl:z=k:=by simpa using hz
 subst hq
 refine Zab (fun bK=>?_) (fun cL=>?_)
 ·have aY:k < A.first.length:=by have:=of_decide_eq_true bK;omega
  obtain⟨xx,jP⟩:=Zak aY
  obtain⟨b2,o2,gn,cO⟩:=Za5 ((hx.mono aZ).mono hT.le) jP
  have lg:=hA.first.2 xx (List.mem_of_getElem? jP)
  unfold Nf.top at lg
  obtain⟨i,rfl⟩:∃i:Nat,xx=i:=⟨xx.toNat,by omega⟩
  have hi:i < A.sets.length:=by omega
  refine⟨b2,o2,gn,⟨by omega,by omega⟩,.int .i64 (i:Int),(by rw[Int.toNat_natCast];exact cO),Zaa rfl ⟨b1,0,rfl,⟨by show(0:Int)≤(i:Int);omega,by show(i:Int) < (A.sets.length:Nat);omega⟩,dJ m2 g i hT hi,tA,by trivial,pZ,by trivial,_,by omega,k+1,Zuy g i,aY,by rw[Zat (by omega) (by omega)];rfl,hT.put ja hi,fun x h=>?_,fun x h=>?_,rfl⟩⟩
  ·unfold Zuy at h
   split at h
   ·rename_i e;subst e;exact .first (List.mem_of_getElem? jP)
   ·exact gd x h
  ·rw[List.take_add_one,jP]at h
   rcases List.mem_append.1 h with h|h
   ·exact Zoo (lZ x h)
   ·simp at h
    have:x=i:=by omega
    subst this
    unfold Zuy;rw[if_pos rfl]
 have eO:k=A.first.length:=by have:=of_decide_eq_false cL;omega
 subst eO
 rw[List.take_length]at lZ
 refine⟨fun xs _ _ m' n=>∃(more:Bool)(g:Nat→Bool),xs=[.bool more]∧TabI m1 b1 A.sets.length g m'∧Light A g∧(more=false→Closed A g A.sets.length 0)∧n=(if more then Zux g A.sets.length+1 else 0),⟨_,true,g,rfl,hT,⟨gd,lZ⟩,fun e=>(by cases e),rfl⟩,?_⟩
 rintro more m3 n _ ⟨more',g3,ib,pN,uX,xe,hn⟩
 obtain rfl:more=more':=by simpa using ib
 refine Zab (fun kL=>?_) (fun kL=>?_)
 ·subst kL
  simp only[if_true]at hn
  subst hn
  refine⟨fun xs _ _ m' q=>∃(b3:Bool)(p:Nat)(g:Nat→Bool),p≤A.sets.length∧xs=[.bool b3,.int .i64 p]∧TabI m1 b1 A.sets.length g m'∧Light A g∧(b3=true∨Closed A g p 0)∧Zux g A.sets.length≤Zux g3 A.sets.length∧(b3=true→Zux g A.sets.length+1≤Zux g3 A.sets.length)∧q=A.sets.length - p,⟨_,false,0,g3,Nat.zero_le _,rfl,pN,uX,.inr (Zop A g3),Nat.le_refl _,fun e=>(by cases e),rfl⟩,?_⟩
  rintro b3 z m4 q _ ⟨b3',p,g4,hp,ib,uY,uZ,u4,xf,u5,hq⟩
  simp only[List.cons.injEq,Value.bool.injEq,Value.int.injEq,true_and,and_true]at ib
  obtain⟨rfl,rfl⟩:=ib
  subst hq
  refine Zab (fun bK=>?_) (fun cL=>?_)
  ·have aY:p < A.sets.length:=by have:=of_decide_eq_true bK;omega
   obtain⟨w,hw⟩:=Zak (l:=A.fol) (k:=p) (by omega)
   obtain⟨u,hu⟩:=Zak (l:=vs) (k:=p) (by omega)
   obtain⟨wa,wc,rfl,iB,oG,_⟩:=eF p u w hu hw
   have xg:=(hA.fol w (List.mem_of_getElem? hw)).2
   have bU:∀m':Mem,m1.le m'→∃fb fo,fa=some ⟨fb,fo,none⟩∧m' fb (fo+p*1)=some (.slice wa w.length wc):=fun m' hm'=>Za6 ((hf.mono aZ).mono hm') hu
   refine⟨fun xs _ _ m' q=>∃(b4:Bool)(k:Nat)(g:Nat→Bool),k≤w.length∧xs=[.bool b4,.int .i64 k]∧TabI m1 b1 A.sets.length g m'∧Light A g∧(b4=true∨Closed A g p k)∧Zux g A.sets.length≤Zux g3 A.sets.length∧(b4=true→Zux g A.sets.length+1≤Zux g3 A.sets.length)∧q=w.length - k,⟨_,b3,0,g4,Nat.zero_le _,rfl,uY,uZ,u4,xf,u5,rfl⟩,?_⟩
   rintro b4 z m5 q _ ⟨b4',k,g5,hk,ib,ml,p6,u6,u9,vb,hq⟩
   simp only[List.cons.injEq,Value.bool.injEq,Value.int.injEq,true_and,and_true]at ib
   obtain⟨rfl,rfl⟩:=ib
   subst hq
   obtain⟨fb,fo,eU,dH⟩:=bU m5 ml.le
   simp only[Int.toNat_natCast]
   refine⟨g5 p&&decide (k < w.length),⟨b1,0,rfl,⟨by omega,by omega⟩,_,ml.at aY,Zaa rfl (Zab (fun h1=>?_) (fun h1=>?_))⟩,Zab (fun h1=>?_) (fun h1=>?_)⟩
   ·have hg:g5 p=true:=by
     cases hg:g5 p with
     | true=>rfl
     | false=>rw[hg]at h1;simp[intOf]at h1
    refine⟨fb,fo,eU,⟨by omega,by omega⟩,_,dH,Zaa rfl ?_⟩
    first
     | exact⟨by trivial,congrArg (fun z=>[Value.bool z]) (by rw[hg,Bool.true_and];simp[slN])⟩
     | exact congrArg (fun z=>[Value.bool z]) (by rw[hg,Bool.true_and];simp[slN])
   ·have hg:g5 p=false:=by
     cases hg:g5 p with
     | false=>rfl
     | true=>rw[hg]at h1;simp[intOf]at h1
    first
     | exact⟨by trivial,by rw[hg];rfl⟩
     | (rw[hg];rfl)
   ·rw[Bool.and_eq_true,decide_eq_true_eq]at h1
    obtain⟨hg,xh⟩:=h1
    obtain⟨xx,jP⟩:=Zak xh
    obtain⟨b7,o7,p7,p8⟩:=Za5 ((iB.mono aZ).mono ml.le) jP
    have lg:=xg xx (List.mem_of_getElem? jP)
    unfold Nf.top at lg
    obtain⟨i,rfl⟩:∃i:Nat,xx=i:=⟨xx.toNat,by omega⟩
    have hi:i < A.sets.length:=by omega
    have pY:IntKind.i64.wrap ((k:Int)+1)=((k+1:Nat):Int):=by rw[Zat (by omega) (by omega)];rfl
    refine⟨fb,fo,eU,⟨by omega,by omega⟩,_,dH,Zaa rfl ⟨b7,o7,p7,⟨by omega,by show(k:Int) < (w.length:Nat);omega⟩,.int .i64 (i:Int),p8,Zaa rfl ⟨b1,0,rfl,⟨by show(0:Int)≤(i:Int);omega,by show(i:Int) < (A.sets.length:Nat);omega⟩,.int .i64 ((if g5 i then 1 else 0:Nat):Int),ml.at hi,Zaa rfl (Zab (fun h2=>?_) (fun h2=>?_))⟩⟩⟩
    ·have k7:g5 i=false:=by
      cases k7:g5 i with
      | false=>rfl
      | true=>rw[k7]at h2;simp[intOf]at h2
     have hd:=ZtY hi k7
     refine⟨fb,fo,eU,⟨by omega,by omega⟩,_,dH,Zaa rfl ⟨b7,o7,p7,⟨by omega,by show(k:Int) < (w.length:Nat);omega⟩,.int .i64 (i:Int),p8,Zaa rfl ⟨b1,0,rfl,⟨by show(0:Int)≤(i:Int);omega,by show(i:Int) < (A.sets.length:Nat);omega⟩,dJ m5 g5 i ml hi,tA,by trivial,pZ,by trivial,_,by omega,true,k+1,Zuy g5 i,by omega,by rw[pY],ml.put ja hi,⟨fun x h=>?_,fun x h=>Zoo (p6.first x h)⟩,.inl rfl,by omega,fun _=>by omega,rfl⟩⟩⟩
     unfold Zuy at h
     split at h
     ·rename_i e;subst e
      exact .fol (p6.in_ p hg) hw (List.mem_of_getElem? jP)
     ·exact p6.in_ x h
    ·have k7:g5 i=true:=by
      cases k7:g5 i with
      | true=>rfl
      | false=>rw[k7]at h2;simp[intOf]at h2
     exact⟨by trivial,_,by omega,b4,k+1,g5,by omega,by rw[pY],ml,p6,u6.imp id fun h=>h.one hw jP k7,u9,vb,rfl⟩
   ·refine⟨by trivial,_,by omega,b4,p+1,g5,aY,by rw[Zat (by omega) (by omega)];rfl,ml,p6,u6.imp id fun h=>h.next fun hg l hl=>?_,u9,vb,rfl⟩
    rw[hw]at hl;cases hl
    rw[hg,Bool.true_and,decide_eq_false_iff_not]at h1
    omega
  ·have:p=A.sets.length:=by have:=of_decide_eq_false cL;omega
   subst this
   refine⟨by trivial,_,?_,b3,g4,rfl,uY,uZ,fun e=>?_,rfl⟩
   ·cases b3 with
    | true=>have:=u5 rfl;simp;omega
    | false=>simp
   ·rcases u4 with h|h
    ·rw[e]at h;cases h
    ·exact h
 ·subst kL
  have bS:=ZpK hA uX (xe rfl)
  have e:Zcf g3 A.sets.length=Zcf (ZbV A) A.sets.length:=Zbk fun x _=>by rw[Bool.eq_iff_iff,Zez];exact bS x
  refine⟨m3,Mem.le_trans aZ pN.le,Mem.le_refl _,some ⟨b1,0,none⟩,_,rfl,.inr ⟨b1,0,rfl,?_⟩,fun b' o' e'=>?_⟩
  ·rw[←e];exact pN.row
  ·simp[slA]at e'
   rw[←e'.1];exact tA
noncomputable def ZmS(f g:Nat→Bool)(k:Nat):Nat→Bool:=fun x=>if x < k then f x&&g x else f x
theorem Zqf{f g:Nat→Bool}{k n:Nat}(hk:k < n):(Zcf (ZmS f g k) n).set k (if f k&&g k then 1 else 0)=Zcf (ZmS f g (k+1)) n:=by
 rw[ZkG _ hk (f k&&g k)]
 refine Zbk fun x hx=>?_
 unfold ZmS
 by_cases e:x=k
 ·subst e;simp
 ·rw[if_neg e]
  have:x < k+1↔x < k:=by omega
  simp only[this]
theorem Zre{g:Nat→Bool}{N:Nat}{m:Mem}:∀(v:Value)(m':Mem) (css:List (List Value)),Zw5 g N m v m' css→Shape.fits .slice v=true:=by
 rintro v m' css ⟨_,_,rfl,_⟩;rfl
theorem ZsG{A:Nf}(hA:A.Ok):Zcg (ZmS (ZbV A) (ZbV A.turn) A.sets.length) A.sets.length=Zo9 A:=by
 refine ZgH _ _ (ZhM _ _) ?_ fun x=>?_
 ·unfold Zo9
  rw[List.pairwise_map]
  exact(List.pairwise_lt_range.filter _).imp fun h=>by omega
 ·have hN:=hA.n
  unfold Zo9
  simp only[Zoi,List.mem_map,List.mem_filter,List.mem_range,decide_eq_true_eq]
  constructor
  ·rintro⟨i,h1,h2,rfl⟩
   unfold ZmS at h2
   rw[if_pos h1,Bool.and_eq_true,Zez,Zez]at h2
   exact⟨i,⟨by omega,h2⟩,rfl⟩
  ·rintro⟨i,⟨_,h2⟩,rfl⟩
   have h1:=ZqY hA h2.1
   refine⟨i,h1,?_,rfl⟩
   unfold ZmS
   rw[if_pos h1,Bool.and_eq_true,Zez,Zez]
   exact h2
theorem Zuk(A:Nf)(hA:A.Ok)(v:Value)(m:Mem)(h:RefR A v m):CX Try.prog 56 #[v] m [] (fun v m' _=>SlI true (Zo9 A) v m'):=by
 have h':=h
 have hN:=hA.n
 obtain⟨s,f,x,y,rfl,⟨sa,sc,rfl,hs,dK⟩,⟨fa,fc,vs,rfl,hf,eR,f8,eF⟩,⟨xa,xc,rfl,hx,dU,fX⟩,⟨ya,yc,rfl,hy,dG,gj⟩⟩:=h
 apply ZkL
 unfold ZgK
 intro b m1 aZ eL _ _
 refine⟨fun i _ m=>if i=1 then Zw5 (ZbV A) A.sets.length m else if i=3 then(fun v m' _=>RefR A.turn v m')else Zw5 (ZbV A.turn) A.sets.length m,?_⟩
 refine⟨_,rfl,ZoW A hA _ m1 (h'.mono aZ),Zre,fun a n c m2 bO lf=>?_⟩
 obtain⟨a',c',e2,r2,n2⟩:Zw5 (ZbV A) A.sets.length m1 _ m2 []:=lf
 simp only[Value.slice.injEq]at e2
 obtain⟨rfl,rfl,rfl⟩:=e2
 refine⟨_,rfl,Zrc A hA _ m2 (h'.mono (Mem.le_trans aZ bO)),Zla,fun t0 u0 w0 t1 u1 w1 t2 u2 w2 t3 u3 w3 te m3 bR jr=>?_⟩
 have jr:RefR A.turn _ m3:=jr
 have iA:=ZoW A.turn (Zs8 hA) _ m3 jr
 refine⟨_,rfl,iA,Zre,fun a9 n9 c9 m4 cT jW=>?_⟩
 obtain⟨a9',c9',e4,r4,n4⟩:Zw5 (ZbV A.turn) A.sets.length m3 _ m4 []:=jW
 simp only[Value.slice.injEq]at e4
 obtain⟨rfl,rfl,rfl⟩:=e4
 intro M fK eQ jo jU
 have jZ:=Mem.le_trans aZ fK
 have xi:=Mem.le_trans bR jo
 refine⟨fun xs _ _ m' q=>∃k:Nat,k≤A.sets.length∧xs=[.int .i64 k]∧m1.le m'∧rowRd m' a (ZaT (Zcf (ZmS (ZbV A) (ZbV A.turn) k) A.sets.length))∧rowRd m' a9 (ZaT (Zcf (ZbV A.turn) A.sets.length))∧q=A.sets.length - k,⟨_,0,Nat.zero_le _,rfl,fK,?_,r4.mono jU,rfl⟩,?_⟩
 ·have e:Zcf (ZmS (ZbV A) (ZbV A.turn) 0) A.sets.length=Zcf (ZbV A) A.sets.length:=Zbk fun x _=>by unfold ZmS;simp
  rw[e];exact r2.mono eQ
 rintro z m5 q _ ⟨k,hk,hz,cV,ra,r9,hq⟩
 obtain rfl:z=k:=by simpa using hz
 subst hq
 refine Zab (fun bK=>?_) (fun cL=>?_)
 ·have aY:k < A.sets.length:=by have:=of_decide_eq_true bK;omega
  obtain⟨ba,oa,ea,ve⟩:=Za6 ra (ZoV _ aY)
  obtain⟨b9,o9,e9,xj⟩:=Za6 r9 (ZoV _ aY)
  have eU:m1.free ba:=n2 ba oa ea
  have cM:b9≠ba:=fun e=>by
   subst e
   obtain⟨bq,oq,eq,hq⟩:=Za6 r2 (ZoV _ aY)
   rw[ea]at eq;cases eq
   have h3:=bR _ _ _ hq
   rw[n4 b9 o9 e9]at h3;cases h3
  have dI:(ZmS (ZbV A) (ZbV A.turn) k) k=ZbV A k:=by unfold ZmS;simp
  refine⟨ba,oa,ea,⟨by omega,by omega⟩,_,(by rw[Int.toNat_natCast];exact ve),b9,o9,e9,⟨by omega,by omega⟩,_,(by rw[Int.toNat_natCast];exact xj),Zaa rfl ⟨ba,oa,ea,⟨by omega,by omega⟩,(DomK.le (Mem.le_refl m5)).one (show m5 ba (oa+(k:Int).toNat*1)=some _ by rw[Int.toNat_natCast];exact ve),ZlT aZ eU,by trivial,fun e=>?_,by trivial,_,by omega,k+1,aY,by rw[Zat (by omega) (by omega)];rfl,ZvH cV eU,?_,?_,rfl⟩⟩
  ·subst e
   have:=eL 0 _ rfl
   rw[eU]at this;cases this
  ·rcases ra with ra|⟨ba',oa',ea',ra⟩
   ·have:=congrArg List.length ra
    rw[Zcj,ZbN,List.length_nil]at this
    omega
   ·rw[ea]at ea';cases ea'
    refine .inr ⟨ba,oa,ea,?_⟩
    rw[dI]
    have hv:IntKind.i64.wrap (intOf (.int .i64 ((if ZbV A k then 1 else 0:Nat):Int))*intOf (.int .i64 ((if ZbV A.turn k then 1 else 0:Nat):Int)))=((if ZbV A k&&ZbV A.turn k then 1 else 0:Nat):Int):=by
     cases ZbV A k <;> cases ZbV A.turn k <;> rfl
    rw[hv,Int.toNat_natCast,Nat.mul_one,←Zqf aY,←ZoU (ZbN _ _) aY]
    exact Zrd ra (by rw[Zcj,ZbN];simp;omega)
  ·exact Zuj r9 fun b' o e=>by rw[e9]at e;cases e;exact cM
 ·have:k=A.sets.length:=by have:=of_decide_eq_false cL;omega
  subst this
  refine Zaq (Zm8 _ A.sets.length a c m5 ra (by omega)) Za7 ?_
  intro a7 n7 c7 m7 iH hR
  rw[ZsG hA]at hR
  exact⟨m7,Mem.le_trans aZ (Mem.le_trans cV iH),Mem.le_refl _,hR⟩
end Go.Proofs.Ytplacemlpkhmfaa
set_option linter.unusedVariables false
namespace Go.Proofs.Ytplacemlpkhmfaa
open Go Go.Eng Go.Proofs Go.RowKit
open Go.Value (int slice agg)
open Go.IntKind (u8 u64 i64)
set_option maxRecDepth 100000
end Go.Proofs.Ytplacemlpkhmfaa
set_option linter.unusedVariables false
namespace Go.Proofs.Ytplacemlpkhmfaa
open Go Go.Eng Go.Proofs Go.RowKit
open Go.Value (int slice agg)
open Go.IntKind (u8 u64 i64)
set_option maxRecDepth 100000
end Go.Proofs.Ytplacemlpkhmfaa
set_option linter.unusedVariables false
set_option linter.unusedSimpArgs false
set_option linter.unusedSectionVars false
namespace Go.Proofs.Ytplacemlpkhmfaa
open Go Go.Eng Go.Rx Go.Proofs Go.RowKit
set_option maxRecDepth 100000
theorem Rgs.get{m:Mem}{a l}(h:Rgs m a l){i:Nat}{r:Rg}(hi:l[i]?=some r):(∃b o,a=some ⟨b,o,none⟩∧m.reads b (o+i*10) r.cs)∧Rep m r.t:=by
 refine⟨?_,h.2.2 r (List.mem_of_getElem? hi)⟩
 rcases h.2.1 with h|⟨b,o,h1,h2⟩
 ·subst h;simp at hi
 ·exact⟨b,o,h1,h2 i r hi⟩
end Go.Proofs.Ytplacemlpkhmfaa
set_option linter.unusedVariables false
set_option linter.unusedSimpArgs false
set_option linter.unusedSectionVars false
namespace Go.Proofs.Ytplacemlpkhmfaa
open Go Go.Eng Go.Rx Go.Proofs Go.RowKit
set_option maxRecDepth 100000
theorem Zxs{n:Int}(h1:0≤n)(h2:n < 256):IntKind.u8.wrap n=n:=by
 unfold IntKind.wrap
 simp only[IntKind.bits,IntKind.signed,Bool.false_and,Bool.false_eq_true,if_false]
 have e:(2:Int) ^ 8=256:=by decide
 rw[e];omega
end Go.Proofs.Ytplacemlpkhmfaa
set_option linter.unusedVariables false
set_option linter.unusedSimpArgs false
set_option linter.unusedSectionVars false
namespace Go.Proofs.Ytplacemlpkhmfaa
open Go Go.Eng Go.Rx Go.Proofs Go.RowKit
set_option maxRecDepth 100000
theorem Ztq{m:Mem}{b:Nat}(s:List Nat)(h:∀c∈s,c < 256):Byt (m.add b (s.map fun c:Nat=>Value.int .u8 c)) (some ⟨b,0,none⟩) s:=
 ⟨.inr ⟨b,0,rfl,fun j v hj=>by rw[Nat.zero_add,Mem.add_same];exact hj⟩,h⟩
end Go.Proofs.Ytplacemlpkhmfaa
set_option linter.unusedVariables false
set_option linter.unusedSimpArgs false
set_option linter.unusedSectionVars false
namespace Go.Proofs.Ytplacemlpkhmfaa
open Go Go.Eng Go.Rx Go.Proofs Go.RowKit
set_option maxRecDepth 100000
end Go.Proofs.Ytplacemlpkhmfaa
set_option linter.unusedVariables false
set_option linter.unusedSimpArgs false
set_option linter.unusedSectionVars false
namespace Go.Proofs.Ytplacemlpkhmfaa
open Go Go.Eng Go.Rx Go.Proofs Go.RowKit
set_option maxRecDepth 100000
structure Sm (m:Mem)(a:Option Addr)(l:List (Nat×Nat×Nat)):Prop where
 len:l.length≤9223372036854775807
 byte:∀s∈l,s.1 < 256∧s.2.1 < 256∧s.2.2 < 256
 at':∀i s,l[i]?=some s→∃b o,a=some ⟨b,o,none⟩∧m.reads b (o+i*3) [.int .u8 s.1,.int .u8 s.2.1,.int .u8 s.2.2]
theorem Sm.mono{m m':Mem}{a l}(h:Sm m a l)(hm:m.le m'):Sm m' a l:=
 ⟨h.len,h.byte,fun i s hi=>by obtain⟨b,o,h1,h2⟩:=h.at' i s hi;exact⟨b,o,h1,h2.mono hm⟩⟩
end Go.Proofs.Ytplacemlpkhmfaa
set_option linter.unusedVariables false
set_option linter.unusedSimpArgs false
namespace Go.Proofs.Ytplacemlpkhmfaa
open Go Go.Eng Go.Rx Go.Proofs Go.RowKit Go.ChangeShapes Go.WideShapes Go.ChangeAt
set_option maxRecDepth 100000
theorem ZwC:ownKnob Try.prog.godebug=none:=by kernel_rfl
theorem ZvI:laidOutB Try.prog=true:=by kernel_rfl
theorem Zxt{n:Int}(h:(Lit.int .u8 n).wf=true):0≤n∧n < 256:=by
 have:0≤n∧n≤255:=by simpa[Lit.wf,IntKind.min,IntKind.max,IntKind.signed,IntKind.bits]using h
 omega
theorem ZsH{w:World}{a:Addr}{v:Value}(h:w.cell? ((a.add (0*3)).add 0)=some v):∃b o,a=⟨b,o,none⟩:=by
 obtain⟨b,o,sp⟩:=a
 cases sp with
 | none=>exact⟨b,o,rfl⟩
 | some s=>
  exfalso
  have e:(Addr.add (Addr.add ⟨b,o,some s⟩ (0*3)) 0)=⟨b,o,some s⟩:=rfl
  rw[e]at h
  unfold World.cell? at h
  split at h
  ·simp at h
  ·cases h
theorem ZoX(a:Option Addr)(n c:Nat):(Value.slice a n c).cells.toList=[.slice a n c]:=rfl
theorem ZwD:Try.prog.cellsOf 5=1:=by kernel_rfl
theorem ZvJ{H:Type}{enc:TypeId×Value→H}{W:World}{held:Bool}{v:Value}{d:DataW H}{ps:List MemPlace}{r:Reach}{b0:Nat}(iM:Value.okWide Try.prog W r b0 30 v)(h:DataW.Trod enc Try.prog W 0 (fun _=>true) held 30 v d ps):
  ∃s a c,v=.slice a s.length c∧Byt (Zo5 W) a s∧s.length≤c∧s.length≤9223372036854775807:=by
 obtain⟨n,h⟩:=h
 obtain⟨a0,len0,cap0,rfl⟩:=okWide_slice Try.underlying30 iM
 rw[ZoX]at h
 rcases Go.Deep.open_slice1 Try.underlying30 ZwD h with⟨bT,_⟩|⟨a,len,m,m',n',V,D,Pl,bT,hb,hl,hm,fM,_,hx⟩
 ·exact⟨[],none,0,by simpa using bT,⟨.inl rfl,by simp⟩,Nat.le_refl _,by simp⟩
 ·simp only[if_true]at fM
  subst fM
  have hm':m'≤9223372036854775807:=by simp[maxLen]at hm;omega
  obtain⟨F,hF⟩:=Go.Deep.choose_lt (α:=Nat) (n:=m') (p:=fun i s=>W.cell? (a.add i)=some (.int .u8 (s:Nat))∧s < 256) (fun i hi=>by
   obtain⟨h1,h2⟩:=hx i hi
   obtain⟨k,hk,_,hw⟩:=DataW.trod_int Try.underlying5 h2
   have:=Zxt hw
   obtain⟨k',rfl⟩:∃k':Nat,k=k':=⟨k.toNat,by omega⟩
   simp at hk
   exact⟨k',by rw[h1,hk],by omega⟩)
  refine⟨(List.range len).map F,some a,m',by have:=bT;simp at this ⊢;exact this,⟨?_,?_⟩,by simpa using hl,by simp;omega⟩
  ·by_cases h0:len=0
   ·left;subst h0;rfl
   ·right
    obtain⟨b,o,rfl⟩:=ZsH (a:=a) (v:=.int .u8 (F 0:Nat)) (by
     have:=(hF 0 (by omega)).1
     exact this)
    refine⟨b,o,rfl,fun j v hj=>?_⟩
    rw[List.map_map,List.getElem?_map]at hj
    obtain⟨i',hi',rfl⟩:=Option.map_eq_some_iff.1 hj
    have bK:j < len:=by have:=(List.getElem?_eq_some_iff.1 hi').1;simpa using this
    have e:i'=j:=by rw[List.getElem?_range bK]at hi';exact(Option.some.inj hi').symm
    subst e
    have:=(hF i' (by omega)).1
    rw[ZaS]at this
    exact this
  ·intro c hc
   obtain⟨i,hi,rfl⟩:=List.mem_map.1 hc
   exact(hF i (by have:=List.mem_range.1 hi;omega)).2
end Go.Proofs.Ytplacemlpkhmfaa
set_option linter.unusedVariables false
namespace Go.Proofs.Ytplacemlpkhmfaa
open Go Go.Eng Go.Proofs Go.RowKit
open Go.Value (int slice agg)
open Go.IntKind (u8 u64 i64)
set_option maxRecDepth 100000
noncomputable def ZoY:Env:=EB
def Zie(p0:Int)(m:Mem)(R:RT):Prop:=
 ∀(b b:Nat),(64:Int)≠(0:Int)∧(64:Int)≠(0:Int)∧(0:Int)≤Int.tmod p0 (64:Int)∧Zac (IntKind.wrap u8 (Int.tdiv p0 (64:Int))) 4∧chk (Nat.ble (0+Int.toNat (IntKind.wrap u8 (Int.tdiv p0 (64
 : Int)))*1) (nat_lit 3)) (chk (Nat.beq (List.length (Zan [int u64 0,int u64 0,int u64 0,int u64 0] (0+Int.toNat (IntKind.wrap u8 (Int.tdiv p0 (64:Int)))*1) [int u64 (IntKind.wrap u64 ((1:Int)*(2:Int)
 ^ min (Int.toNat (Int.tmod p0 (64:Int))) 64))])) 4&&Zcu (Zan [int u64 0,int u64 0,int u64 0,int u64 0] (0+Int.toNat (IntKind.wrap u8 (Int.tdiv p0 (64:Int)))*1) [int u64 (IntKind.wrap u64 ((1:Int) *
 (2:Int) ^ min (Int.toNat (Int.tmod p0 (64:Int))) 64))])) (∃(m'':Mem),Mem.le m m''∧Mem.le m'' m∧R (agg (Array.mk (Zan [int u64 0,int u64 0,int u64 0,int u64 0] (0+Int.toNat (IntKind.wrap u8 (Int.tdiv
 p0 (64:Int)))*1) [int u64 (IntKind.wrap u64 ((1:Int)*(2:Int) ^ min (Int.toNat (Int.tmod p0 (64:Int))) 64))]))) m'' []))
theorem ZmL(p0:Int)(m:Mem)(R:RT)(h:Zie p0 m R):CX Try.prog 52 #[.int .u8 p0] m [] R:=
 Zaj (E:=ZoY) Zaw mix Try.func52 [.v (.int .u8 p0)] [] (by kernel_rfl) (Eq.mp (by kernel_rfl) h)
noncomputable def Zjg:Env:=EB
def Zfa(p0:Int)(m:Mem)(R:RT):Prop:=
 ∀(b:Nat),∃(R_1:RT),True∧CX Try.prog 52 (Array.mk [int u8 p0]) m [] R_1∧ZaA (Shape.agg [Shape.int u64,Shape.int u64,Shape.int u64,Shape.int u64]) R_1∧∀(n n_1 n_2 n_3:Int)(m':Mem),Mem.le m m'→
 R_1 (agg (Array.mk [int u64 n,int u64 n_1,int u64 n_2,int u64 n_3])) m' []→∃(m'':Mem),Mem.le m m''∧Mem.le m'' m'∧R (agg (Array.mk [int u8 2,int u64 n,int u64 n_1,int u64 n_2,int u64 n_3,int i64 0,int
 i64 0,slice none 0 0])) m'' []
theorem Zif(p0:Int)(m:Mem)(R:RT)(h:Zfa p0 m R):CX Try.prog 51 #[.int .u8 p0] m [] R:=
 Zaj (E:=Zjg) Zaw mix Try.func51 [.v (.int .u8 p0)] [] (by kernel_rfl) (Eq.mp (by kernel_rfl) h)
noncomputable def Zlb:Env:={ EB with
 dr:=(fun i=>bif Nat.beq i 2 then[⟨0,[1],[],none,[],[]⟩,⟨1,[],[],none,[],[]⟩,⟨2,[26],[26],none,[0,1],[1]⟩,⟨3,[26],[],none,[0,1,2],[]⟩,⟨4,[28],[28],none,[0,1,2,3],[2]⟩,⟨5,[28],[],none,[0,1,2,3,4],[]⟩,⟨6,[2],[2],none,[],[]⟩,⟨7,[2],[2],none,[0,1,2,3,4,5,6],[]⟩]else[]) }
abbrev ZcE:Int→Int→Int→Int→Int→Int→Int→Option Addr→Nat→Nat→Int→Int→Int→Int→Int→Int→Int→Option Addr→Nat→Nat→List Value:=fun(n ae af ag ah ai aj:Int) (a:Option
 Addr) (ak c:Nat) (ao ap aq ar bd be bf:Int) (fy:Option Addr) (bg bh:Nat)=>[int u8 n,int u64 ae,int u64 af,int u64 ag,int u64 ah,int i64 ai,int i64 aj,slice a ak c,int u8 ao,int u64 ap,int u64 aq,int
 u64 ar,int u64 bd,int i64 be,int i64 bf,slice fy bg bh]
abbrev ZdK:Nat→Int→Int→Int→Int→Int→Int→Int→Option Addr→Nat→Nat→List Value:=fun(b:Nat)(n ae af ag ah ai aj:Int)(a:Option Addr)(ak c:Nat)=>[int u8 3,int u64 0,int u64
 0,int u64 0,int u64 0,int i64 0,int i64 0,slice (some (Addr.mk b 0 none)) 2 2,int u8 n,int u64 ae,int u64 af,int u64 ag,int u64 ah,int i64 ai,int i64 aj,slice a ak c]
abbrev Za1:Int→Int→Int→Int→Int→Int→Int→Int→Int→Int→Int→Int→List Value:=fun(n ae af ag ah ai aj ak ao ap aq ar:Int)=>[int u64 n,int u64 ae,int u64 af,int u64 ag,int u64 ah,
 int u64 ai,int u64 aj,int u64 ak,int u64 ao,int u64 ap,int u64 aq,int u64 ar]
abbrev Zbh:Int→Int→Int→Int→List Value:=fun(n ae af ag:Int)=>[int u64 n,int u64 ae,int u64 af,int u64 ag,int u64 n,int u64 ae,int u64 af,int u64 ag,int u64 n,int u64 ae,int u64 af,
 int u64 ag]
def ZfM  (m:Mem)(R:RT):Prop:=
 ∃(R_1:RT),True∧CX Try.prog 51 (Array.mk [int u8 97]) m [] R_1∧ZaA (shT) R_1∧∀(n ae af ag ah ai aj:Int)(a:Option Addr)(ak c:Nat)(m':Mem),Mem.le m m'→R_1 (agg (Array.mk [int u8 n,int u64 ae,int
 u64 af,int u64 ag,int u64 ah,int i64 ai,int i64 aj,slice a ak c])) m' []→∃(R_2:RT),True∧CX Try.prog 51 (Array.mk [int u8 98]) m' [] R_2∧ZaA (shT) R_2∧∀(ao ap aq ar bd be bf:Int)(bu:Option Addr)
 (bg bh:Nat) (bi:Mem),Mem.le m' bi→R_2 (agg (Array.mk [int u8 ao,int u64 ap,int u64 aq,int u64 ar,int u64 bd,int i64 be,int i64 bf,slice bu bg bh])) bi []→∀(b:Nat),Mem.free bi b→∀(fz:Nat),∃(f:
 Fx),∃(R_3:RT),R_3=f 1 [int u8 99] (Mem.add bi b (ZcE n ae af ag ah ai aj a ak c ao ap aq ar bd be bf bu bg bh))∧CX Try.prog 51 (Array.mk [int u8 99]) (Mem.add bi b (ZcE n ae af ag ah ai aj
 a ak c ao ap aq ar bd be bf bu bg bh)) [] R_3∧ZaA (shT) R_3∧∀(bw bx bz ca cb cc cd:Int)(ce:Option Addr)(cf cg:Nat)(m':Mem),Mem.le (Mem.add bi b (ZcE n ae af ag ah ai aj a ak c ao ap aq ar bd
 be bf bu bg bh)) m'→R_3 (agg (Array.mk [int u8 bw,int u64 bx,int u64 bz,int u64 ca,int u64 cb,int i64 cc,int i64 cd,slice ce cf cg])) m' []→∀(bv:Nat),Mem.free m' bv→∀(di:Nat),Mem.free (Mem.add m' bv
 (ZdK b bw bx bz ca cb cc cd ce cf cg)) di→∀(f0:Nat)(M:Mem),Mem.le (Mem.add bi b (ZcE n ae af ag ah ai aj a ak c ao ap aq ar bd be bf bu bg bh)) M→Mem.le m' M→Mem.le (Mem.add m' bv
 (ZdK b bw bx bz ca cb cc cd ce cf cg)) M→Mem.le (Mem.add (Mem.add m' bv (ZdK b bw bx bz ca cb cc cd ce cf cg)) di [int u8 4,int u64 0,int u64 0,int u64 0,int u64 0,int i64 0,int i64 0,
 slice (some (Addr.mk bv 0 none)) 2 2]) M→∃(R_4:RT),True∧CX Try.prog 14 (Array.mk [agg (Array.mk [int u8 5,int u64 0,int u64 0,int u64 0,int u64 0,int i64 0,int i64 (-1:Int),slice (some (Addr.mk di 0
 none)) 1 1])]) M [] R_4∧ZaA (Shape.tup [Shape.agg [Shape.slice,Shape.slice,Shape.slice,Shape.slice,Shape.bool],Shape.int i64]) R_4∧∀(a:Option Addr)(n c:Nat)(ch:Option Addr)(ci cj:Nat) (ck:Option
 Addr) (cl cm:Nat) (cn:Option Addr) (co cp:Nat) (cq:Bool) (ee:Int) (m':Mem),Mem.le M m'→R_4 (Value.tuple (Array.mk [agg (Array.mk [slice a n c,slice ch ci cj,slice ck cl cm,slice cn co cp,Value.bool
 cq]),int i64 ee])) m' []→∀(f1:Nat),∃(R_5:RT),True∧CX Try.prog 52 (Array.mk [int u8 97]) m' [] R_5∧ZaA (Shape.agg [Shape.int u64,Shape.int u64,Shape.int u64,Shape.int u64]) R_5∧∀(au av aw ax:Int)
 (cr:Mem),Mem.le m' cr→R_5 (agg (Array.mk [int u64 au,int u64 av,int u64 aw,int u64 ax])) cr []→∃(R_6:RT),True∧CX Try.prog 52 (Array.mk [int u8 98]) cr [] R_6∧ZaA (Shape.agg [Shape.int u64,Shape.int
 u64,Shape.int u64,Shape.int u64]) R_6∧∀(ay az a0 a1:Int)(m':Mem),Mem.le cr m'→R_6 (agg (Array.mk [int u64 ay,int u64 az,int u64 a0,int u64 a1])) m' []→∃(R_7:RT),True∧CX Try.prog 52 (Array.mk [int
 u8 99]) m' [] R_7∧ZaA (Shape.agg [Shape.int u64,Shape.int u64,Shape.int u64,Shape.int u64]) R_7∧∀(a2 a3 a4 a5:Int)(al:Mem),Mem.le m' al→R_7 (agg (Array.mk [int u64 a2,int u64 a3,int u64 a4,int u64
 a5])) al []→∀(an:Nat),Mem.free al an→∀(a6:Nat),Mem.free (Mem.add al an (Za1 au av aw ax ay az a0 a1 a2 a3 a4 a5)) a6→∀(a9:Nat),Mem.free (Mem.add (Mem.add al an (Za1 au av aw ax ay
 az a0 a1 a2 a3 a4 a5)) a6 [int i64 0,int i64 2]) a9→∀(ba:Nat),Mem.free (Mem.add (Mem.add (Mem.add al an (Za1 au av aw ax ay az a0 a1 a2 a3 a4 a5)) a6 [int i64 0,int i64 2]) a9 [int i64 1,int i64 2])
 ba→∀(bj:Nat),Mem.free (Mem.add (Mem.add (Mem.add (Mem.add al an (Za1 au av aw ax ay az a0 a1 a2 a3 a4 a5)) a6 [int i64 0,int i64 2]) a9 [int i64 1,int i64 2]) ba [int i64 1]) bj→∀(bo:Nat),
 Mem.free (Mem.add (Mem.add (Mem.add (Mem.add (Mem.add al an (Za1 au av aw ax ay az a0 a1 a2 a3 a4 a5)) a6 [int i64 0,int i64 2]) a9 [int i64 1,int i64 2]) ba [int i64 1]) bj [int i64 0,int i64 2]) bo→∀
 (cs:Nat),Mem.free (Mem.add (Mem.add (Mem.add (Mem.add (Mem.add (Mem.add al an (Za1 au av aw ax ay az a0 a1 a2 a3 a4 a5)) a6 [int i64 0,int i64 2]) a9 [int i64 1,int i64 2]) ba [int i64 1]) bj [int i64 0,
 int i64 2]) bo [int i64 0,int i64 2]) cs→∀(f2:Nat),∃(R_8:RT),True∧CX Try.prog 51 (Array.mk [int u8 97]) (Mem.add (Mem.add (Mem.add (Mem.add (Mem.add (Mem.add (Mem.add al an (Za1 au av aw ax ay az
 a0 a1 a2 a3 a4 a5)) a6 [int i64 0,int i64 2]) a9 [int i64 1,int i64 2]) ba [int i64 1]) bj [int i64 0,int i64 2]) bo [int i64 0,int i64 2]) cs [slice (some (Addr.mk ba 0 none)) 1 1,slice (some (Addr.mk bj 0 none))
 2 2,slice (some (Addr.mk bo 0 none)) 2 2]) [] R_8∧ZaA (shT) R_8∧∀(dj dk dl dm dn dp dq:Int)(dr:Option Addr)(ds dt:Nat)(m':Mem),Mem.le (Mem.add (Mem.add (Mem.add (Mem.add (Mem.add (Mem.add (Mem.add al
 an (Za1 au av aw ax ay az a0 a1 a2 a3 a4 a5)) a6 [int i64 0,int i64 2]) a9 [int i64 1,int i64 2]) ba [int i64 1]) bj [int i64 0,int i64 2]) bo [int i64 0,int i64 2]) cs [slice (some (Addr.mk ba 0 none)) 1
 1,slice (some (Addr.mk bj 0 none)) 2 2,slice (some (Addr.mk bo 0 none)) 2 2]) m'→R_8 (agg (Array.mk [int u8 dj,int u64 dk,int u64 dl,int u64 dm,int u64 dn,int i64 dp,int i64 dq,slice dr ds dt])) m' []→∀(ct
 : Nat),Mem.free m' ct→∃(R_9:RT),True∧CX Try.prog 14 (Array.mk [agg (Array.mk [int u8 5,int u64 0,int u64 0,int u64 0,int u64 0,int i64 2,int i64 3,slice (some (Addr.mk ct 0 none)) 1 1])]) (Mem.add m' ct
 [int u8 dj,int u64 dk,int u64 dl,int u64 dm,int u64 dn,int i64 dp,int i64 dq,slice dr ds dt]) [] R_9∧ZaA (Shape.tup [Shape.agg [Shape.slice,Shape.slice,Shape.slice,Shape.slice,Shape.bool],Shape.int i64])
 R_9∧∀(ef:Option Addr)(eg eh:Nat)(ei:Option Addr)(ej ek:Nat)(el:Option Addr)(em en:Nat)(eo:Option Addr)(ep eq:Nat)(er:Bool)(es:Int)(cu:Mem),Mem.le (Mem.add m' ct [int u8 dj,int u64
 dk,int u64 dl,int u64 dm,int u64 dn,int i64 dp,int i64 dq,slice dr ds dt]) cu→R_9 (Value.tuple (Array.mk [agg (Array.mk [slice ef eg eh,slice ei ej ek,slice el em en,slice eo ep eq,Value.bool er]),int i64
 es])) cu []→∀(f3:Nat),∃(R_10:RT),True∧CX Try.prog 51 (Array.mk [int u8 97]) cu [] R_10∧ZaA (shT) R_10∧∀(du dv dw dx dy dz d0:Int)(d1:Option Addr)(d2 d3:Nat)(m':Mem),Mem.le cu m'→R_10 (agg
 (Array.mk [int u8 du,int u64 dv,int u64 dw,int u64 dx,int u64 dy,int i64 dz,int i64 d0,slice d1 d2 d3])) m' []→∀(cv:Nat),Mem.free m' cv→∃(R_11:RT),True∧CX Try.prog 14 (Array.mk [agg (Array.mk [int
 u8 5,int u64 0,int u64 0,int u64 0,int u64 0,int i64 2,int i64 (-1:Int),slice (some (Addr.mk cv 0 none)) 1 1])]) (Mem.add m' cv [int u8 du,int u64 dv,int u64 dw,int u64 dx,int u64 dy,int i64 dz,int i64
 d0,slice d1 d2 d3]) [] R_11∧ZaA (Shape.tup [Shape.agg [Shape.slice,Shape.slice,Shape.slice,Shape.slice,Shape.bool],Shape.int i64]) R_11∧∀(et:Option Addr)(eu ev:Nat)(ew:Option Addr)(ex ey:Nat) (ez
 : Option Addr) (e0 e1:Nat) (e2:Option Addr) (e3 e4:Nat) (e5:Bool) (e6:Int) (cw:Mem),Mem.le (Mem.add m' cv [int u8 du,int u64 dv,int u64 dw,int u64 dx,int u64 dy,int i64 dz,int i64 d0,slice d1 d2 d3])
 cw→R_11 (Value.tuple (Array.mk [agg (Array.mk [slice et eu ev,slice ew ex ey,slice ez e0 e1,slice e2 e3 e4,Value.bool e5]),int i64 e6])) cw []→∀(f4:Nat),∃(R_12:RT),True∧CX Try.prog 52 (Array.mk [int
 u8 97]) cw [] R_12∧ZaA (Shape.agg [Shape.int u64,Shape.int u64,Shape.int u64,Shape.int u64]) R_12∧∀(aa ab ac ad:Int)(m':Mem),Mem.le cw m'→R_12 (agg (Array.mk [int u64 aa,int u64 ab,int u64 ac,int u64
 ad])) m' []→∀(f5:Nat),br (!IntKind.wrap i64 (IntKind.wrap i64 (ee+es)+e6) == (0:Int)) (∃(m'':Mem),Mem.le m m''∧Mem.le m'' m'∧R (Value.bool false) m'' []) (∃(R_13:RT),True∧CX Try.prog 22
 (Array.mk [agg (Array.mk [slice a n c,slice ch ci cj,slice ck cl cm,slice cn co cp,Value.bool cq]),agg (Array.mk [slice (some (Addr.mk an 0 none)) 3 3,slice (some (Addr.mk cs 0 none)) 3 3,slice (some (Addr.mk a6
 0 none)) 2 2,slice (some (Addr.mk a9 0 none)) 2 2,Value.bool true])]) m' [] R_13∧ZaA Shape.bool R_13∧∀(e7:Bool)(am:Mem),Mem.le m' am→R_13 (Value.bool e7) am []→br (!e7) (∃(m'':Mem),Mem.le m m''∧
 Mem.le m'' am∧R (Value.bool false) m'' []) (∀(a7:Nat),Mem.free am a7→∀(bb:Nat),Mem.free (Mem.add am a7 (Zbh aa ab ac ad)) bb→∀(bk:Nat),Mem.free (Mem.add (Mem.add am a7 (Zbh aa ab
 ac ad)) bb [int i64 0]) bk→∀(bl:Nat),Mem.free (Mem.add (Mem.add (Mem.add am a7 (Zbh aa ab ac ad)) bb [int i64 0]) bk [int i64 1,int i64 2]) bl→∀(bp:Nat),Mem.free (Mem.add (Mem.add (Mem.add
 (Mem.add am a7 (Zbh aa ab ac ad)) bb [int i64 0]) bk [int i64 1,int i64 2]) bl [int i64 1]) bp→∀(cx:Nat),Mem.free (Mem.add (Mem.add (Mem.add (Mem.add (Mem.add am a7 (Zbh aa ab ac ad)) bb
 [int i64 0]) bk [int i64 1,int i64 2]) bl [int i64 1]) bp [int i64 2]) cx→∃(R_14:RT),True∧CX Try.prog 22 (Array.mk [agg (Array.mk [slice ef eg eh,slice ei ej ek,slice el em en,slice eo ep eq,Value.bool
 er]),agg (Array.mk [slice (some (Addr.mk a7 0 none)) 3 3,slice (some (Addr.mk cx 0 none)) 3 3,slice (some (Addr.mk bb 0 none)) 1 1,slice (some (Addr.mk bk 0 none)) 2 2,Value.bool false])]) (Mem.add (Mem.add
 (Mem.add (Mem.add (Mem.add (Mem.add am a7 (Zbh aa ab ac ad)) bb [int i64 0]) bk [int i64 1,int i64 2]) bl [int i64 1]) bp [int i64 2]) cx [slice (some (Addr.mk bl 0 none)) 1 1,slice (some (Addr.mk bp 0
 none)) 1 1,slice none 0 0]) [] R_14∧ZaA Shape.bool R_14∧∀(e8:Bool)(m':Mem),Mem.le (Mem.add (Mem.add (Mem.add (Mem.add (Mem.add (Mem.add am a7 (Zbh aa ab ac ad)) bb [int i64 0]) bk [int i64 1,int
 i64 2]) bl [int i64 1]) bp [int i64 2]) cx [slice (some (Addr.mk bl 0 none)) 1 1,slice (some (Addr.mk bp 0 none)) 1 1,slice none 0 0]) m'→R_14 (Value.bool e8) m' []→br (!e8) (∃(m'':Mem),Mem.le m m''∧Mem.le
 m'' m'∧R (Value.bool false) m'' []) (∀(a8:Nat),Mem.free m' a8→∀(bc:Nat),Mem.free (Mem.add m' a8 [int u64 aa,int u64 ab,int u64 ac,int u64 ad,int u64 aa,int u64 ab,int u64 ac,int u64 ad]) bc→∀(bm:
 Nat),Mem.free (Mem.add (Mem.add m' a8 [int u64 aa,int u64 ab,int u64 ac,int u64 ad,int u64 aa,int u64 ab,int u64 ac,int u64 ad]) bc [int i64 0]) bm→∀(bn:Nat),Mem.free (Mem.add (Mem.add (Mem.add m' a8 [int
 u64 aa,int u64 ab,int u64 ac,int u64 ad,int u64 aa,int u64 ab,int u64 ac,int u64 ad]) bc [int i64 0]) bm [int i64 1]) bn→∀(bq:Nat),Mem.free (Mem.add (Mem.add (Mem.add (Mem.add m' a8 [int u64 aa,int u64 ab,
 int u64 ac,int u64 ad,int u64 aa,int u64 ab,int u64 ac,int u64 ad]) bc [int i64 0]) bm [int i64 1]) bn [int i64 1]) bq→∀(cy:Nat),Mem.free (Mem.add (Mem.add (Mem.add (Mem.add (Mem.add m' a8 [int u64 aa,int
 u64 ab,int u64 ac,int u64 ad,int u64 aa,int u64 ab,int u64 ac,int u64 ad]) bc [int i64 0]) bm [int i64 1]) bn [int i64 1]) bq [int i64 1]) cy→∃(R_15:RT),True∧CX Try.prog 22 (Array.mk [agg (Array.mk [slice
 et eu ev,slice ew ex ey,slice ez e0 e1,slice e2 e3 e4,Value.bool e5]),agg (Array.mk [slice (some (Addr.mk a8 0 none)) 2 2,slice (some (Addr.mk cy 0 none)) 2 2,slice (some (Addr.mk bc 0 none)) 1 1,slice (some
 (Addr.mk bm 0 none)) 1 1,Value.bool false])]) (Mem.add (Mem.add (Mem.add (Mem.add (Mem.add (Mem.add m' a8 [int u64 aa,int u64 ab,int u64 ac,int u64 ad,int u64 aa,int u64 ab,int u64 ac,int u64 ad]) bc [int i64
 0]) bm [int i64 1]) bn [int i64 1]) bq [int i64 1]) cy [slice (some (Addr.mk bn 0 none)) 1 1,slice (some (Addr.mk bq 0 none)) 1 1]) [] R_15∧ZaA Shape.bool R_15∧∀(e9:Bool)(bs:Mem),Mem.le (Mem.add (Mem.add
 (Mem.add (Mem.add (Mem.add (Mem.add m' a8 [int u64 aa,int u64 ab,int u64 ac,int u64 ad,int u64 aa,int u64 ab,int u64 ac,int u64 ad]) bc [int i64 0]) bm [int i64 1]) bn [int i64 1]) bq [int i64 1]) cy [slice (some
 (Addr.mk bn 0 none)) 1 1,slice (some (Addr.mk bq 0 none)) 1 1]) bs→R_15 (Value.bool e9) bs []→br (!e9) (∃(m'':Mem),Mem.le m m''∧Mem.le m'' bs∧R (Value.bool false) m'' []) (∀(cz:Nat),Mem.free bs cz→∃
 (R_16:RT),True∧CX Try.prog 27 (Array.mk [agg (Array.mk [slice a n c,slice ch ci cj,slice ck cl cm,slice cn co cp,Value.bool cq]),slice (some (Addr.mk cz 0 none)) 1 1,int u8 97]) (Mem.add bs cz [int i64 (-1:
 Int)]) [] R_16∧ZaA (Shape.tup [Shape.slice,Shape.int i64]) R_16∧∀(fa:Option Addr)(fb fc:Nat)(fd:Int)(m':Mem),Mem.le (Mem.add bs cz [int i64 (-1:Int)]) m'→R_16 (Value.tuple (Array.mk [slice fa fb
 fc,int i64 fd])) m' []→∀(da:Nat),Mem.free m' da→∃(R_17:RT),True∧CX Try.prog 27 (Array.mk [agg (Array.mk [slice a n c,slice ch ci cj,slice ck cl cm,slice cn co cp,Value.bool cq]),slice (some (Addr.mk
 da 0 none)) 1 1,int u8 98]) (Mem.add m' da [int i64 (-1:Int)]) [] R_17∧ZaA (Shape.tup [Shape.slice,Shape.int i64]) R_17∧∀(a:Option Addr)(n c:Nat)(fe:Int)(db:Mem),Mem.le (Mem.add m' da [int i64 (-1
 : Int)]) db→R_17 (Value.tuple (Array.mk [slice a n c,int i64 fe])) db []→∃(R_18:RT),True∧CX Try.prog 14 (Array.mk [agg (Array.mk [int u8 3,int u64 0,int u64 0,int u64 0,int u64 0,int i64 0,int i64 0,
 slice (some (Addr.mk b 0 none)) 2 2])]) db [] R_18∧ZaA (Shape.tup [Shape.agg [Shape.slice,Shape.slice,Shape.slice,Shape.slice,Shape.bool],Shape.int i64]) R_18∧∀(a:Option Addr)(d4 c:Nat) (d5:Option
 Addr) (d6 d7:Nat) (d8:Option Addr) (d9 ea:Nat) (eb:Option Addr) (ec ed:Nat) (b:Bool) (ff:Int) (m':Mem),Mem.le db m'→R_18 (Value.tuple (Array.mk [agg (Array.mk [slice a d4 c,slice d5 d6 d7,slice d8
 d9 ea,slice eb ec ed,Value.bool b]),int i64 ff])) m' []→∀(f6 dc:Nat),Mem.free m' dc→∃(R_19:RT),True∧CX Try.prog 30 (Array.mk [agg (Array.mk [slice a d4 c,slice d5 d6 d7,slice d8 d9 ea,slice eb ec ed,
 Value.bool b]),slice (some (Addr.mk dc 0 none)) 4 4]) (Mem.add m' dc [int u8 97,int u8 98,int u8 97,int u8 98]) [] R_19∧ZaA (Shape.tup [Shape.slice,Shape.int i64]) R_19∧∀(fg:Option Addr)(fh fi:Nat) (fj:
 Int) (dd:Mem),Mem.le (Mem.add m' dc [int u8 97,int u8 98,int u8 97,int u8 98]) dd→R_19 (Value.tuple (Array.mk [slice fg fh fi,int i64 fj])) dd []→∃(R_20:RT),True∧CX Try.prog 16 (Array.mk [agg (Array.mk
 [slice a d4 c,slice d5 d6 d7,slice d8 d9 ea,slice eb ec ed,Value.bool b])]) dd [] R_20∧ZaA (Shape.tup [Shape.agg [Shape.slice,Shape.slice,Shape.slice,Shape.slice,Shape.bool],Shape.int i64]) R_20∧∀(a:
 Option Addr) (fk c:Nat) (fl:Option Addr) (fm fn:Nat) (fo:Option Addr) (fp fq:Nat) (fr:Option Addr) (fs ft:Nat) (b:Bool) (fu:Int) (m':Mem),Mem.le dd m'→R_20 (Value.tuple (Array.mk [agg (Array.mk
 [slice a fk c,slice fl fm fn,slice fo fp fq,slice fr fs ft,Value.bool b]),int i64 fu])) m' []→∀(f7 de:Nat),Mem.free m' de→∃(R_21:RT),True∧CX Try.prog 18 (Array.mk [agg (Array.mk [slice a fk c,slice
 fl fm fn,slice fo fp fq,slice fr fs ft,Value.bool b]),slice (some (Addr.mk de 0 none)) 2 2]) (Mem.add m' de [int u8 98,int u8 97]) [] R_21∧ZaA (Shape.tup [Shape.bool,Shape.int i64]) R_21∧∀(b:Bool) (fv:
 Int) (bt:Mem),Mem.le (Mem.add m' de [int u8 98,int u8 97]) bt→R_21 (Value.tuple (Array.mk [Value.bool b,int i64 fv])) bt []→br (IntKind.wrap i64 (IntKind.wrap i64 (IntKind.wrap i64 (IntKind.wrap i64
 (IntKind.wrap i64 (fd+fe)+ff)+fj)+fu)+fv) == (0:Int)) (∀(df:Nat),Mem.free bt df→∃(R_22:RT),True∧CX Try.prog 23 (Array.mk [slice fa fb fc,slice (some (Addr.mk df 0 none)) 1 1]) (Mem.add bt df
 [int i64 0]) [] R_22∧ZaA Shape.bool R_22∧∀(fw:Bool)(m':Mem),Mem.le (Mem.add bt df [int i64 0]) m'→R_22 (Value.bool fw) m' []→br fw (br ((↑n:Int) == (0:Int)) (∀(dg:Nat),Mem.free m' dg→∃(R_23:
 RT),True∧CX Try.prog 23 (Array.mk [slice fg fh fi,slice (some (Addr.mk dg 0 none)) 2 2]) (Mem.add m' dg [int i64 2,int i64 4]) [] R_23∧ZaA Shape.bool R_23∧∀(fx:Bool)(dh:Mem),Mem.le (Mem.add m' dg [int
 i64 2,int i64 4]) dh→R_23 (Value.bool fx) dh []→br fx (∃(m'':Mem),Mem.le m m''∧Mem.le m'' dh∧R (Value.bool b) m'' []) (∃(m'':Mem),Mem.le m m''∧Mem.le m'' dh∧R (Value.bool false) m'' [])) (∃(m'':
 Mem),Mem.le m m''∧Mem.le m'' m'∧R (Value.bool false) m'' [])) (∃(m'':Mem),Mem.le m m''∧Mem.le m'' m'∧R (Value.bool false) m'' [])) (∃(m'':Mem),Mem.le m m''∧Mem.le m'' bt∧R (Value.bool false) m''
 [])))))
theorem Zjh  (m:Mem)(R:RT)(h:ZfM  m R):CX Try.prog 12 #[] m [] R:=
 Zaj (E:=Zlb) Zaw mix Try.func12 [] [] (by kernel_rfl) (Eq.mp (by kernel_rfl) h)
end Go.Proofs.Ytplacemlpkhmfaa
set_option linter.unusedVariables false
set_option linter.unusedSimpArgs false
namespace Go.Proofs.Ytplacemlpkhmfaa
open Go Go.Eng Go.Rx Go.Proofs Go.RowKit
set_option maxRecDepth 100000
def q1(c:Nat):QS:=(Zb8 c 0,Zb8 c 1,Zb8 c 2,Zb8 c 3)
theorem Zl3(c:Nat)(hc:c < 256)(m:Mem):CX Try.prog 52 #[.int .u8 c] m [] (Ret (.agg #[.int .u64 (Zb8 c 0),.int .u64 (Zb8 c 1),.int .u64 (Zb8 c 2),.int .u64 (Zb8 c 3)])):=by
 apply ZmL
 unfold Zie
 intro b b1
 have hq:IntKind.u8.wrap (Int.tdiv (c:Int) 64)=((c / 64:Nat):Int):=by rw[Zw2];exact Zxs (by omega) (by omega)
 have hr:IntKind.u64.wrap (1*2 ^ min (Int.toNat (Int.tmod (c:Int) 64)) 64)=((2 ^ (c % 64):Nat):Int):=by
  rw[Zvr,Int.toNat_natCast,Nat.min_eq_left (by omega),Int.one_mul]
  have:=Zs2 (2 ^ (c % 64)) (by
   have:2 ^ (c % 64) < 2 ^ 64:=Nat.pow_lt_pow_right (by omega) (by omega)
   exact this)
  rw[←this];push_cast;rfl
 simp only[hq,hr,Int.toNat_natCast,Nat.zero_add,Nat.mul_one]
 refine⟨by omega,by omega,by rw[Zvr];omega,⟨by omega,by omega⟩,Zaa (by rw[Nat.ble_eq];omega) ?_⟩
 have:c / 64=0∨c / 64=1∨c / 64=2∨c / 64=3:=by omega
 rcases this with e|e|e|e <;>
 ·rw[e]
  refine Zaa rfl (Zag (Mem.le_refl _) ?_)
  unfold Zb8
  rw[e]
  rfl
theorem ZiI(c:Nat)(hc:c < 256)(m:Mem):CX Try.prog 51 #[.int .u8 c] m [] (Ret (Zbo c).v):=by
 apply Zif
 unfold Zfa
 intro b
 refine Zaq (Zl3 c hc m) (by rintro v m' css rfl;rfl) ?_
 intro n n1 n2 n3 m1 aZ hv
 simp only[Ret,Value.agg.injEq,Array.mk.injEq,List.cons.injEq,Value.int.injEq,true_and,and_true]at hv
 obtain⟨rfl,rfl,rfl,rfl⟩:=hv
 exact Zag aZ rfl
theorem ZdE{c:Nat}:∀(v:Value)(m':Mem) (css:List (List Value)),Ret (Zbo c).v v m' css→Shape.fits (.agg [.int .u8,.int .u64,.int .u64,.int .u64,.int .u64,.int .i64,.int .i64,.slice]) v=true:=by
 rintro v m' css rfl;rfl
theorem ZiJ{c:Nat}{m:Mem}{K:TRK}(k:∀m',m.le m'→K 2 (Zb8 c 0) (Zb8 c 1) (Zb8 c 2) (Zb8 c 3) 0 0 none 0 0 m'):
  ∀(n0 n1 n2 n3 n4 n5 n6:Int)(a:Option Addr)(n cc:Nat)(m':Mem),m.le m'→Ret (Zbo c).v (.agg #[.int .u8 n0,.int .u64 n1,.int .u64 n2,.int .u64 n3,.int .u64 n4,.int .i64 n5,.int .i64 n6,.slice a n cc]) m' []→K n0 n1 n2 n3 n4 n5 n6 a n cc m':=by
 intro n0 n1 n2 n3 n4 n5 n6 a n cc m' hm hv
 have hL:(Zbo c).v=(Value.agg #[.int .u8 2,.int .u64 (Zb8 c 0),.int .u64 (Zb8 c 1),.int .u64 (Zb8 c 2),.int .u64 (Zb8 c 3),.int .i64 0,.int .i64 0,.slice none 0 0]):=rfl
 rw[Ret,hL]at hv
 simp only[Value.agg.injEq,Array.mk.injEq,List.cons.injEq,Value.int.injEq,Value.slice.injEq,true_and,and_true]at hv
 obtain⟨rfl,rfl,rfl,rfl,rfl,rfl,rfl,rfl,rfl,rfl⟩:=hv
 exact k m' hm
theorem ZvK{c:Nat}{m:Mem}{K:Int→Int→Int→Int→Mem→Prop}(k:∀m',m.le m'→K (Zb8 c 0) (Zb8 c 1) (Zb8 c 2) (Zb8 c 3) m'):
  ∀(n0 n1 n2 n3:Int)(m':Mem),m.le m'→Ret (.agg #[.int .u64 (Zb8 c 0),.int .u64 (Zb8 c 1),.int .u64 (Zb8 c 2),.int .u64 (Zb8 c 3)]) (.agg #[.int .u64 n0,.int .u64 n1,.int .u64 n2,.int .u64 n3]) m' []→K n0 n1 n2 n3 m':=by
 intro n0 n1 n2 n3 m' hm hv
 simp only[Ret,Value.agg.injEq,Array.mk.injEq,List.cons.injEq,Value.int.injEq,true_and,and_true]at hv
 obtain⟨rfl,rfl,rfl,rfl⟩:=hv
 exact k m' hm
theorem Zlc{c:Nat}:∀(v:Value)(m':Mem) (css:List (List Value)),Ret (.agg #[.int .u64 (Zb8 c 0),.int .u64 (Zb8 c 1),.int .u64 (Zb8 c 2),.int .u64 (Zb8 c 3)]) v m' css→Shape.fits (.agg [.int .u64,.int .u64,.int .u64,.int .u64]) v=true:=by
 rintro v m' css rfl;rfl
theorem Zaz{m M:Mem}{b:Nat}{cs:List Value}(h:(m.add b cs).le M):rowRd M (some ⟨b,0,none⟩) cs:=
 .inr ⟨b,0,rfl,fun j v hj=>h _ _ _ (by rw[Nat.zero_add,Mem.add_same];exact hj)⟩
theorem ZdF{m M:Mem}{b:Nat}{l:List T}(hM:(m.add b (Rx.ZeA l)).le M)(hr:∀t∈l,Rep M t)(hl:l.length≤1000000000000000):RepL M (some ⟨b,0,none⟩) l:=
 Zve (Zaz hM) hr hl
abbrev NfK:=Option Addr→Nat→Nat→Option Addr→Nat→Nat→Option Addr→Nat→Nat→Option Addr→Nat→Nat→Bool→Int→Mem→Prop
theorem ZuA{A:Nf}{e:Int}{m:Mem}{K:NfK}(k:∀(sa fa xa ya:Option Addr)(sc fc xc yc:Nat)(m':Mem),m.le m'→NfR true A (.agg #[.slice sa A.sets.length sc,.slice fa A.fol.length fc,.slice xa A.first.length xc,.slice ya A.last.length yc,.bool A.empty]) m'→K sa A.sets.length sc fa A.fol.length fc xa A.first.length xc ya A.last.length yc A.empty e m'):
  ∀(a:Option Addr)(n c:Nat)(a1:Option Addr)(n1 c1:Nat)(a2:Option Addr)(n2 c2:Nat)(a3:Option Addr)(n3 c3:Nat)(b:Bool)(e':Int)(m':Mem),m.le m'→NfE A e (.tuple #[.agg #[.slice a n c,.slice a1 n1 c1,.slice a2 n2 c2,.slice a3 n3 c3,.bool b],.int .i64 e']) m' []→K a n c a1 n1 c1 a2 n2 c2 a3 n3 c3 b e' m':=by
 rintro a n c a1 n1 c1 a2 n2 c2 a3 n3 c3 b e' m' hm ⟨w,hv,hR⟩
 simp only[Value.tuple.injEq,Array.mk.injEq,List.cons.injEq,Value.int.injEq,true_and,and_true]at hv
 obtain⟨rfl,rfl⟩:=hv
 have hR':=hR
 obtain⟨s,f,x,y,hv,⟨sa,sc,rfl,_⟩,⟨fa,fc,vs,rfl,_⟩,⟨xa,xc,rfl,_⟩,⟨ya,yc,rfl,_⟩⟩:=hR
 simp only[Value.agg.injEq,Array.mk.injEq,List.cons.injEq,Value.slice.injEq,Value.bool.injEq,and_true]at hv
 obtain⟨⟨rfl,rfl,rfl⟩,⟨rfl,rfl,rfl⟩,⟨rfl,rfl,rfl⟩,⟨rfl,rfl,rfl⟩,rfl⟩:=hv
 exact k _ _ _ _ _ _ _ _ m' hm hR'
theorem ZwE{l:List Int}{e:Int}{m:Mem}{K:Option Addr→Nat→Nat→Int→Mem→Prop}(k:∀(a:Option Addr)(c:Nat)(m':Mem),m.le m'→rowRd m' a (Zap l)→l.length≤1000000→K a l.length c e m'):
  ∀(a:Option Addr)(n c:Nat)(e':Int)(m':Mem),m.le m'→ZvT l e (.tuple #[.slice a n c,.int .i64 e']) m' []→K a n c e' m':=by
 rintro a n c e' m' hm ⟨w,hv,a',c',rfl,hr,hl,_⟩
 simp only[Value.tuple.injEq,Array.mk.injEq,List.cons.injEq,Value.slice.injEq,Value.int.injEq,true_and,and_true]at hv
 obtain⟨⟨rfl,rfl,rfl⟩,rfl⟩:=hv
 exact k a c m' hm hr hl
theorem Zna{m:Mem}{a:Option Addr}{c:Nat}{fol:List (List Int)}{vs:List Value}(h:rowRd m a vs)(hl:vs.length=fol.length)(hn:fol.length≤1000000)(hv:∀(i:Nat)(v:Value)(l:List Int),vs[i]?=some v→fol[i]?=some l→SlI false l v m):FolR false fol (.slice a fol.length c) m:=⟨a,c,vs,rfl,h,hl,hn,hv⟩
theorem ZcW{m:Mem}{a:Option Addr}{c:Nat}{l:List Int}(h:rowRd m a (Zap l))(hl:l.length≤1000000):SlI false l (.slice a l.length c) m:=⟨a,c,rfl,h,hl,fun h=>by cases h⟩
def nfS:Nf:=⟨[q1 97,q1 98,q1 99],[[1],[0,2],[0,2]],[0,2],[1,2],true⟩
def nfF:Nf:=⟨[q1 97,q1 97,q1 97],[[1],[2],[]],[0],[1,2],false⟩
def nfM:Nf:=⟨[q1 97,q1 97],[[1],[1]],[0],[1],false⟩
def nfC:Nf:=⟨[q1 97,q1 98],[[1],[]],[0],[1],false⟩
def ZwF(a:Option Addr)(c:Nat):T:=ZfC 3 0 0 a c [Zbo 97,Zbo 98]
def Zwh(a a1 a2:Option Addr)(c c1 c2:Nat):T:=ZfC 5 0 (-1) a c [ZfC 4 0 0 a1 c1 [ZwF a2 c2,Zbo 99]]
def ZoZ(mn mx:Int)(a:Option Addr)(c:Nat):T:=ZfC 5 mn mx a c [Zbo 97]
theorem Ztr(a a1 a2:Option Addr)(c c1 c2:Nat):(Zwh a a1 a2 c c1 c2).ofN=nfS∧(Zwh a a1 a2 c c1 c2).ofE=0:=⟨by kernel_rfl,by kernel_rfl⟩
theorem ZvL(a:Option Addr)(c:Nat):(ZoZ 2 3 a c).ofN=nfF∧(ZoZ 2 3 a c).ofE=0:=⟨by kernel_rfl,by kernel_rfl⟩
theorem Zts(a:Option Addr)(c:Nat):(ZoZ 2 (-1) a c).ofN=nfM∧(ZoZ 2 (-1) a c).ofE=0:=⟨by kernel_rfl,by kernel_rfl⟩
theorem ZvM(a:Option Addr)(c:Nat):(ZwF a c).ofN=nfC∧(ZwF a c).ofE=0:=⟨by kernel_rfl,by kernel_rfl⟩
theorem Zgh:nfS.err [-1]=0∧nfS.step [-1] 97=[0]∧nfS.step [-1] 98=[]:=⟨by kernel_rfl,by kernel_rfl,by kernel_rfl⟩
theorem ZiK:nfC.right=true∧nfC.search [97,98,97,98]=[2,4]∧nfC.turn.right=true∧nfC.turn.matches [98,97]=true:=⟨by kernel_rfl,by kernel_rfl,by kernel_rfl,by kernel_rfl⟩
theorem Zw6{c:Nat}(h:c < 256):QOk (q1 c):=⟨Zen c 0,Zen c 1,Zen c 2,Zen c 3⟩
end Go.Proofs.Ytplacemlpkhmfaa
