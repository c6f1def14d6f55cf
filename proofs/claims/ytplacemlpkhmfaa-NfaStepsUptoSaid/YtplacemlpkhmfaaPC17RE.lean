/- Part of the proof: conditions and contracts of functions of this program. No condition of its own. -/
import Derived.Test.YtplacemlpkhmfaaPC17RD
import Derived.Test.YtplacemlpkhmfaaPVNW
set_option linter.unusedVariables false
set_option linter.unusedSimpArgs false
namespace Go.Proofs.Ytplacemlpkhmfaa
open Go Go.Eng Go.Rx Go.Proofs Go.RowKit
set_option maxRecDepth 100000
theorem Zib{st:Bool}(l:List Int)(v:Value)(m:Mem)(h:SlI st l v m):CX Try.prog 44 #[v] m [] (fun v m' _=>SlI st l v m'∧NewS m v):=(Zh5 l v m h).room.mono fun v m' css cQ ⟨m1,h0,h1,⟨hS,_⟩,hr⟩=>⟨hS.mono h1,Zmj hr⟩
theorem Zpe{st:Bool}(l:List QS)(v:Value)(m:Mem)(h:SlQ st l v m):CX Try.prog 77 #[v] m [] (fun v m' _=>SlQ st l v m'∧NewS m v):=(Zli l v m h).room.mono fun v m' css cQ ⟨m1,h0,h1,⟨hS,_⟩,hr⟩=>⟨hS.mono h1,Zmj hr⟩
theorem Zv8{st:Bool}{l:List Int}{v:Value}{m:Mem}(h:SlI st l v m):SlI false l v m:=by
 obtain⟨a,c,e,g1,g2,_⟩:=h
 exact⟨a,c,e,g1,g2,fun e=>by cases e⟩
theorem Zwt{st:Bool}{l:List QS}{v:Value}{m:Mem}(h:SlQ st l v m):SlQ false l v m:=by
 obtain⟨a,c,e,g1,g2,_⟩:=h
 exact⟨a,c,e,g1,g2,fun e=>by cases e⟩
theorem Zu9{st:Bool}{l:List Int}{v:Value}{m:Mem}(h:SlI st l v m)(hl:l≠[]){b o:Nat}(ha:slA v=some ⟨b,o,none⟩):¬m.free b:=by
 obtain⟨a,c,rfl,h1,_⟩:=h
 exact Zez h1 (fun e=>hl (by simpa[Zaq]using e)) ha
theorem Zwk{st:Bool}{l:List QS}{v:Value}{m:Mem}(h:SlQ st l v m)(hl:l≠[]){b o:Nat}(ha:slA v=some ⟨b,o,none⟩):¬m.free b:=by
 obtain⟨a,c,rfl,h1,_⟩:=h
 exact Zez h1 (fun e=>hl (by
  have:=congrArg List.length e
  rw[Zdy]at this
  exact List.eq_nil_of_length_eq_zero (by simp at this;omega))) ha
def Ztc(a:Option Addr)(v:Value):Prop:=∀b o o',slA v=some ⟨b,o,none⟩→a≠some ⟨b,o',none⟩
def CopyS(A:Nf)(m:Mem)(v:Value)(m':Mem):Prop:=∃s f x y,v=.agg #[s,f,x,y,.bool A.empty]∧(SlQ false A.sets s m'∧NewS m s)∧(SlI false A.first x m'∧NewS m x)∧(SlI false A.last y m'∧NewS m y)∧∃a c vs,f=.slice a A.fol.length c∧rowRd m' a vs∧vs.length=A.fol.length∧A.fol.length≤1000000∧(A.sets≠[]→Ztc a s)∧(A.first≠[]→Ztc a x)∧(A.last≠[]→Ztc a y)∧∀(i:Nat)(v:Value)(l:List Int),vs[i]?=some v→A.fol[i]?=some l→SlI false l v m'∧NewS m v∧(l≠[]→Ztc a v)
theorem CopyS.nf{A:Nf}{m m':Mem}{v:Value}(h:CopyS A m v m'):NfR false A v m':=by
 obtain⟨s,f,x,y,rfl,h1,h2,h3,a,c,vs,rfl,h4,h5,h6,g1,g2,g3,h7⟩:=h
 exact⟨_,_,_,_,rfl,h1.1,⟨a,c,vs,rfl,h4,h5,h6,fun i v l hv hl=>(h7 i v l hv hl).1⟩,h2.1,h3.1⟩
theorem CopyS.mono{A:Nf}{m m' M:Mem}{v:Value}(h:CopyS A m v m')(k:m'.le M):CopyS A m v M:=by
 obtain⟨s,f,x,y,rfl,h1,h2,h3,a,c,vs,rfl,h4,h5,h6,g1,g2,g3,h7⟩:=h
 exact⟨_,_,_,_,rfl,⟨h1.1.mono k,h1.2⟩,⟨h2.1.mono k,h2.2⟩,⟨h3.1.mono k,h3.2⟩,a,c,vs,rfl,h4.mono k,h5,h6,g1,g2,g3,fun i v l hv hl=>⟨(h7 i v l hv hl).1.mono k,(h7 i v l hv hl).2⟩⟩
theorem Zpf{A:Nf}{m:Mem}:∀(v:Value)(m':Mem) (css:List (List Value)),CopyS A m v m'→Shape.fits (.agg [.slice,.slice,.slice,.slice,.bool]) v=true:=by
 rintro v m' css ⟨s,f,x,y,rfl,⟨⟨_,_,rfl,_⟩,_⟩,⟨⟨_,_,rfl,_⟩,_⟩,⟨⟨_,_,rfl,_⟩,_⟩,_,_,_,rfl,_⟩;rfl
set_option maxHeartbeats 800000 in
theorem ZsY{st:Bool}(A:Nf)(v:Value)(m:Mem)(h:NfR st A v m)(hN:A.fol.length≤1000):CX Try.prog 26 #[v] m [] (fun v m' _=>CopyS A m v m'):=by
 obtain⟨s,f,x,y,rfl,⟨sa,sc,rfl,hs,dL,iw⟩,⟨fa,fc,vs,rfl,hf,f8,gN,fT⟩,⟨xa,xc,rfl,hx,dY,gq⟩,⟨ya,yc,rfl,hy,dD,gC⟩⟩:=h
 apply Zjp
 unfold Zgu
 intro b0 m1 bD _ _ _ b1
 refine⟨fun i _ m=>if i=2 then(fun v m' _=>SlQ st A.sets v m'∧NewS m v)else if i=5 then(fun v m' _=>SlI st A.first v m'∧NewS m v)else(fun v m' _=>SlI st A.last v m'∧NewS m v),?_⟩
 refine⟨_,rfl,Zpe A.sets _ m1 ⟨sa,sc,rfl,hs.mono bD,dL,iw⟩,fun v m' css h=>ZpZ v m' css h.1,fun a2 n2 c2 m2 bZ jm=>?_⟩
 refine⟨_,rfl,Zib A.first _ m2 ⟨xa,xc,rfl,(hx.mono bD).mono bZ,dY,gq⟩,fun v m' css h=>ZbB v m' css h.1,fun a3 n3 c3 m3 cD iQ=>?_⟩
 refine⟨_,rfl,Zib A.last _ m3 ⟨ya,yc,rfl,((hy.mono bD).mono bZ).mono cD,dD,gC⟩,fun v m' css h=>ZbB v m' css h.1,fun a4 n4 c4 m4 dC iR=>?_⟩
 have jm:SlQ st A.sets (.slice a2 n2 c2) m2∧NewS m1 (.slice a2 n2 c2):=jm
 have iQ:SlI st A.first (.slice a3 n3 c3) m3∧NewS m2 (.slice a3 n3 c3):=iQ
 have iR:SlI st A.last (.slice a4 n4 c4) m4∧NewS m3 (.slice a4 n4 c4):=iR
 intro b2 M gj fZ jx j8
 have gO:m.le M:=Mem.le_trans bD gj
 have hU:m.le m2:=Mem.le_trans bD bZ
 have kT:m.le m3:=Mem.le_trans hU cD
 refine⟨fun xs css tvs m' q=>∃(k:Nat)(a:Option Addr)(c:Nat),k≤A.fol.length∧xs=[.int .i64 k]∧css=[[.slice a2 n2 c2,.slice a k c,.slice a3 n3 c3,.slice a4 n4 c4,.bool A.empty]]∧tvs=[.slice a k c]∧M.le m'∧(∃ws,rowRd m' a ws∧ws.length=k∧(k=0→a=none)∧(∀b o,a=some ⟨b,o,none⟩→M.free b)∧∀(i:Nat)(v:Value)(l:List Int),ws[i]?=some v→A.fol[i]?=some l→SlI false l v m'∧NewS m v∧(l≠[]→Ztc a v))∧q=A.fol.length - k,
  ⟨_,0,none,0,by omega,rfl,rfl,rfl,Mem.le_refl _,⟨[],.inl rfl,rfl,fun _=>rfl,fun b o e=>(by cases e),fun i v l hv=>by simp at hv⟩,rfl⟩,?_⟩
 rintro z cs a n c m5 q _ ⟨k,a',c',hk,hz,cF,dB,cX,⟨ws,dT,dE,oJ,j9,iv⟩,hq⟩
 obtain rfl:z=k:=by simpa using hz
 obtain rfl:cs=_:=by simpa using cF
 simp only[List.cons.injEq,Value.slice.injEq,and_true]at dB
 obtain⟨rfl,rfl,rfl⟩:=dB
 subst hq
 refine Zab (fun bV=>?_) (fun cK=>?_)
 ·have bF:n < A.fol.length:=by have:=of_decide_eq_true bV;omega
  obtain⟨l,hl⟩:=Zam bF
  obtain⟨u,hu⟩:=Zam (l:=vs) (k:=n) (by omega)
  have rM:=fT n u l hu hl
  obtain⟨fb,fo,gz,dU⟩:=ZbO (hf.mono (Mem.le_trans gO cX)) hu
  refine⟨fb,fo,gz,⟨by omega,by omega⟩,_,(by rw[Int.toNat_natCast];exact dU),fun _ _ m=>(fun v m' _=>SlI st l v m'∧NewS m v),Zas (v:=.slice a n c) rfl ⟨_,rfl,Zib l u m5 (rM.mono (Mem.le_trans gO cX)),fun v m' css h=>ZbB v m' css h.1,fun a6 n6 c6 m6 fQ i9 b4 mw=>Zaa rfl ?_⟩⟩
  have i9:SlI st l (.slice a6 n6 c6) m6∧NewS m5 (.slice a6 n6 c6):=i9
  have fR:=Mem.le_add mw [Value.slice a6 n6 c6]
  refine⟨.inl rfl,ws,[.slice a6 n6 c6],by rw[dE];simp[slN],rfl,(dT.mono fQ).mono fR,Zfk,by simp[Value.oneCell'],by show(n+1)*24≤_;omega,by show n+1≤_;omega,fun a7 c7 m7 jy kU my=>Zaa rfl fun M2 jz lz pX kV=>?_⟩
  have cZ:∀b o,a7=some ⟨b,o,none⟩→a=a7∨(m6.add b4 [Value.slice a6 n6 c6]).free b:=fun b o e=>by
   rcases my.2 with h|⟨b',o',h1,h2⟩
   ·rw[h]at e;cases e
   ·rw[h1]at e;cases e
    exact h2.imp id (·.2)
  refine⟨by trivial,A.fol.length - (n+1),by omega,n+1,a7,c7,by omega,?_,rfl,rfl,Mem.le_trans cX jz,⟨ws++[.slice a6 n6 c6],kU.mono kV,by simp[dE],fun e=>by omega,fun b o e=>?_,fun i v l' hv hl'=>?_⟩,rfl⟩
  ·rw[Zau (by omega) (by omega)];rfl
  ·rcases cZ b o e with h|h
   ·exact j9 b o (h.trans e)
   ·exact Zfl (Mem.le_trans cX (Mem.le_trans fQ fR)) h
  ·rw[List.getElem?_append]at hv
   split at hv
   ·obtain⟨g1,g2,g3⟩:=iv i v l' hv hl'
    refine⟨g1.mono jz,g2,fun cM b o o' e e7=>?_⟩
    rcases cZ b o' e7 with h|h
    ·exact g3 cM b o o' e (h.trans e7)
    ·exact Zu9 (g1.mono (Mem.le_trans fQ fR)) cM e h
   ·rename_i cK
    have gk:i=n:=by
     have:=(List.getElem?_eq_some_iff.1 hv).1
     simp at this;omega
    subst gk
    rw[dE,Nat.sub_self]at hv
    obtain rfl:Value.slice a6 n6 c6=v:=by simpa using hv
    obtain rfl:l=l':=by rw[hl]at hl';exact Option.some.inj hl'
    refine⟨(Zv8 i9.1).mono lz,i9.2.less (Mem.le_trans gO cX),fun cM b o o' e e7=>?_⟩
    rcases cZ b o' e7 with h|h
    ·have rN:i≠0:=fun e0=>by rw[oJ e0]at h;rw[←h]at e7;cases e7
     exact Zez dT (fun e0=>rN (by rw[←dE,e0];rfl)) (h.trans e7) (i9.2 b o e)
    ·exact Zu9 (i9.1.mono fR) cM e h
 ·have:n=A.fol.length:=by have:=of_decide_eq_false cK;omega
  subst this
  exact Zaa rfl ⟨m5,Mem.le_trans gO cX,Mem.le_refl _,_,_,_,_,rfl,⟨(Zwt jm.1).mono (Mem.le_trans fZ cX),jm.2.less bD⟩,⟨(Zv8 iQ.1).mono (Mem.le_trans jx cX),iQ.2.less hU⟩,⟨(Zv8 iR.1).mono (Mem.le_trans j8 cX),iR.2.less kT⟩,a,c,ws,rfl,dT,dE,gN,fun cM b o o' e ea=>Zwk (jm.1.mono fZ) cM e (j9 b o' ea),fun cM b o o' e ea=>Zu9 (iQ.1.mono jx) cM e (j9 b o' ea),fun cM b o o' e ea=>Zu9 (iR.1.mono j8) cM e (j9 b o' ea),iv⟩
def DomK(m m':Mem):Prop:=∀b o v,m b o=some v→∃u,m' b o=some u
theorem DomK.le{m m':Mem}(h:m.le m'):DomK m m':=fun b o v hv=>⟨v,h b o v hv⟩
theorem DomK.trans{m m' M:Mem}(h:DomK m m')(k:DomK m' M):DomK m M:=fun b o v hv=>by
 obtain⟨u,hu⟩:=h b o v hv
 exact k b o u hu
theorem DomK.upd{m m':Mem}(h:DomK m m')(b p:Nat)(ys:List Value):DomK m (m'.upd b p ys):=fun k o v hv=>by
 obtain⟨u,hu⟩:=h k o v hv
 show ∃u,(if k=b∧p≤o∧o < p+ys.length then ys[o - p]? else m' k o)=some u
 by_cases hc:k=b∧p≤o∧o < p+ys.length
 ·rw[if_pos hc]
  exact⟨_,List.getElem?_eq_getElem (by omega)⟩
 ·rw[if_neg hc];exact⟨u,hu⟩
theorem DomK.one{m m':Mem}(h:DomK m m'){b o:Nat}{v:Value}(hv:m b o=some v):∃vs:List Value,vs.length=1∧m'.reads b o vs:=by
 obtain⟨u,hu⟩:=h b o v hv
 refine⟨[u],rfl,fun j w hj=>?_⟩
 cases j with
 | zero=>cases hj;exact hu
 | succ j=>simp at hj
theorem DomK.many{m m':Mem}(h:DomK m m'){b o:Nat}{vs:List Value}(hv:m.reads b o vs):∃ws:List Value,ws.length=vs.length∧m'.reads b o ws:=by
 have:∀n,n≤vs.length→∃ws:List Value,ws.length=n∧m'.reads b o ws:=by
  intro n
  induction n with
  | zero=>intro _;exact⟨[],rfl,fun j w hj=>by simp at hj⟩
  | succ n ih=>
   intro hn
   obtain⟨ws,h1,h2⟩:=ih (by omega)
   obtain⟨u,hu⟩:=h b (o+n) _ (hv n _ (List.getElem?_eq_getElem (by omega)))
   refine⟨ws++[u],by simp[h1],fun j w hj=>?_⟩
   rw[List.getElem?_append]at hj
   split at hj
   ·exact h2 j w hj
   ·have hl:=(List.getElem?_eq_some_iff.1 hj).1
    have:j=n:=by simp at hl;omega
    subst this
    rw[h1,Nat.sub_self]at hj
    cases hj;exact hu
 exact this _ (Nat.le_refl _)
theorem Zuk{m:Mem}{a:Option Addr}{xs:List Value}{b p:Nat}{ys:List Value}(h:rowRd m a xs)(hn:∀b' o,a=some ⟨b',o,none⟩→b'≠b):rowRd (m.upd b p ys) a xs:=by
 rcases h with h|⟨b',o,e,h⟩
 ·exact .inl h
 ·refine .inr ⟨b',o,e,fun j v hv=>?_⟩
  rw[Mem.upd_other _ (hn b' o e)];exact h j v hv
theorem off_free{m:Mem}{Y:Nat→Prop}{b:Nat}(h:Y b):(m.off Y).free b:=fun o=>Mem.off_free h o
theorem Zrv(A:Nf)(sa:Option Addr)(sc:Nat)(fa:Option Addr)(fc:Nat)(xa:Option Addr)(xc:Nat)(ya:Option Addr)(yc:Nat)(vs:List Value)(m:Mem)(Y:Nat→Prop)(hS:SlQ false A.sets (.slice sa A.sets.length sc) m)(hX:SlI false A.first (.slice xa A.first.length xc) m)(vQ:SlI false A.last (.slice ya A.last.length yc) m)
  (hf:rowRd m fa vs) (f8:vs.length=A.fol.length) (gN:A.fol.length≤1000000) (fT:∀(i:Nat)(v:Value)(l:List Int),vs[i]?=some v→A.fol[i]?=some l→SlI false l v m)
  (yS:∀b o,sa=some ⟨b,o,none⟩→A.sets≠[]→Y b) (yX:∀b o,xa=some ⟨b,o,none⟩→A.first≠[]→Y b) (yY:∀b o,ya=some ⟨b,o,none⟩→A.last≠[]→Y b) (yN:∀b o,fa=some ⟨b,o,none⟩→¬Y b)
  (yF:∀(i:Nat)(w:Value)(l:List Int),vs[i]?=some w→A.fol[i]?=some l→∀b o,slA w=some ⟨b,o,none⟩→l≠[]→Y b):
  CXY Try.prog 50 #[VN A sa sc fa fc xa xc ya yc] m Y [] [] (fun v _ _ _=>v=.tuple #[]):=by
 obtain⟨_,_,e0,hs,dL,_⟩:=id hS
 simp only[Value.slice.injEq,true_and]at e0
 obtain⟨rfl,rfl⟩:=e0
 apply ZhH
 unfold Zfp
 intro b m1 bD eI p8 _
 refine⟨fun xs _ _ m' q=>∃k:Nat,k≤A.sets.length∧xs=[.int .i64 k]∧DomK m1 m'∧(∀u o,¬Y u→m' u o=m1 u o)∧q=A.sets.length - k,⟨_,0,by omega,rfl,DomK.le (Mem.le_refl _),fun _ _ _=>rfl,rfl⟩,?_⟩
 rintro z m2 q _ ⟨k,hk,hz,hd,fI,hq⟩
 obtain rfl:z=k:=by simpa using hz
 subst hq
 refine Zab (fun bV=>?_) (fun cK=>?_)
 ·have bF:k < A.sets.length:=by have:=of_decide_eq_true bV;omega
  obtain⟨qq,jA⟩:=Zam bF
  obtain⟨sb,so,iD,eD⟩:=Zgm hs jA
  have cM:A.sets≠[]:=fun e=>by rw[e]at bF;simp at bF
  have jX:=yS sb so iD cM
  have nr:b≠sb:=fun e=>by
   subst e
   have:=eD 0 _ rfl
   rw[p8]at this;cases this
  obtain⟨ws,dT,dE⟩:=hd.many (eD.mono bD)
  rw[Int.toNat_natCast]
  refine⟨sb,so,iD,⟨by omega,by omega⟩,⟨ws,dT,dE⟩,off_free jX,by trivial,nr,by trivial,_,by omega,k+1,bF,by rw[Zau (by omega) (by omega)];rfl,hd.upd _ _ _,fun u o hu=>?_,rfl⟩
  rw[Mem.upd_other _ (fun e=>hu (by rw[e];exact jX))];exact fI u o hu
 ·intro b1 pd
  have jr:∀u o w,m1 u o=some w→u≠b1:=fun u o w hw e=>by
   subst e
   obtain⟨u',hu'⟩:=hd _ _ _ hw
   rw[pd]at hu';cases hu'
  have row:∀(w:Value)(l:List Int),SlI false l w m→(∀b o,slA w=some ⟨b,o,none⟩→l≠[]→Y b)→∀(m3:Mem),DomK m1 m3→∀j:Nat,j < l.length→∃b3 o3,slA w=some ⟨b3,o3,none⟩∧slN w=l.length∧(∃ws:List Value,ws.length=1∧m3.reads b3 (o3+j*1) ws)∧Y b3∧b1≠b3∧b≠b3∧∃o u,m b3 o=some u:=by
   rintro w l ⟨la,lc,rfl,hr,dM,_⟩ pg m3 ph j hj
   obtain⟨x,hx⟩:=Zam hj
   obtain⟨b3,o3,e3,cO⟩:=Zba hr hx
   have cM:l≠[]:=fun e=>by rw[e]at hj;simp at hj
   refine⟨b3,o3,e3,rfl,ph.one (bD _ _ _ cO),pg b3 o3 e3 cM,fun e=>jr _ _ _ (bD _ _ _ cO) e.symm,fun e=>?_,_,_,cO⟩
   subst e
   rw[p8]at cO;cases cO
  have bY:∀(w:Value)(l:List Int),SlI false l w m→∃a c,w=.slice a l.length c∧l.length≤1000000:=fun w l ⟨a,c,e,_,h2,_⟩=>⟨a,c,e,h2⟩
  have jS:=Mem.le_add pd [Value.slice xa A.first.length xc,Value.slice ya A.last.length yc]
  have kA:rowRd (m2.add b1 [Value.slice xa A.first.length xc,Value.slice ya A.last.length yc]) (some ⟨b1,0,none⟩) [Value.slice xa A.first.length xc,Value.slice ya A.last.length yc]:=.inr ⟨b1,0,rfl,fun j u hj=>by rw[Nat.zero_add,Mem.add_same];exact hj⟩
  have all:∀(n:Nat)(w:Value),([Value.slice xa A.first.length xc,Value.slice ya A.last.length yc]++vs)[n]?=some w→∃l:List Int,SlI false l w m∧∀b o,slA w=some ⟨b,o,none⟩→l≠[]→Y b:=fun n w hw=>by
   match n with
   | 0=>cases hw;exact⟨A.first,hX,yX⟩
   | 1=>cases hw;exact⟨A.last,vQ,yY⟩
   | n+2=>
    have hw':vs[n]?=some w:=by simpa using hw
    obtain⟨l,hl⟩:=Zam (l:=A.fol) (k:=n) (by have:=(List.getElem?_eq_some_iff.1 hw').1;omega)
    exact⟨l,fT n w l hw' hl,yF n w l hw' hl⟩
  refine Zab (fun hz=>?_) (fun hz=>?_)
  ·refine⟨fun xs _ _ m' q=>∃k:Nat,k≤2∧xs=[.int .i64 k]∧DomK m1 m'∧rowRd m' (some ⟨b1,0,none⟩) [Value.slice xa A.first.length xc,Value.slice ya A.last.length yc]∧q=2 - k,⟨_,0,by omega,rfl,hd.trans (DomK.le jS),kA,rfl⟩,?_⟩
   rintro z m3 q _ ⟨k2,gf,i6,ph,l9,hq⟩
   obtain rfl:z=k2:=by simpa using i6
   subst hq
   refine Zab (fun bV=>?_) (fun cK=>rfl)
   have bF:k2 < 2:=by have:=of_decide_eq_true bV;omega
   obtain⟨w,hw⟩:=Zam (l:=[Value.slice xa A.first.length xc,Value.slice ya A.last.length yc]) (k:=k2) (by simpa using bF)
   obtain⟨l,hl,pg⟩:=all k2 w (by rw[List.getElem?_append_left (by simpa using bF)];exact hw)
   obtain⟨a0,c0,mL,dM⟩:=bY w l hl
   obtain⟨b2,o2,e2,eF⟩:=ZbO l9 hw
   refine⟨b2,o2,e2,⟨by omega,by omega⟩,w,(by rw[Int.toNat_natCast];exact eF),Zaa (by rw[mL];rfl) ?_⟩
   refine⟨fun xs _ _ m' q=>∃j:Nat,j≤l.length∧xs=[.int .i64 j]∧DomK m1 m'∧rowRd m' (some ⟨b1,0,none⟩) [Value.slice xa A.first.length xc,Value.slice ya A.last.length yc]∧q=l.length - j,⟨_,0,by omega,rfl,ph,l9,rfl⟩,?_⟩
   rintro z m4 q _ ⟨j,hj,sn,mM,kx,hq⟩
   obtain rfl:z=j:=by simpa using sn
   subst hq
   refine Zab (fun eK=>?_) (fun gU=>?_)
   ·have cS:j < l.length:=by have:=of_decide_eq_true eK;rw[mL]at this;simp only[slN]at this;omega
    obtain⟨b3,o3,e3,e4,kF,jX,kq,fP,_⟩:=row w l hl pg m4 mM j cS
    rw[Int.toNat_natCast]
    refine Zaa (by rw[mL];rfl) ⟨b3,o3,e3,⟨by omega,by rw[e4];omega⟩,kF,off_free jX,by trivial,kq,fP,by trivial,by trivial,_,by omega,j+1,cS,by rw[Zau (by omega) (by omega)];rfl,mM.upd _ _ _,Zuk kx fun b' o e=>by cases e;exact kq,rfl⟩
   ·exact⟨by trivial,by trivial,_,by omega,k2+1,bF,by rw[Zau (by omega) (by omega)];rfl,mM,kx,rfl⟩
  ·have fY:rowRd (m2.add b1 [Value.slice xa A.first.length xc,Value.slice ya A.last.length yc]) fa vs:=by
    have h2:rowRd m2 fa vs:=by
     rcases hf with hf|⟨b',o,e,hf⟩
     ·exact .inl hf
     ·refine .inr ⟨b',o,e,fun j v hv=>?_⟩
      rw[fI b' _ (yN b' o e)]
      exact bD _ _ _ (hf j v hv)
    exact h2.mono jS
   have hz':A.fol.length≠0:=fun e=>by rw[e]at hz;cases hz
   refine⟨.inr (by omega),[Value.slice xa A.first.length xc,Value.slice ya A.last.length yc],vs,rfl,by omega,kA,fY,fun u hu=>?_,by omega,by omega,fun a7 c7 m7 jy kU p6=>?_⟩
   ·obtain⟨i,hi⟩:=List.getElem?_of_mem hu
    obtain⟨l,hl⟩:=Zam (l:=A.fol) (k:=i) (by have:=(List.getElem?_eq_some_iff.1 hi).1;omega)
    obtain⟨_,_,rfl,_⟩:=fT i u l hi hl
    rfl
   have vR:DomK m1 m7:=(hd.trans (DomK.le jS)).trans (DomK.le jy)
   have vS:∀b' o,a7=some ⟨b',o,none⟩→∀b3,b1≠b3→(∃o u,m b3 o=some u)→b'≠b3:=fun b' o e b3 kT ⟨o3,u,hu⟩ e3=>by
    subst e3
    rcases p6.2 with h|⟨b'',o'',h1,h2⟩
    ·rw[h]at e;cases e
    ·rw[h1]at e;cases e
     rcases h2 with h2|h2
     ·rw[h1]at h2;cases h2
      exact kT rfl
     ·obtain⟨u',hu'⟩:=(hd.trans (DomK.le jS)) _ _ _ (bD _ _ _ hu)
      rw[h2.2 o3]at hu';cases hu'
   refine⟨fun xs _ _ m' q=>∃k:Nat,k≤2+A.fol.length∧xs=[.int .i64 k]∧DomK m1 m'∧rowRd m' a7 ([Value.slice xa A.first.length xc,Value.slice ya A.last.length yc]++vs)∧q=2+A.fol.length - k,⟨_,0,by omega,rfl,vR,kU,rfl⟩,?_⟩
   rintro z m3 q _ ⟨k2,gf,i6,ph,l9,hq⟩
   obtain rfl:z=k2:=by simpa using i6
   subst hq
   refine Zab (fun bV=>?_) (fun cK=>rfl)
   have bF:k2 < 2+A.fol.length:=by have:=of_decide_eq_true bV;omega
   obtain⟨w,hw⟩:=Zam (l:=[Value.slice xa A.first.length xc,Value.slice ya A.last.length yc]++vs) (k:=k2) (by rw[List.length_append,f8];exact bF)
   obtain⟨l,hl,pg⟩:=all k2 w hw
   obtain⟨a0,c0,mL,dM⟩:=bY w l hl
   obtain⟨b2,o2,e2,eF⟩:=ZbO l9 hw
   refine⟨b2,o2,e2,⟨by omega,by omega⟩,w,(by rw[Int.toNat_natCast];exact eF),Zaa (by rw[mL];rfl) ?_⟩
   refine⟨fun xs _ _ m' q=>∃j:Nat,j≤l.length∧xs=[.int .i64 j]∧DomK m1 m'∧rowRd m' a7 ([Value.slice xa A.first.length xc,Value.slice ya A.last.length yc]++vs)∧q=l.length - j,⟨_,0,by omega,rfl,ph,l9,rfl⟩,?_⟩
   rintro z m4 q _ ⟨j,hj,sn,mM,kx,hq⟩
   obtain rfl:z=j:=by simpa using sn
   subst hq
   refine Zab (fun eK=>?_) (fun gU=>?_)
   ·have cS:j < l.length:=by have:=of_decide_eq_true eK;rw[mL]at this;simp only[slN]at this;omega
    obtain⟨b3,o3,e3,e4,kF,jX,kq,fP,k9⟩:=row w l hl pg m4 mM j cS
    rw[Int.toNat_natCast]
    refine Zaa (by rw[mL];rfl) ⟨b3,o3,e3,⟨by omega,by rw[e4];omega⟩,kF,off_free jX,by trivial,kq,fP,by trivial,by trivial,_,by omega,j+1,cS,by rw[Zau (by omega) (by omega)];rfl,mM.upd _ _ _,Zuk kx fun b' o e=>vS b' o e b3 kq k9,rfl⟩
   ·exact⟨by trivial,by trivial,_,by omega,k2+1,bF,by rw[Zau (by omega) (by omega)];rfl,mM,kx,rfl⟩
end Go.Proofs.Ytplacemlpkhmfaa

