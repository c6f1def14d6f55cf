/- Part of the proof: conditions and contracts of functions of this program. No condition of its own. -/
import Derived.Test.YtplacemlpkhmfaaPC17V
import Derived.Test.YtplacemlpkhmfaaPC17Q
import Derived.Test.YtplacemlpkhmfaaPC17R
import Derived.Test.YtplacemlpkhmfaaPC13J
import Derived.Test.YtplacemlpkhmfaaMr
set_option linter.unusedVariables false
set_option linter.unusedSimpArgs false
namespace Go.Proofs.Ytplacemlpkhmfaa
open Go Go.Eng Go.Rx Go.Proofs Go.RowKit
set_option maxRecDepth 100000
theorem CopyR.mono{A:Nf}{m:Mem}{sa:Option Addr}{sc:Nat}{fa:Option Addr}{fc:Nat}{xa:Option Addr}{xc:Nat}{ya:Option Addr}{yc:Nat}{vs:List Value}{m' M:Mem}(h:CopyR A m sa sc fa fc xa xc ya yc vs m')(k:m'.le M):CopyR A m sa sc fa fc xa xc ya yc vs M:=
 {h with
  le:=Mem.le_trans h.le k
  sets:=h.sets.mono k
  row:=h.row.mono k
  fol:=fun i v l hv hl=>⟨(h.fol i v l hv hl).1.mono k,(h.fol i v l hv hl).2⟩
  first:=h.first.mono k
  last:=h.last.mono k }
theorem Zei{m:Mem}{b p:Nat}{ys:List Value}:(m.off fun k=>k=b).le (m.upd b p ys):=fun k o v hv=>by
 by_cases hk:k=b
 ·rw[Mem.off_free (Y:=fun k=>k=b) hk o]at hv;cases hv
 ·rw[Mem.off_at (Y:=fun k=>k=b) hk]at hv
  rw[Mem.upd_other m hk];exact hv
theorem ZgU{l:List Int}{v:Value}{m:Mem}(h:SlI true l v m):SlI false l v m:=by
 obtain⟨a,c,h1,h2,h3,_⟩:=h
 exact⟨a,c,h1,h2,h3,fun e=>by cases e⟩
theorem Ztx{l:List QS}{v:Value}{m:Mem}(h:SlQ true l v m):SlQ false l v m:=by
 obtain⟨a,c,h1,h2,h3,_⟩:=h
 exact⟨a,c,h1,h2,h3,fun e=>by cases e⟩
theorem Zh2{m:Mem}{b o p:Nat}{xs ys:List Value}(h:m.reads b o xs)(hp:p+ys.length≤xs.length):(m.upd b (o+p) ys).reads b o (Zan xs p ys):=by
 intro j u hu
 unfold Zan at hu
 simp only[Mem.upd]
 by_cases hj:j < p
 ·rw[if_neg (by omega)]
  rw[List.append_assoc,List.getElem?_append_left (by simp;omega),List.getElem?_take,if_pos hj]at hu
  exact h j u hu
 ·by_cases rb:j < p+ys.length
  ·rw[if_pos ⟨trivial,by omega,by omega⟩]
   rw[List.append_assoc,List.getElem?_append_right (by simp;omega),List.getElem?_append_left (by simp;omega)]at hu
   rw[show o+j - (o+p)=j - (xs.take p).length by simp;omega];exact hu
  ·rw[if_neg (by omega)]
   rw[List.getElem?_append_right (by simp;omega),List.getElem?_drop]at hu
   rw[show p+ys.length+(j - (xs.take p++ys).length)=j by simp;omega]at hu
   exact h j u hu
theorem ZlC:∀(l:List QS)(k:Nat),k < l.length→Zan (Rx.ZbU l) (k*4) [.int .u64 0,.int .u64 0,.int .u64 0,.int .u64 0]=Rx.ZbU (l.set k zQ)
 | [],k,h=>by simp at h
 | q::l,0,h=>by simp[Zan,Rx.ZbU,zQ,List.flatMap_cons]
 | q::l,k+1,h=>by
  have ih:=ZlC l k (by simpa using h)
  unfold Zan at ih ⊢
  rw[show(k+1)*4=k*4+4 by omega]
  simp only[List.set_cons_succ]
  have e:∀l:List QS,Rx.ZbU (q::l)=[.int .u64 q.1,.int .u64 q.2.1,.int .u64 q.2.2.1,.int .u64 q.2.2.2]++Rx.ZbU l:=fun l=>rfl
  rw[e,e,←ih]
  simp[List.take_append,List.drop_append]
theorem ZpI(vs:List Value)(k:Nat)(v:Value)(h:k < vs.length):Zan vs k [v]=vs.set k v:=Zpa h
section
variable {A:Nf} {m:Mem} {sa:Option Addr} {sc:Nat} {fa:Option Addr} {fc:Nat} {xa:Option Addr} {xc:Nat} {ya:Option Addr} {yc:Nat} {vs:List Value} {m':Mem}
theorem Zty(h:CopyR A m sa sc fa fc xa xc ya yc vs m'){b o k:Nat}(hs:sa=some ⟨b,o,none⟩)(hk:k < A.sets.length):NfR false { A with sets:=A.sets.set k zQ } (V5 sa A.sets.length sc fa A.fol.length fc xa A.first.length xc ya A.last.length yc A.empty) (m'.upd b (o+k*4) [.int .u64 0,.int .u64 0,.int .u64 0,.int .u64 0]):=by
 obtain⟨sa',sc',e,bM,hl,_⟩:=h.sets
 simp only[Value.slice.injEq,true_and]at e
 obtain⟨rfl,rfl⟩:=e
 have cM:m'.reads b o (Rx.ZbU A.sets):=by
  rcases bM with h1|⟨b',o',h1,h2⟩
  ·have:=congrArg List.length h1
   rw[Zdl]at this
   simp at this;omega
  ·rw[hs]at h1;cases h1;exact h2
 refine⟨_,_,_,_,rfl,⟨sa,sc,by rw[List.length_set],?_,by rw[List.length_set];exact hl,fun e=>by cases e⟩,⟨fa,fc,vs,rfl,?_,h.len,h.fl,fun i v l hv hl=>?_⟩,?_,?_⟩
 ·rw[←ZlC _ _ hk]
  exact .inr ⟨b,o,hs,Zh2 cM (by rw[Zdl];simp;omega)⟩
 ·exact(ZuP h.row fun b' o' e hb=>by subst hb;exact h.sf _ _ o' hs e).mono Zei
 ·exact ZgU ((ZjI (h.fol i v l hv hl).1 fun b' o' e _ hb=>by subst hb;exact((h.fol i v l hv hl).2 _ _ e).2.2.1 o hs).mono Zei)
 ·exact ZgU ((ZjI h.first.1 fun b' o' e _ hb=>by subst hb;exact h.sx _ _ o' hs e).mono Zei)
 ·exact ZgU ((ZjI h.last.1 fun b' o' e _ hb=>by subst hb;exact h.sy _ _ o' hs e).mono Zei)
theorem ZsJ(h:CopyR A m sa sc fa fc xa xc ya yc vs m'){b o k:Nat}(hs:fa=some ⟨b,o,none⟩)(hk:k < A.fol.length){b7:Nat}(hb:b7≠b){z:List Int}(hz:z≠[])(gO:z.length≤1000000)(sP:m'.reads b7 0 (ZaA z)):NfR false { A with fol:=A.fol.set k z } (V5 sa A.sets.length sc fa A.fol.length fc xa A.first.length xc ya A.last.length yc A.empty) (m'.upd b (o+k) [.slice (some ⟨b7,0,none⟩) z.length z.length]):=by
 have cM:m'.reads b o vs:=by
  rcases h.row with h1|⟨b',o',h1,h2⟩
  ·have:=congrArg List.length h1
   rw[h.len,List.length_nil]at this
   omega
  ·rw[hs]at h1;cases h1;exact h2
 have bO:=h.len
 refine⟨_,_,_,_,rfl,?_,⟨fa,fc,vs.set k (.slice (some ⟨b7,0,none⟩) z.length z.length),by rw[List.length_set],?_,by simp[h.len],by rw[List.length_set];exact h.fl,fun i v l hv hl=>?_⟩,?_,?_⟩
 ·exact Ztx ((ZuO h.sets fun b' o' e _ hb=>by subst hb;exact h.sf _ _ o e hs).mono Zei)
 ·rw[←ZpI vs k _ (by omega)]
  exact .inr ⟨b,o,hs,Zh2 cM (by simp;omega)⟩
 ·by_cases hi:i=k
  ·subst hi
   rw[List.getElem?_set_self (show i < vs.length by omega)]at hv
   rw[List.getElem?_set_self (show i < A.fol.length by omega)]at hl
   cases hv;cases hl
   refine⟨_,_,rfl,.inr ⟨b7,0,rfl,fun j u hj=>?_⟩,gO,fun e=>by cases e⟩
   have:=sP j u hj
   rw[Mem.upd_other _ hb];exact this
  ·rw[List.getElem?_set_ne (Ne.symm hi)]at hv hl
   exact ZgU ((ZjI (h.fol i v l hv hl).1 fun b' o' e _ hb=>by subst hb;exact((h.fol i v l hv hl).2 _ _ e).2.1 o hs).mono Zei)
 ·exact ZgU ((ZjI h.first.1 fun b' o' e _ hb=>by subst hb;exact h.fx _ _ o' hs e).mono Zei)
 ·exact ZgU ((ZjI h.last.1 fun b' o' e _ hb=>by subst hb;exact h.fy _ _ o' hs e).mono Zei)
end
section
variable {sa:Option Addr} {sn sc:Nat} {fa:Option Addr} {fn fc:Nat} {xa:Option Addr} {xn xc:Nat} {ya:Option Addr} {yn yc:Nat} {e:Bool} {m:Mem}
theorem Zu3(h:fn≠sn):WR (V5 sa sn sc fa fn fc xa xn xc ya yn yc e) m:=fun m' hm=>by
 apply Zc6
 unfold Zcl
 intro b m1 bH _
 exact⟨true,Zab (fun _=>⟨by trivial,rfl⟩) (fun _=>Zqp (by simp;omega) ⟨by trivial,rfl⟩),Zqp rfl ⟨m',Mem.le_refl _,bH,by trivial⟩⟩
theorem Zu4{x y:List Int}(hx:rowRd m xa (ZaA x))(hU:x.length≤1000000)(hy:rowRd m ya (ZaA y))(iN:y.length≤1000000)(hs:sn≤400)(h:Zdc x (-1) (sn - 1)=false∨Zdc y (-1) (sn - 1)=false):WR (V5 sa sn sc fa fn fc xa x.length xc ya y.length yc e) m:=fun m' hm=>by
 apply Zc6
 unfold Zcl
 intro b m1 bH _
 have hw:IntKind.i64.wrap ((sn:Int) - 1)=(sn:Int) - 1:=Zax (by omega) (by omega)
 simp only[hw]
 refine⟨true,Zab (fun _=>⟨by trivial,rfl⟩) (fun _=>Zab (fun _=>⟨by trivial,rfl⟩) fun _=>?_),Zqp rfl ⟨m',Mem.le_refl _,bH,by trivial⟩⟩
 refine Zaj (Zd7 x 0 (sn - 1) xa xc m1 ((hx.mono hm).mono bH) hU ⟨by omega,by omega⟩) fun m2 bN=>Zab (fun _=>⟨by trivial,rfl⟩) (fun h1=>?_)
 refine Zaj (Zd7 y 0 (sn - 1) ya yc m2 (((hy.mono hm).mono bH).mono bN) iN ⟨by omega,by omega⟩) fun m3 cG=>⟨by trivial,?_⟩
 rcases h with h|h
 ·rw[show(0:Int) - 1=-1 from rfl,h]at h1;cases h1
 ·rw[show(0:Int) - 1=-1 from rfl,h];rfl
end
section
variable {sa:Option Addr} {sn sc:Nat} {fa:Option Addr} {fn fc:Nat} {xa:Option Addr} {xn xc:Nat} {ya:Option Addr} {yn yc:Nat} {e:Bool} {m:Mem}
theorem Ztz{x:List Int}(hx:rowRd m xa (ZaA x))(hU:x.length≤1000000)(hs:sn≤400)(h:Zdc x (-1) (sn - 1)=false):WR (V5 sa sn sc fa fn fc xa x.length xc ya yn yc e) m:=fun m' hm=>by
 apply Zc6
 unfold Zcl
 intro b m1 bH _
 have hw:IntKind.i64.wrap ((sn:Int) - 1)=(sn:Int) - 1:=Zax (by omega) (by omega)
 simp only[hw]
 refine⟨true,Zab (fun _=>⟨by trivial,rfl⟩) (fun _=>Zab (fun _=>⟨by trivial,rfl⟩) fun _=>?_),Zqp rfl ⟨m',Mem.le_refl _,bH,by trivial⟩⟩
 refine Zaj (Zd7 x 0 (sn - 1) xa xc m1 ((hx.mono hm).mono bH) hU ⟨by omega,by omega⟩) fun m2 bN=>Zqp ?_ ⟨by trivial,rfl⟩
 rw[show(0:Int) - 1=-1 from rfl,h];rfl
end
theorem ZtA{m:Mem}{a:Option Addr}{l zs:List Value}{p:Nat}(h:rowRd m a l)(hp:l.length≤p):rowRd (m.addA a p zs) a l:=by
 rcases h with h|⟨b,o,rfl,h2⟩
 ·exact .inl h
 ·refine .inr ⟨b,o,rfl,fun j v hj=>?_⟩
  have bK:=(List.getElem?_eq_some_iff.1 hj).1
  show Mem.addAt m b (o+p) zs b (o+j)=_
  unfold Mem.addAt
  rw[if_neg (by omega)]
  exact h2 j v hj
theorem Zu5{l:List Int}{hi:Int}(h:l.Pairwise (· < ·)∧∀x∈l,-1 < x∧x≤hi):(l.length:Int)≤hi+1∨l=[]:=by
 have key:∀(l:List Int)(lo:Int),l.Pairwise (· < ·)→(∀x∈l,lo < x∧x≤hi)→l=[]∨(l.length:Int)≤hi - lo:=by
  intro l
  induction l with
  | nil=>intro lo _ _;exact .inl rfl
  | cons p l ih=>
   intro lo hp hb
   right
   rw[List.pairwise_cons]at hp
   have h0:=hb p (by simp)
   rcases ih p hp.2 (fun x hx=>⟨hp.1 x hx,(hb x (by simp[hx])).2⟩)with h1|h1
   ·subst h1;simp;omega
   ·simp;omega
 rcases key l (-1) h.1 h.2 with h1|h1
 ·exact .inr h1
 ·exact .inl (by omega)
theorem Zu6{m0 m:Mem}{a:Option Addr}{zs:List Value}{p:Nat}(h:m0.le m)(hf:∀b o,a=some ⟨b,o,none⟩→m0.free b)(hn:∀a',a=some a'→a'.spot=none):m0.le (m.addA a p zs):=fun k o v hv=>by
 cases a with
 | none=>exact h k o v hv
 | some a'=>
  obtain⟨b,o',sp⟩:=a'
  have k9:sp=none:=hn _ rfl
  subst k9
  show Mem.addAt m b (o'+p) zs k o=_
  unfold Mem.addAt
  have hk:k≠b:=fun e=>by subst e;rw[hf _ _ rfl o]at hv;cases hv
  rw[if_neg (fun hh=>hk hh.1)]
  exact h k o v hv
def Zxo(mA:Mem):List Value→List (List Value)→List Value→Mem→Prop:=fun _ css _ m'=>mA.le m'∧∃(sa:Option Addr)(sn sc:Nat)(fa:Option Addr)(fn fc:Nat)(xa:Option Addr)(xn xc:Nat)(ya:Option Addr)(yn yc:Nat)(e:Bool),css=[[.slice sa sn sc,.slice fa fn fc,.slice xa xn xc,.slice ya yn yc,.bool e]]∧WR (V5 sa sn sc fa fn fc xa xn xc ya yn yc e) m'
theorem Zr1{A:Nf}{m:Mem}:∀(v:Value)(m':Mem) (css:List (List Value)),CopyV A m v m'→Shape.fits (.agg [.slice,.slice,.slice,.slice,.bool]) v=true:=fun v m' css h=>ZqB v m' css h.nf
set_option maxHeartbeats 1600000 in
theorem Zoq(L:List (Nat×Nat×Nat))(pa:Option Addr)(pc:Nat)(way:Nat)(n:Int)(m:Mem)(hL:Sm m pa L)(sQ:L.length≤pc)(hw:way < 256):
  CX Try.prog 6 #[.slice pa L.length pc,.int .u8 way,.int .i64 n] m [] (Ret (.bool true)):=by
 apply Zgi
 unfold ZdF
 refine Zaj (ZpH m) fun m1 bH=>Zlr rfl ?_
 refine Zam (ZuV 97 (by omega) m1) Zb8 (ZgY fun x m2 bN hx tR=>?_)
 have il:=Mem.le_trans bH bN
 refine Zam (ZuD L pa pc m2 (hL.mono il) sQ) Zb8 (ZgY fun t m3 cG hr ht b hf=>?_)
 have fS:=Mem.le_add hf (Rx.Zcc [x,t])
 have pb:RepL (m3.add b (Rx.Zcc [x,t])) (some ⟨b,0,none⟩) [x,t]:=Zle (.inr ⟨b,0,rfl,fun j v hj=>by rw[Nat.zero_add,Mem.add_same];exact hj⟩) (by
  intro y hy
  simp at hy
  rcases hy with rfl|rfl
  ·exact(hx.mono cG).mono fS
  ·exact hr.mono fS) (by simp)
 have l6:(Zaq 97).clean=true:=by decide +kernel
 refine Zam (ZvP [x,t] (some ⟨b,0,none⟩) 2 _ pb (by simp) (by
  intro y hy
  simp at hy
  rcases hy with rfl|rfl
  ·rw[tR];exact l6
  ·exact Znx ht)) Zb8 (ZgY fun w m4 cY gx hj=>?_)
 obtain⟨_,_,hj⟩:=hj
 subst tR
 obtain⟨wo,wp,v4⟩:=Zuw (by omega) ht hj
 have dC:w.isNone=false:=by unfold T.isNone;rw[show(w.k == 0)=false by simpa using v4];rfl
 have oS:=ZtM w m4 gx
 have eN:w.ofN=if w.nfit then w.auto else nf0:=by unfold T.ofN;rw[dC];rfl
 have eE:w.ofE=if w.nfit then 0 else 170:=by unfold T.ofE;rw[dC];rfl
 rw[eN,eE]at oS
 have ko:m.le m4:=Mem.le_trans il (Mem.le_trans cG (Mem.le_trans fS cY))
 refine Zam oS ZeE (Zr0 fun a1 a2 a3 a4 c1 c2 c3 c4 m5 dX hN b2=>?_)
 have iZ:=Mem.le_trans ko dX
 by_cases dE:w.nfit=true
 case neg=>
  rw[if_neg dE,if_neg dE]
  exact Zqp rfl (Zah iZ rfl)
 rw[if_pos dE]at hN ⊢
 rw[if_pos dE]
 have hA:=Zst dE
 have tS:=Zo8 dE
 have hq:=ZvM gx
 have tT:=ZnM dE
 generalize w.auto=A at *
 have iP:1≤A.sets.length:=by omega
 have tU:=hA.n
 have iE:=hA.len
 refine⟨false,Zlr rfl (Zlr (beq_eq_false_iff_ne.2 (by omega)) ⟨by trivial,ZaD (beq_eq_false_iff_ne.2 (by omega))⟩),Zlr rfl ?_⟩
 refine Zam (ZqA A _ m5 hN (by omega)) Zr1 ?_
 rintro sa' _ sc' fa' _ fc' xa' _ xc' ya' _ yc' _ m6 gu ⟨sa,sc,fa,fc,xa,xc,ya,yc,vs,hv,hC⟩ b5
 simp only[Value.agg.injEq,Array.mk.injEq,List.cons.injEq,Value.slice.injEq,Value.bool.injEq,true_and,and_true]at hv
 obtain⟨⟨rfl,rfl,rfl⟩,⟨rfl,rfl,rfl⟩,⟨rfl,rfl,rfl⟩,⟨rfl,rfl,rfl⟩,rfl⟩:=hv
 have sR:NfR true A (V5 sa' A.sets.length sc' fa' A.fol.length fc' xa' A.first.length xc' ya' A.last.length yc' A.empty) m6:=CopyV.nf ⟨_,_,_,_,_,_,_,_,_,rfl,hC⟩
 refine⟨false,?_,Zlr rfl ?_⟩
 ·have pd:=Ziq A A _ _ m6 sR (hN.mono gu)
  rw[show decide (A=A)=true by simp]at pd
  exact Zaj pd fun m7 lm=>Zlr rfl (Zlr (by simp) ⟨by trivial,ZaD (by simp)⟩)
 have kb:∀k,m5.free k→b≠k:=fun k hk e=>by
  subst e
  have h1:(m3.add b (Rx.Zcc [Zaq 97,t])) b 0=some (.int .u8 2):=by rw[Mem.add_same];rfl
  have:=dX _ _ _ (cY _ _ _ h1)
  rw[hk 0]at this;cases this
 have v5:((way:Int)).tmod 8=((way % 8:Nat):Int):=by rw[Int.tmod_eq_emod_of_nonneg (by omega)];rfl
 obtain⟨bs,os,jn,ik⟩:∃bs os,sa'=some ⟨bs,os,none⟩∧m6.reads bs os (Rx.ZbU A.sets):=by
  obtain⟨_,_,e,bM,_,_⟩:=hC.sets
  simp only[Value.slice.injEq,true_and]at e
  obtain⟨rfl,rfl⟩:=e
  rcases bM with h1|h1
  ·have:=congrArg List.length h1
   rw[Zdl,List.length_nil]at this
   omega
  ·exact h1
 obtain⟨bf,of',fX,fL⟩:∃bs os,fa'=some ⟨bs,os,none⟩∧m6.reads bs os vs:=by
  rcases hC.row with h1|h1
  ·have:=congrArg List.length h1
   rw[hC.len,List.length_nil]at this
   omega
  ·exact h1
 have eD:IntKind.i64.wrap ((A.sets.length:Int) - 1)=((A.sets.length - 1:Nat):Int):=by rw[Zax (by omega) (by omega)];omega
 have eC:IntKind.i64.wrap ((A.fol.length:Int) - 1)=((A.fol.length - 1:Nat):Int):=by rw[Zax (by omega) (by omega)];omega
 simp only[eD,eC,v5,Int.toNat_natCast]
 have pg:A.top=(A.sets.length:Int) - 1:=rfl
 refine⟨Zxo m5,⟨by decide,?_⟩,?_⟩
 ·refine Zab (fun h0=>?_) fun _=>Zab (fun h1=>?_) fun _=>Zab (fun h2=>?_) fun _=>Zab (fun h3=>?_) fun _=>Zab (fun h4=>?_) fun _=>Zab (fun h5=>?_) fun _=>Zab (fun h6=>?_) fun _=>?_
  ·have hk:A.sets.length - 1 < A.sets.length:=by omega
   refine⟨bs,os,jn,⟨by omega,by omega⟩,⟨qCs (A.sets[A.sets.length - 1]),rfl,fun j v hj=>?_⟩,Zeh iZ (hC.fs bs os jn),by trivial,kb bs (hC.fs bs os jn),by trivial,Mem.le_trans (Ztv gu (hC.fs bs os jn)) Zei,_,_,_,_,_,_,_,_,_,_,_,_,_,rfl,Zvv (Zty hC jn hk) (Zmu fun cD=>?_)⟩
   ·rw[Nat.add_assoc];exact ik _ _ (Zmt (List.getElem?_eq_getElem hk) hj)
   ·exact cD.sets zQ (List.mem_of_getElem? (List.getElem?_set_self hk)) rfl
  ·exact⟨⟨by omega,by omega⟩,by trivial,gu,_,_,_,_,_,_,_,_,_,_,_,_,_,rfl,Zu3 (by simp;omega)⟩
  ·have ib:rowRd m6 xa' (ZaA A.first)∧A.first.length≤1000000:=by
    obtain⟨_,_,e,bM,hl,_⟩:=hC.first.1
    simp only[Value.slice.injEq,true_and]at e
    obtain⟨rfl,rfl⟩:=e
    exact⟨bM,hl⟩
   obtain⟨cF,kq⟩:=hC.first
   obtain⟨_,_,e,kq⟩:=kq
   simp only[Value.slice.injEq,true_and]at e
   obtain⟨rfl,rfl⟩:=e
   have lr:xa'=none→A.first.length=0:=fun e=>by
    have:=Zir ib.1 (by rw[e];rfl)
    simpa[ZaA]using this
   have ph:∀k,m5.le (m6.cutA xa' k):=fun k=>by
    rcases kq with⟨e,_⟩|⟨bx,e,_,cL,_⟩
    ·rw[e];exact gu
    ·rw[e]
     intro b' o v hv
     have hb':b'≠bx:=fun e=>by subst e;rw[cL o]at hv;cases hv
     show(if b'=bx∧k≤o then none else m6 b' o)=some v
     rw[if_neg (fun h=>hb' h.1)]
     exact gu _ _ _ hv
   have pi:rowRd (m6.cutA xa' (A.first.length*1)) xa' (ZaA A.first):=by
    rcases kq with⟨e,_⟩|⟨bx,e,_,cL,_⟩
    ·left
     have:=lr e
     rw[List.eq_nil_of_length_eq_zero this];rfl
    ·rcases ib.1 with h|⟨b',o',h1,h2⟩
     ·exact .inl h
     ·rw[e]at h1 ⊢
      cases h1
      refine .inr ⟨bx,0,rfl,fun j v hj=>?_⟩
      have bK:=(List.getElem?_eq_some_iff.1 hj).1
      rw[Zch]at bK
      show(if bx=bx∧A.first.length*1≤0+j then none else m6 bx (0+j))=some v
      rw[if_neg (by omega)]
      exact h2 j v hj
   refine⟨xa',A.first.length,xc',?_,fun b7 gT=>⟨?_,by trivial⟩,fun b7 gT=>⟨.inl rfl,ZaA A.first,[.int .i64 (if(A.sets.length:Int) > n then(A.sets.length:Int)else n)],by rw[Zch];omega,rfl,pi.mono (Mem.le_add gT _),Zfo,by simp[Value.oneCell'],by omega,by omega,fun a' c' m7 lm rP pP=>?_⟩⟩
   ·rcases kq with⟨e,e2⟩|⟨bx,e,fZ,cL,cJ⟩
    ·exact .inl ⟨e,lr e,e2⟩
    ·have ng:A.first≠[]:=fun e0=>by
      obtain⟨_,_,e3,_,_,h0⟩:=cF
      simp only[Value.slice.injEq,true_and]at e3
      obtain⟨rfl,rfl⟩:=e3
      have:=h0 rfl e0
      rw[e]at this;cases this
     have gy:=List.length_pos_iff.2 ng
     refine .inr ⟨bx,e,fZ,by omega,fun o ho=>?_,Zeh iZ cL⟩
     by_cases pF:o < A.first.length
     ·rcases ib.1 with h|⟨b',o',h1,h2⟩
      ·exact absurd (by simpa[ZaA]using h) ng
      ·rw[e]at h1;cases h1
       have hg:o < (ZaA A.first).length:=by rw[Zch];exact pF
       refine⟨(ZaA A.first)[o],?_⟩
       have:=h2 o _ (List.getElem?_eq_getElem hg)
       rwa [Nat.zero_add]at this
     ·exact cJ o (by omega) (by omega)
   ·rcases kq with⟨e,e2⟩|⟨bx,e,fZ,cL,cJ⟩
    ·rw[e]at gT;simp[Tok.blk]at gT
    ·rw[e]at gT;simp[Tok.blk]at gT
     exact gT ▸ kb bx cL
   ·intro zs kC
    have sS:m5.le m7:=Mem.le_trans (ph _) (Mem.le_trans (Mem.le_add gT _) lm)
    have mC:m5.le ((m6.cutA xa' (A.first.length*1)).add b7 [.int .i64 (if(A.sets.length:Int) > n then(A.sets.length:Int)else n)]):=Mem.le_trans (ph _) (Mem.le_add gT _)
    have fU:∀b o,a'=some ⟨b,o,none⟩→m5.free b:=fun b o e=>by
     rcases pP.2 with h|⟨b',o',h1,h2⟩
     ·rw[h]at e;cases e
     ·rw[h1]at e;cases e
      rcases h2 with h2|h2
      ·rcases kq with⟨e,_⟩|⟨bx,e,_,cL,_⟩
       ·rw[e,h1]at h2;cases h2
       ·rw[e,h1]at h2;cases h2;exact cL
      ·exact Zeh mC h2.2
    have k9:∀z,a'=some z→z.spot=none:=fun z e=>by
     rcases pP.2 with h|⟨b',o',h1,_⟩
     ·rw[h]at e;cases e
     ·rw[h1]at e;cases e;rfl
    have pj:rowRd (m7.addA a' ((A.first.length+1)*1) zs) a' (ZaA (A.first++[if(A.sets.length:Int) > n then(A.sets.length:Int)else n])):=by
     rw[Zko]
     exact ZtA rP (by simp[ZaA])
    have fJ:Zdc (A.first++[if(A.sets.length:Int) > n then(A.sets.length:Int)else n]) (-1) ((A.sets.length:Int) - 1)=false:=by
     rw[Bool.eq_false_iff]
     intro hh
     have:=(Zb9.1 hh).2 (if(A.sets.length:Int) > n then(A.sets.length:Int)else n) (List.mem_append_right _ (List.mem_singleton_self _))
     split at this <;> omega
    refine⟨by trivial,Zu6 sS fU k9,sa',A.sets.length,sc',fa',A.fol.length,fc',a',(A.first++[if(A.sets.length:Int) > n then(A.sets.length:Int)else n]).length,c',ya',A.last.length,yc',A.empty,by simp,Ztz pj ?_ tU fJ⟩
    rw[List.length_append,List.length_singleton]
    rcases Zu5 hA.first with h|h
    ·rw[pg]at h;omega
    ·rw[h];simp
  ·intro b7 gT
   have ib:rowRd m6 xa' (ZaA A.first)∧A.first.length≤1000000:=by
    obtain⟨_,_,e,bM,hl,_⟩:=hC.first.1
    simp only[Value.slice.injEq,true_and]at e
    obtain⟨rfl,rfl⟩:=e
    exact⟨bM,hl⟩
   refine⟨by trivial,Mem.le_trans gu (Mem.le_add gT _),_,_,_,_,_,_,_,_,_,_,_,_,_,rfl,Zu4 (y:=[if(-1:Int) < n then -1 else n]) (ib.1.mono (Mem.le_add gT _)) ib.2 Zfo (by simp) tU (.inr ?_)⟩
   rw[Bool.eq_false_iff]
   intro hh
   have:=(Zb9.1 hh).2 (if(-1:Int) < n then -1 else n) (List.mem_singleton_self _)
   split at this <;> omega
  ·intro b7 gT
   have cZ:b7≠bf:=fun e=>by
    subst e
    have h1:∃v,vs[0]?=some v:=ZaE (by have:=hC.len;omega)
    obtain⟨v,hv⟩:=h1
    have:=fL 0 v hv
    rw[gT _]at this;cases this
   have sT:=hC.mono (Mem.le_add gT [.int .i64 0,.int .i64 0])
   refine⟨bf,of',fX,⟨by omega,by omega⟩,?_,Zeh iZ (hC.ff bf of' fX),by trivial,cZ,kb bf (hC.ff bf of' fX),by trivial,?_,_,_,_,_,_,_,_,_,_,_,_,_,_,rfl,Zvv (ZsJ sT fX (k:=0) (z:=[0,0]) (by omega) cZ (by simp) (by simp) (fun j v hj=>by rw[Nat.zero_add,Mem.add_same];exact hj)) (Zmu fun cD=>?_)⟩
   ·obtain⟨v,hv⟩:∃v,vs[0]?=some v:=ZaE (by have:=hC.len;omega)
    refine⟨[v],rfl,fun j u hj=>?_⟩
    cases j with
    | zero=>cases hj;exact Mem.le_add gT _ _ _ _ (fL 0 v hv)
    | succ j=>simp at hj
   ·exact Mem.le_trans (Ztv (Mem.le_trans gu (Mem.le_add gT _)) (hC.ff bf of' fX)) Zei
   ·have:=(cD.fol [0,0] (List.mem_of_getElem? (List.getElem?_set_self (show 0 < A.fol.length by omega)))).1
    simp at this
  ·intro b7 gT
   have cZ:b7≠bf:=fun e=>by
    subst e
    have h1:∃v,vs[0]?=some v:=ZaE (by have:=hC.len;omega)
    obtain⟨v,hv⟩:=h1
    have:=fL 0 v hv
    rw[gT _]at this;cases this
   simp only[Nat.mul_one]
   have sT:=hC.mono (Mem.le_add gT [.int .i64 (if(A.sets.length:Int) > n then(A.sets.length:Int)else n)])
   refine⟨bf,of',fX,⟨by omega,by omega⟩,?_,Zeh iZ (hC.ff bf of' fX),by trivial,cZ,kb bf (hC.ff bf of' fX),by trivial,?_,_,_,_,_,_,_,_,_,_,_,_,_,_,rfl,Zvv (ZsJ sT fX (k:=A.fol.length - 1) (z:=[if(A.sets.length:Int) > n then(A.sets.length:Int)else n]) (by omega) cZ (by simp) (by simp) (fun j v hj=>by rw[Nat.zero_add,Mem.add_same];exact hj)) (Zmu fun cD=>?_)⟩
   ·obtain⟨v,hv⟩:∃v,vs[A.fol.length - 1]?=some v:=ZaE (by have:=hC.len;omega)
    refine⟨[v],rfl,fun j u hj=>?_⟩
    cases j with
    | zero=>cases hj;exact Mem.le_add gT _ _ _ _ (fL _ v hv)
    | succ j=>simp at hj
   ·exact Mem.le_trans (Ztv (Mem.le_trans gu (Mem.le_add gT _)) (hC.ff bf of' fX)) Zei
   ·have:=(cD.fol _ (List.mem_of_getElem? (List.getElem?_set_self (show A.fol.length - 1 < A.fol.length by omega)))).2 (if(A.sets.length:Int) > n then(A.sets.length:Int)else n) (List.mem_singleton_self _)
    have ht:({ A with fol:=A.fol.set (A.fol.length - 1) [if(A.sets.length:Int) > n then(A.sets.length:Int)else n] }:Nf).top=(A.sets.length:Int) - 1:=rfl
    rw[ht]at this
    split at this <;> omega
  ·exact⟨⟨by omega,by omega⟩,by trivial,gu,_,_,_,_,_,_,_,_,_,_,_,_,_,rfl,Zu3 (by simp;omega)⟩
  ·exact⟨⟨by decide,by decide,by decide,by decide⟩,fun b7=>⟨⟨by decide,by decide,by decide,by decide⟩,fun b8=>⟨by trivial,gu,_,_,_,_,_,_,_,_,_,_,_,_,_,rfl,ZvV (by decide)⟩⟩⟩
 ·rintro cs m7 _ ⟨v6,sa,sn,sc,fa,fn,fc,xa,xn,xc,ya,yn,yc,e,cH,gx⟩
  obtain rfl:cs=_:=by simpa using cH
  clear cH
  refine Zaa rfl (Zam (ZuW gx none 0 0 97) (by rintro v m' css rfl;rfl) ?_)
  rintro a24 n33 c11 n34 m8 kp hv
  simp only[Ret,Value.tuple.injEq,Array.mk.injEq,List.cons.injEq,Value.slice.injEq,Value.bool.injEq,Value.int.injEq,true_and,and_true]at hv
  obtain⟨⟨rfl,rfl,rfl⟩,rfl⟩:=hv
  have pk:=gx.mono kp
  refine Zam (ZpF pk none 0 0) (by rintro v m' css rfl;rfl) ?_
  rintro b7 n35 m9 mY hv
  simp only[Ret,Value.tuple.injEq,Array.mk.injEq,List.cons.injEq,Value.slice.injEq,Value.bool.injEq,Value.int.injEq,true_and,and_true]at hv
  obtain⟨rfl,rfl⟩:=hv
  have pm:=pk.mono mY
  refine Zam (ZuY pm none 0 0) (by rintro v m' css rfl;rfl) ?_
  rintro a29 n36 c12 n37 m10 jp hv
  simp only[Ret,Value.tuple.injEq,Array.mk.injEq,List.cons.injEq,Value.slice.injEq,Value.bool.injEq,Value.int.injEq,true_and,and_true]at hv
  obtain⟨⟨rfl,rfl,rfl⟩,rfl⟩:=hv
  have ls:=pm.mono jp
  refine Zam (ZpG ls none 0 0) (by rintro v m' css rfl;rfl) ?_
  rintro b8 n38 m11 kh hv
  simp only[Ret,Value.tuple.injEq,Array.mk.injEq,List.cons.injEq,Value.slice.injEq,Value.bool.injEq,Value.int.injEq,true_and,and_true]at hv
  obtain⟨rfl,rfl⟩:=hv
  have lu:=ls.mono kh
  refine Zam (ZrZ lu none 0 0) (by rintro v m' css rfl;rfl) ?_
  rintro a34 n39 c13 n40 m12 jr hv
  simp only[Ret,Value.tuple.injEq,Array.mk.injEq,List.cons.injEq,Value.slice.injEq,Value.bool.injEq,Value.int.injEq,true_and,and_true]at hv
  obtain⟨⟨rfl,rfl,rfl⟩,rfl⟩:=hv
  have lw:=lu.mono jr
  refine Zam (ZsG lw) ZeE (Zr0 fun t1 t2 t3 t4 u1 u2 u3 u4 m13 js hT b10=>?_)
  have po:=lw.mono js
  refine Zam (ZuZ po) (by rintro v m' css rfl;rfl) ?_
  rintro a43 n46 c18 n47 m14 kj hv b11 mu
  simp only[Ret,Value.tuple.injEq,Array.mk.injEq,List.cons.injEq,Value.slice.injEq,Value.bool.injEq,Value.int.injEq,true_and,and_true]at hv
  obtain⟨⟨rfl,rfl,rfl⟩,rfl⟩:=hv
  have tV:=Mem.le_add mu [.int .i64 171,.int .i64 171,.int .i64 171,.int .i64 171,.int .i64 171,.int .i64 171,.int .i64 171]
  have h7_15:=Mem.le_trans kp (Mem.le_trans mY (Mem.le_trans jp (Mem.le_trans kh (Mem.le_trans jr (Mem.le_trans js (Mem.le_trans kj tV))))))
  have sU:=hT.mono (Mem.le_trans kj tV)
  generalize sV:m14.add b11 [.int .i64 171,.int .i64 171,.int .i64 171,.int .i64 171,.int .i64 171,.int .i64 171,.int .i64 171]=M15 at *
  clear sV
  refine⟨fun xs css tvs m' q=>∃i:Nat,i≤7∧xs=[.int .i64 i]∧q=7 - i∧M15.le m',⟨_,0,by omega,rfl,rfl,Mem.le_refl _⟩,?_⟩
  rintro n48 m16 q16 _ ⟨i,hi,eM,rfl,sW⟩
  obtain rfl:n48=i:=by simpa using eM
  clear eM
  refine Zab (fun bK=>?_) (fun cS=>?_)
  ·have hi':i < 7:=by have:=of_decide_eq_true bK;omega
   refine⟨⟨by omega,by omega⟩,Zap (v:=.int .i64 171) ?_ (Zaa rfl (Zlr rfl ⟨by trivial,_,?_,i+1,by omega,?_,rfl,sW⟩))⟩
   ·rw[Int.toNat_natCast,Nat.mul_one]
    rcases(show i=0∨i=1∨i=2∨i=3∨i=4∨i=5∨i=6 by omega)with rfl|rfl|rfl|rfl|rfl|rfl|rfl <;> rfl
   ·omega
   ·rw[Zax (by omega) (by omega)];rfl
  ·have h7_16:=Mem.le_trans h7_15 sW
   have h5_16:=Mem.le_trans v6 h7_16
   refine⟨false,Zaj (gx m16 h7_16) fun m17 kL=>Zlr rfl (Zlr rfl (Zlr rfl (Zlr rfl ?_))),Zlr rfl ?_⟩
   ·have pd:=Ziq nf0 nf0 _ _ m17 (sU.mono (Mem.le_trans sW kL)) (ZuR m17)
    rw[show decide (nf0=nf0)=true by simp]at pd
    exact Zaj pd fun m18 mz=>⟨by trivial,rfl⟩
   intro d0 v7 d1 jy d2 nE d3 v8 d4 v9
   have o0:=Mem.le_add v7 [.int .i64 (if(A.sets.length:Int) > n then(A.sets.length:Int)else n)]
   have o1:=Mem.le_add jy [.int .i64 (if(-2:Int) < n then -2 else n)]
   have o2:=Mem.le_add nE [.int .i64 0,.int .i64 0]
   have o3:=Mem.le_add v8 [.int .i64 0,.int .i64 (-1)]
   have o4:=Mem.le_add v9 [.slice (some ⟨d0,0,none⟩) 1 1,.slice (some ⟨d1,0,none⟩) 1 1,.slice (some ⟨d2,0,none⟩) 2 2,.slice (some ⟨d3,0,none⟩) 2 2]
   have r0:=(Zfo (m:=m16) (b:=d0) (v:=.int .i64 (if(A.sets.length:Int) > n then(A.sets.length:Int)else n))).mono (Mem.le_trans o1 (Mem.le_trans o2 (Mem.le_trans o3 o4)))
   have r1:=(Zfo (b:=d1) (v:=.int .i64 (if(-2:Int) < n then -2 else n))).mono (Mem.le_trans o2 (Mem.le_trans o3 o4))
   have mL:∀(M:Mem)(d:Nat)(x y:Value),rowRd (M.add d [x,y]) (some ⟨d,0,none⟩) [x,y]:=fun M d x y=>.inr ⟨d,0,rfl,fun j v hj=>by rw[Nat.zero_add,Mem.add_same];exact hj⟩
   have r2:=(mL _ d2 (.int .i64 0) (.int .i64 0)).mono (Mem.le_trans o3 o4)
   have r3:=(mL _ d3 (.int .i64 0) (.int .i64 (-1))).mono o4
   have pp:=Mem.le_trans o0 (Mem.le_trans o1 (Mem.le_trans o2 (Mem.le_trans o3 o4)))
   refine⟨fun xs css tvs m' q=>∃i:Nat,i≤4∧xs=[.int .i64 i]∧q=4 - i∧Mem.le _ m',⟨_,0,by omega,rfl,rfl,Mem.le_refl _⟩,?_⟩
   rintro n50 m21 q21 _ ⟨i,hi,eM,rfl,nb⟩
   obtain rfl:n50=i:=by simpa using eM
   clear eM
   have h5_21:=Mem.le_trans h5_16 (Mem.le_trans pp nb)
   have mD:=hN.mono h5_21
   refine Zab (fun bK=>?_) (fun cS=>?_)
   ·have hi':i < 4:=by have:=of_decide_eq_true bK;omega
    obtain⟨l,d,wb,bM,cF,eL⟩:∃(l:List Int)(d:Nat),([.slice (some ⟨d0,0,none⟩) 1 1,.slice (some ⟨d1,0,none⟩) 1 1,.slice (some ⟨d2,0,none⟩) 2 2,.slice (some ⟨d3,0,none⟩) 2 2]:List Value)[Int.toNat (i:Int)*1]?=some (.slice (some ⟨d,0,none⟩) l.length l.length)∧rowRd m21 (some ⟨d,0,none⟩) (ZaA l)∧A.states l=false∧l.length≤2:=by
     have bad:∀l:List Int,¬(l.Pairwise (· < ·)∧∀x∈l,-2 < x∧x≤A.top)→A.states l=false:=fun l h=>by
      unfold Nf.states
      rw[Bool.eq_false_iff]
      exact fun hh=>h (Zb9.1 hh)
     rcases(show i=0∨i=1∨i=2∨i=3 by omega)with rfl|rfl|rfl|rfl
     ·refine⟨[if(A.sets.length:Int) > n then(A.sets.length:Int)else n],d0,rfl,r0.mono nb,bad _ fun h=>?_,by simp⟩
      have:=h.2 _ (List.mem_singleton_self _)
      rw[pg]at this
      split at this <;> omega
     ·refine⟨[if(-2:Int) < n then -2 else n],d1,rfl,r1.mono nb,bad _ fun h=>?_,by simp⟩
      have:=h.2 _ (List.mem_singleton_self _)
      split at this <;> omega
     ·refine⟨[0,0],d2,rfl,r2.mono nb,bad _ fun h=>?_,by simp⟩
      have:=h.1
      simp at this
     ·refine⟨[0,-1],d3,rfl,r3.mono nb,bad _ fun h=>?_,by simp⟩
      have:=h.1
      simp at this
    have mE:A.err l=172:=by unfold Nf.err;rw[tS,cF];rfl
    have jq:=ZqD A hq _ l _ l.length 97 (by omega) m21 mD bM (by omega)
    rw[mE]at jq
    refine⟨⟨by omega,by omega⟩,Zap wb (Zam jq (by rintro v m' css ⟨w,rfl,_,_,rfl,_⟩;rfl) ?_)⟩
    rintro a56 n52 c19 n53 m22 iH ⟨w2,hv,_,_,rfl,_⟩
    simp only[Value.tuple.injEq,Array.mk.injEq,List.cons.injEq,Value.slice.injEq,Value.int.injEq,true_and,and_true]at hv
    obtain⟨⟨rfl,rfl,rfl⟩,rfl⟩:=hv
    have tW:=ZpE A _ l _ l.length m22 (mD.mono iH) (bM.mono iH) (by omega) (by rw[mE];decide)
    rw[mE]at tW
    refine Zam tW (by rintro v m' css rfl;rfl) ?_
    rintro b18 n54 m23 j3 hv
    simp only[Ret,Value.tuple.injEq,Array.mk.injEq,List.cons.injEq,Value.bool.injEq,Value.int.injEq,true_and,and_true]at hv
    obtain⟨rfl,rfl⟩:=hv
    refine⟨false,Zlr rfl (Zlr rfl (Zlr rfl ⟨by trivial,rfl⟩)),Zlr rfl ⟨by trivial,_,?_,i+1,by omega,?_,rfl,Mem.le_trans nb (Mem.le_trans iH j3)⟩⟩
    ·omega
    ·rw[Zax (by omega) (by omega)];rfl
   ·have mQ:=Zip A _ m21 mD
    rw[tS]at mQ
    exact Zaj mQ fun m22 iH=>⟨m22,Mem.le_trans iZ (Mem.le_trans h5_21 iH),Mem.le_refl _,by trivial⟩
end Go.Proofs.Ytplacemlpkhmfaa

