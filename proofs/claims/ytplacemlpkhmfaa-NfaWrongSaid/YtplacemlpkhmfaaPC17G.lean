/- Part of the proof: conditions and contracts of functions of this program. No condition of its own. -/
import Derived.Test.YtplacemlpkhmfaaPC17F
set_option linter.unusedVariables false
set_option linter.unusedSimpArgs false
namespace Go.Proofs.Ytplacemlpkhmfaa
open Go Go.Eng Go.Rx Go.Proofs Go.RowKit
set_option maxRecDepth 100000
theorem Zof{mn mx:Int}(h:Zd0 mn mx=true):0≤mn∧mn≤16∧(mx=-1∨(1≤mx∧mx≤16)):=by
 unfold Zd0 at h
 simp only[Bool.and_eq_true,Bool.not_eq_true',Bool.or_eq_false_iff,Bool.or_eq_true,decide_eq_false_iff_not,decide_eq_true_eq,beq_iff_eq]at h
 omega
theorem Zqx{l:List T}{y:T}(h:l[0]?=some y)(s:Ms):Zkl l s=mk y s:=by
 cases l with
 | nil=>simp at h
 | cons z l=>simp at h;subst h;rw[Zkl]
theorem ZrR(f:Ms→Pt×Ms)(mn mx:Int)(N k:Nat)(hk:k < N)(out:Pt)(s:Ms)(s2:Ms)(gk:s2=if mx=-1∧k+1=N then⟨(f s).2.sets,Zdr (f s).2.fol (f s).1.last (f s).1.first⟩ else(f s).2)(y:Pt)(hy:y=⟨(f s).1.first,(f s).1.last,(f s).1.null||decide ((k:Int) ≥ mn)⟩):
  Zmn f mn mx N (N - k) k out s=Zmn f mn mx N (N - (k+1)) (k+1) (ZhB out y s2).1 (ZhB out y s2).2:=by
 subst gk hy
 rw[show N - k=(N - (k+1))+1 by omega,Zmn]
abbrev Zw7(t:T)(s:Ms)(m:Mem)(v0 v1:Value)(N:Nat):List Value→List (List Value)→List Value→Mem→Nat→Prop:=fun xs css tvs m' q=>∃(k:Nat)(out:Pt)(s':Ms)(a:Option Addr)(n c:Nat)(a1:Option Addr)(n1 c1:Nat),k≤N∧xs=[.int .i64 k]∧css=[out.cs,[.slice a n c,.slice a1 n1 c1]]∧tvs=[.slice a n c,.slice a1 n1 c1]∧q=N - k∧MkSt m v0 v1 m' (.slice a n c) (.slice a1 n1 c1) s'∧PtIn s'.sets.length out∧Zmn (fun s=>Zkl t.subs s) t.mn t.mx N (N - k) k out s'=Zmn (fun s=>Zkl t.subs s) t.mn t.mx N N 0 ⟨0,0,true⟩ s
theorem Zpu(t:T)(ht:t.subs.length=1)(hb:Zd0 t.mn t.mx=true)(ih:∀x∈t.subs,MkC x)(s:Ms)(mkb:Nat)(t0a t1a:Option Addr)(t0n t0c t1n t1c:Nat)(m:Mem)(h:MkRow m (.slice t0a t0n t0c) (.slice t1a t1n t1c) s)(hs:MsOk s)(hr:Rep (m.off (Yof (.slice t0a t0n t0c) (.slice t1a t1n t1c))) t)(hN:(Zmn (fun s=>Zkl t.subs s) t.mn t.mx (Zrn t.mn t.mx) (Zrn t.mn t.mx) 0 ⟨0,0,true⟩ s).2.sets.length≤448):
  CXY Try.prog 142 #[.pointer (some ⟨mkb,0,none⟩),t.v] m (Yof (.slice t0a t0n t0c) (.slice t1a t1n t1c)) [⟨mkb,[.slice t0a t0n t0c,.slice t1a t1n t1c],98,2,false,true⟩] [⟨.slice t0a t0n t0c,4⟩,⟨.slice t1a t1n t1c,7⟩]
   (MkR (.slice t0a t0n t0c) (.slice t1a t1n t1c) m (Zmn (fun s=>Zkl t.subs s) t.mn t.mx (Zrn t.mn t.mx) (Zrn t.mn t.mx) 0 ⟨0,0,true⟩ s)):=by
 apply Zew
 unfold ZcX
 intro b0 m1 bH _ kn iP b1
 obtain⟨fP,ic,gm⟩:=Zof hb
 obtain⟨y,hy⟩:∃y,t.subs[0]?=some y:=⟨t.subs[0],by simp[ht]⟩
 have tE:=List.mem_of_getElem? hy
 rcases(ZdA hr).2 with he|⟨bt,ot,gt,hZ⟩
 ·rw[he]at ht;simp at ht
 obtain⟨cM,jz⟩:=hZ.get hy
 rw[Nat.zero_mul]at cM
 generalize pH:Zrn t.mn t.mx=N at hN ⊢
 have vo:N≤16:=by
  rw[←pH];unfold Zrn;split <;> omega
 have ZtN:∀(q k:Nat)(out:Pt)(s':Ms),MsOk s'→PtIn s'.sets.length out→Grows s' (Zmn (fun s=>Zkl t.subs s) t.mn t.mx N q k out s'):=fun q k out s' h1 h2=>Zge (fun s h=>ZeP _ s h) _ _ _ _ _ _ _ h1 h2
 have round:∀(k:Nat)(out:Pt)(s' s2:Ms)(z:Pt),k < N→MsOk s'→PtIn s'.sets.length out→s2=(if t.mx=-1∧k+1=N then⟨(mk y s').2.sets,Zdr (mk y s').2.fol (mk y s').1.last (mk y s').1.first⟩ else(mk y s').2)→z=⟨(mk y s').1.first,(mk y s').1.last,(mk y s').1.null||decide ((k:Int) ≥ t.mn)⟩→
   Zmn (fun s=>Zkl t.subs s) t.mn t.mx N (N - k) k out s'=Zmn (fun s=>Zkl t.subs s) t.mn t.mx N N 0 ⟨0,0,true⟩ s→Grows s' (mk y s')∧(mk y s').2.sets.length≤448∧MsOk s2∧s2.sets=(mk y s').2.sets∧PtIn s2.sets.length out∧PtIn s2.sets.length z∧Grows s2 (ZhB out z s2)∧
   Zmn (fun s=>Zkl t.subs s) t.mn t.mx N (N - (k+1)) (k+1) (ZhB out z s2).1 (ZhB out z s2).2=Zmn (fun s=>Zkl t.subs s) t.mn t.mx N N 0 ⟨0,0,true⟩ s:=by
  intro k out s' s2 z hk hs' hp gk hz heq
  have cO:=ZrR (fun s=>Zkl t.subs s) t.mn t.mx N k hk out s' s2 (by simp only[Zqx hy];exact gk) z (by simp only[Zqx hy];exact hz)
  have eX:=ZdO y s' hs'
  have e:s2.sets=(mk y s').2.sets:=by rw[gk];split <;> rfl
  have h2:MsOk s2:=by
   rw[gk];split
   ·exact eX.ok.loop _ _ eX.pt.1
   ·exact eX.ok
  have fA:PtIn s2.sets.length out:=hp.mono (by rw[e];exact eX.le)
  have jO:PtIn s2.sets.length z:=by rw[e,hz];exact eX.pt
  have h3:=Ze3 h2 fA jO
  have h4:=ZtN (N - (k+1)) (k+1) _ _ h3.ok h3.pt
  rw[←cO,heq]at h4
  refine⟨eX,?_,h2,e,fA,jO,h3,cO.symm.trans heq⟩
  rw[←e];exact Nat.le_trans h3.le (Nat.le_trans h4.le hN)
 have start:Zw7 t s m (.slice t0a t0n t0c) (.slice t1a t1n t1c) N [.int .i64 0] [Zb3,[.slice t0a t0n t0c,.slice t1a t1n t1c]] [.slice t0a t0n t0c,.slice t1a t1n t1c] m1 N:=
  ⟨0,⟨0,0,true⟩,s,t0a,t0n,t0c,t1a,t1n,t1c,Nat.zero_le _,rfl,rfl,rfl,rfl,MkSt.refl h hs bH,ZbW _ _,rfl⟩
 refine Zab (fun jt=>?_) (fun jt=>?_)
 ·have j8:t.mx=-1:=by simpa using jt
  have pE:(if(1:Int) > t.mn then(1:Int)else t.mn)=(N:Int):=by
   rw[←pH];unfold Zrn;rw[if_pos j8];split <;> omega
  intro b2
  simp only[pE]
  refine⟨Zw7 t s m (.slice t0a t0n t0c) (.slice t1a t1n t1c) N,⟨_,start⟩,?_⟩
  rintro x cs cs1 a n c a1 n1 c1 m2 q _ ⟨k,out,s',a',n',c',a1',n1',c1',hk,hx,cH,dA,hq,cF,lk,heq⟩
  obtain rfl:x=k:=by simpa using hx
  simp only[List.cons.injEq,and_true]at cH
  obtain⟨rfl,rfl⟩:=cH
  simp only[List.cons.injEq,Value.slice.injEq,and_true]at dA
  obtain⟨⟨rfl,rfl,rfl⟩,rfl,rfl,rfl⟩:=dA
  subst hq
  have gp:=(cM.mono cF.base).mono (Mem.off_le m2 _)
  refine Zab (fun bK=>?_) (fun cS=>?_)
  ·have bJ:k < N:=by have:=of_decide_eq_true bK;omega
   obtain⟨eX,jD,j9,iL,fA,jO,gS,fH⟩:=round k out s' _ _ bJ cF.ok lk rfl rfl heq
   have eD:IntKind.i64.wrap ((N:Int) - 1)=(N:Int) - 1:=Zax (by omega) (by omega)
   refine⟨bt,ot,gt,⟨by omega,by omega⟩,_,_,_,_,_,_,_,_,gp,?_⟩
   refine lentC (ih y tE s' mkb _ _ _ _ _ _ m2 cF.row cF.ok (Rep.mono cF.base y jz) jD) Zcu (Zgm cF eX.ok fun m3 a3 n3 c3 a4 n4 c4 cT b5=>?_)
   refine⟨decide (k+1=N),Zcx jt ⟨by trivial,by trivial,by rw[eD];congr 2;rw[Bool.eq_iff_iff];simp;omega⟩,?_⟩
   have hw:IntKind.i64.wrap ((k:Int)+1)=((k+1:Nat):Int):=by rw[Zax (by omega) (by omega)];rfl
   by_cases dY:k+1=N
   ·have ec:(if t.mx=-1∧k+1=N then(⟨(mk y s').2.sets,Zdr (mk y s').2.fol (mk y s').1.last (mk y s').1.first⟩:Ms)else(mk y s').2)=⟨(mk y s').2.sets,Zdr (mk y s').2.fol (mk y s').1.last (mk y s').1.first⟩:=if_pos ⟨j8,dY⟩
    rw[ec]at j9 iL fA jO gS fH
    refine Zcx (by simp[dY]) ?_
    refine lentC (Zqu (mk y s').2 (mk y s').1.last (mk y s').1.first mkb _ _ _ _ _ _ m3 cT.row (by rw[eX.ok.len];exact jD) (fun i hi=>by rw[eX.ok.len];exact eX.pt.2 i hi)) (by rintro v m' css tvs ⟨rfl,_⟩;rfl) ?_
    rintro m4 iF _ cs3 a5 n5 c5 a6 n6 c6 ⟨_,rL,oz,cW⟩
    simp only[List.cons.injEq,Value.slice.injEq,and_true]at oz
    obtain⟨⟨rfl,rfl,rfl⟩,rfl,rfl,rfl⟩:=oz
    obtain rfl:cs3=[.slice a5 n5 c5,.slice a6 n6 c6]:=by simpa using rL
    have kJ:=cT.step iF cW (fun b hb=>.inl hb) j9
    generalize eB:(mk y s').1=r1 at *
    obtain⟨rf,rl,rn⟩:=r1
    have ha:∀i,out.last.testBit i=true→i < (Zdr (mk y s').2.fol rl rf).length:=fun i hi=>by rw[Zkk,eX.ok.len];exact fA.2 i hi
    have hl:(Zdr (mk y s').2.fol rl rf).length≤448:=by rw[Zkk,eX.ok.len];exact jD
    cases rn
    ·refine Zbz rfl (lentC (ZfL ⟨(mk y s').2.sets,Zdr (mk y s').2.fol rl rf⟩ out ⟨rf,rl,false||decide ((k:Int) ≥ t.mn)⟩ mkb _ _ _ _ _ _ m4 kJ.row hl ha) Zd6 (Zmd kJ gS.ok fun m5 a7 n7 c7 a8 n8 c8 fK=>?_))
     exact⟨by trivial,by trivial,_,by omega,k+1,_,_,_,_,_,_,_,_,bJ,by rw[hw],rfl,rfl,rfl,fK,gS.pt,fH⟩
    ·refine Zcx rfl (lentC (ZfL ⟨(mk y s').2.sets,Zdr (mk y s').2.fol rl rf⟩ out ⟨rf,rl,true||decide ((k:Int) ≥ t.mn)⟩ mkb _ _ _ _ _ _ m4 kJ.row hl ha) Zd6 (Zmd kJ gS.ok fun m5 a7 n7 c7 a8 n8 c8 fK=>?_))
     exact⟨by trivial,by trivial,_,by omega,k+1,_,_,_,_,_,_,_,_,bJ,by rw[hw],rfl,rfl,rfl,fK,gS.pt,fH⟩
   ·have ec:(if t.mx=-1∧k+1=N then(⟨(mk y s').2.sets,Zdr (mk y s').2.fol (mk y s').1.last (mk y s').1.first⟩:Ms)else(mk y s').2)=(mk y s').2:=if_neg fun h=>dY h.2
    rw[ec]at j9 iL fA jO gS fH
    refine Zbz (by simp[dY]) ?_
    generalize eB:(mk y s').1=r1 at *
    obtain⟨rf,rl,rn⟩:=r1
    have ha:∀i,out.last.testBit i=true→i < (mk y s').2.fol.length:=fun i hi=>by rw[eX.ok.len];exact fA.2 i hi
    have hl:(mk y s').2.fol.length≤448:=by rw[eX.ok.len];exact jD
    cases rn
    ·refine Zbz rfl (lentC (ZfL (mk y s').2 out ⟨rf,rl,false||decide ((k:Int) ≥ t.mn)⟩ mkb _ _ _ _ _ _ m3 cT.row hl ha) Zd6 (Zmd cT gS.ok fun m5 a7 n7 c7 a8 n8 c8 fK=>?_))
     exact⟨by trivial,by trivial,_,by omega,k+1,_,_,_,_,_,_,_,_,bJ,by rw[hw],rfl,rfl,rfl,fK,gS.pt,fH⟩
    ·refine Zcx rfl (lentC (ZfL (mk y s').2 out ⟨rf,rl,true||decide ((k:Int) ≥ t.mn)⟩ mkb _ _ _ _ _ _ m3 cT.row hl ha) Zd6 (Zmd cT gS.ok fun m5 a7 n7 c7 a8 n8 c8 fK=>?_))
     exact⟨by trivial,by trivial,_,by omega,k+1,_,_,_,_,_,_,_,_,bJ,by rw[hw],rfl,rfl,rfl,fK,gS.pt,fH⟩
  ·have hk':k=N:=by have:=of_decide_eq_false cS;omega
   subst hk'
   rw[Nat.sub_self,Zmn]at heq
   refine Zaa rfl ⟨by trivial,cF.out ?_ ?_⟩
   ·rw[←heq];rfl
   ·rw[←heq]
 ·have j8:¬t.mx=-1:=by simpa using jt
  have pE:t.mx=(N:Int):=by
   rw[←pH];unfold Zrn;rw[if_neg j8];omega
  intro b2
  refine⟨Zw7 t s m (.slice t0a t0n t0c) (.slice t1a t1n t1c) N,⟨_,start⟩,?_⟩
  rintro x cs cs1 a n c a1 n1 c1 m2 q _ ⟨k,out,s',a',n',c',a1',n1',c1',hk,hx,cH,dA,hq,cF,lk,heq⟩
  obtain rfl:x=k:=by simpa using hx
  simp only[List.cons.injEq,and_true]at cH
  obtain⟨rfl,rfl⟩:=cH
  simp only[List.cons.injEq,Value.slice.injEq,and_true]at dA
  obtain⟨⟨rfl,rfl,rfl⟩,rfl,rfl,rfl⟩:=dA
  subst hq
  have gp:=(cM.mono cF.base).mono (Mem.off_le m2 _)
  refine Zab (fun bK=>?_) (fun cS=>?_)
  ·have bJ:k < N:=by have:=of_decide_eq_true bK;omega
   obtain⟨eX,jD,j9,iL,fA,jO,gS,fH⟩:=round k out s' _ _ bJ cF.ok lk rfl rfl heq
   refine⟨bt,ot,gt,⟨by omega,by omega⟩,_,_,_,_,_,_,_,_,gp,?_⟩
   refine lentC (ih y tE s' mkb _ _ _ _ _ _ m2 cF.row cF.ok (Rep.mono cF.base y jz) jD) Zcu (Zgm cF eX.ok fun m3 a3 n3 c3 a4 n4 c4 cT b5=>?_)
   refine⟨false,Zbz jt ⟨by trivial,by trivial,rfl⟩,Zbz rfl ?_⟩
   have hw:IntKind.i64.wrap ((k:Int)+1)=((k+1:Nat):Int):=by rw[Zax (by omega) (by omega)];rfl
   have ec:(if t.mx=-1∧k+1=N then(⟨(mk y s').2.sets,Zdr (mk y s').2.fol (mk y s').1.last (mk y s').1.first⟩:Ms)else(mk y s').2)=(mk y s').2:=if_neg fun h=>j8 h.1
   rw[ec]at j9 iL fA jO gS fH
   generalize eB:(mk y s').1=r1 at *
   obtain⟨rf,rl,rn⟩:=r1
   have ha:∀i,out.last.testBit i=true→i < (mk y s').2.fol.length:=fun i hi=>by rw[eX.ok.len];exact fA.2 i hi
   have hl:(mk y s').2.fol.length≤448:=by rw[eX.ok.len];exact jD
   cases rn
   ·refine Zbz rfl (lentC (ZfL (mk y s').2 out ⟨rf,rl,false||decide ((k:Int) ≥ t.mn)⟩ mkb _ _ _ _ _ _ m3 cT.row hl ha) Zd6 (Zmd cT gS.ok fun m5 a7 n7 c7 a8 n8 c8 fK=>?_))
    exact⟨by trivial,by trivial,_,by omega,k+1,_,_,_,_,_,_,_,_,bJ,by rw[hw],rfl,rfl,rfl,fK,gS.pt,fH⟩
   ·refine Zcx rfl (lentC (ZfL (mk y s').2 out ⟨rf,rl,true||decide ((k:Int) ≥ t.mn)⟩ mkb _ _ _ _ _ _ m3 cT.row hl ha) Zd6 (Zmd cT gS.ok fun m5 a7 n7 c7 a8 n8 c8 fK=>?_))
    exact⟨by trivial,by trivial,_,by omega,k+1,_,_,_,_,_,_,_,_,bJ,by rw[hw],rfl,rfl,rfl,fK,gS.pt,fH⟩
  ·have hk':k=N:=by have:=of_decide_eq_false cS;omega
   subst hk'
   rw[Nat.sub_self,Zmn]at heq
   refine Zaa rfl ⟨by trivial,cF.out ?_ ?_⟩
   ·rw[←heq];rfl
   ·rw[←heq]
def ZiS(b:Nat):Value→Mem→List (List Value)→Prop:=fun v m' _=>∃c,m'.reads c 0 [.pointer (some ⟨b,0,none⟩)]∧v=.agg #[.func (.func 135) #[] #[],.func (.func 136) #[] #[],.func (.func 137) #[] #[.pointer (some ⟨c,0,none⟩)],.func (.func 138) #[] #[.pointer (some ⟨c,0,none⟩)],.func (.func 140) #[] #[.pointer (some ⟨c,0,none⟩)],.func (.func 142) #[.pointer (some ⟨b,0,none⟩)] #[],.func (.func 143) #[] #[.pointer (some ⟨c,0,none⟩)]]
theorem Zfn(b:Nat)(m:Mem):CX Try.prog 109 #[.pointer (some ⟨b,0,none⟩)] m [] (ZiS b):=by
 apply ZfB
 unfold Zdp
 intro c m1 bH hc b1
 exact⟨m1,bH,Mem.le_refl _,c,hc,rfl⟩
theorem ZcY{b:Nat}:∀(v:Value)(m':Mem) (css:List (List Value)),ZiS b v m' css→Shape.fits (.agg [.fn,.fn,.fn,.fn,.fn,.fn,.fn]) v=true:=by
 rintro v m' css ⟨c,_,rfl⟩;rfl
theorem ZuN(t:T)(m:Mem):CX Try.prog 136 #[t.v] m [] (Ret (Pt.v ⟨0,0,true⟩)):=by
 apply Zel
 unfold Zcz
 intro c m1 bH hc b1
 exact⟨m1,bH,Mem.le_refl _,rfl⟩
theorem ZrS(t:T)(s:Ms)(mkb:Nat)(t0a t1a:Option Addr)(t0n t0c t1n t1c:Nat)(m:Mem)(h:MkRow m (.slice t0a t0n t0c) (.slice t1a t1n t1c) s):
  CXY Try.prog 136 #[t.v] m (Yof (.slice t0a t0n t0c) (.slice t1a t1n t1c)) [⟨mkb,[.slice t0a t0n t0c,.slice t1a t1n t1c],98,2,false,true⟩] [⟨.slice t0a t0n t0c,4⟩,⟨.slice t1a t1n t1c,7⟩]
   (MkR (.slice t0a t0n t0c) (.slice t1a t1n t1c) m (⟨0,0,true⟩,s)):=
 (CX.frameY (ZuN t m) _ _ _).mono fun v m' css tvs _ h2=>⟨_,_,_,_,_,_,h2.2.2.2,h2.2.1,h2.2.2.1,h.mono h2.1,fun b hb=>.inl hb⟩
theorem Zw8{m m':Mem}{v0 v1:Value}{s:Ms}{c:Nat}{p:Option Addr}(h:MkRow m v0 v1 s)(hm:m.le m')(hc:m' c 0=some (.pointer p)):¬Yof v0 v1 c:=by
 rintro(hY|hY)
 ·obtain⟨c',_,h2,h3⟩:=Zfm h.row0 hY
  cases hs:s.sets with
  | nil=>rw[hs]at h3;simp at h3
  | cons q l=>
   rw[hs]at h2
   have:=hm _ _ _ (h2 0 (.int .u64 q.1) rfl)
   rw[Nat.add_zero,hc]at this;cases this
 ·obtain⟨c',_,h2,h3⟩:=Zfm h.row1 hY
  obtain⟨n,hn⟩:=ZgR h3
  have:=hm _ _ _ (h2 0 _ hn)
  rw[Nat.add_zero,hc]at this;cases this
theorem ZjE{b:Nat}{m':Mem}{css:List (List Value)}{g g1 g2 g3 g4 g5 g6:FuncId}{fi ca fi1 ca1 fi2 ca2 fi3 ca3 fi4 ca4 fi5 ca5 fi6 ca6:List Value}(h:ZiS b (.agg #[.func (.func g) fi.toArray ca.toArray,.func (.func g1) fi1.toArray ca1.toArray,.func (.func g2) fi2.toArray ca2.toArray,.func (.func g3) fi3.toArray ca3.toArray,.func (.func g4) fi4.toArray ca4.toArray,.func (.func g5) fi5.toArray ca5.toArray,.func (.func g6) fi6.toArray ca6.toArray]) m' css):
  ∃c,m' c 0=some (.pointer (some ⟨b,0,none⟩))∧(g1=136∧fi1=[]∧ca1=[])∧(g2=137∧fi2=[]∧ca2=[.pointer (some ⟨c,0,none⟩)])∧(g3=138∧fi3=[]∧ca3=[.pointer (some ⟨c,0,none⟩)])∧(g4=140∧fi4=[]∧ca4=[.pointer (some ⟨c,0,none⟩)])∧(g5=142∧fi5=[.pointer (some ⟨b,0,none⟩)]∧ca5=[])∧(g6=143∧fi6=[]∧ca6=[.pointer (some ⟨c,0,none⟩)]):=by
 obtain⟨c,hc,hv⟩:=h
 simp only[Value.agg.injEq,Array.mk.injEq,List.cons.injEq,Value.func.injEq,Fn.func.injEq,and_true,true_and]at hv
 obtain⟨_,h1,h2,h3,h4,h5,h6⟩:=hv
 exact⟨c,by simpa using hc 0 _ rfl,h1,h2,h3,h4,h5,h6⟩
theorem ZsB:∀t:T,(∀x∈t.nodes,x.right=true)→MkC t:=by
 intro t cC
 have ih:∀x∈t.subs,MkC x:=fun x hx=>ZsB x fun y hy=>cC y (by
  rw[Za5]
  obtain⟨i,hi⟩:=List.getElem?_of_mem hx
  rw[ZdZ hi];simp[hy])
 have gE:t.right=true:=cC t (by rw[Za5];simp)
 intro s mkb t0a t1a t0n t0c t1n t1c m bM hs hr hN
 rw[ZwK]at hN ⊢
 have hk:t.k=1∨t.k=2∨t.k=3∨t.k=4∨(t.k=5∧t.subs.length=1∧Zd0 t.mn t.mx=true)∨(t.k=6∧t.subs.length=1):=by
  unfold T.right at gE
  rw[Bool.and_eq_true]at gE
  have h2:=gE.2
  by_cases h1:t.k=1;· exact .inl h1
  by_cases h3:t.k=2;· exact .inr (.inl h3)
  by_cases h4:t.k=3;· exact .inr (.inr (.inl h4))
  by_cases h5:t.k=4;· exact .inr (.inr (.inr (.inl h5)))
  by_cases h6:t.k=5
  ·rw[if_neg h1,if_neg h3,if_neg h4,if_neg h5,if_pos h6]at h2
   simp only[Bool.and_eq_true,beq_iff_eq]at h2
   exact .inr (.inr (.inr (.inr (.inl ⟨h6,h2.1,h2.2.1⟩))))
  ·rw[if_neg h1,if_neg h3,if_neg h4,if_neg h5,if_neg h6]at h2
   simp only[Bool.and_eq_true,beq_iff_eq]at h2
   exact .inr (.inr (.inr (.inr (.inr h2))))
 obtain⟨k,s0,s1,s2,s3,mn,mx,a,c,l⟩:=t
 rcases hk with hk|hk|hk|hk|⟨hk,h1,hb⟩|⟨hk,h1⟩
 ·obtain rfl:k=1:=hk
  rw[if_neg (by simp[T.k]),if_pos (by rfl)]at hN ⊢
  apply Zem
  unfold ZcP
  intro b m1 bH _ hf _ b1
  refine⟨fun _ _ _=>ZiS mkb,_,rfl,Zfn mkb m1,ZcY,?_⟩
  intro g fi ca g1 fi1 ca1 g2 fi2 ca2 g3 fi3 ca3 g4 fi4 ca4 g5 fi5 ca5 g6 fi6 ca6 m2 bN hR
  obtain⟨cc,jc,⟨rfl,rfl,rfl⟩,⟨rfl,rfl,rfl⟩,⟨rfl,rfl,rfl⟩,⟨rfl,rfl,rfl⟩,⟨rfl,rfl,rfl⟩,rfl,rfl,rfl⟩:=ZjE hR
  refine⟨⟨by omega,by omega⟩,fun M gR fN=>?_⟩
  have cF:=MkSt.refl bM hs (Mem.le_trans bH gR)
  refine lentC (ZrS (.node 1 s0 s1 s2 s3 mn mx a c l) s mkb _ _ _ _ _ _ M cF.row) Zcu (Zgm cF hs fun m3 a3 n3 c3 a4 n4 c4 cT=>?_)
  exact⟨rfl,cT.out rfl rfl⟩
 ·obtain rfl:k=2:=hk
  rw[if_neg (by simp[T.k]),if_neg (by simp[T.k]),if_pos (by rfl)]at hN ⊢
  apply Zen
  unfold ZcQ
  intro b m1 bH _ hf _ b1
  refine⟨fun _ _ _=>ZiS mkb,_,rfl,Zfn mkb m1,ZcY,?_⟩
  intro g fi ca g1 fi1 ca1 g2 fi2 ca2 g3 fi3 ca3 g4 fi4 ca4 g5 fi5 ca5 g6 fi6 ca6 m2 bN hR
  obtain⟨cc,jc,⟨rfl,rfl,rfl⟩,⟨rfl,rfl,rfl⟩,⟨rfl,rfl,rfl⟩,⟨rfl,rfl,rfl⟩,⟨rfl,rfl,rfl⟩,rfl,rfl,rfl⟩:=ZjE hR
  refine⟨⟨by omega,by omega⟩,fun M gR fN=>?_⟩
  have cF:=MkSt.refl bM hs (Mem.le_trans bH gR)
  simp only[List.length_append,List.length_singleton]at hN
  refine lentC (ZuJ (.node 2 s0 s1 s2 s3 mn mx a c l) s cc mkb _ _ _ _ _ _ M cF.row (by omega) hs.len (fN _ _ _ jc)) Zcu (Zgm cF (ZnD hs _).ok fun m3 a3 n3 c3 a4 n4 c4 cT=>?_)
  exact⟨rfl,cT.out rfl rfl⟩
 ·obtain rfl:k=3:=hk
  rw[if_neg (by simp[T.k]),if_neg (by simp[T.k]),if_neg (by simp[T.k]),if_pos (by rfl)]at hN ⊢
  apply Zeo
  unfold ZcR
  intro b m1 bH _ hf _ b1
  refine⟨fun _ _ _=>ZiS mkb,_,rfl,Zfn mkb m1,ZcY,?_⟩
  intro g fi ca g1 fi1 ca1 g2 fi2 ca2 g3 fi3 ca3 g4 fi4 ca4 g5 fi5 ca5 g6 fi6 ca6 m2 bN hR
  obtain⟨cc,jc,⟨rfl,rfl,rfl⟩,⟨rfl,rfl,rfl⟩,⟨rfl,rfl,rfl⟩,⟨rfl,rfl,rfl⟩,⟨rfl,rfl,rfl⟩,rfl,rfl,rfl⟩:=ZjE hR
  refine⟨⟨by omega,by omega⟩,fun M gR fN=>?_⟩
  have cF:=MkSt.refl bM hs (Mem.le_trans bH gR)
  have oA:(M.off (Yof (.slice t0a t0n t0c) (.slice t1a t1n t1c))) cc 0=some (.pointer (some ⟨mkb,0,none⟩)):=by
   rw[Mem.off_at (Zw8 cF.row (Mem.le_refl _) (fN _ _ _ jc))];exact fN _ _ _ jc
  refine lentC (ZuL (.node 3 s0 s1 s2 s3 mn mx a c l) ih s cc mkb _ _ _ _ _ _ M cF.row hs (Rep.mono cF.base _ hr) oA hN) Zcu (Zgm cF (Ze4 _ _ _ hs (ZbW _ _)).ok fun m3 a3 n3 c3 a4 n4 c4 cT=>?_)
  exact⟨rfl,cT.out rfl rfl⟩
 ·obtain rfl:k=4:=hk
  rw[if_neg (by simp[T.k]),if_neg (by simp[T.k]),if_neg (by simp[T.k]),if_neg (by simp[T.k]),if_pos (by rfl)]at hN ⊢
  apply Zep
  unfold ZcS
  intro b m1 bH _ hf _ b1
  refine⟨fun _ _ _=>ZiS mkb,_,rfl,Zfn mkb m1,ZcY,?_⟩
  intro g fi ca g1 fi1 ca1 g2 fi2 ca2 g3 fi3 ca3 g4 fi4 ca4 g5 fi5 ca5 g6 fi6 ca6 m2 bN hR
  obtain⟨cc,jc,⟨rfl,rfl,rfl⟩,⟨rfl,rfl,rfl⟩,⟨rfl,rfl,rfl⟩,⟨rfl,rfl,rfl⟩,⟨rfl,rfl,rfl⟩,rfl,rfl,rfl⟩:=ZjE hR
  refine⟨⟨by omega,by omega⟩,fun M gR fN=>?_⟩
  have cF:=MkSt.refl bM hs (Mem.le_trans bH gR)
  have oA:(M.off (Yof (.slice t0a t0n t0c) (.slice t1a t1n t1c))) cc 0=some (.pointer (some ⟨mkb,0,none⟩)):=by
   rw[Mem.off_at (Zw8 cF.row (Mem.le_refl _) (fN _ _ _ jc))];exact fN _ _ _ jc
  refine lentC (ZuM (.node 4 s0 s1 s2 s3 mn mx a c l) ih s cc mkb _ _ _ _ _ _ M cF.row hs (Rep.mono cF.base _ hr) oA hN) Zcu (Zgm cF (Ze5 _ _ _ hs (ZbW _ _)).ok fun m3 a3 n3 c3 a4 n4 c4 cT=>?_)
  exact⟨rfl,cT.out rfl rfl⟩
 ·obtain rfl:k=5:=hk
  rw[if_neg (by simp[T.k]),if_neg (by simp[T.k]),if_neg (by simp[T.k]),if_neg (by simp[T.k]),if_neg (by simp[T.k]),if_pos (by rfl)]at hN ⊢
  apply Zeq
  unfold ZcT
  intro b m1 bH _ hf _ b1
  refine⟨fun _ _ _=>ZiS mkb,_,rfl,Zfn mkb m1,ZcY,?_⟩
  intro g fi ca g1 fi1 ca1 g2 fi2 ca2 g3 fi3 ca3 g4 fi4 ca4 g5 fi5 ca5 g6 fi6 ca6 m2 bN hR
  obtain⟨cc,jc,⟨rfl,rfl,rfl⟩,⟨rfl,rfl,rfl⟩,⟨rfl,rfl,rfl⟩,⟨rfl,rfl,rfl⟩,⟨rfl,rfl,rfl⟩,rfl,rfl,rfl⟩:=ZjE hR
  refine⟨⟨by omega,by omega⟩,fun M gR fN=>?_⟩
  have cF:=MkSt.refl bM hs (Mem.le_trans bH gR)
  refine lentC (Zpu (.node 5 s0 s1 s2 s3 mn mx a c l) h1 hb ih s mkb _ _ _ _ _ _ M cF.row hs (Rep.mono cF.base _ hr) hN) Zcu (Zgm cF (Zge (fun s h=>ZeP _ s h) _ _ _ _ _ _ _ hs (ZbW _ _)).ok fun m3 a3 n3 c3 a4 n4 c4 cT=>?_)
  exact⟨rfl,cT.out rfl rfl⟩
 ·obtain rfl:k=6:=hk
  rw[if_neg (by simp[T.k]),if_neg (by simp[T.k]),if_neg (by simp[T.k]),if_neg (by simp[T.k]),if_neg (by simp[T.k]),if_neg (by simp[T.k])]at hN ⊢
  apply Zer
  unfold ZcU
  intro b m1 bH _ hf _ b1
  refine⟨fun _ _ _=>ZiS mkb,_,rfl,Zfn mkb m1,ZcY,?_⟩
  intro g fi ca g1 fi1 ca1 g2 fi2 ca2 g3 fi3 ca3 g4 fi4 ca4 g5 fi5 ca5 g6 fi6 ca6 m2 bN hR
  obtain⟨cc,jc,⟨rfl,rfl,rfl⟩,⟨rfl,rfl,rfl⟩,⟨rfl,rfl,rfl⟩,⟨rfl,rfl,rfl⟩,⟨rfl,rfl,rfl⟩,rfl,rfl,rfl⟩:=ZjE hR
  refine⟨⟨by omega,by omega⟩,fun M gR fN=>?_⟩
  have cF:=MkSt.refl bM hs (Mem.le_trans bH gR)
  have oA:(M.off (Yof (.slice t0a t0n t0c) (.slice t1a t1n t1c))) cc 0=some (.pointer (some ⟨mkb,0,none⟩)):=by
   rw[Mem.off_at (Zw8 cF.row (Mem.le_refl _) (fN _ _ _ jc))];exact fN _ _ _ jc
  refine lentC (ZrQ (.node 6 s0 s1 s2 s3 mn mx a c l) h1 ih s cc mkb _ _ _ _ _ _ M cF.row hs (Rep.mono cF.base _ hr) oA hN) Zcu (Zgm cF (ZeP _ _ hs).ok fun m3 a3 n3 c3 a4 n4 c4 cT=>?_)
  exact⟨rfl,cT.out rfl rfl⟩
termination_by t=>SizeOf.sizeOf t
decreasing_by exact ZoX hx
end Go.Proofs.Ytplacemlpkhmfaa

