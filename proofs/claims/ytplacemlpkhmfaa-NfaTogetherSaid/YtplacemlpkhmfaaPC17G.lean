/- Part of the proof: conditions and contracts of functions of this program. No condition of its own. -/
import Derived.Test.YtplacemlpkhmfaaPC17F
set_option linter.unusedVariables false
set_option linter.unusedSimpArgs false
namespace Go.Proofs.Ytplacemlpkhmfaa
open Go Go.Eng Go.Rx Go.Proofs Go.RowKit
set_option maxRecDepth 100000
theorem ZoT{mn mx:Int}(h:Zcm mn mx=true):0≤mn∧mn≤16∧(mx=-1∨(1≤mx∧mx≤16)):=by
 unfold Zcm at h
 simp only[Bool.and_eq_true,Bool.not_eq_true',Bool.or_eq_false_iff,Bool.or_eq_true,decide_eq_false_iff_not,decide_eq_true_eq,beq_iff_eq]at h
 omega
theorem Zrj{l:List T}{y:T}(h:l[0]?=some y)(s:Ms):Zhj l s=mk y s:=by
 cases l with
 | nil=>simp at h
 | cons z l=>simp at h;subst h;rw[Zhj]
theorem ZsA(f:Ms→Pt×Ms)(mn mx:Int)(N k:Nat)(hk:k < N)(out:Pt)(s:Ms)(s2:Ms)(gj:s2=if mx=-1∧k+1=N then⟨(f s).2.sets,ZbV (f s).2.fol (f s).1.last (f s).1.first⟩ else(f s).2)(y:Pt)(hy:y=⟨(f s).1.first,(f s).1.last,(f s).1.null||decide ((k:Int) ≥ mn)⟩):
  Zht f mn mx N (N - k) k out s=Zht f mn mx N (N - (k+1)) (k+1) (Zcc out y s2).1 (Zcc out y s2).2:=by
 subst gj hy
 rw[show N - k=(N - (k+1))+1 by omega,Zht]
abbrev ZxD(t:T)(s:Ms)(m:Mem)(v0 v1:Value)(N:Nat):List Value→List (List Value)→List Value→Mem→Nat→Prop:=fun xs css tvs m' q=>∃(k:Nat)(out:Pt)(s':Ms)(a:Option Addr)(n c:Nat)(a1:Option Addr)(n1 c1:Nat),k≤N∧xs=[.int .i64 k]∧css=[out.cs,[.slice a n c,.slice a1 n1 c1]]∧tvs=[.slice a n c,.slice a1 n1 c1]∧q=N - k∧MkSt m v0 v1 m' (.slice a n c) (.slice a1 n1 c1) s'∧PtIn s'.sets.length out∧Zht (fun s=>Zhj t.subs s) t.mn t.mx N (N - k) k out s'=Zht (fun s=>Zhj t.subs s) t.mn t.mx N N 0 ⟨0,0,true⟩ s
theorem Zqb(t:T)(ht:t.subs.length=1)(hb:Zcm t.mn t.mx=true)(ih:∀x∈t.subs,MkC x)(s:Ms)(mkb:Nat)(t0a t1a:Option Addr)(t0n t0c t1n t1c:Nat)(m:Mem)(h:MkRow m (.slice t0a t0n t0c) (.slice t1a t1n t1c) s)(hs:MsOk s)(hr:Rep (m.off (Yof (.slice t0a t0n t0c) (.slice t1a t1n t1c))) t)(hN:(Zht (fun s=>Zhj t.subs s) t.mn t.mx (ZmV t.mn t.mx) (ZmV t.mn t.mx) 0 ⟨0,0,true⟩ s).2.sets.length≤448):
  CXY Try.prog 142 #[.pointer (some ⟨mkb,0,none⟩),t.v] m (Yof (.slice t0a t0n t0c) (.slice t1a t1n t1c)) [⟨mkb,[.slice t0a t0n t0c,.slice t1a t1n t1c],98,2,false,true⟩] [⟨.slice t0a t0n t0c,4⟩,⟨.slice t1a t1n t1c,7⟩]
   (MkR (.slice t0a t0n t0c) (.slice t1a t1n t1c) m (Zht (fun s=>Zhj t.subs s) t.mn t.mx (ZmV t.mn t.mx) (ZmV t.mn t.mx) 0 ⟨0,0,true⟩ s)):=by
 apply ZeK
 unfold Zdb
 intro b0 m1 bJ _ kV jp b1
 obtain⟨fS,il,gk⟩:=ZoT hb
 obtain⟨y,hy⟩:∃y,t.subs[0]?=some y:=⟨t.subs[0],by simp[ht]⟩
 have t4:=List.mem_of_getElem? hy
 rcases(ZdO hr).2 with he|⟨bt,ot,f9,ii⟩
 ·rw[he]at ht;simp at ht
 obtain⟨cQ,jH⟩:=ii.get hy
 rw[Nat.zero_mul]at cQ
 generalize pZ:ZmV t.mn t.mx=N at hN ⊢
 have vM:N≤16:=by
  rw[←pZ];unfold ZmV;split <;> omega
 have ZuA:∀(q k:Nat)(out:Pt)(s':Ms),MsOk s'→PtIn s'.sets.length out→Grows s' (Zht (fun s=>Zhj t.subs s) t.mn t.mx N q k out s'):=fun q k out s' h1 h2=>Zgt (fun s h=>Ze1 _ s h) _ _ _ _ _ _ _ h1 h2
 have round:∀(k:Nat)(out:Pt)(s' s2:Ms)(z:Pt),k < N→MsOk s'→PtIn s'.sets.length out→s2=(if t.mx=-1∧k+1=N then⟨(mk y s').2.sets,ZbV (mk y s').2.fol (mk y s').1.last (mk y s').1.first⟩ else(mk y s').2)→z=⟨(mk y s').1.first,(mk y s').1.last,(mk y s').1.null||decide ((k:Int) ≥ t.mn)⟩→
   Zht (fun s=>Zhj t.subs s) t.mn t.mx N (N - k) k out s'=Zht (fun s=>Zhj t.subs s) t.mn t.mx N N 0 ⟨0,0,true⟩ s→Grows s' (mk y s')∧(mk y s').2.sets.length≤448∧MsOk s2∧s2.sets=(mk y s').2.sets∧PtIn s2.sets.length out∧PtIn s2.sets.length z∧Grows s2 (Zcc out z s2)∧
   Zht (fun s=>Zhj t.subs s) t.mn t.mx N (N - (k+1)) (k+1) (Zcc out z s2).1 (Zcc out z s2).2=Zht (fun s=>Zhj t.subs s) t.mn t.mx N N 0 ⟨0,0,true⟩ s:=by
  intro k out s' s2 z hk hs' hp gj hz heq
  have cO:=ZsA (fun s=>Zhj t.subs s) t.mn t.mx N k hk out s' s2 (by simp only[Zrj hy];exact gj) z (by simp only[Zrj hy];exact hz)
  have fE:=Zd1 y s' hs'
  have e:s2.sets=(mk y s').2.sets:=by rw[gj];split <;> rfl
  have h2:MsOk s2:=by
   rw[gj];split
   ·exact fE.ok.loop _ _ fE.pt.1
   ·exact fE.ok
  have dD:PtIn s2.sets.length out:=hp.mono (by rw[e];exact fE.le)
  have kS:PtIn s2.sets.length z:=by rw[e,hz];exact fE.pt
  have h3:=Zfg h2 dD kS
  have h4:=ZuA (N - (k+1)) (k+1) _ _ h3.ok h3.pt
  rw[←cO,heq]at h4
  refine⟨fE,?_,h2,e,dD,kS,h3,cO.symm.trans heq⟩
  rw[←e];exact Nat.le_trans h3.le (Nat.le_trans h4.le hN)
 have start:ZxD t s m (.slice t0a t0n t0c) (.slice t1a t1n t1c) N [.int .i64 0] [Zce,[.slice t0a t0n t0c,.slice t1a t1n t1c]] [.slice t0a t0n t0c,.slice t1a t1n t1c] m1 N:=
  ⟨0,⟨0,0,true⟩,s,t0a,t0n,t0c,t1a,t1n,t1c,Nat.zero_le _,rfl,rfl,rfl,rfl,MkSt.refl h hs bJ,ZbN _ _,rfl⟩
 refine Zaa (fun jo=>?_) (fun jo=>?_)
 ·have kj:t.mx=-1:=by simpa using jo
  have pX:(if(1:Int) > t.mn then(1:Int)else t.mn)=(N:Int):=by
   rw[←pZ];unfold ZmV;rw[if_pos kj];split <;> omega
  intro b2
  simp only[pX]
  refine⟨ZxD t s m (.slice t0a t0n t0c) (.slice t1a t1n t1c) N,⟨_,start⟩,?_⟩
  rintro x cs cs1 a n c a1 n1 c1 m2 q _ ⟨k,out,s',a',n',c',a1',n1',c1',hk,hx,cG,dF,hq,cL,lC,heq⟩
  obtain rfl:x=k:=by simpa using hx
  simp only[List.cons.injEq,and_true]at cG
  obtain⟨rfl,rfl⟩:=cG
  simp only[List.cons.injEq,Value.slice.injEq,and_true]at dF
  obtain⟨⟨rfl,rfl,rfl⟩,rfl,rfl,rfl⟩:=dF
  subst hq
  have gw:=(cQ.mono cL.base).mono (Mem.off_le m2 _)
  refine Zaa (fun bM=>?_) (fun cR=>?_)
  ·have bL:k < N:=by have:=of_decide_eq_true bM;omega
   obtain⟨fE,iW,km,iX,dD,kS,gT,eK⟩:=round k out s' _ _ bL cL.ok lC rfl rfl heq
   have eJ:IntKind.i64.wrap ((N:Int) - 1)=(N:Int) - 1:=ZaA (by omega) (by omega)
   refine⟨bt,ot,f9,⟨by omega,by omega⟩,_,_,_,_,_,_,_,_,gw,?_⟩
   refine lentC (ih y t4 s' mkb _ _ _ _ _ _ m2 cL.row cL.ok (Rep.mono cL.base y jH) iW) ZcE (ZgB cL fE.ok fun m3 a3 n3 c3 a4 n4 c4 cV b5=>?_)
   refine⟨decide (k+1=N),ZcH jo ⟨by trivial,by trivial,by rw[eJ];congr 2;rw[Bool.eq_iff_iff];simp;omega⟩,?_⟩
   have hw:IntKind.i64.wrap ((k:Int)+1)=((k+1:Nat):Int):=by rw[ZaA (by omega) (by omega)];rfl
   by_cases cF:k+1=N
   ·have ec:(if t.mx=-1∧k+1=N then(⟨(mk y s').2.sets,ZbV (mk y s').2.fol (mk y s').1.last (mk y s').1.first⟩:Ms)else(mk y s').2)=⟨(mk y s').2.sets,ZbV (mk y s').2.fol (mk y s').1.last (mk y s').1.first⟩:=if_pos ⟨kj,cF⟩
    rw[ec]at km iX dD kS gT eK
    refine ZcH (by simp[cF]) ?_
    refine lentC (Zrg (mk y s').2 (mk y s').1.last (mk y s').1.first mkb _ _ _ _ _ _ m3 cV.row (by rw[fE.ok.len];exact iW) (fun i hi=>by rw[fE.ok.len];exact fE.pt.2 i hi)) (by rintro v m' css tvs ⟨rfl,_⟩;rfl) ?_
    rintro m4 kn _ cs3 a5 n5 c5 a6 n6 c6 ⟨_,si,oX,cW⟩
    simp only[List.cons.injEq,Value.slice.injEq,and_true]at oX
    obtain⟨⟨rfl,rfl,rfl⟩,rfl,rfl,rfl⟩:=oX
    obtain rfl:cs3=[.slice a5 n5 c5,.slice a6 n6 c6]:=by simpa using si
    have kW:=cV.step kn cW (fun b hb=>.inl hb) km
    generalize eF:(mk y s').1=r1 at *
    obtain⟨rf,rl,rn⟩:=r1
    have ha:∀i,out.last.testBit i=true→i < (ZbV (mk y s').2.fol rl rf).length:=fun i hi=>by rw[ZkL,fE.ok.len];exact dD.2 i hi
    have hl:(ZbV (mk y s').2.fol rl rf).length≤448:=by rw[ZkL,fE.ok.len];exact iW
    cases rn
    ·refine ZbD rfl (lentC (Zf0 ⟨(mk y s').2.sets,ZbV (mk y s').2.fol rl rf⟩ out ⟨rf,rl,false||decide ((k:Int) ≥ t.mn)⟩ mkb _ _ _ _ _ _ m4 kW.row hl ha) Zen (ZmG kW gT.ok fun m5 a7 n7 c7 a8 n8 c8 fQ=>?_))
     exact⟨by trivial,by trivial,_,by omega,k+1,_,_,_,_,_,_,_,_,bL,by rw[hw],rfl,rfl,rfl,fQ,gT.pt,eK⟩
    ·refine ZcH rfl (lentC (Zf0 ⟨(mk y s').2.sets,ZbV (mk y s').2.fol rl rf⟩ out ⟨rf,rl,true||decide ((k:Int) ≥ t.mn)⟩ mkb _ _ _ _ _ _ m4 kW.row hl ha) Zen (ZmG kW gT.ok fun m5 a7 n7 c7 a8 n8 c8 fQ=>?_))
     exact⟨by trivial,by trivial,_,by omega,k+1,_,_,_,_,_,_,_,_,bL,by rw[hw],rfl,rfl,rfl,fQ,gT.pt,eK⟩
   ·have ec:(if t.mx=-1∧k+1=N then(⟨(mk y s').2.sets,ZbV (mk y s').2.fol (mk y s').1.last (mk y s').1.first⟩:Ms)else(mk y s').2)=(mk y s').2:=if_neg fun h=>cF h.2
    rw[ec]at km iX dD kS gT eK
    refine ZbD (by simp[cF]) ?_
    generalize eF:(mk y s').1=r1 at *
    obtain⟨rf,rl,rn⟩:=r1
    have ha:∀i,out.last.testBit i=true→i < (mk y s').2.fol.length:=fun i hi=>by rw[fE.ok.len];exact dD.2 i hi
    have hl:(mk y s').2.fol.length≤448:=by rw[fE.ok.len];exact iW
    cases rn
    ·refine ZbD rfl (lentC (Zf0 (mk y s').2 out ⟨rf,rl,false||decide ((k:Int) ≥ t.mn)⟩ mkb _ _ _ _ _ _ m3 cV.row hl ha) Zen (ZmG cV gT.ok fun m5 a7 n7 c7 a8 n8 c8 fQ=>?_))
     exact⟨by trivial,by trivial,_,by omega,k+1,_,_,_,_,_,_,_,_,bL,by rw[hw],rfl,rfl,rfl,fQ,gT.pt,eK⟩
    ·refine ZcH rfl (lentC (Zf0 (mk y s').2 out ⟨rf,rl,true||decide ((k:Int) ≥ t.mn)⟩ mkb _ _ _ _ _ _ m3 cV.row hl ha) Zen (ZmG cV gT.ok fun m5 a7 n7 c7 a8 n8 c8 fQ=>?_))
     exact⟨by trivial,by trivial,_,by omega,k+1,_,_,_,_,_,_,_,_,bL,by rw[hw],rfl,rfl,rfl,fQ,gT.pt,eK⟩
  ·have hk':k=N:=by have:=of_decide_eq_false cR;omega
   subst hk'
   rw[Nat.sub_self,Zht]at heq
   refine Zab rfl ⟨by trivial,cL.out ?_ ?_⟩
   ·rw[←heq];rfl
   ·rw[←heq]
 ·have kj:¬t.mx=-1:=by simpa using jo
  have pX:t.mx=(N:Int):=by
   rw[←pZ];unfold ZmV;rw[if_neg kj];omega
  intro b2
  refine⟨ZxD t s m (.slice t0a t0n t0c) (.slice t1a t1n t1c) N,⟨_,start⟩,?_⟩
  rintro x cs cs1 a n c a1 n1 c1 m2 q _ ⟨k,out,s',a',n',c',a1',n1',c1',hk,hx,cG,dF,hq,cL,lC,heq⟩
  obtain rfl:x=k:=by simpa using hx
  simp only[List.cons.injEq,and_true]at cG
  obtain⟨rfl,rfl⟩:=cG
  simp only[List.cons.injEq,Value.slice.injEq,and_true]at dF
  obtain⟨⟨rfl,rfl,rfl⟩,rfl,rfl,rfl⟩:=dF
  subst hq
  have gw:=(cQ.mono cL.base).mono (Mem.off_le m2 _)
  refine Zaa (fun bM=>?_) (fun cR=>?_)
  ·have bL:k < N:=by have:=of_decide_eq_true bM;omega
   obtain⟨fE,iW,km,iX,dD,kS,gT,eK⟩:=round k out s' _ _ bL cL.ok lC rfl rfl heq
   refine⟨bt,ot,f9,⟨by omega,by omega⟩,_,_,_,_,_,_,_,_,gw,?_⟩
   refine lentC (ih y t4 s' mkb _ _ _ _ _ _ m2 cL.row cL.ok (Rep.mono cL.base y jH) iW) ZcE (ZgB cL fE.ok fun m3 a3 n3 c3 a4 n4 c4 cV b5=>?_)
   refine⟨false,ZbD jo ⟨by trivial,by trivial,rfl⟩,ZbD rfl ?_⟩
   have hw:IntKind.i64.wrap ((k:Int)+1)=((k+1:Nat):Int):=by rw[ZaA (by omega) (by omega)];rfl
   have ec:(if t.mx=-1∧k+1=N then(⟨(mk y s').2.sets,ZbV (mk y s').2.fol (mk y s').1.last (mk y s').1.first⟩:Ms)else(mk y s').2)=(mk y s').2:=if_neg fun h=>kj h.1
   rw[ec]at km iX dD kS gT eK
   generalize eF:(mk y s').1=r1 at *
   obtain⟨rf,rl,rn⟩:=r1
   have ha:∀i,out.last.testBit i=true→i < (mk y s').2.fol.length:=fun i hi=>by rw[fE.ok.len];exact dD.2 i hi
   have hl:(mk y s').2.fol.length≤448:=by rw[fE.ok.len];exact iW
   cases rn
   ·refine ZbD rfl (lentC (Zf0 (mk y s').2 out ⟨rf,rl,false||decide ((k:Int) ≥ t.mn)⟩ mkb _ _ _ _ _ _ m3 cV.row hl ha) Zen (ZmG cV gT.ok fun m5 a7 n7 c7 a8 n8 c8 fQ=>?_))
    exact⟨by trivial,by trivial,_,by omega,k+1,_,_,_,_,_,_,_,_,bL,by rw[hw],rfl,rfl,rfl,fQ,gT.pt,eK⟩
   ·refine ZcH rfl (lentC (Zf0 (mk y s').2 out ⟨rf,rl,true||decide ((k:Int) ≥ t.mn)⟩ mkb _ _ _ _ _ _ m3 cV.row hl ha) Zen (ZmG cV gT.ok fun m5 a7 n7 c7 a8 n8 c8 fQ=>?_))
    exact⟨by trivial,by trivial,_,by omega,k+1,_,_,_,_,_,_,_,_,bL,by rw[hw],rfl,rfl,rfl,fQ,gT.pt,eK⟩
  ·have hk':k=N:=by have:=of_decide_eq_false cR;omega
   subst hk'
   rw[Nat.sub_self,Zht]at heq
   refine Zab rfl ⟨by trivial,cL.out ?_ ?_⟩
   ·rw[←heq];rfl
   ·rw[←heq]
def Zjl(b:Nat):Value→Mem→List (List Value)→Prop:=fun v m' _=>∃c,m'.reads c 0 [.pointer (some ⟨b,0,none⟩)]∧v=.agg #[.func (.func 135) #[] #[],.func (.func 136) #[] #[],.func (.func 137) #[] #[.pointer (some ⟨c,0,none⟩)],.func (.func 138) #[] #[.pointer (some ⟨c,0,none⟩)],.func (.func 140) #[] #[.pointer (some ⟨c,0,none⟩)],.func (.func 142) #[.pointer (some ⟨b,0,none⟩)] #[],.func (.func 143) #[] #[.pointer (some ⟨c,0,none⟩)]]
theorem ZfH(b:Nat)(m:Mem):CX Try.prog 109 #[.pointer (some ⟨b,0,none⟩)] m [] (Zjl b):=by
 apply ZfQ
 unfold ZdC
 intro c m1 bJ hc b1
 exact⟨m1,bJ,Mem.le_refl _,c,hc,rfl⟩
theorem Zdc{b:Nat}:∀(v:Value)(m':Mem) (css:List (List Value)),Zjl b v m' css→Shape.fits (.agg [.fn,.fn,.fn,.fn,.fn,.fn,.fn]) v=true:=by
 rintro v m' css ⟨c,_,rfl⟩;rfl
theorem Zvy(t:T)(m:Mem):CX Try.prog 136 #[t.v] m [] (Ret (Pt.v ⟨0,0,true⟩)):=by
 apply Zez
 unfold ZcM
 intro c m1 bJ hc b1
 exact⟨m1,bJ,Mem.le_refl _,rfl⟩
theorem ZsB(t:T)(s:Ms)(mkb:Nat)(t0a t1a:Option Addr)(t0n t0c t1n t1c:Nat)(m:Mem)(h:MkRow m (.slice t0a t0n t0c) (.slice t1a t1n t1c) s):
  CXY Try.prog 136 #[t.v] m (Yof (.slice t0a t0n t0c) (.slice t1a t1n t1c)) [⟨mkb,[.slice t0a t0n t0c,.slice t1a t1n t1c],98,2,false,true⟩] [⟨.slice t0a t0n t0c,4⟩,⟨.slice t1a t1n t1c,7⟩]
   (MkR (.slice t0a t0n t0c) (.slice t1a t1n t1c) m (⟨0,0,true⟩,s)):=
 (CX.frameY (Zvy t m) _ _ _).mono fun v m' css tvs _ h2=>⟨_,_,_,_,_,_,h2.2.2.2,h2.2.1,h2.2.2.1,h.mono h2.1,fun b hb=>.inl hb⟩
theorem ZxE{m m':Mem}{v0 v1:Value}{s:Ms}{c:Nat}{p:Option Addr}(h:MkRow m v0 v1 s)(hm:m.le m')(hc:m' c 0=some (.pointer p)):¬Yof v0 v1 c:=by
 rintro(hY|hY)
 ·obtain⟨c',_,h2,h3⟩:=ZfG h.row0 hY
  cases hs:s.sets with
  | nil=>rw[hs]at h3;simp at h3
  | cons q l=>
   rw[hs]at h2
   have:=hm _ _ _ (h2 0 (.int .u64 q.1) rfl)
   rw[Nat.add_zero,hc]at this;cases this
 ·obtain⟨c',_,h2,h3⟩:=ZfG h.row1 hY
  obtain⟨n,hn⟩:=Zhb h3
  have:=hm _ _ _ (h2 0 _ hn)
  rw[Nat.add_zero,hc]at this;cases this
theorem Zj3{b:Nat}{m':Mem}{css:List (List Value)}{g g1 g2 g3 g4 g5 g6:FuncId}{fi ca fi1 ca1 fi2 ca2 fi3 ca3 fi4 ca4 fi5 ca5 fi6 ca6:List Value}(h:Zjl b (.agg #[.func (.func g) fi.toArray ca.toArray,.func (.func g1) fi1.toArray ca1.toArray,.func (.func g2) fi2.toArray ca2.toArray,.func (.func g3) fi3.toArray ca3.toArray,.func (.func g4) fi4.toArray ca4.toArray,.func (.func g5) fi5.toArray ca5.toArray,.func (.func g6) fi6.toArray ca6.toArray]) m' css):
  ∃c,m' c 0=some (.pointer (some ⟨b,0,none⟩))∧(g1=136∧fi1=[]∧ca1=[])∧(g2=137∧fi2=[]∧ca2=[.pointer (some ⟨c,0,none⟩)])∧(g3=138∧fi3=[]∧ca3=[.pointer (some ⟨c,0,none⟩)])∧(g4=140∧fi4=[]∧ca4=[.pointer (some ⟨c,0,none⟩)])∧(g5=142∧fi5=[.pointer (some ⟨b,0,none⟩)]∧ca5=[])∧(g6=143∧fi6=[]∧ca6=[.pointer (some ⟨c,0,none⟩)]):=by
 obtain⟨c,hc,hv⟩:=h
 simp only[Value.agg.injEq,Array.mk.injEq,List.cons.injEq,Value.func.injEq,Fn.func.injEq,and_true,true_and]at hv
 obtain⟨_,h1,h2,h3,h4,h5,h6⟩:=hv
 exact⟨c,by simpa using hc 0 _ rfl,h1,h2,h3,h4,h5,h6⟩
theorem Ztl:∀t:T,(∀x∈t.nodes,x.right=true)→MkC t:=by
 intro t bV
 have ih:∀x∈t.subs,MkC x:=fun x hx=>Ztl x fun y hy=>bV y (by
  rw[Za4]
  obtain⟨i,hi⟩:=List.getElem?_of_mem hx
  rw[Zcs hi];simp[hy])
 have eW:t.right=true:=bV t (by rw[Za4];simp)
 intro s mkb t0a t1a t0n t0c t1n t1c m bQ hs hr hN
 rw[Zv6]at hN ⊢
 have hk:t.k=1∨t.k=2∨t.k=3∨t.k=4∨(t.k=5∧t.subs.length=1∧Zcm t.mn t.mx=true)∨(t.k=6∧t.subs.length=1):=by
  unfold T.right at eW
  rw[Bool.and_eq_true]at eW
  have h2:=eW.2
  by_cases h1:t.k=1;· exact .inl h1
  by_cases h3:t.k=2;· exact .inr (.inl h3)
  by_cases h4:t.k=3;· exact .inr (.inr (.inl h4))
  by_cases h5:t.k=4;· exact .inr (.inr (.inr (.inl h5)))
  by_cases h6:t.k=5
  ·rw[if_neg h1,if_neg h3,if_neg h4,if_neg h5,if_pos h6]at h2
   simp only[Bool.and_eq_true,beq_iff_eq]at h2
   exact .inr (.inr (.inr (.inr (.inl ⟨h6,h2.1,h2.2.1⟩))))
  ·rw[if_neg h1,if_neg h3,if_neg h4,if_neg h5,if_neg h6]at h2
   simp only[Bool.and_eq_true,beq_iff_eq]at h2
   exact .inr (.inr (.inr (.inr (.inr h2))))
 obtain⟨k,s0,s1,s2,s3,mn,mx,a,c,l⟩:=t
 rcases hk with hk|hk|hk|hk|⟨hk,h1,hb⟩|⟨hk,h1⟩
 ·obtain rfl:k=1:=hk
  rw[if_neg (by simp[T.k]),if_pos (by rfl)]at hN ⊢
  apply ZeA
  unfold Zc3
  intro b m1 bJ _ hf _ b1
  refine⟨fun _ _ _=>Zjl mkb,_,rfl,ZfH mkb m1,Zdc,?_⟩
  intro g fi ca g1 fi1 ca1 g2 fi2 ca2 g3 fi3 ca3 g4 fi4 ca4 g5 fi5 ca5 g6 fi6 ca6 m2 bP hR
  obtain⟨cc,jK,⟨rfl,rfl,rfl⟩,⟨rfl,rfl,rfl⟩,⟨rfl,rfl,rfl⟩,⟨rfl,rfl,rfl⟩,⟨rfl,rfl,rfl⟩,rfl,rfl,rfl⟩:=Zj3 hR
  refine⟨⟨by omega,by omega⟩,fun M gC fJ=>?_⟩
  have cL:=MkSt.refl bQ hs (Mem.le_trans bJ gC)
  refine lentC (ZsB (.node 1 s0 s1 s2 s3 mn mx a c l) s mkb _ _ _ _ _ _ M cL.row) ZcE (ZgB cL hs fun m3 a3 n3 c3 a4 n4 c4 cV=>?_)
  exact⟨rfl,cV.out rfl rfl⟩
 ·obtain rfl:k=2:=hk
  rw[if_neg (by simp[T.k]),if_neg (by simp[T.k]),if_pos (by rfl)]at hN ⊢
  apply ZeB
  unfold Zc4
  intro b m1 bJ _ hf _ b1
  refine⟨fun _ _ _=>Zjl mkb,_,rfl,ZfH mkb m1,Zdc,?_⟩
  intro g fi ca g1 fi1 ca1 g2 fi2 ca2 g3 fi3 ca3 g4 fi4 ca4 g5 fi5 ca5 g6 fi6 ca6 m2 bP hR
  obtain⟨cc,jK,⟨rfl,rfl,rfl⟩,⟨rfl,rfl,rfl⟩,⟨rfl,rfl,rfl⟩,⟨rfl,rfl,rfl⟩,⟨rfl,rfl,rfl⟩,rfl,rfl,rfl⟩:=Zj3 hR
  refine⟨⟨by omega,by omega⟩,fun M gC fJ=>?_⟩
  have cL:=MkSt.refl bQ hs (Mem.le_trans bJ gC)
  simp only[List.length_append,List.length_singleton]at hN
  refine lentC (Zvu (.node 2 s0 s1 s2 s3 mn mx a c l) s cc mkb _ _ _ _ _ _ M cL.row (by omega) hs.len (fJ _ _ _ jK)) ZcE (ZgB cL (Zgu hs _).ok fun m3 a3 n3 c3 a4 n4 c4 cV=>?_)
  exact⟨rfl,cV.out rfl rfl⟩
 ·obtain rfl:k=3:=hk
  rw[if_neg (by simp[T.k]),if_neg (by simp[T.k]),if_neg (by simp[T.k]),if_pos (by rfl)]at hN ⊢
  apply ZeC
  unfold Zc5
  intro b m1 bJ _ hf _ b1
  refine⟨fun _ _ _=>Zjl mkb,_,rfl,ZfH mkb m1,Zdc,?_⟩
  intro g fi ca g1 fi1 ca1 g2 fi2 ca2 g3 fi3 ca3 g4 fi4 ca4 g5 fi5 ca5 g6 fi6 ca6 m2 bP hR
  obtain⟨cc,jK,⟨rfl,rfl,rfl⟩,⟨rfl,rfl,rfl⟩,⟨rfl,rfl,rfl⟩,⟨rfl,rfl,rfl⟩,⟨rfl,rfl,rfl⟩,rfl,rfl,rfl⟩:=Zj3 hR
  refine⟨⟨by omega,by omega⟩,fun M gC fJ=>?_⟩
  have cL:=MkSt.refl bQ hs (Mem.le_trans bJ gC)
  have oY:(M.off (Yof (.slice t0a t0n t0c) (.slice t1a t1n t1c))) cc 0=some (.pointer (some ⟨mkb,0,none⟩)):=by
   rw[Mem.off_at (ZxE cL.row (Mem.le_refl _) (fJ _ _ _ jK))];exact fJ _ _ _ jK
  refine lentC (Zvw (.node 3 s0 s1 s2 s3 mn mx a c l) ih s cc mkb _ _ _ _ _ _ M cL.row hs (Rep.mono cL.base _ hr) oY hN) ZcE (ZgB cL (Zfh _ _ _ hs (ZbN _ _)).ok fun m3 a3 n3 c3 a4 n4 c4 cV=>?_)
  exact⟨rfl,cV.out rfl rfl⟩
 ·obtain rfl:k=4:=hk
  rw[if_neg (by simp[T.k]),if_neg (by simp[T.k]),if_neg (by simp[T.k]),if_neg (by simp[T.k]),if_pos (by rfl)]at hN ⊢
  apply ZeD
  unfold Zc6
  intro b m1 bJ _ hf _ b1
  refine⟨fun _ _ _=>Zjl mkb,_,rfl,ZfH mkb m1,Zdc,?_⟩
  intro g fi ca g1 fi1 ca1 g2 fi2 ca2 g3 fi3 ca3 g4 fi4 ca4 g5 fi5 ca5 g6 fi6 ca6 m2 bP hR
  obtain⟨cc,jK,⟨rfl,rfl,rfl⟩,⟨rfl,rfl,rfl⟩,⟨rfl,rfl,rfl⟩,⟨rfl,rfl,rfl⟩,⟨rfl,rfl,rfl⟩,rfl,rfl,rfl⟩:=Zj3 hR
  refine⟨⟨by omega,by omega⟩,fun M gC fJ=>?_⟩
  have cL:=MkSt.refl bQ hs (Mem.le_trans bJ gC)
  have oY:(M.off (Yof (.slice t0a t0n t0c) (.slice t1a t1n t1c))) cc 0=some (.pointer (some ⟨mkb,0,none⟩)):=by
   rw[Mem.off_at (ZxE cL.row (Mem.le_refl _) (fJ _ _ _ jK))];exact fJ _ _ _ jK
  refine lentC (Zvx (.node 4 s0 s1 s2 s3 mn mx a c l) ih s cc mkb _ _ _ _ _ _ M cL.row hs (Rep.mono cL.base _ hr) oY hN) ZcE (ZgB cL (Zfi _ _ _ hs (ZbN _ _)).ok fun m3 a3 n3 c3 a4 n4 c4 cV=>?_)
  exact⟨rfl,cV.out rfl rfl⟩
 ·obtain rfl:k=5:=hk
  rw[if_neg (by simp[T.k]),if_neg (by simp[T.k]),if_neg (by simp[T.k]),if_neg (by simp[T.k]),if_neg (by simp[T.k]),if_pos (by rfl)]at hN ⊢
  apply ZeE
  unfold Zc7
  intro b m1 bJ _ hf _ b1
  refine⟨fun _ _ _=>Zjl mkb,_,rfl,ZfH mkb m1,Zdc,?_⟩
  intro g fi ca g1 fi1 ca1 g2 fi2 ca2 g3 fi3 ca3 g4 fi4 ca4 g5 fi5 ca5 g6 fi6 ca6 m2 bP hR
  obtain⟨cc,jK,⟨rfl,rfl,rfl⟩,⟨rfl,rfl,rfl⟩,⟨rfl,rfl,rfl⟩,⟨rfl,rfl,rfl⟩,⟨rfl,rfl,rfl⟩,rfl,rfl,rfl⟩:=Zj3 hR
  refine⟨⟨by omega,by omega⟩,fun M gC fJ=>?_⟩
  have cL:=MkSt.refl bQ hs (Mem.le_trans bJ gC)
  refine lentC (Zqb (.node 5 s0 s1 s2 s3 mn mx a c l) h1 hb ih s mkb _ _ _ _ _ _ M cL.row hs (Rep.mono cL.base _ hr) hN) ZcE (ZgB cL (Zgt (fun s h=>Ze1 _ s h) _ _ _ _ _ _ _ hs (ZbN _ _)).ok fun m3 a3 n3 c3 a4 n4 c4 cV=>?_)
  exact⟨rfl,cV.out rfl rfl⟩
 ·obtain rfl:k=6:=hk
  rw[if_neg (by simp[T.k]),if_neg (by simp[T.k]),if_neg (by simp[T.k]),if_neg (by simp[T.k]),if_neg (by simp[T.k]),if_neg (by simp[T.k])]at hN ⊢
  apply ZeF
  unfold Zc8
  intro b m1 bJ _ hf _ b1
  refine⟨fun _ _ _=>Zjl mkb,_,rfl,ZfH mkb m1,Zdc,?_⟩
  intro g fi ca g1 fi1 ca1 g2 fi2 ca2 g3 fi3 ca3 g4 fi4 ca4 g5 fi5 ca5 g6 fi6 ca6 m2 bP hR
  obtain⟨cc,jK,⟨rfl,rfl,rfl⟩,⟨rfl,rfl,rfl⟩,⟨rfl,rfl,rfl⟩,⟨rfl,rfl,rfl⟩,⟨rfl,rfl,rfl⟩,rfl,rfl,rfl⟩:=Zj3 hR
  refine⟨⟨by omega,by omega⟩,fun M gC fJ=>?_⟩
  have cL:=MkSt.refl bQ hs (Mem.le_trans bJ gC)
  have oY:(M.off (Yof (.slice t0a t0n t0c) (.slice t1a t1n t1c))) cc 0=some (.pointer (some ⟨mkb,0,none⟩)):=by
   rw[Mem.off_at (ZxE cL.row (Mem.le_refl _) (fJ _ _ _ jK))];exact fJ _ _ _ jK
  refine lentC (Zsz (.node 6 s0 s1 s2 s3 mn mx a c l) h1 ih s cc mkb _ _ _ _ _ _ M cL.row hs (Rep.mono cL.base _ hr) oY hN) ZcE (ZgB cL (Ze1 _ _ hs).ok fun m3 a3 n3 c3 a4 n4 c4 cV=>?_)
  exact⟨rfl,cV.out rfl rfl⟩
termination_by t=>SizeOf.sizeOf t
decreasing_by exact ZkD hx
end Go.Proofs.Ytplacemlpkhmfaa

