/- Part of the proof: conditions and contracts of functions of this program. No condition of its own. -/
import Derived.Test.YtplacemlpkhmfaaPC17F
set_option linter.unusedVariables false
set_option linter.unusedSimpArgs false
namespace Go.Proofs.Ytplacemlpkhmfaa
open Go Go.Eng Go.Rx Go.Proofs Go.RowKit
set_option maxRecDepth 100000
theorem ZnX{mn mx:Int}(h:ZfE mn mx=true):0≤mn∧mn≤16∧(mx=-1∨(1≤mx∧mx≤16)):=by
 unfold ZfE at h
 simp only[Bool.and_eq_true,Bool.not_eq_true',Bool.or_eq_false_iff,Bool.or_eq_true,decide_eq_false_iff_not,decide_eq_true_eq,beq_iff_eq]at h
 omega
theorem Zp3{l:List T}{y:T}(h:l[0]?=some y)(s:Ms):ZlH l s=mk y s:=by
 cases l with
 | nil=>simp at h
 | cons z l=>simp at h;subst h;rw[ZlH]
theorem Zro(f:Ms→Pt×Ms)(mn mx:Int)(N k:Nat)(hk:k < N)(out:Pt)(s:Ms)(s2:Ms)(ic:s2=if mx=-1∧k+1=N then⟨(f s).2.sets,Zdf (f s).2.fol (f s).1.last (f s).1.first⟩ else(f s).2)(y:Pt)(hy:y=⟨(f s).1.first,(f s).1.last,(f s).1.null||decide ((k:Int) ≥ mn)⟩):
  Znk f mn mx N (N - k) k out s=Znk f mn mx N (N - (k+1)) (k+1) (Zil out y s2).1 (Zil out y s2).2:=by
 subst ic hy
 rw[show N - k=(N - (k+1))+1 by omega,Znk]
abbrev Zv5(t:T)(s:Ms)(m:Mem)(v0 v1:Value)(N:Nat):List Value→List (List Value)→List Value→Mem→Nat→Prop:=fun xs css tvs m' q=>∃(k:Nat)(out:Pt)(s':Ms)(a:Option Addr)(n c:Nat)(a1:Option Addr)(n1 c1:Nat),k≤N∧xs=[.int .i64 k]∧css=[out.cs,[.slice a n c,.slice a1 n1 c1]]∧tvs=[.slice a n c,.slice a1 n1 c1]∧q=N - k∧MkSt m v0 v1 m' (.slice a n c) (.slice a1 n1 c1) s'∧PtIn s'.sets.length out∧Znk (fun s=>ZlH t.subs s) t.mn t.mx N (N - k) k out s'=Znk (fun s=>ZlH t.subs s) t.mn t.mx N N 0 ⟨0,0,true⟩ s
theorem Zpb(t:T)(ht:t.subs.length=1)(hb:ZfE t.mn t.mx=true)(ih:∀x∈t.subs,MkC x)(s:Ms)(mkb:Nat)(t0a t1a:Option Addr)(t0n t0c t1n t1c:Nat)(m:Mem)(h:MkRow m (.slice t0a t0n t0c) (.slice t1a t1n t1c) s)(hs:MsOk s)(hr:Rep (m.off (Yof (.slice t0a t0n t0c) (.slice t1a t1n t1c))) t)(hN:(Znk (fun s=>ZlH t.subs s) t.mn t.mx (ZqS t.mn t.mx) (ZqS t.mn t.mx) 0 ⟨0,0,true⟩ s).2.sets.length≤448):
  CXY Try.prog 142 #[.pointer (some ⟨mkb,0,none⟩),t.v] m (Yof (.slice t0a t0n t0c) (.slice t1a t1n t1c)) [⟨mkb,[.slice t0a t0n t0c,.slice t1a t1n t1c],98,2,false,true⟩] [⟨.slice t0a t0n t0c,4⟩,⟨.slice t1a t1n t1c,7⟩]
   (MkR (.slice t0a t0n t0c) (.slice t1a t1n t1c) m (Znk (fun s=>ZlH t.subs s) t.mn t.mx (ZqS t.mn t.mx) (ZqS t.mn t.mx) 0 ⟨0,0,true⟩ s)):=by
 apply Zd0
 unfold ZcE
 intro b0 m1 bD _ kS jp b1
 obtain⟨eI,ir,fP⟩:=ZnX hb
 obtain⟨y,hy⟩:∃y,t.subs[0]?=some y:=⟨t.subs[0],by simp[ht]⟩
 have tM:=List.mem_of_getElem? hy
 rcases(Zdd hr).2 with he|⟨bt,ot,gm,mB⟩
 ·rw[he]at ht;simp at ht
 obtain⟨cO,lE⟩:=mB.get hy
 rw[Nat.zero_mul]at cO
 generalize rT:ZqS t.mn t.mx=N at hN ⊢
 have vv:N≤16:=by
  rw[←rT];unfold ZqS;split <;> omega
 have Zte:∀(q k:Nat)(out:Pt)(s':Ms),MsOk s'→PtIn s'.sets.length out→Grows s' (Znk (fun s=>ZlH t.subs s) t.mn t.mx N q k out s'):=fun q k out s' h1 h2=>ZfI (fun s h=>Zee _ s h) _ _ _ _ _ _ _ h1 h2
 have round:∀(k:Nat)(out:Pt)(s' s2:Ms)(z:Pt),k < N→MsOk s'→PtIn s'.sets.length out→s2=(if t.mx=-1∧k+1=N then⟨(mk y s').2.sets,Zdf (mk y s').2.fol (mk y s').1.last (mk y s').1.first⟩ else(mk y s').2)→z=⟨(mk y s').1.first,(mk y s').1.last,(mk y s').1.null||decide ((k:Int) ≥ t.mn)⟩→
   Znk (fun s=>ZlH t.subs s) t.mn t.mx N (N - k) k out s'=Znk (fun s=>ZlH t.subs s) t.mn t.mx N N 0 ⟨0,0,true⟩ s→Grows s' (mk y s')∧(mk y s').2.sets.length≤448∧MsOk s2∧s2.sets=(mk y s').2.sets∧PtIn s2.sets.length out∧PtIn s2.sets.length z∧Grows s2 (Zil out z s2)∧
   Znk (fun s=>ZlH t.subs s) t.mn t.mx N (N - (k+1)) (k+1) (Zil out z s2).1 (Zil out z s2).2=Znk (fun s=>ZlH t.subs s) t.mn t.mx N N 0 ⟨0,0,true⟩ s:=by
  intro k out s' s2 z hk hs' hp ic hz heq
  have eL:=Zro (fun s=>ZlH t.subs s) t.mn t.mx N k hk out s' s2 (by simp only[Zp3 hy];exact ic) z (by simp only[Zp3 hy];exact hz)
  have fE:=Zd4 y s' hs'
  have e:s2.sets=(mk y s').2.sets:=by rw[ic];split <;> rfl
  have h2:MsOk s2:=by
   rw[ic];split
   ·exact fE.ok.loop _ _ fE.pt.1
   ·exact fE.ok
  have fG:PtIn s2.sets.length out:=hp.mono (by rw[e];exact fE.le)
  have i6:PtIn s2.sets.length z:=by rw[e,hz];exact fE.pt
  have h3:=Zeq h2 fG i6
  have h4:=Zte (N - (k+1)) (k+1) _ _ h3.ok h3.pt
  rw[←eL,heq]at h4
  refine⟨fE,?_,h2,e,fG,i6,h3,eL.symm.trans heq⟩
  rw[←e];exact Nat.le_trans h3.le (Nat.le_trans h4.le hN)
 have start:Zv5 t s m (.slice t0a t0n t0c) (.slice t1a t1n t1c) N [.int .i64 0] [ZbR,[.slice t0a t0n t0c,.slice t1a t1n t1c]] [.slice t0a t0n t0c,.slice t1a t1n t1c] m1 N:=
  ⟨0,⟨0,0,true⟩,s,t0a,t0n,t0c,t1a,t1n,t1c,Nat.zero_le _,rfl,rfl,rfl,rfl,MkSt.refl h hs bD,ZbK _ _,rfl⟩
 refine Zab (fun jF=>?_) (fun jF=>?_)
 ·have kf:t.mx=-1:=by simpa using jF
  have pU:(if(1:Int) > t.mn then(1:Int)else t.mn)=(N:Int):=by
   rw[←rT];unfold ZqS;rw[if_pos kf];split <;> omega
  intro b2
  simp only[pU]
  refine⟨Zv5 t s m (.slice t0a t0n t0c) (.slice t1a t1n t1c) N,⟨_,start⟩,?_⟩
  rintro x cs cs1 a n c a1 n1 c1 m2 q _ ⟨k,out,s',a',n',c',a1',n1',c1',hk,hx,cF,dB,hq,cH,lD,heq⟩
  obtain rfl:x=k:=by simpa using hx
  simp only[List.cons.injEq,and_true]at cF
  obtain⟨rfl,rfl⟩:=cF
  simp only[List.cons.injEq,Value.slice.injEq,and_true]at dB
  obtain⟨⟨rfl,rfl,rfl⟩,rfl,rfl,rfl⟩:=dB
  subst hq
  have eF:=(cO.mono cH.base).mono (Mem.off_le m2 _)
  refine Zab (fun bV=>?_) (fun cK=>?_)
  ·have bF:k < N:=by have:=of_decide_eq_true bV;omega
   obtain⟨fE,jJ,kg,iY,fG,i6,hZ,dF⟩:=round k out s' _ _ bF cH.ok lD rfl rfl heq
   have dT:IntKind.i64.wrap ((N:Int) - 1)=(N:Int) - 1:=Zau (by omega) (by omega)
   refine⟨bt,ot,gm,⟨by omega,by omega⟩,_,_,_,_,_,_,_,_,eF,?_⟩
   refine lentC (ih y tM s' mkb _ _ _ _ _ _ m2 cH.row cH.ok (Rep.mono cH.base y lE) jJ) Zb9 (ZfU cH fE.ok fun m3 a3 n3 c3 a4 n4 c4 cW b5=>?_)
   refine⟨decide (k+1=N),Zcc jF ⟨by trivial,by trivial,by rw[dT];congr 2;rw[Bool.eq_iff_iff];simp;omega⟩,?_⟩
   have hw:IntKind.i64.wrap ((k:Int)+1)=((k+1:Nat):Int):=by rw[Zau (by omega) (by omega)];rfl
   by_cases dQ:k+1=N
   ·have ec:(if t.mx=-1∧k+1=N then(⟨(mk y s').2.sets,Zdf (mk y s').2.fol (mk y s').1.last (mk y s').1.first⟩:Ms)else(mk y s').2)=⟨(mk y s').2.sets,Zdf (mk y s').2.fol (mk y s').1.last (mk y s').1.first⟩:=if_pos ⟨kf,dQ⟩
    rw[ec]at kg iY fG i6 hZ dF
    refine Zcc (by simp[dQ]) ?_
    refine lentC (Zp0 (mk y s').2 (mk y s').1.last (mk y s').1.first mkb _ _ _ _ _ _ m3 cW.row (by rw[fE.ok.len];exact jJ) (fun i hi=>by rw[fE.ok.len];exact fE.pt.2 i hi)) (by rintro v m' css tvs ⟨rfl,_⟩;rfl) ?_
    rintro m4 fR _ cs3 a5 n5 c5 a6 n6 c6 ⟨_,rU,oO,iT⟩
    simp only[List.cons.injEq,Value.slice.injEq,and_true]at oO
    obtain⟨⟨rfl,rfl,rfl⟩,rfl,rfl,rfl⟩:=oO
    obtain rfl:cs3=[.slice a5 n5 c5,.slice a6 n6 c6]:=by simpa using rU
    have kY:=cW.step fR iT (fun b hb=>.inl hb) kg
    generalize dS:(mk y s').1=r1 at *
    obtain⟨rf,rl,rn⟩:=r1
    have ha:∀i,out.last.testBit i=true→i < (Zdf (mk y s').2.fol rl rf).length:=fun i hi=>by rw[Zj1,fE.ok.len];exact fG.2 i hi
    have hl:(Zdf (mk y s').2.fol rl rf).length≤448:=by rw[Zj1,fE.ok.len];exact jJ
    cases rn
    ·refine Zbo rfl (lentC (Ze9 ⟨(mk y s').2.sets,Zdf (mk y s').2.fol rl rf⟩ out ⟨rf,rl,false||decide ((k:Int) ≥ t.mn)⟩ mkb _ _ _ _ _ _ m4 kY.row hl ha) ZdE (ZlY kY hZ.ok fun m5 a7 n7 c7 a8 n8 c8 fS=>?_))
     exact⟨by trivial,by trivial,_,by omega,k+1,_,_,_,_,_,_,_,_,bF,by rw[hw],rfl,rfl,rfl,fS,hZ.pt,dF⟩
    ·refine Zcc rfl (lentC (Ze9 ⟨(mk y s').2.sets,Zdf (mk y s').2.fol rl rf⟩ out ⟨rf,rl,true||decide ((k:Int) ≥ t.mn)⟩ mkb _ _ _ _ _ _ m4 kY.row hl ha) ZdE (ZlY kY hZ.ok fun m5 a7 n7 c7 a8 n8 c8 fS=>?_))
     exact⟨by trivial,by trivial,_,by omega,k+1,_,_,_,_,_,_,_,_,bF,by rw[hw],rfl,rfl,rfl,fS,hZ.pt,dF⟩
   ·have ec:(if t.mx=-1∧k+1=N then(⟨(mk y s').2.sets,Zdf (mk y s').2.fol (mk y s').1.last (mk y s').1.first⟩:Ms)else(mk y s').2)=(mk y s').2:=if_neg fun h=>dQ h.2
    rw[ec]at kg iY fG i6 hZ dF
    refine Zbo (by simp[dQ]) ?_
    generalize dS:(mk y s').1=r1 at *
    obtain⟨rf,rl,rn⟩:=r1
    have ha:∀i,out.last.testBit i=true→i < (mk y s').2.fol.length:=fun i hi=>by rw[fE.ok.len];exact fG.2 i hi
    have hl:(mk y s').2.fol.length≤448:=by rw[fE.ok.len];exact jJ
    cases rn
    ·refine Zbo rfl (lentC (Ze9 (mk y s').2 out ⟨rf,rl,false||decide ((k:Int) ≥ t.mn)⟩ mkb _ _ _ _ _ _ m3 cW.row hl ha) ZdE (ZlY cW hZ.ok fun m5 a7 n7 c7 a8 n8 c8 fS=>?_))
     exact⟨by trivial,by trivial,_,by omega,k+1,_,_,_,_,_,_,_,_,bF,by rw[hw],rfl,rfl,rfl,fS,hZ.pt,dF⟩
    ·refine Zcc rfl (lentC (Ze9 (mk y s').2 out ⟨rf,rl,true||decide ((k:Int) ≥ t.mn)⟩ mkb _ _ _ _ _ _ m3 cW.row hl ha) ZdE (ZlY cW hZ.ok fun m5 a7 n7 c7 a8 n8 c8 fS=>?_))
     exact⟨by trivial,by trivial,_,by omega,k+1,_,_,_,_,_,_,_,_,bF,by rw[hw],rfl,rfl,rfl,fS,hZ.pt,dF⟩
  ·have hk':k=N:=by have:=of_decide_eq_false cK;omega
   subst hk'
   rw[Nat.sub_self,Znk]at heq
   refine Zaa rfl ⟨by trivial,cH.out ?_ ?_⟩
   ·rw[←heq];rfl
   ·rw[←heq]
 ·have kf:¬t.mx=-1:=by simpa using jF
  have pU:t.mx=(N:Int):=by
   rw[←rT];unfold ZqS;rw[if_neg kf];omega
  intro b2
  refine⟨Zv5 t s m (.slice t0a t0n t0c) (.slice t1a t1n t1c) N,⟨_,start⟩,?_⟩
  rintro x cs cs1 a n c a1 n1 c1 m2 q _ ⟨k,out,s',a',n',c',a1',n1',c1',hk,hx,cF,dB,hq,cH,lD,heq⟩
  obtain rfl:x=k:=by simpa using hx
  simp only[List.cons.injEq,and_true]at cF
  obtain⟨rfl,rfl⟩:=cF
  simp only[List.cons.injEq,Value.slice.injEq,and_true]at dB
  obtain⟨⟨rfl,rfl,rfl⟩,rfl,rfl,rfl⟩:=dB
  subst hq
  have eF:=(cO.mono cH.base).mono (Mem.off_le m2 _)
  refine Zab (fun bV=>?_) (fun cK=>?_)
  ·have bF:k < N:=by have:=of_decide_eq_true bV;omega
   obtain⟨fE,jJ,kg,iY,fG,i6,hZ,dF⟩:=round k out s' _ _ bF cH.ok lD rfl rfl heq
   refine⟨bt,ot,gm,⟨by omega,by omega⟩,_,_,_,_,_,_,_,_,eF,?_⟩
   refine lentC (ih y tM s' mkb _ _ _ _ _ _ m2 cH.row cH.ok (Rep.mono cH.base y lE) jJ) Zb9 (ZfU cH fE.ok fun m3 a3 n3 c3 a4 n4 c4 cW b5=>?_)
   refine⟨false,Zbo jF ⟨by trivial,by trivial,rfl⟩,Zbo rfl ?_⟩
   have hw:IntKind.i64.wrap ((k:Int)+1)=((k+1:Nat):Int):=by rw[Zau (by omega) (by omega)];rfl
   have ec:(if t.mx=-1∧k+1=N then(⟨(mk y s').2.sets,Zdf (mk y s').2.fol (mk y s').1.last (mk y s').1.first⟩:Ms)else(mk y s').2)=(mk y s').2:=if_neg fun h=>kf h.1
   rw[ec]at kg iY fG i6 hZ dF
   generalize dS:(mk y s').1=r1 at *
   obtain⟨rf,rl,rn⟩:=r1
   have ha:∀i,out.last.testBit i=true→i < (mk y s').2.fol.length:=fun i hi=>by rw[fE.ok.len];exact fG.2 i hi
   have hl:(mk y s').2.fol.length≤448:=by rw[fE.ok.len];exact jJ
   cases rn
   ·refine Zbo rfl (lentC (Ze9 (mk y s').2 out ⟨rf,rl,false||decide ((k:Int) ≥ t.mn)⟩ mkb _ _ _ _ _ _ m3 cW.row hl ha) ZdE (ZlY cW hZ.ok fun m5 a7 n7 c7 a8 n8 c8 fS=>?_))
    exact⟨by trivial,by trivial,_,by omega,k+1,_,_,_,_,_,_,_,_,bF,by rw[hw],rfl,rfl,rfl,fS,hZ.pt,dF⟩
   ·refine Zcc rfl (lentC (Ze9 (mk y s').2 out ⟨rf,rl,true||decide ((k:Int) ≥ t.mn)⟩ mkb _ _ _ _ _ _ m3 cW.row hl ha) ZdE (ZlY cW hZ.ok fun m5 a7 n7 c7 a8 n8 c8 fS=>?_))
    exact⟨by trivial,by trivial,_,by omega,k+1,_,_,_,_,_,_,_,_,bF,by rw[hw],rfl,rfl,rfl,fS,hZ.pt,dF⟩
  ·have hk':k=N:=by have:=of_decide_eq_false cK;omega
   subst hk'
   rw[Nat.sub_self,Znk]at heq
   refine Zaa rfl ⟨by trivial,cH.out ?_ ?_⟩
   ·rw[←heq];rfl
   ·rw[←heq]
def ZiF(b:Nat):Value→Mem→List (List Value)→Prop:=fun v m' _=>∃c,m'.reads c 0 [.pointer (some ⟨b,0,none⟩)]∧v=.agg #[.func (.func 135) #[] #[],.func (.func 136) #[] #[],.func (.func 137) #[] #[.pointer (some ⟨c,0,none⟩)],.func (.func 138) #[] #[.pointer (some ⟨c,0,none⟩)],.func (.func 140) #[] #[.pointer (some ⟨c,0,none⟩)],.func (.func 142) #[.pointer (some ⟨b,0,none⟩)] #[],.func (.func 143) #[] #[.pointer (some ⟨c,0,none⟩)]]
theorem ZeM(b:Nat)(m:Mem):CX Try.prog 109 #[.pointer (some ⟨b,0,none⟩)] m [] (ZiF b):=by
 apply ZeZ
 unfold Zc2
 intro c m1 bD hc b1
 exact⟨m1,bD,Mem.le_refl _,c,hc,rfl⟩
theorem ZcF{b:Nat}:∀(v:Value)(m':Mem) (css:List (List Value)),ZiF b v m' css→Shape.fits (.agg [.fn,.fn,.fn,.fn,.fn,.fn,.fn]) v=true:=by
 rintro v m' css ⟨c,_,rfl⟩;rfl
theorem Zuc(t:T)(m:Mem):CX Try.prog 136 #[t.v] m [] (Ret (Pt.v ⟨0,0,true⟩)):=by
 apply ZdP
 unfold Zcg
 intro c m1 bD hc b1
 exact⟨m1,bD,Mem.le_refl _,rfl⟩
theorem Zrp(t:T)(s:Ms)(mkb:Nat)(t0a t1a:Option Addr)(t0n t0c t1n t1c:Nat)(m:Mem)(h:MkRow m (.slice t0a t0n t0c) (.slice t1a t1n t1c) s):
  CXY Try.prog 136 #[t.v] m (Yof (.slice t0a t0n t0c) (.slice t1a t1n t1c)) [⟨mkb,[.slice t0a t0n t0c,.slice t1a t1n t1c],98,2,false,true⟩] [⟨.slice t0a t0n t0c,4⟩,⟨.slice t1a t1n t1c,7⟩]
   (MkR (.slice t0a t0n t0c) (.slice t1a t1n t1c) m (⟨0,0,true⟩,s)):=
 (CX.frameY (Zuc t m) _ _ _).mono fun v m' css tvs _ h2=>⟨_,_,_,_,_,_,h2.2.2.2,h2.2.1,h2.2.2.1,h.mono h2.1,fun b hb=>.inl hb⟩
theorem Zv6{m m':Mem}{v0 v1:Value}{s:Ms}{c:Nat}{p:Option Addr}(h:MkRow m v0 v1 s)(hm:m.le m')(hc:m' c 0=some (.pointer p)):¬Yof v0 v1 c:=by
 rintro(hY|hY)
 ·obtain⟨c',_,h2,h3⟩:=ZeL h.row0 hY
  cases hs:s.sets with
  | nil=>rw[hs]at h3;simp at h3
  | cons q l=>
   rw[hs]at h2
   have:=hm _ _ _ (h2 0 (.int .u64 q.1) rfl)
   rw[Nat.add_zero,hc]at this;cases this
 ·obtain⟨c',_,h2,h3⟩:=ZeL h.row1 hY
  obtain⟨n,hn⟩:=Zgw h3
  have:=hm _ _ _ (h2 0 _ hn)
  rw[Nat.add_zero,hc]at this;cases this
theorem Zjt{b:Nat}{m':Mem}{css:List (List Value)}{g g1 g2 g3 g4 g5 g6:FuncId}{fi ca fi1 ca1 fi2 ca2 fi3 ca3 fi4 ca4 fi5 ca5 fi6 ca6:List Value}(h:ZiF b (.agg #[.func (.func g) fi.toArray ca.toArray,.func (.func g1) fi1.toArray ca1.toArray,.func (.func g2) fi2.toArray ca2.toArray,.func (.func g3) fi3.toArray ca3.toArray,.func (.func g4) fi4.toArray ca4.toArray,.func (.func g5) fi5.toArray ca5.toArray,.func (.func g6) fi6.toArray ca6.toArray]) m' css):
  ∃c,m' c 0=some (.pointer (some ⟨b,0,none⟩))∧(g1=136∧fi1=[]∧ca1=[])∧(g2=137∧fi2=[]∧ca2=[.pointer (some ⟨c,0,none⟩)])∧(g3=138∧fi3=[]∧ca3=[.pointer (some ⟨c,0,none⟩)])∧(g4=140∧fi4=[]∧ca4=[.pointer (some ⟨c,0,none⟩)])∧(g5=142∧fi5=[.pointer (some ⟨b,0,none⟩)]∧ca5=[])∧(g6=143∧fi6=[]∧ca6=[.pointer (some ⟨c,0,none⟩)]):=by
 obtain⟨c,hc,hv⟩:=h
 simp only[Value.agg.injEq,Array.mk.injEq,List.cons.injEq,Value.func.injEq,Fn.func.injEq,and_true,true_and]at hv
 obtain⟨_,h1,h2,h3,h4,h5,h6⟩:=hv
 exact⟨c,by simpa using hc 0 _ rfl,h1,h2,h3,h4,h5,h6⟩
theorem Zr5:∀t:T,(∀x∈t.nodes,x.right=true)→MkC t:=by
 intro t cC
 have ih:∀x∈t.subs,MkC x:=fun x hx=>Zr5 x fun y hy=>cC y (by
  rw[Zcp]
  obtain⟨i,hi⟩:=List.getElem?_of_mem hx
  rw[ZeW hi];simp[hy])
 have jb:t.right=true:=cC t (by rw[Zcp];simp)
 intro s mkb t0a t1a t0n t0c t1n t1c m cV hs hr hN
 rw[ZvP]at hN ⊢
 have hk:t.k=1∨t.k=2∨t.k=3∨t.k=4∨(t.k=5∧t.subs.length=1∧ZfE t.mn t.mx=true)∨(t.k=6∧t.subs.length=1):=by
  unfold T.right at jb
  rw[Bool.and_eq_true]at jb
  have h2:=jb.2
  by_cases h1:t.k=1;· exact .inl h1
  by_cases h3:t.k=2;· exact .inr (.inl h3)
  by_cases h4:t.k=3;· exact .inr (.inr (.inl h4))
  by_cases h5:t.k=4;· exact .inr (.inr (.inr (.inl h5)))
  by_cases h6:t.k=5
  ·rw[if_neg h1,if_neg h3,if_neg h4,if_neg h5,if_pos h6]at h2
   simp only[Bool.and_eq_true,beq_iff_eq]at h2
   exact .inr (.inr (.inr (.inr (.inl ⟨h6,h2.1,h2.2.1⟩))))
  ·rw[if_neg h1,if_neg h3,if_neg h4,if_neg h5,if_neg h6]at h2
   simp only[Bool.and_eq_true,beq_iff_eq]at h2
   exact .inr (.inr (.inr (.inr (.inr h2))))
 obtain⟨k,s0,s1,s2,s3,mn,mx,a,c,l⟩:=t
 rcases hk with hk|hk|hk|hk|⟨hk,h1,hb⟩|⟨hk,h1⟩
 ·obtain rfl:k=1:=hk
  rw[if_neg (by simp[T.k]),if_pos (by rfl)]at hN ⊢
  apply ZdQ
  unfold Zcw
  intro b m1 bD _ hf _ b1
  refine⟨fun _ _ _=>ZiF mkb,_,rfl,ZeM mkb m1,ZcF,?_⟩
  intro g fi ca g1 fi1 ca1 g2 fi2 ca2 g3 fi3 ca3 g4 fi4 ca4 g5 fi5 ca5 g6 fi6 ca6 m2 bZ hR
  obtain⟨cc,jK,⟨rfl,rfl,rfl⟩,⟨rfl,rfl,rfl⟩,⟨rfl,rfl,rfl⟩,⟨rfl,rfl,rfl⟩,⟨rfl,rfl,rfl⟩,rfl,rfl,rfl⟩:=Zjt hR
  refine⟨⟨by omega,by omega⟩,fun M gj fZ=>?_⟩
  have cH:=MkSt.refl cV hs (Mem.le_trans bD gj)
  refine lentC (Zrp (.node 1 s0 s1 s2 s3 mn mx a c l) s mkb _ _ _ _ _ _ M cH.row) Zb9 (ZfU cH hs fun m3 a3 n3 c3 a4 n4 c4 cW=>?_)
  exact⟨rfl,cW.out rfl rfl⟩
 ·obtain rfl:k=2:=hk
  rw[if_neg (by simp[T.k]),if_neg (by simp[T.k]),if_pos (by rfl)]at hN ⊢
  apply ZdR
  unfold Zcx
  intro b m1 bD _ hf _ b1
  refine⟨fun _ _ _=>ZiF mkb,_,rfl,ZeM mkb m1,ZcF,?_⟩
  intro g fi ca g1 fi1 ca1 g2 fi2 ca2 g3 fi3 ca3 g4 fi4 ca4 g5 fi5 ca5 g6 fi6 ca6 m2 bZ hR
  obtain⟨cc,jK,⟨rfl,rfl,rfl⟩,⟨rfl,rfl,rfl⟩,⟨rfl,rfl,rfl⟩,⟨rfl,rfl,rfl⟩,⟨rfl,rfl,rfl⟩,rfl,rfl,rfl⟩:=Zjt hR
  refine⟨⟨by omega,by omega⟩,fun M gj fZ=>?_⟩
  have cH:=MkSt.refl cV hs (Mem.le_trans bD gj)
  simp only[List.length_append,List.length_singleton]at hN
  refine lentC (Zt8 (.node 2 s0 s1 s2 s3 mn mx a c l) s cc mkb _ _ _ _ _ _ M cH.row (by omega) hs.len (fZ _ _ _ jK)) Zb9 (ZfU cH (Znm hs _).ok fun m3 a3 n3 c3 a4 n4 c4 cW=>?_)
  exact⟨rfl,cW.out rfl rfl⟩
 ·obtain rfl:k=3:=hk
  rw[if_neg (by simp[T.k]),if_neg (by simp[T.k]),if_neg (by simp[T.k]),if_pos (by rfl)]at hN ⊢
  apply ZdS
  unfold Zcy
  intro b m1 bD _ hf _ b1
  refine⟨fun _ _ _=>ZiF mkb,_,rfl,ZeM mkb m1,ZcF,?_⟩
  intro g fi ca g1 fi1 ca1 g2 fi2 ca2 g3 fi3 ca3 g4 fi4 ca4 g5 fi5 ca5 g6 fi6 ca6 m2 bZ hR
  obtain⟨cc,jK,⟨rfl,rfl,rfl⟩,⟨rfl,rfl,rfl⟩,⟨rfl,rfl,rfl⟩,⟨rfl,rfl,rfl⟩,⟨rfl,rfl,rfl⟩,rfl,rfl,rfl⟩:=Zjt hR
  refine⟨⟨by omega,by omega⟩,fun M gj fZ=>?_⟩
  have cH:=MkSt.refl cV hs (Mem.le_trans bD gj)
  have oP:(M.off (Yof (.slice t0a t0n t0c) (.slice t1a t1n t1c))) cc 0=some (.pointer (some ⟨mkb,0,none⟩)):=by
   rw[Mem.off_at (Zv6 cH.row (Mem.le_refl _) (fZ _ _ _ jK))];exact fZ _ _ _ jK
  refine lentC (Zua (.node 3 s0 s1 s2 s3 mn mx a c l) ih s cc mkb _ _ _ _ _ _ M cH.row hs (Rep.mono cH.base _ hr) oP hN) Zb9 (ZfU cH (Zer _ _ _ hs (ZbK _ _)).ok fun m3 a3 n3 c3 a4 n4 c4 cW=>?_)
  exact⟨rfl,cW.out rfl rfl⟩
 ·obtain rfl:k=4:=hk
  rw[if_neg (by simp[T.k]),if_neg (by simp[T.k]),if_neg (by simp[T.k]),if_neg (by simp[T.k]),if_pos (by rfl)]at hN ⊢
  apply ZdT
  unfold Zcz
  intro b m1 bD _ hf _ b1
  refine⟨fun _ _ _=>ZiF mkb,_,rfl,ZeM mkb m1,ZcF,?_⟩
  intro g fi ca g1 fi1 ca1 g2 fi2 ca2 g3 fi3 ca3 g4 fi4 ca4 g5 fi5 ca5 g6 fi6 ca6 m2 bZ hR
  obtain⟨cc,jK,⟨rfl,rfl,rfl⟩,⟨rfl,rfl,rfl⟩,⟨rfl,rfl,rfl⟩,⟨rfl,rfl,rfl⟩,⟨rfl,rfl,rfl⟩,rfl,rfl,rfl⟩:=Zjt hR
  refine⟨⟨by omega,by omega⟩,fun M gj fZ=>?_⟩
  have cH:=MkSt.refl cV hs (Mem.le_trans bD gj)
  have oP:(M.off (Yof (.slice t0a t0n t0c) (.slice t1a t1n t1c))) cc 0=some (.pointer (some ⟨mkb,0,none⟩)):=by
   rw[Mem.off_at (Zv6 cH.row (Mem.le_refl _) (fZ _ _ _ jK))];exact fZ _ _ _ jK
  refine lentC (Zub (.node 4 s0 s1 s2 s3 mn mx a c l) ih s cc mkb _ _ _ _ _ _ M cH.row hs (Rep.mono cH.base _ hr) oP hN) Zb9 (ZfU cH (Zes _ _ _ hs (ZbK _ _)).ok fun m3 a3 n3 c3 a4 n4 c4 cW=>?_)
  exact⟨rfl,cW.out rfl rfl⟩
 ·obtain rfl:k=5:=hk
  rw[if_neg (by simp[T.k]),if_neg (by simp[T.k]),if_neg (by simp[T.k]),if_neg (by simp[T.k]),if_neg (by simp[T.k]),if_pos (by rfl)]at hN ⊢
  apply ZdU
  unfold ZcA
  intro b m1 bD _ hf _ b1
  refine⟨fun _ _ _=>ZiF mkb,_,rfl,ZeM mkb m1,ZcF,?_⟩
  intro g fi ca g1 fi1 ca1 g2 fi2 ca2 g3 fi3 ca3 g4 fi4 ca4 g5 fi5 ca5 g6 fi6 ca6 m2 bZ hR
  obtain⟨cc,jK,⟨rfl,rfl,rfl⟩,⟨rfl,rfl,rfl⟩,⟨rfl,rfl,rfl⟩,⟨rfl,rfl,rfl⟩,⟨rfl,rfl,rfl⟩,rfl,rfl,rfl⟩:=Zjt hR
  refine⟨⟨by omega,by omega⟩,fun M gj fZ=>?_⟩
  have cH:=MkSt.refl cV hs (Mem.le_trans bD gj)
  refine lentC (Zpb (.node 5 s0 s1 s2 s3 mn mx a c l) h1 hb ih s mkb _ _ _ _ _ _ M cH.row hs (Rep.mono cH.base _ hr) hN) Zb9 (ZfU cH (ZfI (fun s h=>Zee _ s h) _ _ _ _ _ _ _ hs (ZbK _ _)).ok fun m3 a3 n3 c3 a4 n4 c4 cW=>?_)
  exact⟨rfl,cW.out rfl rfl⟩
 ·obtain rfl:k=6:=hk
  rw[if_neg (by simp[T.k]),if_neg (by simp[T.k]),if_neg (by simp[T.k]),if_neg (by simp[T.k]),if_neg (by simp[T.k]),if_neg (by simp[T.k])]at hN ⊢
  apply ZdV
  unfold ZcB
  intro b m1 bD _ hf _ b1
  refine⟨fun _ _ _=>ZiF mkb,_,rfl,ZeM mkb m1,ZcF,?_⟩
  intro g fi ca g1 fi1 ca1 g2 fi2 ca2 g3 fi3 ca3 g4 fi4 ca4 g5 fi5 ca5 g6 fi6 ca6 m2 bZ hR
  obtain⟨cc,jK,⟨rfl,rfl,rfl⟩,⟨rfl,rfl,rfl⟩,⟨rfl,rfl,rfl⟩,⟨rfl,rfl,rfl⟩,⟨rfl,rfl,rfl⟩,rfl,rfl,rfl⟩:=Zjt hR
  refine⟨⟨by omega,by omega⟩,fun M gj fZ=>?_⟩
  have cH:=MkSt.refl cV hs (Mem.le_trans bD gj)
  have oP:(M.off (Yof (.slice t0a t0n t0c) (.slice t1a t1n t1c))) cc 0=some (.pointer (some ⟨mkb,0,none⟩)):=by
   rw[Mem.off_at (Zv6 cH.row (Mem.le_refl _) (fZ _ _ _ jK))];exact fZ _ _ _ jK
  refine lentC (Zrn (.node 6 s0 s1 s2 s3 mn mx a c l) h1 ih s cc mkb _ _ _ _ _ _ M cH.row hs (Rep.mono cH.base _ hr) oP hN) Zb9 (ZfU cH (Zee _ _ hs).ok fun m3 a3 n3 c3 a4 n4 c4 cW=>?_)
  exact⟨rfl,cW.out rfl rfl⟩
termination_by t=>SizeOf.sizeOf t
decreasing_by exact ZqM hx
end Go.Proofs.Ytplacemlpkhmfaa

