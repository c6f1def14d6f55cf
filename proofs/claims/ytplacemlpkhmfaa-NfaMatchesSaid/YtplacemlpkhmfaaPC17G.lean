/- Part of the proof: conditions and contracts of functions of this program. No condition of its own. -/
import Derived.Test.YtplacemlpkhmfaaPC17F
set_option linter.unusedVariables false
set_option linter.unusedSimpArgs false
namespace Go.Proofs.Ytplacemlpkhmfaa
open Go Go.Eng Go.Rx Go.Proofs Go.RowKit
set_option maxRecDepth 100000
theorem ZpU{mn mx:Int}(h:Zdx mn mx=true):0≤mn∧mn≤16∧(mx=-1∨(1≤mx∧mx≤16)):=by
 unfold Zdx at h
 simp only[Bool.and_eq_true,Bool.not_eq_true',Bool.or_eq_false_iff,Bool.or_eq_true,decide_eq_false_iff_not,decide_eq_true_eq,beq_iff_eq]at h
 omega
theorem Zso{l:List T}{y:T}(h:l[0]?=some y)(s:Ms):ZhT l s=mk y s:=by
 cases l with
 | nil=>simp at h
 | cons z l=>simp at h;subst h;rw[ZhT]
theorem ZtI(f:Ms→Pt×Ms)(mn mx:Int)(N k:Nat)(hk:k < N)(out:Pt)(s:Ms)(s2:Ms)(fZ:s2=if mx=-1∧k+1=N then⟨(f s).2.sets,ZbR (f s).2.fol (f s).1.last (f s).1.first⟩ else(f s).2)(y:Pt)(hy:y=⟨(f s).1.first,(f s).1.last,(f s).1.null||decide ((k:Int) ≥ mn)⟩):
  Zh7 f mn mx N (N - k) k out s=Zh7 f mn mx N (N - (k+1)) (k+1) (Zb6 out y s2).1 (Zb6 out y s2).2:=by
 subst fZ hy
 rw[show N - k=(N - (k+1))+1 by omega,Zh7]
abbrev ZyZ(t:T)(s:Ms)(m:Mem)(v0 v1:Value)(N:Nat):List Value→List (List Value)→List Value→Mem→Nat→Prop:=fun xs css tvs m' q=>∃(k:Nat)(out:Pt)(s':Ms)(a:Option Addr)(n c:Nat)(a1:Option Addr)(n1 c1:Nat),k≤N∧xs=[.int .i64 k]∧css=[out.cs,[.slice a n c,.slice a1 n1 c1]]∧tvs=[.slice a n c,.slice a1 n1 c1]∧q=N - k∧MkSt m v0 v1 m' (.slice a n c) (.slice a1 n1 c1) s'∧PtIn s'.sets.length out∧Zh7 (fun s=>ZhT t.subs s) t.mn t.mx N (N - k) k out s'=Zh7 (fun s=>ZhT t.subs s) t.mn t.mx N N 0 ⟨0,0,true⟩ s
theorem Zrg(t:T)(ht:t.subs.length=1)(hb:Zdx t.mn t.mx=true)(ih:∀x∈t.subs,MkC x)(s:Ms)(mkb:Nat)(t0a t1a:Option Addr)(t0n t0c t1n t1c:Nat)(m:Mem)(h:MkRow m (.slice t0a t0n t0c) (.slice t1a t1n t1c) s)(hs:MsOk s)(hr:Rep (m.off (Yof (.slice t0a t0n t0c) (.slice t1a t1n t1c))) t)(hN:(Zh7 (fun s=>ZhT t.subs s) t.mn t.mx (ZnQ t.mn t.mx) (ZnQ t.mn t.mx) 0 ⟨0,0,true⟩ s).2.sets.length≤448):
  CXY Try.prog 142 #[.pointer (some ⟨mkb,0,none⟩),t.v] m (Yof (.slice t0a t0n t0c) (.slice t1a t1n t1c)) [⟨mkb,[.slice t0a t0n t0c,.slice t1a t1n t1c],98,2,false,true⟩] [⟨.slice t0a t0n t0c,4⟩,⟨.slice t1a t1n t1c,7⟩]
   (MkR (.slice t0a t0n t0c) (.slice t1a t1n t1c) m (Zh7 (fun s=>ZhT t.subs s) t.mn t.mx (ZnQ t.mn t.mx) (ZnQ t.mn t.mx) 0 ⟨0,0,true⟩ s)):=by
 apply Zfa
 unfold Zdd
 intro b0 m1 bJ _ kF jA b1
 obtain⟨fU,gu,gv⟩:=ZpU hb
 obtain⟨y,hy⟩:∃y,t.subs[0]?=some y:=⟨t.subs[0],by simp[ht]⟩
 have tS:=List.mem_of_getElem? hy
 rcases(Zcp hr).2 with he|⟨bt,ot,gl,ir⟩
 ·rw[he]at ht;simp at ht
 obtain⟨cU,jQ⟩:=ir.get hy
 rw[Nat.zero_mul]at cU
 generalize p8:ZnQ t.mn t.mx=N at hN ⊢
 have vJ:N≤16:=by
  rw[←p8];unfold ZnQ;split <;> omega
 have Zv4:∀(q k:Nat)(out:Pt)(s':Ms),MsOk s'→PtIn s'.sets.length out→Grows s' (Zh7 (fun s=>ZhT t.subs s) t.mn t.mx N q k out s'):=fun q k out s' h1 h2=>Zha (fun s h=>Zfr _ s h) _ _ _ _ _ _ _ h1 h2
 have round:∀(k:Nat)(out:Pt)(s' s2:Ms)(z:Pt),k < N→MsOk s'→PtIn s'.sets.length out→s2=(if t.mx=-1∧k+1=N then⟨(mk y s').2.sets,ZbR (mk y s').2.fol (mk y s').1.last (mk y s').1.first⟩ else(mk y s').2)→z=⟨(mk y s').1.first,(mk y s').1.last,(mk y s').1.null||decide ((k:Int) ≥ t.mn)⟩→
   Zh7 (fun s=>ZhT t.subs s) t.mn t.mx N (N - k) k out s'=Zh7 (fun s=>ZhT t.subs s) t.mn t.mx N N 0 ⟨0,0,true⟩ s→Grows s' (mk y s')∧(mk y s').2.sets.length≤448∧MsOk s2∧s2.sets=(mk y s').2.sets∧PtIn s2.sets.length out∧PtIn s2.sets.length z∧Grows s2 (Zb6 out z s2)∧
   Zh7 (fun s=>ZhT t.subs s) t.mn t.mx N (N - (k+1)) (k+1) (Zb6 out z s2).1 (Zb6 out z s2).2=Zh7 (fun s=>ZhT t.subs s) t.mn t.mx N N 0 ⟨0,0,true⟩ s:=by
  intro k out s' s2 z hk hs' hp fZ hz heq
  have dD:=ZtI (fun s=>ZhT t.subs s) t.mn t.mx N k hk out s' s2 (by simp only[Zso hy];exact fZ) z (by simp only[Zso hy];exact hz)
  have fJ:=Zd8 y s' hs'
  have e:s2.sets=(mk y s').2.sets:=by rw[fZ];split <;> rfl
  have h2:MsOk s2:=by
   rw[fZ];split
   ·exact fJ.ok.loop _ _ fJ.pt.1
   ·exact fJ.ok
  have dK:PtIn s2.sets.length out:=hp.mono (by rw[e];exact fJ.le)
  have kY:PtIn s2.sets.length z:=by rw[e,hz];exact fJ.pt
  have h3:=ZfH h2 dK kY
  have h4:=Zv4 (N - (k+1)) (k+1) _ _ h3.ok h3.pt
  rw[←dD,heq]at h4
  refine⟨fJ,?_,h2,e,dK,kY,h3,dD.symm.trans heq⟩
  rw[←e];exact Nat.le_trans h3.le (Nat.le_trans h4.le hN)
 have start:ZyZ t s m (.slice t0a t0n t0c) (.slice t1a t1n t1c) N [.int .i64 0] [Zb8,[.slice t0a t0n t0c,.slice t1a t1n t1c]] [.slice t0a t0n t0c,.slice t1a t1n t1c] m1 N:=
  ⟨0,⟨0,0,true⟩,s,t0a,t0n,t0c,t1a,t1n,t1c,Nat.zero_le _,rfl,rfl,rfl,rfl,MkSt.refl h hs bJ,ZbE _ _,rfl⟩
 refine Zab (fun iu=>?_) (fun iu=>?_)
 ·have kr:t.mx=-1:=by simpa using iu
  have oD:(if(1:Int) > t.mn then(1:Int)else t.mn)=(N:Int):=by
   rw[←p8];unfold ZnQ;rw[if_pos kr];split <;> omega
  intro b2
  simp only[oD]
  refine⟨ZyZ t s m (.slice t0a t0n t0c) (.slice t1a t1n t1c) N,⟨_,start⟩,?_⟩
  rintro x cs cs1 a n c a1 n1 c1 m2 q _ ⟨k,out,s',a',n',c',a1',n1',c1',hk,hx,cK,dE,hq,cM,lM,heq⟩
  obtain rfl:x=k:=by simpa using hx
  simp only[List.cons.injEq,and_true]at cK
  obtain⟨rfl,rfl⟩:=cK
  simp only[List.cons.injEq,Value.slice.injEq,and_true]at dE
  obtain⟨⟨rfl,rfl,rfl⟩,rfl,rfl,rfl⟩:=dE
  subst hq
  have gH:=(cU.mono cM.base).mono (Mem.off_le m2 _)
  refine Zab (fun bS=>?_) (fun cX=>?_)
  ·have bR:k < N:=by have:=of_decide_eq_true bS;omega
   obtain⟨fJ,jS,kt,jc,dK,kY,hZ,dO⟩:=round k out s' _ _ bR cM.ok lM rfl rfl heq
   have eR:IntKind.i64.wrap ((N:Int) - 1)=(N:Int) - 1:=Zat (by omega) (by omega)
   refine⟨bt,ot,gl,⟨by omega,by omega⟩,_,_,_,_,_,_,_,_,gH,?_⟩
   refine lentC (ih y tS s' mkb _ _ _ _ _ _ m2 cM.row cM.ok (Rep.mono cM.base y jQ) jS) ZcD (Zhj cM fJ.ok fun m3 a3 n3 c3 a4 n4 c4 dC b5=>?_)
   refine⟨decide (k+1=N),ZcG iu ⟨by trivial,by trivial,by rw[eR];congr 2;rw[Bool.eq_iff_iff];simp;omega⟩,?_⟩
   have hw:IntKind.i64.wrap ((k:Int)+1)=((k+1:Nat):Int):=by rw[Zat (by omega) (by omega)];rfl
   by_cases cD:k+1=N
   ·have ec:(if t.mx=-1∧k+1=N then(⟨(mk y s').2.sets,ZbR (mk y s').2.fol (mk y s').1.last (mk y s').1.first⟩:Ms)else(mk y s').2)=⟨(mk y s').2.sets,ZbR (mk y s').2.fol (mk y s').1.last (mk y s').1.first⟩:=if_pos ⟨kr,cD⟩
    rw[ec]at kt jc dK kY hZ dO
    refine ZcG (by simp[cD]) ?_
    refine lentC (Zsl (mk y s').2 (mk y s').1.last (mk y s').1.first mkb _ _ _ _ _ _ m3 dC.row (by rw[fJ.ok.len];exact jS) (fun i hi=>by rw[fJ.ok.len];exact fJ.pt.2 i hi)) (by rintro v m' css tvs ⟨rfl,_⟩;rfl) ?_
    rintro m4 ku _ cs3 a5 n5 c5 a6 n6 c6 ⟨_,r8,oS,cV⟩
    simp only[List.cons.injEq,Value.slice.injEq,and_true]at oS
    obtain⟨⟨rfl,rfl,rfl⟩,rfl,rfl,rfl⟩:=oS
    obtain rfl:cs3=[.slice a5 n5 c5,.slice a6 n6 c6]:=by simpa using r8
    have ld:=dC.step ku cV (fun b hb=>.inl hb) kt
    generalize eO:(mk y s').1=r1 at *
    obtain⟨rf,rl,rn⟩:=r1
    have ha:∀i,out.last.testBit i=true→i < (ZbR (mk y s').2.fol rl rf).length:=fun i hi=>by rw[ZlL,fJ.ok.len];exact dK.2 i hi
    have hl:(ZbR (mk y s').2.fol rl rf).length≤448:=by rw[ZlL,fJ.ok.len];exact jS
    cases rn
    ·refine Za7 rfl (lentC (Zgz ⟨(mk y s').2.sets,ZbR (mk y s').2.fol rl rf⟩ out ⟨rf,rl,false||decide ((k:Int) ≥ t.mn)⟩ mkb _ _ _ _ _ _ m4 ld.row hl ha) ZeB (ZnH ld hZ.ok fun m5 a7 n7 c7 a8 n8 c8 fY=>?_))
     exact⟨by trivial,by trivial,_,by omega,k+1,_,_,_,_,_,_,_,_,bR,by rw[hw],rfl,rfl,rfl,fY,hZ.pt,dO⟩
    ·refine ZcG rfl (lentC (Zgz ⟨(mk y s').2.sets,ZbR (mk y s').2.fol rl rf⟩ out ⟨rf,rl,true||decide ((k:Int) ≥ t.mn)⟩ mkb _ _ _ _ _ _ m4 ld.row hl ha) ZeB (ZnH ld hZ.ok fun m5 a7 n7 c7 a8 n8 c8 fY=>?_))
     exact⟨by trivial,by trivial,_,by omega,k+1,_,_,_,_,_,_,_,_,bR,by rw[hw],rfl,rfl,rfl,fY,hZ.pt,dO⟩
   ·have ec:(if t.mx=-1∧k+1=N then(⟨(mk y s').2.sets,ZbR (mk y s').2.fol (mk y s').1.last (mk y s').1.first⟩:Ms)else(mk y s').2)=(mk y s').2:=if_neg fun h=>cD h.2
    rw[ec]at kt jc dK kY hZ dO
    refine Za7 (by simp[cD]) ?_
    generalize eO:(mk y s').1=r1 at *
    obtain⟨rf,rl,rn⟩:=r1
    have ha:∀i,out.last.testBit i=true→i < (mk y s').2.fol.length:=fun i hi=>by rw[fJ.ok.len];exact dK.2 i hi
    have hl:(mk y s').2.fol.length≤448:=by rw[fJ.ok.len];exact jS
    cases rn
    ·refine Za7 rfl (lentC (Zgz (mk y s').2 out ⟨rf,rl,false||decide ((k:Int) ≥ t.mn)⟩ mkb _ _ _ _ _ _ m3 dC.row hl ha) ZeB (ZnH dC hZ.ok fun m5 a7 n7 c7 a8 n8 c8 fY=>?_))
     exact⟨by trivial,by trivial,_,by omega,k+1,_,_,_,_,_,_,_,_,bR,by rw[hw],rfl,rfl,rfl,fY,hZ.pt,dO⟩
    ·refine ZcG rfl (lentC (Zgz (mk y s').2 out ⟨rf,rl,true||decide ((k:Int) ≥ t.mn)⟩ mkb _ _ _ _ _ _ m3 dC.row hl ha) ZeB (ZnH dC hZ.ok fun m5 a7 n7 c7 a8 n8 c8 fY=>?_))
     exact⟨by trivial,by trivial,_,by omega,k+1,_,_,_,_,_,_,_,_,bR,by rw[hw],rfl,rfl,rfl,fY,hZ.pt,dO⟩
  ·have hk':k=N:=by have:=of_decide_eq_false cX;omega
   subst hk'
   rw[Nat.sub_self,Zh7]at heq
   refine Zaa rfl ⟨by trivial,cM.out ?_ ?_⟩
   ·rw[←heq];rfl
   ·rw[←heq]
 ·have kr:¬t.mx=-1:=by simpa using iu
  have oD:t.mx=(N:Int):=by
   rw[←p8];unfold ZnQ;rw[if_neg kr];omega
  intro b2
  refine⟨ZyZ t s m (.slice t0a t0n t0c) (.slice t1a t1n t1c) N,⟨_,start⟩,?_⟩
  rintro x cs cs1 a n c a1 n1 c1 m2 q _ ⟨k,out,s',a',n',c',a1',n1',c1',hk,hx,cK,dE,hq,cM,lM,heq⟩
  obtain rfl:x=k:=by simpa using hx
  simp only[List.cons.injEq,and_true]at cK
  obtain⟨rfl,rfl⟩:=cK
  simp only[List.cons.injEq,Value.slice.injEq,and_true]at dE
  obtain⟨⟨rfl,rfl,rfl⟩,rfl,rfl,rfl⟩:=dE
  subst hq
  have gH:=(cU.mono cM.base).mono (Mem.off_le m2 _)
  refine Zab (fun bS=>?_) (fun cX=>?_)
  ·have bR:k < N:=by have:=of_decide_eq_true bS;omega
   obtain⟨fJ,jS,kt,jc,dK,kY,hZ,dO⟩:=round k out s' _ _ bR cM.ok lM rfl rfl heq
   refine⟨bt,ot,gl,⟨by omega,by omega⟩,_,_,_,_,_,_,_,_,gH,?_⟩
   refine lentC (ih y tS s' mkb _ _ _ _ _ _ m2 cM.row cM.ok (Rep.mono cM.base y jQ) jS) ZcD (Zhj cM fJ.ok fun m3 a3 n3 c3 a4 n4 c4 dC b5=>?_)
   refine⟨false,Za7 iu ⟨by trivial,by trivial,rfl⟩,Za7 rfl ?_⟩
   have hw:IntKind.i64.wrap ((k:Int)+1)=((k+1:Nat):Int):=by rw[Zat (by omega) (by omega)];rfl
   have ec:(if t.mx=-1∧k+1=N then(⟨(mk y s').2.sets,ZbR (mk y s').2.fol (mk y s').1.last (mk y s').1.first⟩:Ms)else(mk y s').2)=(mk y s').2:=if_neg fun h=>kr h.1
   rw[ec]at kt jc dK kY hZ dO
   generalize eO:(mk y s').1=r1 at *
   obtain⟨rf,rl,rn⟩:=r1
   have ha:∀i,out.last.testBit i=true→i < (mk y s').2.fol.length:=fun i hi=>by rw[fJ.ok.len];exact dK.2 i hi
   have hl:(mk y s').2.fol.length≤448:=by rw[fJ.ok.len];exact jS
   cases rn
   ·refine Za7 rfl (lentC (Zgz (mk y s').2 out ⟨rf,rl,false||decide ((k:Int) ≥ t.mn)⟩ mkb _ _ _ _ _ _ m3 dC.row hl ha) ZeB (ZnH dC hZ.ok fun m5 a7 n7 c7 a8 n8 c8 fY=>?_))
    exact⟨by trivial,by trivial,_,by omega,k+1,_,_,_,_,_,_,_,_,bR,by rw[hw],rfl,rfl,rfl,fY,hZ.pt,dO⟩
   ·refine ZcG rfl (lentC (Zgz (mk y s').2 out ⟨rf,rl,true||decide ((k:Int) ≥ t.mn)⟩ mkb _ _ _ _ _ _ m3 dC.row hl ha) ZeB (ZnH dC hZ.ok fun m5 a7 n7 c7 a8 n8 c8 fY=>?_))
    exact⟨by trivial,by trivial,_,by omega,k+1,_,_,_,_,_,_,_,_,bR,by rw[hw],rfl,rfl,rfl,fY,hZ.pt,dO⟩
  ·have hk':k=N:=by have:=of_decide_eq_false cX;omega
   subst hk'
   rw[Nat.sub_self,Zh7]at heq
   refine Zaa rfl ⟨by trivial,cM.out ?_ ?_⟩
   ·rw[←heq];rfl
   ·rw[←heq]
def Zkd(b:Nat):Value→Mem→List (List Value)→Prop:=fun v m' _=>∃c,m'.reads c 0 [.pointer (some ⟨b,0,none⟩)]∧v=.agg #[.func (.func 135) #[] #[],.func (.func 136) #[] #[],.func (.func 137) #[] #[.pointer (some ⟨c,0,none⟩)],.func (.func 138) #[] #[.pointer (some ⟨c,0,none⟩)],.func (.func 140) #[] #[.pointer (some ⟨c,0,none⟩)],.func (.func 142) #[.pointer (some ⟨b,0,none⟩)] #[],.func (.func 143) #[] #[.pointer (some ⟨c,0,none⟩)]]
theorem Zga(b:Nat)(m:Mem):CX Try.prog 109 #[.pointer (some ⟨b,0,none⟩)] m [] (Zkd b):=by
 apply Zgp
 unfold ZdF
 intro c m1 bJ hc b1
 exact⟨m1,bJ,Mem.le_refl _,c,hc,rfl⟩
theorem Zde{b:Nat}:∀(v:Value)(m':Mem) (css:List (List Value)),Zkd b v m' css→Shape.fits (.agg [.fn,.fn,.fn,.fn,.fn,.fn,.fn]) v=true:=by
 rintro v m' css ⟨c,_,rfl⟩;rfl
theorem Zxb(t:T)(m:Mem):CX Try.prog 136 #[t.v] m [] (Ret (Pt.v ⟨0,0,true⟩)):=by
 apply ZeZ
 unfold ZcO
 intro c m1 bJ hc b1
 exact⟨m1,bJ,Mem.le_refl _,rfl⟩
theorem ZtJ(t:T)(s:Ms)(mkb:Nat)(t0a t1a:Option Addr)(t0n t0c t1n t1c:Nat)(m:Mem)(h:MkRow m (.slice t0a t0n t0c) (.slice t1a t1n t1c) s):
  CXY Try.prog 136 #[t.v] m (Yof (.slice t0a t0n t0c) (.slice t1a t1n t1c)) [⟨mkb,[.slice t0a t0n t0c,.slice t1a t1n t1c],98,2,false,true⟩] [⟨.slice t0a t0n t0c,4⟩,⟨.slice t1a t1n t1c,7⟩]
   (MkR (.slice t0a t0n t0c) (.slice t1a t1n t1c) m (⟨0,0,true⟩,s)):=
 (CX.frameY (Zxb t m) _ _ _).mono fun v m' css tvs _ h2=>⟨_,_,_,_,_,_,h2.2.2.2,h2.2.1,h2.2.2.1,h.mono h2.1,fun b hb=>.inl hb⟩
theorem Zy0{m m':Mem}{v0 v1:Value}{s:Ms}{c:Nat}{p:Option Addr}(h:MkRow m v0 v1 s)(hm:m.le m')(hc:m' c 0=some (.pointer p)):¬Yof v0 v1 c:=by
 rintro(hY|hY)
 ·obtain⟨c',_,h2,h3⟩:=Zf9 h.row0 hY
  cases hs:s.sets with
  | nil=>rw[hs]at h3;simp at h3
  | cons q l=>
   rw[hs]at h2
   have:=hm _ _ _ (h2 0 (.int .u64 q.1) rfl)
   rw[Nat.add_zero,hc]at this;cases this
 ·obtain⟨c',_,h2,h3⟩:=Zf9 h.row1 hY
  obtain⟨n,hn⟩:=ZhN h3
  have:=hm _ _ _ (h2 0 _ hn)
  rw[Nat.add_zero,hc]at this;cases this
theorem Zk3{b:Nat}{m':Mem}{css:List (List Value)}{g g1 g2 g3 g4 g5 g6:FuncId}{fi ca fi1 ca1 fi2 ca2 fi3 ca3 fi4 ca4 fi5 ca5 fi6 ca6:List Value}(h:Zkd b (.agg #[.func (.func g) fi.toArray ca.toArray,.func (.func g1) fi1.toArray ca1.toArray,.func (.func g2) fi2.toArray ca2.toArray,.func (.func g3) fi3.toArray ca3.toArray,.func (.func g4) fi4.toArray ca4.toArray,.func (.func g5) fi5.toArray ca5.toArray,.func (.func g6) fi6.toArray ca6.toArray]) m' css):
  ∃c,m' c 0=some (.pointer (some ⟨b,0,none⟩))∧(g1=136∧fi1=[]∧ca1=[])∧(g2=137∧fi2=[]∧ca2=[.pointer (some ⟨c,0,none⟩)])∧(g3=138∧fi3=[]∧ca3=[.pointer (some ⟨c,0,none⟩)])∧(g4=140∧fi4=[]∧ca4=[.pointer (some ⟨c,0,none⟩)])∧(g5=142∧fi5=[.pointer (some ⟨b,0,none⟩)]∧ca5=[])∧(g6=143∧fi6=[]∧ca6=[.pointer (some ⟨c,0,none⟩)]):=by
 obtain⟨c,hc,hv⟩:=h
 simp only[Value.agg.injEq,Array.mk.injEq,List.cons.injEq,Value.func.injEq,Fn.func.injEq,and_true,true_and]at hv
 obtain⟨_,h1,h2,h3,h4,h5,h6⟩:=hv
 exact⟨c,by simpa using hc 0 _ rfl,h1,h2,h3,h4,h5,h6⟩
theorem ZuE:∀t:T,(∀x∈t.nodes,x.right=true)→MkC t:=by
 intro t cB
 have ih:∀x∈t.subs,MkC x:=fun x hx=>ZuE x fun y hy=>cB y (by
  rw[ZaX]
  obtain⟨i,hi⟩:=List.getElem?_of_mem hx
  rw[Zcq hi];simp[hy])
 have fD:t.right=true:=cB t (by rw[ZaX];simp)
 intro s mkb t0a t1a t0n t0c t1n t1c m bZ hs hr hN
 rw[ZxF]at hN ⊢
 have hk:t.k=1∨t.k=2∨t.k=3∨t.k=4∨(t.k=5∧t.subs.length=1∧Zdx t.mn t.mx=true)∨(t.k=6∧t.subs.length=1):=by
  unfold T.right at fD
  rw[Bool.and_eq_true]at fD
  have h2:=fD.2
  by_cases h1:t.k=1;· exact .inl h1
  by_cases h3:t.k=2;· exact .inr (.inl h3)
  by_cases h4:t.k=3;· exact .inr (.inr (.inl h4))
  by_cases h5:t.k=4;· exact .inr (.inr (.inr (.inl h5)))
  by_cases h6:t.k=5
  ·rw[if_neg h1,if_neg h3,if_neg h4,if_neg h5,if_pos h6]at h2
   simp only[Bool.and_eq_true,beq_iff_eq]at h2
   exact .inr (.inr (.inr (.inr (.inl ⟨h6,h2.1,h2.2.1⟩))))
  ·rw[if_neg h1,if_neg h3,if_neg h4,if_neg h5,if_neg h6]at h2
   simp only[Bool.and_eq_true,beq_iff_eq]at h2
   exact .inr (.inr (.inr (.inr (.inr h2))))
 obtain⟨k,s0,s1,s2,s3,mn,mx,a,c,l⟩:=t
 rcases hk with hk|hk|hk|hk|⟨hk,h1,hb⟩|⟨hk,h1⟩
 ·obtain rfl:k=1:=hk
  rw[if_neg (by simp[T.k]),if_pos (by rfl)]at hN ⊢
  apply Ze0
  unfold Zc5
  intro b m1 bJ _ hf _ b1
  refine⟨fun _ _ _=>Zkd mkb,_,rfl,Zga mkb m1,Zde,?_⟩
  intro g fi ca g1 fi1 ca1 g2 fi2 ca2 g3 fi3 ca3 g4 fi4 ca4 g5 fi5 ca5 g6 fi6 ca6 m2 bT hR
  obtain⟨cc,jT,⟨rfl,rfl,rfl⟩,⟨rfl,rfl,rfl⟩,⟨rfl,rfl,rfl⟩,⟨rfl,rfl,rfl⟩,⟨rfl,rfl,rfl⟩,rfl,rfl,rfl⟩:=Zk3 hR
  refine⟨⟨by omega,by omega⟩,fun M dR dG=>?_⟩
  have cM:=MkSt.refl bZ hs (Mem.le_trans bJ dR)
  refine lentC (ZtJ (.node 1 s0 s1 s2 s3 mn mx a c l) s mkb _ _ _ _ _ _ M cM.row) ZcD (Zhj cM hs fun m3 a3 n3 c3 a4 n4 c4 dC=>?_)
  exact⟨rfl,dC.out rfl rfl⟩
 ·obtain rfl:k=2:=hk
  rw[if_neg (by simp[T.k]),if_neg (by simp[T.k]),if_pos (by rfl)]at hN ⊢
  apply Ze1
  unfold Zc6
  intro b m1 bJ _ hf _ b1
  refine⟨fun _ _ _=>Zkd mkb,_,rfl,Zga mkb m1,Zde,?_⟩
  intro g fi ca g1 fi1 ca1 g2 fi2 ca2 g3 fi3 ca3 g4 fi4 ca4 g5 fi5 ca5 g6 fi6 ca6 m2 bT hR
  obtain⟨cc,jT,⟨rfl,rfl,rfl⟩,⟨rfl,rfl,rfl⟩,⟨rfl,rfl,rfl⟩,⟨rfl,rfl,rfl⟩,⟨rfl,rfl,rfl⟩,rfl,rfl,rfl⟩:=Zk3 hR
  refine⟨⟨by omega,by omega⟩,fun M dR dG=>?_⟩
  have cM:=MkSt.refl bZ hs (Mem.le_trans bJ dR)
  simp only[List.length_append,List.length_singleton]at hN
  refine lentC (Zw7 (.node 2 s0 s1 s2 s3 mn mx a c l) s cc mkb _ _ _ _ _ _ M cM.row (by omega) hs.len (dG _ _ _ jT)) ZcD (Zhj cM (Zhb hs _).ok fun m3 a3 n3 c3 a4 n4 c4 dC=>?_)
  exact⟨rfl,dC.out rfl rfl⟩
 ·obtain rfl:k=3:=hk
  rw[if_neg (by simp[T.k]),if_neg (by simp[T.k]),if_neg (by simp[T.k]),if_pos (by rfl)]at hN ⊢
  apply Ze2
  unfold Zc7
  intro b m1 bJ _ hf _ b1
  refine⟨fun _ _ _=>Zkd mkb,_,rfl,Zga mkb m1,Zde,?_⟩
  intro g fi ca g1 fi1 ca1 g2 fi2 ca2 g3 fi3 ca3 g4 fi4 ca4 g5 fi5 ca5 g6 fi6 ca6 m2 bT hR
  obtain⟨cc,jT,⟨rfl,rfl,rfl⟩,⟨rfl,rfl,rfl⟩,⟨rfl,rfl,rfl⟩,⟨rfl,rfl,rfl⟩,⟨rfl,rfl,rfl⟩,rfl,rfl,rfl⟩:=Zk3 hR
  refine⟨⟨by omega,by omega⟩,fun M dR dG=>?_⟩
  have cM:=MkSt.refl bZ hs (Mem.le_trans bJ dR)
  have oT:(M.off (Yof (.slice t0a t0n t0c) (.slice t1a t1n t1c))) cc 0=some (.pointer (some ⟨mkb,0,none⟩)):=by
   rw[Mem.off_at (Zy0 cM.row (Mem.le_refl _) (dG _ _ _ jT))];exact dG _ _ _ jT
  refine lentC (Zw9 (.node 3 s0 s1 s2 s3 mn mx a c l) ih s cc mkb _ _ _ _ _ _ M cM.row hs (Rep.mono cM.base _ hr) oT hN) ZcD (Zhj cM (ZfI _ _ _ hs (ZbE _ _)).ok fun m3 a3 n3 c3 a4 n4 c4 dC=>?_)
  exact⟨rfl,dC.out rfl rfl⟩
 ·obtain rfl:k=4:=hk
  rw[if_neg (by simp[T.k]),if_neg (by simp[T.k]),if_neg (by simp[T.k]),if_neg (by simp[T.k]),if_pos (by rfl)]at hN ⊢
  apply Ze3
  unfold Zc8
  intro b m1 bJ _ hf _ b1
  refine⟨fun _ _ _=>Zkd mkb,_,rfl,Zga mkb m1,Zde,?_⟩
  intro g fi ca g1 fi1 ca1 g2 fi2 ca2 g3 fi3 ca3 g4 fi4 ca4 g5 fi5 ca5 g6 fi6 ca6 m2 bT hR
  obtain⟨cc,jT,⟨rfl,rfl,rfl⟩,⟨rfl,rfl,rfl⟩,⟨rfl,rfl,rfl⟩,⟨rfl,rfl,rfl⟩,⟨rfl,rfl,rfl⟩,rfl,rfl,rfl⟩:=Zk3 hR
  refine⟨⟨by omega,by omega⟩,fun M dR dG=>?_⟩
  have cM:=MkSt.refl bZ hs (Mem.le_trans bJ dR)
  have oT:(M.off (Yof (.slice t0a t0n t0c) (.slice t1a t1n t1c))) cc 0=some (.pointer (some ⟨mkb,0,none⟩)):=by
   rw[Mem.off_at (Zy0 cM.row (Mem.le_refl _) (dG _ _ _ jT))];exact dG _ _ _ jT
  refine lentC (Zxa (.node 4 s0 s1 s2 s3 mn mx a c l) ih s cc mkb _ _ _ _ _ _ M cM.row hs (Rep.mono cM.base _ hr) oT hN) ZcD (Zhj cM (ZfJ _ _ _ hs (ZbE _ _)).ok fun m3 a3 n3 c3 a4 n4 c4 dC=>?_)
  exact⟨rfl,dC.out rfl rfl⟩
 ·obtain rfl:k=5:=hk
  rw[if_neg (by simp[T.k]),if_neg (by simp[T.k]),if_neg (by simp[T.k]),if_neg (by simp[T.k]),if_neg (by simp[T.k]),if_pos (by rfl)]at hN ⊢
  apply Ze4
  unfold Zc9
  intro b m1 bJ _ hf _ b1
  refine⟨fun _ _ _=>Zkd mkb,_,rfl,Zga mkb m1,Zde,?_⟩
  intro g fi ca g1 fi1 ca1 g2 fi2 ca2 g3 fi3 ca3 g4 fi4 ca4 g5 fi5 ca5 g6 fi6 ca6 m2 bT hR
  obtain⟨cc,jT,⟨rfl,rfl,rfl⟩,⟨rfl,rfl,rfl⟩,⟨rfl,rfl,rfl⟩,⟨rfl,rfl,rfl⟩,⟨rfl,rfl,rfl⟩,rfl,rfl,rfl⟩:=Zk3 hR
  refine⟨⟨by omega,by omega⟩,fun M dR dG=>?_⟩
  have cM:=MkSt.refl bZ hs (Mem.le_trans bJ dR)
  refine lentC (Zrg (.node 5 s0 s1 s2 s3 mn mx a c l) h1 hb ih s mkb _ _ _ _ _ _ M cM.row hs (Rep.mono cM.base _ hr) hN) ZcD (Zhj cM (Zha (fun s h=>Zfr _ s h) _ _ _ _ _ _ _ hs (ZbE _ _)).ok fun m3 a3 n3 c3 a4 n4 c4 dC=>?_)
  exact⟨rfl,dC.out rfl rfl⟩
 ·obtain rfl:k=6:=hk
  rw[if_neg (by simp[T.k]),if_neg (by simp[T.k]),if_neg (by simp[T.k]),if_neg (by simp[T.k]),if_neg (by simp[T.k]),if_neg (by simp[T.k])]at hN ⊢
  apply Ze5
  unfold Zda
  intro b m1 bJ _ hf _ b1
  refine⟨fun _ _ _=>Zkd mkb,_,rfl,Zga mkb m1,Zde,?_⟩
  intro g fi ca g1 fi1 ca1 g2 fi2 ca2 g3 fi3 ca3 g4 fi4 ca4 g5 fi5 ca5 g6 fi6 ca6 m2 bT hR
  obtain⟨cc,jT,⟨rfl,rfl,rfl⟩,⟨rfl,rfl,rfl⟩,⟨rfl,rfl,rfl⟩,⟨rfl,rfl,rfl⟩,⟨rfl,rfl,rfl⟩,rfl,rfl,rfl⟩:=Zk3 hR
  refine⟨⟨by omega,by omega⟩,fun M dR dG=>?_⟩
  have cM:=MkSt.refl bZ hs (Mem.le_trans bJ dR)
  have oT:(M.off (Yof (.slice t0a t0n t0c) (.slice t1a t1n t1c))) cc 0=some (.pointer (some ⟨mkb,0,none⟩)):=by
   rw[Mem.off_at (Zy0 cM.row (Mem.le_refl _) (dG _ _ _ jT))];exact dG _ _ _ jT
  refine lentC (ZtH (.node 6 s0 s1 s2 s3 mn mx a c l) h1 ih s cc mkb _ _ _ _ _ _ M cM.row hs (Rep.mono cM.base _ hr) oT hN) ZcD (Zhj cM (Zfr _ _ hs).ok fun m3 a3 n3 c3 a4 n4 c4 dC=>?_)
  exact⟨rfl,dC.out rfl rfl⟩
termination_by t=>SizeOf.sizeOf t
decreasing_by exact ZjU hx
end Go.Proofs.Ytplacemlpkhmfaa

