/- Part of the proof: conditions and contracts of functions of this program. No condition of its own. -/
import Derived.Test.YtplacemlpkhmfaaPC17F
import Derived.Test.YtplacemlpkhmfaaPEnv
import Derived.Test.YtplacemlpkhmfaaMc
import Derived.Test.YtplacemlpkhmfaaPC13S
import Derived.Test.YtplacemlpkhmfaaPC13Q
import Derived.Test.YtplacemlpkhmfaaMr
set_option linter.unusedVariables false
set_option linter.unusedSimpArgs false
set_option linter.unusedSectionVars false
noncomputable section
namespace Go.Proofs.Ytplacemlpkhmfaa
open Go Go.Eng Go.Rx Go.Proofs Go.RowKit
set_option maxRecDepth 100000
theorem Zmm{mn mx:Int}(h:Zdi mn mx=true):0<=mn/\mn<=16/\(mx=-1\/(1<=mx/\mx<=16)):=by
 unfold Zdi at h
 simp only[zA7,Bool.not_eq_true',Bool.or_eq_false_iff,Bool.or_eq_true,decide_eq_false_iff_not,decide_eq_true_eq,beq_iff_eq]at h
 omega
theorem Zow{l:List T}{y:T}(h:l[0]?=some y)(s:Ms):ZiH l s=mk y s:=by
 cases l with
 | nil=>simp at h
 | cons z l=>simp at h;subst h;rw[ZiH]
theorem ZpS(f:Ms->Pt×Ms)(mn mx:Int)(N k:Nat)(hk:k < N)(out:Pt)(s:Ms)(s2:Ms)(eU:s2=if mx=-1/\k+1=N then⟨(f s).2.sets,ZcG (f s).2.fol (f s).1.last (f s).1.first⟩ else(f s).2)(y:Pt)(hy:y=⟨(f s).1.first,(f s).1.last,(f s).1.null||decide ((k:Int) ≥ mn)⟩):
  Zky f mn mx N (N - k) k out s=Zky f mn mx N (N - (k+1)) (k+1) (Zgm out y s2).1 (Zgm out y s2).2:=by
 subst eU hy
 rw[show N - k=(N - (k+1))+1 by omega,Zky]
abbrev ZuH(t:T)(s:Ms)(m:Mem)(v0 v1:Value)(N:Nat):List Value->List (List Value)->List Value->Mem->Nat->Prop:=λxs css tvs m' q=>∃(k:Nat)(out:Pt)(s':Ms)(a:Option Addr)(n c:Nat)(a1:Option Addr)(n1 c1:Nat),k<=N/\xs=[.int .i64 k]/\css=[out.cs,[.slice a n c,.slice a1 n1 c1]]/\tvs=[.slice a n c,.slice a1 n1 c1]/\q=N - k/\MkSt m v0 v1 m' (.slice a n c) (.slice a1 n1 c1) s'/\PtIn s'.sets.length out/\Zky (λs=>ZiH t.subs s) t.mn t.mx N (N - k) k out s'=Zky (λs=>ZiH t.subs s) t.mn t.mx N N 0 ⟨0,0,true⟩ s
theorem Zny(t:T)(ht:t.subs.length=1)(hb:Zdi t.mn t.mx=true)(ih:∀x∈t.subs,MkC x)(s:Ms)(mkb:Nat)(t0a t1a:Option Addr)(t0n t0c t1n t1c:Nat)(m:Mem)(h:MkRow m (.slice t0a t0n t0c) (.slice t1a t1n t1c) s)(hs:MsOk s)(hr:Rep (m.off (Yof (.slice t0a t0n t0c) (.slice t1a t1n t1c))) t)(hN:(Zky (λs=>ZiH t.subs s) t.mn t.mx (Zpr t.mn t.mx) (Zpr t.mn t.mx) 0 ⟨0,0,true⟩ s).2.sets.length<=448):
  CXY Try.prog 142 #[.pointer (some ⟨mkb,0,none⟩),t.v] m (Yof (.slice t0a t0n t0c) (.slice t1a t1n t1c)) [⟨mkb,[.slice t0a t0n t0c,.slice t1a t1n t1c],98,2,false,true⟩] [⟨.slice t0a t0n t0c,4⟩,⟨.slice t1a t1n t1c,7⟩]
   (MkR (.slice t0a t0n t0c) (.slice t1a t1n t1c) m (Zky (λs=>ZiH t.subs s) t.mn t.mx (Zpr t.mn t.mx) (Zpr t.mn t.mx) 0 ⟨0,0,true⟩ s)):=by
 apply Zdq
 intro b0 m1 aD _ kG iZ b1
 obtain⟨dE,gj,fH⟩:=Zmm hb
 obtain⟨y,hy⟩:∃y,t.subs[0]?=some y:=⟨t.subs[0],by simp[ht]⟩
 have oP:=zA2 hy
 rcases(ZcQ hr).2 with he|⟨bt,ot,eP,gA⟩
 ·rw[he]at ht;simp at ht
 obtain⟨cM,ji⟩:=gA.get hy
 rw[Nat.zero_mul]at cM
 generalize qw:Zpr t.mn t.mx=N at hN ⊢
 have wi:N<=16:=by
  rw[<-qw];unfold Zpr;split <;> omega
 have ZrV:∀(q k:Nat)(out:Pt)(s':Ms),MsOk s'->PtIn s'.sets.length out->Grows s' (Zky (λs=>ZiH t.subs s) t.mn t.mx N q k out s'):=λq k out s' h1 h2=>Ze2 (λs h=>ZdG _ s h) _ _ _ _ _ _ _ h1 h2
 have round:∀(k:Nat)(out:Pt)(s' s2:Ms)(z:Pt),k < N->MsOk s'->PtIn s'.sets.length out->s2=(if t.mx=-1/\k+1=N then⟨(mk y s').2.sets,ZcG (mk y s').2.fol (mk y s').1.last (mk y s').1.first⟩ else(mk y s').2)->z=⟨(mk y s').1.first,(mk y s').1.last,(mk y s').1.null||decide ((k:Int) ≥ t.mn)⟩->
   Zky (λs=>ZiH t.subs s) t.mn t.mx N (N - k) k out s'=Zky (λs=>ZiH t.subs s) t.mn t.mx N N 0 ⟨0,0,true⟩ s->Grows s' (mk y s')/\(mk y s').2.sets.length<=448/\MsOk s2/\s2.sets=(mk y s').2.sets/\PtIn s2.sets.length out/\PtIn s2.sets.length z/\Grows s2 (Zgm out z s2)/\
   Zky (λs=>ZiH t.subs s) t.mn t.mx N (N - (k+1)) (k+1) (Zgm out z s2).1 (Zgm out z s2).2=Zky (λs=>ZiH t.subs s) t.mn t.mx N N 0 ⟨0,0,true⟩ s:=by
  intro k out s' s2 z hk hs' hp eU hz heq
  have dC:=ZpS (λs=>ZiH t.subs s) t.mn t.mx N k hk out s' s2 (by simp only[Zow hy];exact eU) z (by simp only[Zow hy];exact hz)
  have eA:=ZcX y s' hs'
  have e:s2.sets=(mk y s').2.sets:=by rw[eU];split <;> rfl
  have h2:MsOk s2:=by
   rw[eU];split
   ·exact eA.ok.loop _ _ eA.pt.1
   ·exact eA.ok
  have dZ:PtIn s2.sets.length out:=hp.mono (by rw[e];exact eA.le)
  have i6:PtIn s2.sets.length z:=by rw[e,hz];exact eA.pt
  have h3:=ZdY h2 dZ i6
  have h4:=ZrV (N - (k+1)) (k+1) _ _ h3.ok h3.pt
  rw[<-dC,heq]at h4
  refine⟨eA,?_,h2,e,dZ,i6,h3,dC.symm.trans heq⟩
  rw[<-e];exact Nat.le_trans h3.le (Nat.le_trans h4.le hN)
 have start:ZuH t s m (.slice t0a t0n t0c) (.slice t1a t1n t1c) N [.int .i64 0] [ZbC,[.slice t0a t0n t0c,.slice t1a t1n t1c]] [.slice t0a t0n t0c,.slice t1a t1n t1c] m1 N:=
  ⟨0,⟨0,0,true⟩,s,t0a,t0n,t0c,t1a,t1n,t1c,Nat.zero_le _,rfl,rfl,rfl,rfl,MkSt.refl h hs aD,Zbu _ _,rfl⟩
 refine Zab (λje=>?_) (λje=>?_)
 ·have jV:t.mx=-1:=by simpa using je
  have qu:(if(1:Int) > t.mn then(1:Int)else t.mn)=(N:Int):=by
   rw[<-qw];unfold Zpr;rw[if_pos jV];split <;> omega
  intro b2
  simp only[qu]
  refine⟨ZuH t s m (.slice t0a t0n t0c) (.slice t1a t1n t1c) N,⟨_,start⟩,?_⟩
  rintro x cs cs1 a n c a1 n1 c1 m2 q _ ⟨k,out,s',a',n',c',a1',n1',c1',hk,hx,bZ,cO,hq,bV,lk,heq⟩
  obtain rfl:x=k:=by simpa using hx
  simp only[List.cons.injEq,and_true]at bZ
  obtain⟨rfl,rfl⟩:=bZ
  simp only[List.cons.injEq,Value.slice.injEq,and_true]at cO
  obtain⟨⟨rfl,rfl,rfl⟩,rfl,rfl,rfl⟩:=cO
  subst hq
  have fQ:=(cM.mono bV.base).mono (Mem.off_le m2 _)
  refine Zab (λaH=>?_) (λcL=>?_)
  ·have aF:k < N:=by have:=zA6 aH;omega
   obtain⟨eA,jk,jW,hZ,dZ,i6,gf,eD⟩:=round k out s' _ _ aF bV.ok lk rfl rfl heq
   have dR:IntKind.i64.wrap ((N:Int) - 1)=(N:Int) - 1:=Zat (by omega) (by omega)
   refine⟨bt,ot,eP,⟨by omega,by omega⟩,_,_,_,_,_,_,_,_,fQ,?_⟩
   refine lentC (ih y oP s' mkb _ _ _ _ _ _ m2 bV.row bV.ok (Rep.mono bV.base y ji) jk) ZbU (Ze9 bV eA.ok λm3 a3 n3 c3 a4 n4 c4 cK b5=>?_)
   refine⟨decide (k+1=N),ZbZ je ⟨by trivial,by trivial,by rw[dR];congr 2;rw[Bool.eq_iff_iff];simp;omega⟩,?_⟩
   have hw:IntKind.i64.wrap ((k:Int)+1)=((k+1:Nat):Int):=by rw[Zat (by omega) (by omega)];rfl
   by_cases dB:k+1=N
   ·have ec:(if t.mx=-1/\k+1=N then(⟨(mk y s').2.sets,ZcG (mk y s').2.fol (mk y s').1.last (mk y s').1.first⟩:Ms)else(mk y s').2)=⟨(mk y s').2.sets,ZcG (mk y s').2.fol (mk y s').1.last (mk y s').1.first⟩:=if_pos ⟨jV,dB⟩
    rw[ec]at jW hZ dZ i6 gf eD
    refine ZbZ (by simp[dB]) ?_
    refine lentC (Zot (mk y s').2 (mk y s').1.last (mk y s').1.first mkb _ _ _ _ _ _ m3 cK.row (by rw[eA.ok.len];exact jk) (λi hi=>by rw[eA.ok.len];exact eA.pt.2 i hi)) (by rintro v m' css tvs ⟨rfl,_⟩;rfl) ?_
    rintro m4 gZ _ cs3 a5 n5 c5 a6 n6 c6 ⟨_,sG,jX,cG⟩
    simp only[List.cons.injEq,Value.slice.injEq,and_true]at jX
    obtain⟨⟨rfl,rfl,rfl⟩,rfl,rfl,rfl⟩:=jX
    obtain rfl:cs3=[.slice a5 n5 c5,.slice a6 n6 c6]:=by simpa using sG
    have kH:=cK.step gZ cG (λb hb=>.inl hb) jW
    generalize dD:(mk y s').1=r1 at *
    obtain⟨rf,rl,rn⟩:=r1
    have ha:∀i,out.last.testBit i=true->i < (ZcG (mk y s').2.fol rl rf).length:=λi hi=>by rw[ZiG,eA.ok.len];exact dZ.2 i hi
    have hl:(ZcG (mk y s').2.fol rl rf).length<=448:=by rw[ZiG,eA.ok.len];exact jk
    cases rn
    ·refine ZaZ rfl (lentC (ZeD ⟨(mk y s').2.sets,ZcG (mk y s').2.fol rl rf⟩ out ⟨rf,rl,false||decide ((k:Int) ≥ t.mn)⟩ mkb _ _ _ _ _ _ m4 kH.row hl ha) Zdc (Zkj kH gf.ok λm5 a7 n7 c7 a8 n8 c8 eG=>?_))
     exact⟨by trivial,by trivial,_,by omega,k+1,_,_,_,_,_,_,_,_,aF,by rw[hw],rfl,rfl,rfl,eG,gf.pt,eD⟩
    ·refine ZbZ rfl (lentC (ZeD ⟨(mk y s').2.sets,ZcG (mk y s').2.fol rl rf⟩ out ⟨rf,rl,true||decide ((k:Int) ≥ t.mn)⟩ mkb _ _ _ _ _ _ m4 kH.row hl ha) Zdc (Zkj kH gf.ok λm5 a7 n7 c7 a8 n8 c8 eG=>?_))
     exact⟨by trivial,by trivial,_,by omega,k+1,_,_,_,_,_,_,_,_,aF,by rw[hw],rfl,rfl,rfl,eG,gf.pt,eD⟩
   ·have ec:(if t.mx=-1/\k+1=N then(⟨(mk y s').2.sets,ZcG (mk y s').2.fol (mk y s').1.last (mk y s').1.first⟩:Ms)else(mk y s').2)=(mk y s').2:=if_neg λh=>dB h.2
    rw[ec]at jW hZ dZ i6 gf eD
    refine ZaZ (by simp[dB]) ?_
    generalize dD:(mk y s').1=r1 at *
    obtain⟨rf,rl,rn⟩:=r1
    have ha:∀i,out.last.testBit i=true->i < (mk y s').2.fol.length:=λi hi=>by rw[eA.ok.len];exact dZ.2 i hi
    have hl:(mk y s').2.fol.length<=448:=by rw[eA.ok.len];exact jk
    cases rn
    ·refine ZaZ rfl (lentC (ZeD (mk y s').2 out ⟨rf,rl,false||decide ((k:Int) ≥ t.mn)⟩ mkb _ _ _ _ _ _ m3 cK.row hl ha) Zdc (Zkj cK gf.ok λm5 a7 n7 c7 a8 n8 c8 eG=>?_))
     exact⟨by trivial,by trivial,_,by omega,k+1,_,_,_,_,_,_,_,_,aF,by rw[hw],rfl,rfl,rfl,eG,gf.pt,eD⟩
    ·refine ZbZ rfl (lentC (ZeD (mk y s').2 out ⟨rf,rl,true||decide ((k:Int) ≥ t.mn)⟩ mkb _ _ _ _ _ _ m3 cK.row hl ha) Zdc (Zkj cK gf.ok λm5 a7 n7 c7 a8 n8 c8 eG=>?_))
     exact⟨by trivial,by trivial,_,by omega,k+1,_,_,_,_,_,_,_,_,aF,by rw[hw],rfl,rfl,rfl,eG,gf.pt,eD⟩
  ·have hk':k=N:=by have:=of_decide_eq_false cL;omega
   subst hk'
   rw[Nat.sub_self,Zky]at heq
   refine Zaa rfl ⟨by trivial,bV.out ?_ ?_⟩
   ·rw[<-heq];rfl
   ·rw[<-heq]
 ·have jV:¬t.mx=-1:=by simpa using je
  have qu:t.mx=(N:Int):=by
   rw[<-qw];unfold Zpr;rw[if_neg jV];omega
  intro b2
  refine⟨ZuH t s m (.slice t0a t0n t0c) (.slice t1a t1n t1c) N,⟨_,start⟩,?_⟩
  rintro x cs cs1 a n c a1 n1 c1 m2 q _ ⟨k,out,s',a',n',c',a1',n1',c1',hk,hx,bZ,cO,hq,bV,lk,heq⟩
  obtain rfl:x=k:=by simpa using hx
  simp only[List.cons.injEq,and_true]at bZ
  obtain⟨rfl,rfl⟩:=bZ
  simp only[List.cons.injEq,Value.slice.injEq,and_true]at cO
  obtain⟨⟨rfl,rfl,rfl⟩,rfl,rfl,rfl⟩:=cO
  subst hq
  have fQ:=(cM.mono bV.base).mono (Mem.off_le m2 _)
  refine Zab (λaH=>?_) (λcL=>?_)
  ·have aF:k < N:=by have:=zA6 aH;omega
   obtain⟨eA,jk,jW,hZ,dZ,i6,gf,eD⟩:=round k out s' _ _ aF bV.ok lk rfl rfl heq
   refine⟨bt,ot,eP,⟨by omega,by omega⟩,_,_,_,_,_,_,_,_,fQ,?_⟩
   refine lentC (ih y oP s' mkb _ _ _ _ _ _ m2 bV.row bV.ok (Rep.mono bV.base y ji) jk) ZbU (Ze9 bV eA.ok λm3 a3 n3 c3 a4 n4 c4 cK b5=>?_)
   refine⟨false,ZaZ je ⟨by trivial,by trivial,rfl⟩,ZaZ rfl ?_⟩
   have hw:IntKind.i64.wrap ((k:Int)+1)=((k+1:Nat):Int):=by rw[Zat (by omega) (by omega)];rfl
   have ec:(if t.mx=-1/\k+1=N then(⟨(mk y s').2.sets,ZcG (mk y s').2.fol (mk y s').1.last (mk y s').1.first⟩:Ms)else(mk y s').2)=(mk y s').2:=if_neg λh=>jV h.1
   rw[ec]at jW hZ dZ i6 gf eD
   generalize dD:(mk y s').1=r1 at *
   obtain⟨rf,rl,rn⟩:=r1
   have ha:∀i,out.last.testBit i=true->i < (mk y s').2.fol.length:=λi hi=>by rw[eA.ok.len];exact dZ.2 i hi
   have hl:(mk y s').2.fol.length<=448:=by rw[eA.ok.len];exact jk
   cases rn
   ·refine ZaZ rfl (lentC (ZeD (mk y s').2 out ⟨rf,rl,false||decide ((k:Int) ≥ t.mn)⟩ mkb _ _ _ _ _ _ m3 cK.row hl ha) Zdc (Zkj cK gf.ok λm5 a7 n7 c7 a8 n8 c8 eG=>?_))
    exact⟨by trivial,by trivial,_,by omega,k+1,_,_,_,_,_,_,_,_,aF,by rw[hw],rfl,rfl,rfl,eG,gf.pt,eD⟩
   ·refine ZbZ rfl (lentC (ZeD (mk y s').2 out ⟨rf,rl,true||decide ((k:Int) ≥ t.mn)⟩ mkb _ _ _ _ _ _ m3 cK.row hl ha) Zdc (Zkj cK gf.ok λm5 a7 n7 c7 a8 n8 c8 eG=>?_))
    exact⟨by trivial,by trivial,_,by omega,k+1,_,_,_,_,_,_,_,_,aF,by rw[hw],rfl,rfl,rfl,eG,gf.pt,eD⟩
  ·have hk':k=N:=by have:=of_decide_eq_false cL;omega
   subst hk'
   rw[Nat.sub_self,Zky]at heq
   refine Zaa rfl ⟨by trivial,bV.out ?_ ?_⟩
   ·rw[<-heq];rfl
   ·rw[<-heq]
def Zhu(b:Nat):Value->Mem->List (List Value)->Prop:=λv m' _=>∃c,m'.reads c 0 [.pointer (some ⟨b,0,none⟩)]/\v=.agg #[.func (.func 135) #[] #[],.func (.func 136) #[] #[],.func (.func 137) #[] #[.pointer (some ⟨c,0,none⟩)],.func (.func 138) #[] #[.pointer (some ⟨c,0,none⟩)],.func (.func 140) #[] #[.pointer (some ⟨c,0,none⟩)],.func (.func 142) #[.pointer (some ⟨b,0,none⟩)] #[],.func (.func 143) #[] #[.pointer (some ⟨c,0,none⟩)]]
theorem Zed(b:Nat)(m:Mem):CX Try.prog 109 #[.pointer (some ⟨b,0,none⟩)] m [] (Zhu b):=by
 apply Zet
 intro c m1 aD hc b1
 exact⟨m1,aD,Mem.le_refl _,c,hc,rfl⟩
theorem Zce{b:Nat}:∀(v:Value)(m':Mem) (css:List (List Value)),Zhu b v m' css->Shape.fits (.agg [.fn,.fn,.fn,.fn,.fn,.fn,.fn]) v=true:=by
 rintro v m' css ⟨c,_,rfl⟩;rfl
theorem ZsT(t:T)(m:Mem):CX Try.prog 136 #[t.v] m [] (Ret (Pt.v ⟨0,0,true⟩)):=by
 apply Zdj
 intro c m1 aD hc b1
 exact⟨m1,aD,Mem.le_refl _,rfl⟩
theorem ZpT(t:T)(s:Ms)(mkb:Nat)(t0a t1a:Option Addr)(t0n t0c t1n t1c:Nat)(m:Mem)(h:MkRow m (.slice t0a t0n t0c) (.slice t1a t1n t1c) s):
  CXY Try.prog 136 #[t.v] m (Yof (.slice t0a t0n t0c) (.slice t1a t1n t1c)) [⟨mkb,[.slice t0a t0n t0c,.slice t1a t1n t1c],98,2,false,true⟩] [⟨.slice t0a t0n t0c,4⟩,⟨.slice t1a t1n t1c,7⟩]
   (MkR (.slice t0a t0n t0c) (.slice t1a t1n t1c) m (⟨0,0,true⟩,s)):=
 (CX.frameY (ZsT t m) _ _ _).mono λv m' css tvs _ h2=>⟨_,_,_,_,_,_,h2.2.2.2,h2.2.1,h2.2.2.1,h.mono h2.1,λb hb=>.inl hb⟩
theorem ZuI{m m':Mem}{v0 v1:Value}{s:Ms}{c:Nat}{p:Option Addr}(h:MkRow m v0 v1 s)(hm:m.le m')(hc:m' c 0=some (.pointer p)):¬Yof v0 v1 c:=by
 rintro(hY|hY)
 ·obtain⟨c',_,h2,h3⟩:=Zec h.row0 hY
  cases hs:s.sets with
  | nil=>rw[hs]at h3;simp at h3
  | cons q l=>
   rw[hs]at h2
   have:=hm _ _ _ (h2 0 (.int .u64 q.1) rfl)
   rw[Nat.add_zero,hc]at this;cases this
 ·obtain⟨c',_,h2,h3⟩:=Zec h.row1 hY
  obtain⟨n,hn⟩:=ZfC h3
  have:=hm _ _ _ (h2 0 _ hn)
  rw[Nat.add_zero,hc]at this;cases this
theorem Zh4{b:Nat}{m':Mem}{css:List (List Value)}{g g1 g2 g3 g4 g5 g6:FuncId}{fi ca fi1 ca1 fi2 ca2 fi3 ca3 fi4 ca4 fi5 ca5 fi6 ca6:List Value}(h:Zhu b (.agg #[.func (.func g) fi.toArray ca.toArray,.func (.func g1) fi1.toArray ca1.toArray,.func (.func g2) fi2.toArray ca2.toArray,.func (.func g3) fi3.toArray ca3.toArray,.func (.func g4) fi4.toArray ca4.toArray,.func (.func g5) fi5.toArray ca5.toArray,.func (.func g6) fi6.toArray ca6.toArray]) m' css):
  ∃c,m' c 0=some (.pointer (some ⟨b,0,none⟩))/\(g1=136/\fi1=[]/\ca1=[])/\(g2=137/\fi2=[]/\ca2=[.pointer (some ⟨c,0,none⟩)])/\(g3=138/\fi3=[]/\ca3=[.pointer (some ⟨c,0,none⟩)])/\(g4=140/\fi4=[]/\ca4=[.pointer (some ⟨c,0,none⟩)])/\(g5=142/\fi5=[.pointer (some ⟨b,0,none⟩)]/\ca5=[])/\(g6=143/\fi6=[]/\ca6=[.pointer (some ⟨c,0,none⟩)]):=by
 obtain⟨c,hc,hv⟩:=h
 simp only[Value.agg.injEq,Array.mk.injEq,List.cons.injEq,Value.func.injEq,Fn.func.injEq,and_true,true_and]at hv
 obtain⟨_,h1,h2,h3,h4,h5,h6⟩:=hv
 exact⟨c,by simpa using hc 0 _ rfl,h1,h2,h3,h4,h5,h6⟩
theorem ZqK:∀t:T,(∀x∈t.nodes,x.right=true)->MkC t:=by
 intro t bR
 have ih:∀x∈t.subs,MkC x:=λx hx=>ZqK x λy hy=>bR y (by
  rw[Zbb]
  obtain⟨i,hi⟩:=List.getElem?_of_mem hx
  rw[Zen hi];simp[hy])
 have ip:t.right=true:=bR t (by rw[Zbb];simp)
 intro s mkb t0a t1a t0n t0c t1n t1c m bQ hs hr hN
 rw[Zur]at hN ⊢
 have hk:t.k=1\/t.k=2\/t.k=3\/t.k=4\/(t.k=5/\t.subs.length=1/\Zdi t.mn t.mx=true)\/(t.k=6/\t.subs.length=1):=by
  unfold T.right at ip
  rw[zA7]at ip
  have h2:=ip.2
  by_cases h1:t.k=1;· exact .inl h1
  by_cases h3:t.k=2;· exact .inr (.inl h3)
  by_cases h4:t.k=3;· exact .inr (.inr (.inl h4))
  by_cases h5:t.k=4;· exact .inr (.inr (.inr (.inl h5)))
  by_cases h6:t.k=5
  ·rw[if_neg h1,if_neg h3,if_neg h4,if_neg h5,if_pos h6]at h2
   simp only[zA7,beq_iff_eq]at h2
   exact .inr (.inr (.inr (.inr (.inl ⟨h6,h2.1,h2.2.1⟩))))
  ·rw[if_neg h1,if_neg h3,if_neg h4,if_neg h5,if_neg h6]at h2
   simp only[zA7,beq_iff_eq]at h2
   exact .inr (.inr (.inr (.inr (.inr h2))))
 obtain⟨k,s0,s1,s2,s3,mn,mx,a,c,l⟩:=t
 rcases hk with hk|hk|hk|hk|⟨hk,h1,hb⟩|⟨hk,h1⟩
 ·obtain rfl:k=1:=hk
  rw[if_neg (by simp[T.k]),if_pos (by rfl)]at hN ⊢
  apply Zdk
  intro b m1 aD _ hf _ b1
  refine⟨λ_ _ _=>Zhu mkb,_,rfl,Zed mkb m1,Zce,?_⟩
  intro g fi ca g1 fi1 ca1 g2 fi2 ca2 g3 fi3 ca3 g4 fi4 ca4 g5 fi5 ca5 g6 fi6 ca6 m2 bN hR
  obtain⟨cc,jl,⟨rfl,rfl,rfl⟩,⟨rfl,rfl,rfl⟩,⟨rfl,rfl,rfl⟩,⟨rfl,rfl,rfl⟩,⟨rfl,rfl,rfl⟩,rfl,rfl,rfl⟩:=Zh4 hR
  refine⟨⟨by omega,by omega⟩,λM eB dW=>?_⟩
  have bV:=MkSt.refl bQ hs (mLt aD eB)
  refine lentC (ZpT (.node 1 s0 s1 s2 s3 mn mx a c l) s mkb _ _ _ _ _ _ M bV.row) ZbU (Ze9 bV hs λm3 a3 n3 c3 a4 n4 c4 cK=>?_)
  exact⟨rfl,cK.out rfl rfl⟩
 ·obtain rfl:k=2:=hk
  rw[if_neg (by simp[T.k]),if_neg (by simp[T.k]),if_pos (by rfl)]at hN ⊢
  apply Zdl
  intro b m1 aD _ hf _ b1
  refine⟨λ_ _ _=>Zhu mkb,_,rfl,Zed mkb m1,Zce,?_⟩
  intro g fi ca g1 fi1 ca1 g2 fi2 ca2 g3 fi3 ca3 g4 fi4 ca4 g5 fi5 ca5 g6 fi6 ca6 m2 bN hR
  obtain⟨cc,jl,⟨rfl,rfl,rfl⟩,⟨rfl,rfl,rfl⟩,⟨rfl,rfl,rfl⟩,⟨rfl,rfl,rfl⟩,⟨rfl,rfl,rfl⟩,rfl,rfl,rfl⟩:=Zh4 hR
  refine⟨⟨by omega,by omega⟩,λM eB dW=>?_⟩
  have bV:=MkSt.refl bQ hs (mLt aD eB)
  simp only[zA1,List.length_singleton]at hN
  refine lentC (ZsP (.node 2 s0 s1 s2 s3 mn mx a c l) s cc mkb _ _ _ _ _ _ M bV.row (by omega) hs.len (dW _ _ _ jl)) ZbU (Ze9 bV (ZlM hs _).ok λm3 a3 n3 c3 a4 n4 c4 cK=>?_)
  exact⟨rfl,cK.out rfl rfl⟩
 ·obtain rfl:k=3:=hk
  rw[if_neg (by simp[T.k]),if_neg (by simp[T.k]),if_neg (by simp[T.k]),if_pos (by rfl)]at hN ⊢
  apply Zdm
  intro b m1 aD _ hf _ b1
  refine⟨λ_ _ _=>Zhu mkb,_,rfl,Zed mkb m1,Zce,?_⟩
  intro g fi ca g1 fi1 ca1 g2 fi2 ca2 g3 fi3 ca3 g4 fi4 ca4 g5 fi5 ca5 g6 fi6 ca6 m2 bN hR
  obtain⟨cc,jl,⟨rfl,rfl,rfl⟩,⟨rfl,rfl,rfl⟩,⟨rfl,rfl,rfl⟩,⟨rfl,rfl,rfl⟩,⟨rfl,rfl,rfl⟩,rfl,rfl,rfl⟩:=Zh4 hR
  refine⟨⟨by omega,by omega⟩,λM eB dW=>?_⟩
  have bV:=MkSt.refl bQ hs (mLt aD eB)
  have oQ:(M.off (Yof (.slice t0a t0n t0c) (.slice t1a t1n t1c))) cc 0=some (.pointer (some ⟨mkb,0,none⟩)):=by
   rw[Mem.off_at (ZuI bV.row (Mem.le_refl _) (dW _ _ _ jl))];exact dW _ _ _ jl
  refine lentC (ZsR (.node 3 s0 s1 s2 s3 mn mx a c l) ih s cc mkb _ _ _ _ _ _ M bV.row hs (Rep.mono bV.base _ hr) oQ hN) ZbU (Ze9 bV (ZdZ _ _ _ hs (Zbu _ _)).ok λm3 a3 n3 c3 a4 n4 c4 cK=>?_)
  exact⟨rfl,cK.out rfl rfl⟩
 ·obtain rfl:k=4:=hk
  rw[if_neg (by simp[T.k]),if_neg (by simp[T.k]),if_neg (by simp[T.k]),if_neg (by simp[T.k]),if_pos (by rfl)]at hN ⊢
  apply Zdn
  intro b m1 aD _ hf _ b1
  refine⟨λ_ _ _=>Zhu mkb,_,rfl,Zed mkb m1,Zce,?_⟩
  intro g fi ca g1 fi1 ca1 g2 fi2 ca2 g3 fi3 ca3 g4 fi4 ca4 g5 fi5 ca5 g6 fi6 ca6 m2 bN hR
  obtain⟨cc,jl,⟨rfl,rfl,rfl⟩,⟨rfl,rfl,rfl⟩,⟨rfl,rfl,rfl⟩,⟨rfl,rfl,rfl⟩,⟨rfl,rfl,rfl⟩,rfl,rfl,rfl⟩:=Zh4 hR
  refine⟨⟨by omega,by omega⟩,λM eB dW=>?_⟩
  have bV:=MkSt.refl bQ hs (mLt aD eB)
  have oQ:(M.off (Yof (.slice t0a t0n t0c) (.slice t1a t1n t1c))) cc 0=some (.pointer (some ⟨mkb,0,none⟩)):=by
   rw[Mem.off_at (ZuI bV.row (Mem.le_refl _) (dW _ _ _ jl))];exact dW _ _ _ jl
  refine lentC (ZsS (.node 4 s0 s1 s2 s3 mn mx a c l) ih s cc mkb _ _ _ _ _ _ M bV.row hs (Rep.mono bV.base _ hr) oQ hN) ZbU (Ze9 bV (Zd0 _ _ _ hs (Zbu _ _)).ok λm3 a3 n3 c3 a4 n4 c4 cK=>?_)
  exact⟨rfl,cK.out rfl rfl⟩
 ·obtain rfl:k=5:=hk
  rw[if_neg (by simp[T.k]),if_neg (by simp[T.k]),if_neg (by simp[T.k]),if_neg (by simp[T.k]),if_neg (by simp[T.k]),if_pos (by rfl)]at hN ⊢
  apply Zdo
  intro b m1 aD _ hf _ b1
  refine⟨λ_ _ _=>Zhu mkb,_,rfl,Zed mkb m1,Zce,?_⟩
  intro g fi ca g1 fi1 ca1 g2 fi2 ca2 g3 fi3 ca3 g4 fi4 ca4 g5 fi5 ca5 g6 fi6 ca6 m2 bN hR
  obtain⟨cc,jl,⟨rfl,rfl,rfl⟩,⟨rfl,rfl,rfl⟩,⟨rfl,rfl,rfl⟩,⟨rfl,rfl,rfl⟩,⟨rfl,rfl,rfl⟩,rfl,rfl,rfl⟩:=Zh4 hR
  refine⟨⟨by omega,by omega⟩,λM eB dW=>?_⟩
  have bV:=MkSt.refl bQ hs (mLt aD eB)
  refine lentC (Zny (.node 5 s0 s1 s2 s3 mn mx a c l) h1 hb ih s mkb _ _ _ _ _ _ M bV.row hs (Rep.mono bV.base _ hr) hN) ZbU (Ze9 bV (Ze2 (λs h=>ZdG _ s h) _ _ _ _ _ _ _ hs (Zbu _ _)).ok λm3 a3 n3 c3 a4 n4 c4 cK=>?_)
  exact⟨rfl,cK.out rfl rfl⟩
 ·obtain rfl:k=6:=hk
  rw[if_neg (by simp[T.k]),if_neg (by simp[T.k]),if_neg (by simp[T.k]),if_neg (by simp[T.k]),if_neg (by simp[T.k]),if_neg (by simp[T.k])]at hN ⊢
  apply Zdp
  intro b m1 aD _ hf _ b1
  refine⟨λ_ _ _=>Zhu mkb,_,rfl,Zed mkb m1,Zce,?_⟩
  intro g fi ca g1 fi1 ca1 g2 fi2 ca2 g3 fi3 ca3 g4 fi4 ca4 g5 fi5 ca5 g6 fi6 ca6 m2 bN hR
  obtain⟨cc,jl,⟨rfl,rfl,rfl⟩,⟨rfl,rfl,rfl⟩,⟨rfl,rfl,rfl⟩,⟨rfl,rfl,rfl⟩,⟨rfl,rfl,rfl⟩,rfl,rfl,rfl⟩:=Zh4 hR
  refine⟨⟨by omega,by omega⟩,λM eB dW=>?_⟩
  have bV:=MkSt.refl bQ hs (mLt aD eB)
  have oQ:(M.off (Yof (.slice t0a t0n t0c) (.slice t1a t1n t1c))) cc 0=some (.pointer (some ⟨mkb,0,none⟩)):=by
   rw[Mem.off_at (ZuI bV.row (Mem.le_refl _) (dW _ _ _ jl))];exact dW _ _ _ jl
  refine lentC (ZpR (.node 6 s0 s1 s2 s3 mn mx a c l) h1 ih s cc mkb _ _ _ _ _ _ M bV.row hs (Rep.mono bV.base _ hr) oQ hN) ZbU (Ze9 bV (ZdG _ _ hs).ok λm3 a3 n3 c3 a4 n4 c4 cK=>?_)
  exact⟨rfl,cK.out rfl rfl⟩
termination_by t=>SizeOf.sizeOf t
decreasing_by exact Zpj hx
end Go.Proofs.Ytplacemlpkhmfaa
namespace Go.Proofs.Ytplacemlpkhmfaa
open Go Go.Eng Go.Proofs Go.RowKit
open Go.Value (int slice agg bool string tuple func)
open Go.IntKind (u8 u64 i64)
set_option maxRecDepth 100000
def Zrz:Env:={ EB with
 loops:=swI nLa [(9,⟨[(53,.int .i64)],[6],[(61,1)],false⟩)]
 joins:=swI none [(1,some [(16,.bool)]),(3,some [(30,.bool)])]
 dr:=swI [] [(7,[⟨0,[33],[],none,[],[]⟩,⟨1,[33],[],none,[0],[]⟩,⟨2,[33],[],none,[0,1],[]⟩,⟨3,[33],[],none,[0,1,2],[]⟩,dO 4 [],dO 5 [4],dO 6 [],⟨7,[],[],none,[4,5,6],[5]⟩,dO 8 [],dO 9 [8],dO 10 [0,1,2,3,4,5,6,7,8,9],⟨11,[6],[6],none,[],[]⟩,⟨12,[6],[6],none,rg 0 12,[]⟩]),(11,[⟨0,[6],[],none,[],[]⟩,⟨1,[6],[],none,[0],[]⟩,dO 2 [],⟨3,[60],[60],none,[2],[2]⟩,⟨4,[60],[],some 61,[0,1,2,3],[3]⟩,⟨5,[6],[],none,[0,1,2,3,4],[]⟩,⟨6,[6],[6],none,[0,1,2,3,4,5],[]⟩])]
 tokOf:=swI 0 [(61,61)]
 frzNew:=[1]
 ptrAt:=swI [] [(7,[5]),(11,[8])]
 frzAt:=swI [] [(1000007,[5]),(1000011,[8])]
 thaw:=true
 lentC:=swI none [(36,some [(900,4),(901,7)])] }
theorem ZpU(aI aZ bC bD aA bF aX:Int)(aC:Option Addr)(aB aE:Nat)(m:Mem)(R:RT)(h:
 lV [int u8 aI,int u64 aZ,int u64 bC,int u64 bD,int u64 aA,int i64 bF,int i64 aX,slice aC aB aE] λxL=>lX (agg (.mk xL)) λyL=>fzM m xL λb m'=>lE [some (Box.mk b xL 41 8 true true)] λxL
 => m.free b->(∀(b' o:Nat)(u:Value),m' b' o=some u->m b' o=some u\/b'=b)->∀a7,∃(ag:Bool),lE (some (Box.mk a7 [slice none 0 0,slice none 0 0,slice none 0 0,slice none 0 0,bool false] 26 5 false true) ::
 xL) λxL=>br (aI == 0) (kB pG 58 [yL,agg (.mk [int u8 0,int u64 0,int u64 0,int u64 0,int u64 0,int i64 0,int i64 0,slice none 0 0])] m' λb m'=>Zac xL/\[bool b]=[bool ag]) (Zac xL/\[bool false]=[bool
 ag])/\br ag (rtM m m' R (tuple (.mk [agg (.mk [slice none 0 0,slice none 0 0,slice none 0 0,slice none 0 0,bool false]),int i64 0]))) (∃(ad:Bool),(kB pG 59 [yL] m' λb m'=>br (!b) (Zac xL/\[bool true]=[bool
 ad]) (kI pG 60 [yL] m' λn m'=>br (decide (n > 120)) (Zac xL/\[bool true]=[bool ad]) (kI pG 37 [yL] m' λn m'=>Zac xL/\[bool (decide (n > 400))]=[bool ad])))/\br ad (rtM m m' R (tuple (.mk [agg (.mk [slice
 none 0 0,slice none 0 0,slice none 0 0,slice none 0 0,bool false]),int i64 170]))) (∀(ah:Nat),∃(Y:Nat->Prop),∃(R_1:Value->Mem->List (List Value)->List Value->Prop),CXY pG 61 (.mk [Value.pointer (some (Addr.mk
 ah 0 none)),yL]) m' Y [Box.mk ah [slice none 0 0,slice none 0 0] 98 2 false true] [Tok.mk (slice none 0 0) 4,Tok.mk (slice none 0 0) 7] R_1/\(∀(t:Tok),t∈[Tok.mk (slice none 0 0) 4,Tok.mk (slice none 0 0) 7]->∀(b:
 Nat),Tok.blk t=some b->Y b)/\(∀(ac:Nat),Y ac->(∃(t:Tok),t∈[Tok.mk (slice none 0 0) 4,Tok.mk (slice none 0 0) 7]/\Tok.blk t=some ac)\/m.free ac/\(∃(o:Nat),∃(v:Value),m' ac o=some v)/\b≠ac/\True)
 /\ (∀(v:Value)(m':Mem) (css:List (List Value)) (tvs:List Value),R_1 v m' css tvs->Shape.fits (.agg [.int u64,.int u64,.int u64,.int u64,.int u64,.int u64,.int u64,.int u64,.int u64,.int u64,.int u64,.int u64,
 .int u64,.int u64,.bool]) v=true)/\∀n a8 a9 ba bb bc bd be bf bg bh bi bj bk (b:Bool) (ae:Mem),lV [int u64 n,int u64 a8,int u64 a9,int u64 ba,int u64 bb,int u64 bc,int u64 bd,int u64 be,int u64 bf,int u64 bg,
 int u64 bh,int u64 bi,int u64 bj,int u64 bk,bool b] λai=>Mem.le (Mem.off m' Y) ae->(∀(b o:Nat)(u:Value),ae b o=some u->m' b o=some u\/Y b\/m'.free b)->∀(cs:List Value) a c d an ao ap,lE [some (Tok.mk
 (slice a c d) 4),some (Tok.mk (slice an ao ap) 7)] λaq=>R_1 (agg (.mk ai)) ae [cs] [slice a c d,slice an ao ap]->fzM ae ai λb m'=>∃(f:Fx),lE (some (Box.mk b ai 102 15 true true)) λyL=>Eng.Zp3 cs 0 λv=>
 lV (Zaw [slice none 0 0,slice none 0 0,slice none 0 0,slice none 0 0,bool false] 0 (Array.toList (Value.cells v))) λar=>dS f 5 pG 62 [ptr b 0] m' λa n c au=>lV (Zaw ar 2 [slice a n c]) λav=>dS f 7 pG 62
 [ptr b 7] au λa n c bl=>∃(aj:Value),lV (Zaw av 3 [slice a n c]) λaw=>lV (Zaw aw 4 (Array.toList (Value.cells aj))) λak=>m' b 14=some aj/\chk (Nat.beq (List.length (Array.toList (Value.cells v))) 1 &&
 true) (chk (Nat.ble 3 (ar.length)) (chk (Nat.ble 4 (av.length)) (chk (Nat.beq (List.length (Array.toList (Value.cells aj))) 1&&Nat.ble 5 (aw.length)) (∀b,lE (some (Box.mk b [] 26 5 false true)) λax=>chk (Nat.beq
 (ak.length) 5&&Zcr ak) (∀M,m'.le M->au.le M->bl.le M->yL=yL/\Eng.Zp3 cs 1 λv=>chk (ZdK v) (∃I,inI I [int i64 0] [ak] [slice none 0 0] M/\∀n (aa:List Value) a ay c (m':Mem) (az:Nat),True->I [int i64
 n] [aa] [slice a ay c] m' az->br (decide (n < (↑(slN v):Int))) (chk (ZdK v) (atA (slA v) λb o=>Zaf n (slN v)/\∃v a0 a1 a2 a3 a4 a5:Value,lV [v,a0,a1,a2,a3,a4,a5] λal=>m'.reads b (o+Int.toNat n*7)
 al/\∀b,lE (some (Box.mk b al 100 7 true true)) λa6=>chk (v.oneCell'&&(a0.oneCell'&&(a1.oneCell'&&(a2.oneCell'&&(a3.oneCell'&&(a4.oneCell'&&(a5.oneCell'&&true))))))) (∀af,m'.le af->af.reads b 0 al->∃(f:
 Fx),Eng.Zp3 aa 1 λv=>lE (slN v+1) λab=>dS f 2 pG 62 [Value.pointer (some (Addr.mk b 0 none))] af λbm bn bo m'=>∀b,lM (m'.add b [slice bm bn bo]) λmL=>m'.free b->chk (ZdK v&&true) ((Tok.mk (slice a ay
 c) 1=Tok.mk v 1\/v=slice none 0 0\/slC v < ab)/\∃(xs:List Value),∃(ys:List Value),xs.length=slN v*1/\ys.length=1*1/\rowRd mL (slA v) xs/\rowRd mL (some (Addr.mk b 0 none)) ys/\(∀(u:Value),u∈ys->
 u.oneCell'=true)/\ab*24<=140737488355328/\ab<=9223372036854775807/\∀(a':Option Addr)(c':Nat) am,mL.le am->rowRd am a' (List.append xs ys)->TokFact mL (slA v) a' ab c'->chk (Nat.ble 2 (aa.length)) (∀M,af.le M->
 m'.le M->mL.le M->am.le M->a6=a6/\Zac (ax::ax::yL::some (Box.mk ah cs 98 2 false true)::xL)/\aq=aq/\nxI az I [int i64 (i64.wrap (n+1))] [Zaw aa 1 [slice a' ab c']] [slice a' ab c'] M))))) (chk (Nat.beq
 (aa.length) 5&&Zcr aa) (rtM m m' R (tuple (.mk [agg (.mk aa),int i64 0]))))))))))))):CX Try.prog 14 #[.agg #[.int .u8 aI,.int .u64 aZ,.int .u64 bC,.int .u64 bD,.int .u64 aA,.int .i64 bF,.int .i64 aX,.slice aC aB aE]] m [] R:=
 Zaj (E:=Zrz) ZaB mix Try.func14 [.v (.agg #[.int .u8 aI,.int .u64 aZ,.int .u64 bC,.int .u64 bD,.int .u64 aA,.int .i64 bF,.int .i64 aX,.slice aC aB aE])] [] (by kernel_rfl) (Eq.mp (by kernel_rfl) h)
def Zkk:Env:={ EB with
 loops:=swI nLa [(3,⟨[(7,.int .i64),(14,.int .i64)],[],[],false⟩)]
 joins:=swI none [(5,some [(25,.bool)])] }
theorem ZiX(p0a:Option Addr)(p0n p0c:Nat)(p1 p2:Int)(m:Mem)(R:RT)(h:
 ∃I,inI I [int i64 (i64.wrap (p1 - (1:Int))),int i64 0] [] [] m/\∀n n_1 m' (n_2:Nat),m.le m'->I [int i64 n,int i64 n_1] [] [] m' n_2->br (decide (n_1 < (↑p0n:Int))) (atA p0a λb o=>Zaf n_1 p0n/\∃(v:
 Value),lE (Zbw i64 v&&decide (i64=i64)) λyL=>m' b (o+Int.toNat n_1*1)=some v/\∃(b:Bool),chk yL (br (decide (RowKit.intOf v<=n)) ([bool true]=[bool b]) (chk yL ([bool (decide (RowKit.intOf v > p2))] =
 [bool b])))/\br b (rtM m m' R (bool false)) (chk (Shape.fits (.int i64) v) (nxI n_2 I [v,int i64 (i64.wrap (n_1+1))] [] [] m'))) (rtM m m' R (bool true))):CX Try.prog 70 #[.slice p0a p0n p0c,.int .i64 p1,.int .i64 p2] m [] R:=
 Zaj (E:=Zkk) ZaB mix Try.func70 [.v (.slice p0a p0n p0c),.v (.int .i64 p1),.v (.int .i64 p2)] [] (by kernel_rfl) (Eq.mp (by kernel_rfl) h)
def Zmn:Env:={ EB with
 loops:=swI nLa [(5,⟨[(37,.int .i64)],[],[],false⟩)]
 joins:=swI none [(2,some [(33,.bool)]),(7,some [(55,.bool)])]
 frzNew:=[1] }
theorem Zkl(aO:Option Addr)(aJ aY:Nat)(aP:Option Addr)(aK bE:Nat)(aR:Option Addr)(aQ aW:Nat)(aS:Option Addr)(aT aU:Nat)(aA:Bool)(m:Mem)(R:RT)(h:
 lV [int i64 0,int i64 (i64.wrap ((↑aJ:Int) - (1:Int)))] λxL=>lV [slice aO aJ aY,slice aP aK bE,slice aR aQ aW,slice aS aT aU,bool aA] λxL_1=>fzM m xL_1 λb m'=>∃(b_1
 : Bool),lV [bool b_1] λxL_2=>lE [some (Box.mk b xL_1 26 5 true true)] λxL_3=>br (decide ((↑aJ:Int) > 400)) (Zac xL_3/\[bool true]=xL_2) (br (!(↑aK:Int) == (↑aJ:Int)) (Zac xL_3/\[bool true] =
 xL_2) (kB pG 70 (slice aR aQ aW::xL) m' λb m'=>br (!b) (Zac xL_3/\[bool true]=xL_2) (kB pG 70 (slice aS aT aU::xL) m' λb m'=>Zac xL_3/\[bool !b]=xL_2)))/\br b_1 (rtM m m' R (bool
 false)) (∃I,inI I [int i64 0] [] [] m'/\∀n m'_1 (n_1:Nat),m'.le m'_1->I [int i64 n] [] [] m'_1 n_1->br (decide (n < (↑aK:Int))) (atA aP λb o=>Zaf n aK/\∃(v:Value),m'_1 b (o+Int.toNat n*1) =
 some v/\∃(b:Bool),(kB pG 70 (v::xL) m'_1 λb_2 m'=>br (!b_2) (Zac xL_3/\[bool true]=[bool b]) (atA aO λb_3 o=>Zaf n aJ/\∃v v_1 v_2 v_3:Value,m'.reads b_3 (o+Int.toNat n*4) [v,v_1,v_2,
 v_3]/\∃(b_4:Bool),EqIs pG 38 (agg (.mk [v,v_1,v_2,v_3])) (agg (.mk [int u64 0,int u64 0,int u64 0,int u64 0])) b_4/\Zac xL_3/\[bool b_4]=[bool b]))/\br b (rtM m m'_1 R (bool false)) (Zac xL_3/\nxI n_1 I [int
 i64 (i64.wrap (n+1))] [] [] m'_1)) (rtM m m'_1 R (bool true)))):CX Try.prog 21 #[.agg #[.slice aO aJ aY,.slice aP aK bE,.slice aR aQ aW,.slice aS aT aU,.bool aA]] m [] R:=
 Zaj (E:=Zmn) ZaB mix Try.func21 [.v (.agg #[.slice aO aJ aY,.slice aP aK bE,.slice aR aQ aW,.slice aS aT aU,.bool aA])] [] (by kernel_rfl) (Eq.mp (by kernel_rfl) h)
def Zbl:Env:={ EB with
 loops:=swI nLa [(4,⟨[(13,.int .i64)],[],[],false⟩)]
 dr:=swI [] [(6,[dO 0 [],dO 1 [],dO 2 [0,1],dO 3 [0,1,2],dO 4 [],dO 5 [],dO 6 [4,5],dO 7 [4,5,6],dO 8 [0,1,2,3,4,5,6,7]])] }
theorem Zbh(p0a:Option Addr)(p0n p0c:Nat)(p1a:Option Addr)(p1n p1c:Nat)(m:Mem)(R:RT)(h:
 br (!(↑p0n:Int) == (↑p1n:Int)) (rtM m m R (bool false)) (∃I,inI I [int i64 0] [] [] m/\∀n m' (n_1:Nat),m.le m'->I [int i64 n] [] [] m' n_1->br (decide (n < (↑p0n:Int))) (atA p0a λb o=>Zaf n p0n/\∃v v_1
 v_2 v_3:Value,m'.reads b (o+Int.toNat n*4) [v,v_1,v_2,v_3]/\atA p1a λb o=>Zaf n p1n/\∃v_4 v_5 v_6 v_7:Value,m'.reads b (o+Int.toNat n*4) [v_4,v_5,v_6,v_7]/\∃(b:Bool),EqIs pG 38 (agg (.mk [v,
 v_1,v_2,v_3])) (agg (.mk [v_4,v_5,v_6,v_7])) b/\br (!b) (rtM m m' R (bool false)) (nxI n_1 I [int i64 (i64.wrap (n+1))] [] [] m')) (rtM m m' R (bool true)))):CX Try.prog 71 #[.slice p0a p0n p0c,.slice p1a p1n p1c] m [] R:=
 Zaj (E:=Zbl) ZaB mix Try.func71 [.v (.slice p0a p0n p0c),.v (.slice p1a p1n p1c)] [] (by kernel_rfl) (Eq.mp (by kernel_rfl) h)
def Zbd:Env:={ EB with
 loops:=swI nLa [(4,⟨[(17,.int .i64)],[],[],false⟩)] }
theorem Za8(p0a:Option Addr)(p0n p0c:Nat)(p1a:Option Addr)(p1n p1c p2g:Nat)(p2fi p2ca:List Value)(m:Mem)(R:RT)(h:
 br (!(↑p0n:Int) == (↑p1n:Int)) (rtM m m R (bool false)) (∃I,inI I [int i64 0] [] [] m/\∀n m' (n_1:Nat),m.le m'->I [int i64 n] [] [] m' n_1->br (decide (n < (↑p0n:Int))) (atA p0a λb o=>Zaf n p0n/\∃(v:
 Value),m' b (o+Int.toNat n*1)=some v/\atA p1a λb o=>Zaf n p1n/\∃(v_1:Value),m' b (o+Int.toNat n*1)=some v_1/\kB pG p2g (List.append (List.append p2fi [v,v_1]) p2ca) m' λb m'=>br (!b) (rtM m m' R
 (bool false)) (nxI n_1 I [int i64 (i64.wrap (n+1))] [] [] m')) (rtM m m' R (bool true)))):CX Try.prog 72 #[.slice p0a p0n p0c,.slice p1a p1n p1c,.func (.func p2g) p2fi.toArray p2ca.toArray] m [] R:=
 Zaj (E:=Zbd) ZaB mix Try.func72 [.v (.slice p0a p0n p0c),.v (.slice p1a p1n p1c),.v (.func (.func p2g) p2fi.toArray p2ca.toArray)] [] (by kernel_rfl) (Eq.mp (by kernel_rfl) h)
def Znz:Env:={ EB with
 joins:=swI none [(1,some [(4,.bool)])]
 frzNew:=[2,3] }
theorem Zmo(aO:Option Addr)(aJ aY:Nat)(aP:Option Addr)(aK bE:Nat)(aR:Option Addr)(aQ aW:Nat)(aS:Option Addr)(aT aU:Nat)(aA:Bool)(iK:Option Addr)(iL iM:Nat)(iN:Option Addr)(iO iP:Nat)(iQ:Option Addr)(iR iS:Nat)(iT:Option Addr)(iU iV:Nat)(bI:Bool)(m:Mem)(R:RT)(h:
 lV [slice iK iL iM,slice iN iO iP,slice iQ iR iS,slice iT iU iV,bool bI] λxL=>lV [slice aO aJ aY,slice aP aK bE,slice aR aQ aW,slice aS aT aU,
 bool aA] λxL_1=>fzM m xL_1 λb m'=>lE [some (Box.mk b xL_1 26 5 true true)] λxL_2=>fzM m' xL λb m'=>∃(b_1:Bool),lV [bool b_1] λxL_3=>lE (some (Box.mk b xL 26 5 true true)::xL_2) λxL=>(kB pG 71
 [slice aO aJ aY,slice iK iL iM] m' λb m'=>br b (kB pG 72 [slice aP aK bE,slice iN iO iP,func (Fn.func 23) (Array.mk []) (Array.mk [])] m' λb m'=>br b (kB pG 23 [slice aR aQ
 aW,slice iQ iR iS] m' λb m'=>br b (kB pG 23 [slice aS aT aU,slice iT iU iV] m' λb m'=>br b (Zac xL/\[bool (aA == bI)]=xL_3) (Zac xL/\[bool false]=xL_3)) (Zac xL/\[bool
 false]=xL_3)) (Zac xL/\[bool false]=xL_3)) (Zac xL/\[bool false]=xL_3))/\rtM m m' R (bool b_1)):CX Try.prog 22 #[.agg #[.slice aO aJ aY,.slice aP aK bE,.slice aR aQ aW,.slice aS aT aU,.bool aA],.agg #[.slice iK iL iM,.slice iN iO iP,.slice iQ iR iS,.slice iT iU iV,.bool bI]] m [] R:=
 Zaj (E:=Znz) ZaB mix Try.func22 [.v (.agg #[.slice aO aJ aY,.slice aP aK bE,.slice aR aQ aW,.slice aS aT aU,.bool aA]),.v (.agg #[.slice iK iL iM,.slice iN iO iP,.slice iQ iR iS,.slice iT iU iV,.bool bI])] [] (by kernel_rfl) (Eq.mp (by kernel_rfl) h)
def Zbm:Env:={ EB with
 tokOf:=swI 0 [(2,7),(7,7)]
 tokC:=swI none [(5,some (7,4))]
 thaw:=true }
theorem Zbe(p0a:Option Addr)(p0n p0c:Nat)(m:Mem)(R:RT)(h:
 lE (0+p0n) λyL=>br (Option.isNone p0a) (slice none 0 0=slice none 0 0/\R (slice none 0 0) m []) (((0:Int)=(0:Int)/\(0:Int)<=0/\(0:Int)*(↑(32:Nat):Int)<=281474976710656/\(0:Int) <=
 9223372036854775807)/\∀(b:Nat),lX (slice (some (Addr.mk b 0 none)) 0 (Int.toNat (0:Int))) λyL_1=>m.free b->(Tok.mk yL_1 4=Tok.mk yL_1 4\/yL_1=slice none 0 0\/Int.toNat (0:Int) < yL)/\∃(xs:List Value),∃
 (ys:List Value),xs.length=0*4/\ys.length=p0n*4/\rowRd m (some (Addr.mk b 0 none)) xs/\rowRd m p0a ys/\(∀(u:Value),u∈ys->u.oneCell'=true)/\yL*32<=140737488355328/\yL<=9223372036854775807/\∀a' c' m',
 lE (some (Tok.mk (slice a' yL c') 4)) λyL_2=>m.le m'->rowRd m' a' (List.append xs ys)->TokFact m (some (Addr.mk b 0 none)) a' yL c'->yL_2=yL_2/\R (slice a' yL c') m' [])):CXT Try.prog 77 #[.slice p0a p0n p0c] m 4 R:=
 ZgY (E:=Zbm) ZaB mix Try.func77 [.v (.slice p0a p0n p0c)] (by kernel_rfl) (Eq.mp (by kernel_rfl) h)
def ZcJ:Env:={ EB with
 tokOf:=swI 0 [(2,7),(7,7)]
 tokC:=swI none [(5,some (7,1))]
 thaw:=true }
theorem Zcn(p0a:Option Addr)(p0n p0c:Nat)(m:Mem)(R:RT)(h:
 lE (0+p0n) λyL=>br (Option.isNone p0a) (slice none 0 0=slice none 0 0/\R (slice none 0 0) m []) (((0:Int)=(0:Int)/\(0:Int)<=0/\(0:Int)*(↑(8:Nat):Int)<=281474976710656/\(0:Int) <=
 9223372036854775807)/\∀(b:Nat),lX (slice (some (Addr.mk b 0 none)) 0 (Int.toNat (0:Int))) λyL_1=>m.free b->(Tok.mk yL_1 1=Tok.mk yL_1 1\/yL_1=slice none 0 0\/Int.toNat (0:Int) < yL)/\∃(xs:List Value),∃
 (ys:List Value),xs.length=0*1/\ys.length=p0n*1/\rowRd m (some (Addr.mk b 0 none)) xs/\rowRd m p0a ys/\(∀(u:Value),u∈ys->u.oneCell'=true)/\yL*8<=140737488355328/\yL<=9223372036854775807/\∀a' c' m',
 lE (some (Tok.mk (slice a' yL c') 1)) λyL_2=>m.le m'->rowRd m' a' (List.append xs ys)->TokFact m (some (Addr.mk b 0 none)) a' yL c'->yL_2=yL_2/\R (slice a' yL c') m' [])):CXT Try.prog 44 #[.slice p0a p0n p0c] m 1 R:=
 ZgY (E:=ZcJ) ZaB mix Try.func44 [.v (.slice p0a p0n p0c)] (by kernel_rfl) (Eq.mp (by kernel_rfl) h)
def ZnA:Env:={ EB with
 loops:=swI nLa [(3,⟨[(21,.int .i64)],[3],[(30,1)],false⟩)]
 dr:=swI [] [(1,[⟨0,[1],[],none,[],[]⟩,⟨1,[1],[],none,[0],[]⟩,dO 2 [0,1],⟨3,[1],[],none,[],[]⟩,⟨4,[1],[],none,[3],[]⟩,⟨5,[],[],none,[0,1,2,3,4],[2]⟩,⟨6,[1],[],none,[],[]⟩,⟨7,[1],[],none,[6],[]⟩,⟨8,[],[],none,[0,1,2,3,4,5,6,7],[5]⟩,⟨9,[1],[],none,[],[]⟩,⟨10,[1],[],none,[9],[]⟩,dO 11 [0,1,2,3,4,5,6,7,8,9,10],⟨12,[3],[3],none,[],[]⟩,⟨13,[3],[3],none,rg 0 13,[]⟩]),(5,[⟨0,[3],[],none,[],[]⟩,⟨1,[3],[],none,[0],[]⟩,dO 2 [],dO 3 [2],⟨4,[29],[29],none,[2,3],[3]⟩,⟨5,[29],[],some 30,[0,1,2,3,4],[4]⟩,⟨6,[3],[],none,[0,1,2,3,4,5],[]⟩,⟨7,[3],[3],none,[0,1,2,3,4,5,6],[]⟩])]
 tokOf:=swI 0 [(30,30)]
 frzNew:=[1]
 thaw:=true }
theorem Zmp(aO:Option Addr)(aJ aY:Nat)(aP:Option Addr)(aK bE:Nat)(aR:Option Addr)(aQ aW:Nat)(aS:Option Addr)(aT aU:Nat)(aA:Bool)(m:Mem)(R:RT)(h:
 lV [slice aO aJ aY,slice aP aK bE,slice aR aQ aW,slice aS aT aU,bool aA] λxL=>fzM m xL λb m'=>m.free b->(∀(b' o:Nat)(u:Value),m' b' o=some u->m b' o=some u\/b'=b)
 -> ∀b_1,∃(f:Fx),dS f 2 pG 77 [slice aO aJ aY] m' λa n c m'_1=>dS f 5 pG 44 [slice aR aQ aW] m'_1 λa_1 n_1 c_1 m'_2=>dS f 8 pG 44 [slice aS aT aU] m'_2 λa_2 n_2 c_2 m'_3=>∀b_2 M,lE
 (some (Box.mk b_2 [] 26 5 false true)) λyL=>m'.le M->m'_1.le M->m'_2.le M->m'_3.le M->∃I,inI I [int i64 0] [[slice a n c,slice none 0 0,slice a_1 n_1 c_1,slice a_2 n_2 c_2,bool aA]] [slice none 0 0] M/\∀n (cs:
 List Value) a n_3 c (m':Mem) (n_4:Nat),True->I [int i64 n] [cs] [slice a n_3 c] m' n_4->br (decide (n < (↑aK:Int))) (atA aP λb_3 o=>Zaf n aK/\∃(v:Value),m' b_3 (o+Int.toNat n*1)=some v/\∃(f
 : Fx),Eng.Zp3 cs 1 λv_1=>lE (slN v_1+1) λyL_1=>dS f 3 pG 44 [v] m' λa_9 n_5 c_3 m'_4=>∀b_4,lM (m'_4.add b_4 [slice a_9 n_5 c_3]) λmL=>m'_4.free b_4->chk (ZdK v_1&&true) ((Tok.mk (slice a n_3 c) 1 =
 Tok.mk v_1 1\/v_1=slice none 0 0\/slC v_1 < yL_1)/\∃(xs:List Value),∃(ys:List Value),xs.length=slN v_1*1/\ys.length=1*1/\rowRd mL (slA v_1) xs/\rowRd mL (some (Addr.mk b_4 0 none)) ys/\(∀(u:Value),u ∈
 ys->u.oneCell'=true)/\yL_1*24<=140737488355328/\yL_1<=9223372036854775807/\∀(a':Option Addr)(c':Nat) m'_5,mL.le m'_5->rowRd m'_5 a' (List.append xs ys)->TokFact mL (slA v_1) a' yL_1 c'->chk (Nat.ble 2
 (cs.length)) (∀M,m'.le M->m'_4.le M->mL.le M->m'_5.le M->Zac [yL,yL,some (Box.mk b_1 [slice none 0 0,slice none 0 0,slice none 0 0,slice none 0 0,bool false] 26 5 false true),some (Box.mk b xL 26 5 true true)]/\
 nxI n_4 I [int i64 (i64.wrap (n+1))] [Zaw cs 1 [slice a' yL_1 c']] [slice a' yL_1 c'] M))) (chk (Nat.beq (cs.length) 5&&Zcr cs) (rtM m m' R (agg (.mk cs))))):CX Try.prog 26 #[.agg #[.slice aO aJ aY,.slice aP aK bE,.slice aR aQ aW,.slice aS aT aU,.bool aA]] m [] R:=
 Zaj (E:=ZnA) ZaB mix Try.func26 [.v (.agg #[.slice aO aJ aY,.slice aP aK bE,.slice aR aQ aW,.slice aS aT aU,.bool aA])] [] (by kernel_rfl) (Eq.mp (by kernel_rfl) h)
def ZnB:Env:={ EB with
 loops:=swI nLa [(7,⟨[(29,.int .i64)],[],[],false⟩),(10,⟨[(36,.int .i64)],[],[],false⟩)]
 dr:=swI [] [(12,[⟨0,[4],[],none,[],[]⟩,⟨1,[4],[],none,[0],[]⟩,dO 2 [],⟨3,[4],[],none,[],[]⟩,⟨4,[4],[],none,[3],[]⟩,dO 5 [],dO 6 [3,4,5],dO 7 [3,4,5,6],dO 8 [],⟨9,[49],[49],none,[8],[]⟩,⟨10,[49],[],some 990,[3,4,5,6,7,8,9],[9]⟩])]
 tokOf:=swI 0 [(50,990)]
 frzNew:=[1]
 mkM:=swI false [(24,true)]
 acq:=swI none [(12,some (990,1))]
 thaw:=true
 stAt:=swI none [(51,some 999)]
 last:=swI false [(12,true)]
 lastK:=swI 1 [(12,2)] }
theorem Zmq(aO:Option Addr)(aJ aY:Nat)(aP:Option Addr)(aK bE:Nat)(aR:Option Addr)(aQ aW:Nat)(aS:Option Addr)(aT aU:Nat)(aA:Bool)(m:Mem)(R:RT)(h:
 lE (↑aK:Int) λyL=>lE (Int.toNat yL) λac=>lV [slice aO aJ aY,slice aP aK bE,slice aR aQ aW,slice aS aT aU,bool aA] λxL=>fzM m xL λb m'=>lE [some (Box.mk b xL 26 5
 true true)] λa0=>m.free b->(∀(b' o:Nat)(u:Value),m' b' o=some u->m b' o=some u\/b'=b)->∀a1,lE (some (Box.mk a1 [slice none 0 0,slice none 0 0,slice none 0 0,slice none 0 0,bool false] 26 5 false true)
 :: a0) λa2=>kB pG 21 [agg (.mk xL)] m' λa3 m'=>br (!a3) (rtM m m' R (tuple (.mk [agg (.mk [slice none 0 0,slice none 0 0,slice none 0 0,slice none 0 0,bool false]),int i64 171]))) (∃R_1,True/\CX pG 26 (.mk [agg
 (.mk xL)]) m' [] R_1/\Zdv (.agg [.slice,.slice,.slice,.slice,.bool]) R_1/\∀a n c a4 a5 a6 al am an ao ap aq (ar:Bool) ah,lX (slice a n c) λau=>lV [slice ao ap aq,slice al am an,bool ar] λxL=>m'.le ah->R_1
 (agg (.mk [au,slice a4 a5 a6,slice al am an,slice ao ap aq,bool ar])) ah []->∀a7,((0:Int)<=yL/\yL<=yL/\yL*(↑(24:Nat):Int)<=281474976710656/\yL<=9223372036854775807)/\∀(ad:Nat),lV (au::slice (some
 (Addr.mk ad 0 none)) ac ac::xL) λxL=>lE (some (Box.mk a7 xL 26 5 false true)::a2) λav=>ah.free ad->∃I,inI I [int i64 0] [] [] (ah.add ad (List.flatten (List.replicate ac [slice none 0 0])))/\∀n (m':Mem) (aw:
 Nat),lV [int i64 n] λax=>True->I ax [] [] m' aw->br (decide (n < yL)) (atA aP λa8 o=>Zaf n aK/\∃(v:Value),m' a8 (o+Int.toNat n*1)=some v/\chk (ZdK v) (∃ak,inI ak [int i64 0] [] [] m'/\∀ae
 (m':Mem) (ay:Nat),True->ak [int i64 ae] [] [] m' ay->br (decide (ae < (↑(slN v):Int))) (chk (ZdK v) (atA (slA v) λa9 o=>Zaf ae (slN v)/\∃(v:Value),lE (Int.toNat (RowKit.intOf v)*1) λyL=>m' a9 (o +
 Int.toNat ae*1)=some v/\∃a,∃n,∃c,lE (Tok.mk (slice a n c) 1) λaz=>lM (Mem.cutA m' a (n*1)) λmL=>Zun m' m 1 a n c/\(∀(ai:Nat),Tok.blk az=some ai->b≠ai/\True)/\chk (Za9 v) (atA (some (Addr.mk
 ad 0 none)) λai o=>Zaf (RowKit.intOf v) ac/\∃(aa:Value),lE (slN aa+1) λab=>mL ai (o+yL)=some aa/\∀aj,lM (mL.add aj ax) λaf=>mL.free aj->chk (ZdK aa&&true) ((az=Tok.mk aa 1\/aa=slice none 0
 0\/slC aa < ab)/\∃(xs:List Value),∃(ys:List Value),xs.length=slN aa*1/\ys.length=1*1/\rowRd af (slA aa) xs/\rowRd af (some (Addr.mk aj 0 none)) ys/\(∀(u:Value),u∈ys->u.oneCell'=true)/\ab*8 <=
 140737488355328/\ab<=9223372036854775807/\∀(a':Option Addr)(c':Nat) m',af.le m'->rowRd m' a' (List.append xs ys)->TokFact af (slA aa) a' ab c'->∀M,mL.le M->af.le M->m'.le M->chk (Za9 v) (atA (some (Addr.mk
 ad 0 none)) λag o=>Zaf (RowKit.intOf v) ac/\(∃(vs:List Value),vs.length=1/\M.reads ag (o+yL) vs)/\m.free ag/\true=true/\aj≠ag/\b≠ag/\∀(zs:List Value),zs.length=(c' - ab)*1->Zac av/\nxI ay
 ak [int i64 (i64.wrap (ae+1))] [] [] (Mem.addA (Mem.upd M ag (o+yL) [slice a' ab c']) a' (ab*1) zs)))))) (Zac av/\nxI aw I [int i64 (i64.wrap (n+1))] [] [] m'))) (rtM m m' R (tuple (.mk [agg (.mk xL),int i64 0]))))):CX Try.prog 16 #[.agg #[.slice aO aJ aY,.slice aP aK bE,.slice aR aQ aW,.slice aS aT aU,.bool aA]] m [] R:=
 Zaj (E:=ZnB) ZaB mix Try.func16 [.v (.agg #[.slice aO aJ aY,.slice aP aK bE,.slice aR aQ aW,.slice aS aT aU,.bool aA])] [] (by kernel_rfl) (Eq.mp (by kernel_rfl) h)
end Go.Proofs.Ytplacemlpkhmfaa
namespace Go.Proofs.Ytplacemlpkhmfaa
open Go Go.Eng Go.Rx Go.Proofs Go.RowKit
set_option maxRecDepth 100000
theorem Zau{α:Type}{l:List α}{k:Nat}(h:k < l.length):∃x,l[k]?=some x:=⟨l[k],by simp[h]⟩
theorem Zcb{α:Type}{l:List α}{k:Nat}{x:α}(h:l[k]?=some x):l.drop k=x::l.drop (k+1):=by
 obtain⟨hk,he⟩:=zA0 h
 rw[List.drop_eq_getElem_cons hk,he]
theorem ZgF(l:List Int)(lo hi:Int)(a:Option Addr)(c:Nat)(m:Mem)(h:rowRd m a (Zan l))(hl:l.length<=1000000)(tW : -10<=lo/\lo<=10):CX Try.prog 70 #[.slice a l.length c,.int .i64 lo,.int .i64 hi] m [] (Ret (.bool (Zc6 l (lo - 1) hi))):=by
 apply ZiX
 refine⟨λxs _ _ m' q=>∃(k:Nat)(z:Int),k<=l.length/\xs=[.int .i64 z,.int .i64 k]/\Zc6 (l.drop k) z hi=Zc6 l (lo - 1) hi/\m.le m'/\q=l.length - k,⟨_,0,lo - 1,Nat.zero_le _,by rw[Zat (by omega) (by omega)];rfl,rfl,Mem.le_refl _,rfl⟩,?_⟩
 rintro z' k' m1 q aD ⟨k,z,hk,hx,he,_,hq⟩
 simp only[List.cons.injEq,Value.int.injEq,true_and,and_true]at hx
 obtain⟨rfl,rfl⟩:=hx
 subst hq
 refine Zab (λaH=>?_) (λcL=>?_)
 ·have aF:k < l.length:=by have:=zA6 aH;omega
  obtain⟨x,hx⟩:=Zau aF
  obtain⟨b,o,gz,cM⟩:=ZcY (h.mono aD) hx
  rw[Zcb hx,Zc6]at he
  refine⟨b,o,gz,⟨by omega,by omega⟩,_,(by rw[zA8];exact cM),!(decide (z' < x)&&decide (x<=hi)),Zaa rfl (Zab (λh1=>?_) (λh1=>Zaa rfl ?_)),Zab (λh2=>Zag aD ?_) (λh2=>Zaa rfl ⟨_,by omega,k+1,x,aF,by rw[Zat (by omega) (by omega)];rfl,?_,aD,rfl⟩)⟩
  ·have:¬z' < x:=by have:=zA6 h1;simp only[RowKit.intOf]at this;omega
   simp[this]
  ·have h1':z' < x:=by have:=of_decide_eq_false h1;simp only[RowKit.intOf]at this;omega
   simp only[h1',decide_true,Bool.true_and,RowKit.intOf]
   refine congrArg (λz=>[Value.bool z]) ?_
   rw[Bool.eq_iff_iff];simp
  ·simp only[Bool.not_eq_true']at h2
   rw[<-he]
   show Value.bool false=_
   congr 1
   rw[<-Bool.and_assoc,h2,Bool.false_and]
  ·simp only[Bool.not_eq_false']at h2
   rw[<-he,<-Bool.and_assoc,h2,Bool.true_and]
 ·have:k=l.length:=by have:=of_decide_eq_false cL;omega
  subst this
  rw[List.drop_length,Zc6]at he
  refine Zag aD ?_
  rw[<-he]
theorem ZrA{α:Type}{l:List α}{p:α->Bool}{k:Nat}{x:α}(h:l[k]?=some x):(l.drop k).all p=(p x&&(l.drop (k+1)).all p):=by
 rw[Zcb h,List.all_cons]
theorem ZkH{st:Bool}(A:Nf)(v:Value)(m:Mem)(h:NfR st A v m):CX Try.prog 21 #[v] m [] (Ret (.bool A.right)):=by
 obtain⟨s,f,x,y,rfl,⟨sa,sc,rfl,hs,dM,iq⟩,⟨fa,fc,vs,rfl,hf,gE,i9,ia⟩,⟨xa,xc,rfl,hx,fB,hU⟩,⟨ya,yc,rfl,hy,dL,ir⟩⟩:=h
 apply Zkl
 intro b m1 aD _
 have hw:IntKind.i64.wrap ((A.sets.length:Int) - 1)=A.top:=Zat (by omega) (by omega)
 simp only[hw]
 refine⟨!(decide (A.sets.length<=400)&&(decide (A.fol.length=A.sets.length)&&(Zc6 A.first (-1) A.top&&Zc6 A.last (-1) A.top))),?_,?_⟩
 ·refine Zab (λh1=>⟨by trivial,?_⟩) (λh1=>Zab (λh2=>⟨by trivial,?_⟩) (λh2=>?_))
  ·have:¬A.sets.length<=400:=by have:=zA6 h1;omega
   simp[this]
  ·have:¬A.fol.length=A.sets.length:=by
    simp only[Bool.not_eq_true',beq_eq_false_iff_ne,ne_eq]at h2;omega
   simp[this]
  ·have h1':A.sets.length<=400:=by have:=of_decide_eq_false h1;omega
   have h2':A.fol.length=A.sets.length:=by
    simp only[Bool.not_eq_false',beq_iff_eq]at h2;omega
   refine Zai (ZgF A.first 0 A.top xa xc m1 (hx.mono aD) fB ⟨by omega,by omega⟩) λm2 bN=>Zab (λh3=>⟨by trivial,?_⟩) (λh3=>?_)
   ·have:Zc6 A.first (-1) A.top=false:=by simpa using h3
    simp[this]
   ·have h3':Zc6 A.first (-1) A.top=true:=by simpa using h3
    refine Zai (ZgF A.last 0 A.top ya yc m2 ((hy.mono aD).mono bN) dL ⟨by omega,by omega⟩) λm3 bW=>⟨by trivial,?_⟩
    simp[h1',h2',h3']
 ·refine Zab (λh1=>Zag aD ?_) (λh1=>?_)
  ·simp only[Bool.not_eq_true']at h1
   show Value.bool false=.bool A.right
   congr 1
   unfold Nf.right
   revert h1
   cases decide (A.sets.length<=400) <;> cases decide (A.fol.length=A.sets.length) <;> cases Zc6 A.first (-1) A.top <;> cases Zc6 A.last (-1) A.top <;> simp
  ·simp only[Bool.not_eq_false',zA7,decide_eq_true_eq]at h1
   obtain⟨wj,uo,wk,wl⟩:=h1
   have hA:A.right=(A.fol.zip A.sets).all λp=>Zc6 p.1 (-1) A.top&&!(p.2 == zQ):=by
    unfold Nf.right;simp[wj,uo,wk,wl]
   have gw:(A.fol.zip A.sets).length=A.fol.length:=by simp[uo]
   refine⟨λxs _ _ m' q=>∃k:Nat,k<=A.fol.length/\xs=[.int .i64 k]/\((A.fol.zip A.sets).drop k).all (λp=>Zc6 p.1 (-1) A.top&&!(p.2 == zQ))=A.right/\m.le m'/\q=A.fol.length - k,⟨_,0,Nat.zero_le _,rfl,by rw[hA];rfl,aD,rfl⟩,?_⟩
   rintro z m2 q bN ⟨k,hk,hz,he,_,hq⟩
   obtain rfl:z=k:=by simpa using hz
   subst hq
   have jb:=mLt aD bN
   refine Zab (λaH=>?_) (λcL=>?_)
   ·have aF:k < A.fol.length:=by have:=zA6 aH;omega
    obtain⟨l,hl⟩:=Zau aF
    obtain⟨q4,nM⟩:=Zau (l:=A.sets) (k:=k) (by omega)
    obtain⟨u,hu⟩:=Zau (l:=vs) (k:=k) (by omega)
    obtain⟨la,lc,rfl,gq,dU,sj⟩:=(ia k u l hu hl).mono jb
    obtain⟨fb,fo,ii,gu⟩:=ZfA (hf.mono jb) hu
    have sH:(A.fol.zip A.sets)[k]?=some (l,q4):=List.getElem?_zip_eq_some.2 ⟨hl,nM⟩
    rw[ZrA sH]at he
    refine⟨fb,fo,ii,⟨by omega,by omega⟩,_,(by rw[zA8];exact gu),!(Zc6 l (-1) A.top&&!(q4 == zQ)),?_,Zab (λh2=>Zag jb ?_) (λh2=>⟨by trivial,_,by omega,k+1,aF,by rw[Zat (by omega) (by omega)];rfl,?_,jb,rfl⟩)⟩
    ·refine Zai (ZgF l 0 A.top la lc m2 gq dU ⟨by omega,by omega⟩) λm3 bW=>Zab (λh3=>⟨by trivial,?_⟩) (λh3=>?_)
     ·have:Zc6 l (-1) A.top=false:=by simpa using h3
      simp[this]
     ·have h3':Zc6 l (-1) A.top=true:=by simpa using h3
      obtain⟨sb,so,mu,iu⟩:=ZiI (hs.mono jb) nM
      refine⟨sb,so,mu,⟨by omega,by omega⟩,_,_,_,_,(by rw[zA8];exact iu.mono bW),_,Znp _ _ _ _ _ _ _ _,by trivial,?_⟩
      simp only[h3',Bool.true_and,Bool.not_not]
      refine congrArg (λz=>[Value.bool z]) ?_
      obtain⟨q0,q1,q2,q3⟩:=q4
      show _=((q0,q1,q2,q3) == ((0,0,0,0):QS))
      rw[Bool.eq_iff_iff]
      simp[and_assoc]
    ·simp only[Bool.not_eq_true']at h2
     rw[<-he,h2];rfl
    ·simp only[Bool.not_eq_false']at h2
     rw[<-he,h2,Bool.true_and]
   ·have:k=A.fol.length:=by have:=of_decide_eq_false cL;omega
    subst this
    refine Zag jb ?_
    rw[<-he,<-gw,List.drop_length];rfl
theorem Zox{α:Type}{l r:List α}{k:Nat}{x y:α}(hx:l[k]?=some x)(hy:r[k]?=some y):l.drop k=r.drop k↔(x=y/\l.drop (k+1)=r.drop (k+1)):=by
 rw[Zcb hx,Zcb hy,List.cons.injEq]
theorem Zkm(l r:List Int)(a b:Option Addr)(c d:Nat)(m:Mem)(hl:rowRd m a (Zan l))(hr:rowRd m b (Zan r))(hn:l.length<=1000000):CX Try.prog 23 #[.slice a l.length c,.slice b r.length d] m [] (Ret (.bool (decide (l=r)))):=by
 apply ZcD
 refine Zab (λh=>Zag (Mem.le_refl _) ?_) (λh=>?_)
 ·have:¬l=r:=λe=>by subst e;simp at h
  simp[Ret,this]
 have bG:l.length=r.length:=by
  simp only[Bool.not_eq_false',beq_iff_eq]at h;omega
 refine⟨λxs css _ m' q=>∃k:Nat,k<=l.length/\xs=[.int .i64 k]/\(l.drop k=r.drop k↔l=r)/\m.le m'/\q=l.length - k,⟨_,0,by omega,rfl,Iff.rfl,Mem.le_refl _,rfl⟩,?_⟩
 rintro z m1 q aD ⟨k,hk,hz,he,_,hq⟩
 obtain rfl:z=k:=by simpa using hz
 subst hq
 refine Zab (λaH=>?_) (λcL=>?_)
 ·have aF:k < l.length:=by have:=zA6 aH;omega
  obtain⟨x,hx⟩:=Zau aF
  obtain⟨y,hy⟩:=Zau (l:=r) (k:=k) (by omega)
  obtain⟨b1,o1,h1,h1'⟩:=ZcY (hl.mono aD) hx
  obtain⟨b2,o2,h2,h2'⟩:=ZcY (hr.mono aD) hy
  rw[Zox hx hy]at he
  refine⟨b1,o1,h1,⟨by omega,by omega⟩,_,(by rw[zA8];exact h1'),b2,o2,h2,⟨by omega,by omega⟩,_,(by rw[zA8];exact h2'),Zaa rfl (Zab (λh3=>Zag aD ?_) (λh3=>⟨_,by omega,k+1,aF,by rw[Zat (by omega) (by omega)];rfl,?_,aD,rfl⟩))⟩
  ·have:¬x=y:=by simpa[RowKit.intOf]using h3
   simp only[Ret];congr 1
   rw[eq_comm,decide_eq_false_iff_not,<-he];exact λh=>this h.1
  ·have:x=y:=by simpa[RowKit.intOf]using h3
   rw[<-he];simp[this]
 ·have:k=l.length:=by have:=of_decide_eq_false cL;omega
  subst this
  refine Zag aD ?_
  simp only[Ret];congr 1
  rw[eq_comm,decide_eq_true_eq,<-he,List.drop_length,bG,List.drop_length]
theorem ZtF(l r:List QS)(a b:Option Addr)(c d:Nat)(m:Mem)(hl:rowRd m a (Zbs l))(hr:rowRd m b (Zbs r))(hn:l.length<=1000000):CX Try.prog 71 #[.slice a l.length c,.slice b r.length d] m [] (Ret (.bool (decide (l=r)))):=by
 apply Zbh
 refine Zab (λh=>Zag (Mem.le_refl _) ?_) (λh=>?_)
 ·have:¬l=r:=λe=>by subst e;simp at h
  simp[Ret,this]
 have bG:l.length=r.length:=by
  simp only[Bool.not_eq_false',beq_iff_eq]at h;omega
 refine⟨λxs css _ m' q=>∃k:Nat,k<=l.length/\xs=[.int .i64 k]/\(l.drop k=r.drop k↔l=r)/\m.le m'/\q=l.length - k,⟨_,0,by omega,rfl,Iff.rfl,Mem.le_refl _,rfl⟩,?_⟩
 rintro z m1 q aD ⟨k,hk,hz,he,_,hq⟩
 obtain rfl:z=k:=by simpa using hz
 subst hq
 refine Zab (λaH=>?_) (λcL=>?_)
 ·have aF:k < l.length:=by have:=zA6 aH;omega
  obtain⟨x,hx⟩:=Zau aF
  obtain⟨y,hy⟩:=Zau (l:=r) (k:=k) (by omega)
  obtain⟨b1,o1,h1,h1'⟩:=ZiI (hl.mono aD) hx
  obtain⟨b2,o2,h2,h2'⟩:=ZiI (hr.mono aD) hy
  rw[Zox hx hy]at he
  refine⟨b1,o1,h1,⟨by omega,by omega⟩,_,_,_,_,(by rw[zA8];exact h1'),b2,o2,h2,⟨by omega,by omega⟩,_,_,_,_,(by rw[zA8];exact h2'),_,Znp _ _ _ _ _ _ _ _,Zab (λh3=>Zag aD ?_) (λh3=>⟨_,by omega,k+1,aF,by rw[Zat (by omega) (by omega)];rfl,?_,aD,rfl⟩)⟩
  ·have:¬x=y:=λe=>by subst e;simp at h3
   simp only[Ret];congr 1
   rw[eq_comm,decide_eq_false_iff_not,<-he];exact λh=>this h.1
  ·have:x=y:=by
    obtain⟨x0,x1,x2,x3⟩:=x
    obtain⟨y0,y1,y2,y3⟩:=y
    simp at h3 ⊢
    exact⟨h3.1.1.1,h3.1.1.2,h3.1.2,h3.2⟩
   rw[<-he];simp[this]
 ·have:k=l.length:=by have:=of_decide_eq_false cL;omega
  subst this
  refine Zag aD ?_
  simp only[Ret];congr 1
  rw[eq_comm,decide_eq_true_eq,<-he,List.drop_length,bG,List.drop_length]
theorem ZtG{st st':Bool}(l r:List (List Int))(v w:Value)(m:Mem)(hl:FolR st l v m)(hr:FolR st' r w m):CX Try.prog 72 #[v,w,.func (.func 23) #[] #[]] m [] (Ret (.bool (decide (l=r)))):=by
 obtain⟨a,c,vs,rfl,h1,h2,h3,h4⟩:=hl
 obtain⟨b,d,ws,rfl,k1,k2,k3,k4⟩:=hr
 apply Za8 a l.length c b r.length d _ [] []
 refine Zab (λh=>Zag (Mem.le_refl _) ?_) (λh=>?_)
 ·have:¬l=r:=λe=>by subst e;simp at h
  simp[Ret,this]
 have bG:l.length=r.length:=by
  simp only[Bool.not_eq_false',beq_iff_eq]at h;omega
 refine⟨λxs css _ m' q=>∃k:Nat,k<=l.length/\xs=[.int .i64 k]/\(l.drop k=r.drop k↔l=r)/\m.le m'/\q=l.length - k,⟨_,0,by omega,rfl,Iff.rfl,Mem.le_refl _,rfl⟩,?_⟩
 rintro z m1 q aD ⟨k,hk,hz,he,_,hq⟩
 obtain rfl:z=k:=by simpa using hz
 subst hq
 refine Zab (λaH=>?_) (λcL=>?_)
 ·have aF:k < l.length:=by have:=zA6 aH;omega
  obtain⟨x,hx⟩:=Zau aF
  obtain⟨y,hy⟩:=Zau (l:=r) (k:=k) (by omega)
  obtain⟨vx,qd⟩:=Zau (l:=vs) (k:=k) (by omega)
  obtain⟨wy,qz⟩:=Zau (l:=ws) (k:=k) (by omega)
  obtain⟨xa,xc,rfl,gT,fB,hU⟩:=(h4 k vx x qd hx).mono aD
  obtain⟨ya,yc,rfl,kg,dL,ir⟩:=(k4 k wy y qz hy).mono aD
  obtain⟨b1,o1,e1,e1'⟩:=ZfA (h1.mono aD) qd
  obtain⟨b2,o2,e2,e2'⟩:=ZfA (k1.mono aD) qz
  rw[Zox hx hy]at he
  refine⟨b1,o1,e1,⟨by omega,by omega⟩,_,(by rw[zA8];exact e1'),b2,o2,e2,⟨by omega,by omega⟩,_,(by rw[zA8];exact e2'),?_⟩
  refine Zai (Zkm x y xa ya xc yc m1 gT kg fB) λm2 bN=>Zab (λh3=>Zag (mLt aD bN) ?_) (λh3=>⟨_,by omega,k+1,aF,by rw[Zat (by omega) (by omega)];rfl,?_,mLt aD bN,rfl⟩)
  ·have:¬x=y:=by simpa using h3
   simp only[Ret];congr 1
   rw[eq_comm,decide_eq_false_iff_not,<-he];exact λh=>this h.1
  ·have:x=y:=by simpa using h3
   rw[<-he];simp[this]
 ·have:k=l.length:=by have:=of_decide_eq_false cL;omega
  subst this
  refine Zag aD ?_
  simp only[Ret];congr 1
  rw[eq_comm,decide_eq_true_eq,<-he,List.drop_length,bG,List.drop_length]
theorem ZkI{st st':Bool}(A B:Nf)(v w:Value)(m:Mem)(h:NfR st A v m)(k:NfR st' B w m):CX Try.prog 22 #[v,w] m [] (Ret (.bool (decide (A=B)))):=by
 obtain⟨s,f,x,y,rfl,⟨sa,sc,rfl,hs,dM,iq⟩,hf,⟨xa,xc,rfl,hx,fB,hU⟩,⟨ya,yc,rfl,hy,dL,ir⟩⟩:=h
 obtain⟨s',f',x',y',rfl,⟨sa',sc',rfl,hs',wm,wn⟩,hf',⟨xa',xc',rfl,hx',wo,wp⟩,⟨ya',yc',rfl,hy',wq,wt⟩⟩:=k
 obtain⟨fa,fc,vs,rfl,kG⟩:=id hf
 obtain⟨fa',fc',vs',rfl,wu⟩:=id hf'
 apply Zmo
 intro b m1 aD _ b1 m2 bN _
 have gv:=mLt aD bN
 obtain⟨As,Af,A1,A2,Ae⟩:=A
 obtain⟨Bs,Bf,B1,B2,Be⟩:=B
 refine⟨decide ((⟨As,Af,A1,A2,Ae⟩:Nf)=⟨Bs,Bf,B1,B2,Be⟩),?_,Zag gv rfl⟩
 refine Zai (ZtF As Bs _ _ _ _ m2 (hs.mono gv) (hs'.mono gv) dM) λm3 bW=>?_
 have oR:=mLt gv bW
 refine Zab (λe1=>?_) (λe1=>⟨by trivial,by simp[show ¬As=Bs by simpa using e1]⟩)
 refine Zai (ZtG Af Bf _ _ m3 (hf.mono oR) (hf'.mono oR)) λm4 cP=>?_
 have ll:=mLt oR cP
 refine Zab (λe2=>?_) (λe2=>⟨by trivial,by simp[show ¬Af=Bf by simpa using e2]⟩)
 refine Zai (Zkm A1 B1 _ _ _ _ m4 (hx.mono ll) (hx'.mono ll) fB) λm5 cY=>?_
 have lm:=mLt ll cY
 refine Zab (λe3=>?_) (λe3=>⟨by trivial,by simp[show ¬A1=B1 by simpa using e3]⟩)
 refine Zai (Zkm A2 B2 _ _ _ _ m5 (hy.mono lm) (hy'.mono lm) dL) λm6 gM=>?_
 refine Zab (λe4=>⟨by trivial,?_⟩) (λe4=>⟨by trivial,by simp[show ¬A2=B2 by simpa using e4]⟩)
 refine congrArg (λz=>[Value.bool z]) ?_
 rw[Bool.eq_iff_iff]
 simp[zA6 e1,zA6 e2,zA6 e3,zA6 e4]
theorem ZjJ{m:Mem}{a:Option Addr}{xs:List Value}(h:rowRd m a xs)(ha:a.isNone=true):xs=[]:=by
 rcases h with h|⟨b,o,h1,_⟩
 ·exact h
 ·rw[h1]at ha;simp at ha
def At0(v:Value):Prop:=∀b o,slA v=some ⟨b,o,none⟩->o=0
theorem Zoy{m:Mem}{b:Nat}{a':Option Addr}{n c:Nat}{v:Value}(h:TokFact m (some ⟨b,0,none⟩) a' n c)(hv:slA v=a'):At0 v:=λb' o e=>by
 rcases h.2 with h|⟨b2,o2,h1,h2⟩
 ·rw[hv,h]at e;cases e
 ·rw[hv]at e
  rcases h2 with h2|h2
  ·rw[<-h2]at e;cases e;rfl
  ·rw[h1]at e;cases e;exact h2.1
theorem ZqL:At0 (.slice none 0 0):=λb o e=>by simp[slA]at e
theorem ZnC{st:Bool}(l:List Int)(v:Value)(m:Mem)(h:SlI st l v m):CXT Try.prog 44 #[v] m 1 (λv m' _=>SlI st l v m'/\At0 v):=by
 obtain⟨a,c,rfl,h1,h2,kd⟩:=h
 apply Zcn
 refine Zab (λhn=>?_) (λhn=>⟨⟨rfl,Int.le_refl _,by decide,by decide⟩,λb hb=>⟨.inl rfl,[],Zan l,rfl,by rw[Zb3];omega,.inl rfl,h1,λu hu=>?_,by omega,by omega,λa' c' m' hm' hr ii=>⟨rfl,⟨a',c',by rw[Nat.zero_add],hr,h2,λe1 e2=>?_⟩,Zoy ii rfl⟩⟩⟩)
 ·have:=ZjJ h1 hn
  obtain rfl:l=[]:=by simpa[Zan]using this
  exact⟨rfl,⟨none,0,rfl,.inl rfl,by simp,λ_ _=>rfl⟩,ZqL⟩
 ·obtain⟨i,_,rfl⟩:=List.mem_map.1 hu
  rfl
 ·rw[kd e1 e2]at hn;simp at hn
theorem ZnD{st:Bool}(l:List QS)(v:Value)(m:Mem)(h:SlQ st l v m):CXT Try.prog 77 #[v] m 4 (λv m' _=>SlQ st l v m'/\At0 v):=by
 obtain⟨a,c,rfl,h1,h2,kd⟩:=h
 apply Zbe
 refine Zab (λhn=>?_) (λhn=>⟨⟨rfl,Int.le_refl _,by decide,by decide⟩,λb hb=>⟨.inl rfl,[],Zbs l,rfl,by rw[Ze0],.inl rfl,h1,λu hu=>?_,by omega,by omega,λa' c' m' hm' hr ii=>⟨rfl,⟨a',c',by rw[Nat.zero_add],hr,h2,λe1 e2=>?_⟩,Zoy ii rfl⟩⟩⟩)
 ·have:=congrArg List.length (ZjJ h1 hn)
  rw[Ze0]at this
  obtain rfl:l=[]:=List.eq_nil_of_length_eq_zero (by simp at this;omega)
  exact⟨rfl,⟨none,0,rfl,.inl rfl,by simp,λ_ _=>rfl⟩,ZqL⟩
 ·obtain⟨q,_,hq⟩:=List.mem_flatMap.1 hu
  simp only[List.mem_cons,List.not_mem_nil,or_false]at hq
  rcases hq with rfl|rfl|rfl|rfl <;> rfl
 ·rw[kd e1 e2]at hn;simp at hn
def FreshI(m:Mem)(l:List Int)(v:Value)(m':Mem):Prop:=SlI true l v m'/\∃a c,v=.slice a l.length c/\((a=none/\c=0)\/∃b,a=some ⟨b,0,none⟩/\l.length<=c/\m.free b/\∀q,l.length<=q->q < c->∃u,m' b q=some u)
theorem FreshI.free{m m':Mem}{l:List Int}{v:Value}(h:FreshI m l v m'):∀b o,slA v=some ⟨b,o,none⟩->m.free b:=λb o e=>by
 obtain⟨_,a,c,rfl,⟨rfl,_⟩|⟨b',rfl,_,hf,_⟩⟩:=h
 ·simp[slA]at e
 ·simp[slA]at e;exact e.1 ▸ hf
theorem ZcZ{st:Bool}{l:List Int}:∀(v:Value)(m':Mem) (css:List (List Value)),SlI st l v m'->Shape.fits .slice v=true:=by
 rintro v m' css ⟨a,c,rfl,_⟩;rfl
theorem ZrB{st:Bool}{l:List QS}:∀(v:Value)(m':Mem) (css:List (List Value)),SlQ st l v m'->Shape.fits .slice v=true:=by
 rintro v m' css ⟨a,c,rfl,_⟩;rfl
def FolG(m:Mem)(a:Option Addr)(fol:List (List Int)):Prop:=∃vs,rowRd m a vs/\vs.length=fol.length/\∀(i:Nat)(v:Value)(l:List Int),vs[i]?=some v->fol[i]?=some l->SlI true l v m
theorem FolG.mono{m m':Mem}{a:Option Addr}{fol:List (List Int)}(h:FolG m a fol)(k:m.le m'):FolG m' a fol:=by
 obtain⟨vs,h1,h2,h3⟩:=h
 exact⟨vs,h1.mono k,h2,λi v l hv hl=>(h3 i v l hv hl).mono k⟩
theorem Zh5{m:Mem}{b:Nat}{v:Value}:rowRd (m.add b [v]) (some ⟨b,0,none⟩) [v]:=.inr ⟨b,0,rfl,λj u hj=>by rw[Nat.zero_add,Mem.add_same];exact hj⟩
theorem ZpV{m m2 M:Mem}{a':Option Addr}{fol:List (List Int)}{l:List Int}{w:Value}{vs:List Value}(h2:vs.length=fol.length)(h3:∀(i:Nat)(v:Value)(l:List Int),vs[i]?=some v->fol[i]?=some l->SlI true l v m)(hm:m.le M)(hr:rowRd m2 a' (vs++[w]))(bN:m2.le M)(hw:SlI true l w M):FolG M a' (fol++[l]):=by
 refine⟨vs++[w],hr.mono bN,by simp[h2],λi v l' hv hl'=>?_⟩
 rw[List.getElem?_append]at hv hl'
 split at hv
 ·rw[if_pos (by omega)]at hl'
  exact(h3 i v l' hv hl').mono hm
 ·rw[if_neg (by omega)]at hl'
  have e1:=zA0 hv
  have e2:=zA0 hl'
  obtain⟨_,e1⟩:=e1
  obtain⟨_,e2⟩:=e2
  rw[List.getElem_singleton]at e1 e2
  subst e1 e2;exact hw
theorem ZiY{m:Mem}{a:Option Addr}{xs:List Value}(h:rowRd m a xs)(hx:xs≠[]){b o:Nat}(ha:a=some ⟨b,o,none⟩):¬m.free b:=by
 rcases h with h|⟨b',o',h1,h2⟩
 ·exact absurd h hx
 ·rw[h1]at ha;cases ha
  intro hf
  match xs,hx with
  | x::xs,_=>
   have:=h2 0 x rfl
   rw[hf]at this;cases this
theorem ZqM{m m':Mem}(h:m.le m'){b:Nat}(hf:m'.free b):m.free b:=λo=>by
 cases he:m b o with
 | none=>rfl
 | some v=>have:=h _ _ _ he;rw[hf o]at this;cases this
structure CopyR (A:Nf)(m:Mem)(sa:Option Addr)(sc:Nat)(fa:Option Addr)(fc:Nat)(xa:Option Addr)(xc:Nat)(ya:Option Addr)(yc:Nat)(vs:List Value)(m':Mem):Prop where
 le:m.le m'
 sets:SlQ true A.sets (.slice sa A.sets.length sc) m'
 row:rowRd m' fa vs
 len:vs.length=A.fol.length
 fl:A.fol.length<=1000000
 fol:∀(i:Nat)(v:Value)(l:List Int),vs[i]?=some v->A.fol[i]?=some l->SlI true l v m'/\(∀b o,slA v=some ⟨b,o,none⟩->m.free b/\(∀o',fa≠some ⟨b,o',none⟩)/\(∀o',sa≠some ⟨b,o',none⟩)/\(∀o',xa≠some ⟨b,o',none⟩)/\∀o',ya≠some ⟨b,o',none⟩)
 first:FreshI m A.first (.slice xa A.first.length xc) m'
 last:FreshI m A.last (.slice ya A.last.length yc) m'
 nf:A.fol=[]->fa=none
 fs:∀b o,sa=some ⟨b,o,none⟩->m.free b
 ff:∀b o,fa=some ⟨b,o,none⟩->m.free b
 sf:∀b o o',sa=some ⟨b,o,none⟩->fa≠some ⟨b,o',none⟩
 sx:∀b o o',sa=some ⟨b,o,none⟩->xa≠some ⟨b,o',none⟩
 sy:∀b o o',sa=some ⟨b,o,none⟩->ya≠some ⟨b,o',none⟩
 fx:∀b o o',fa=some ⟨b,o,none⟩->xa≠some ⟨b,o',none⟩
 fy:∀b o o',fa=some ⟨b,o,none⟩->ya≠some ⟨b,o',none⟩
 xy:∀b o o',xa=some ⟨b,o,none⟩->ya≠some ⟨b,o',none⟩
def CopyV(A:Nf)(m:Mem)(v:Value)(m':Mem):Prop:=∃sa sc fa fc xa xc ya yc vs,v=.agg #[.slice sa A.sets.length sc,.slice fa A.fol.length fc,.slice xa A.first.length xc,.slice ya A.last.length yc,.bool A.empty]/\CopyR A m sa sc fa fc xa xc ya yc vs m'
theorem CopyV.nf{A:Nf}{m m':Mem}{v:Value}(h:CopyV A m v m'):NfR true A v m':=by
 obtain⟨sa,sc,fa,fc,xa,xc,ya,yc,vs,rfl,h⟩:=h
 exact⟨_,_,_,_,rfl,h.sets,⟨fa,fc,vs,rfl,h.row,h.len,h.fl,λi v l hv hl=>(h.fol i v l hv hl).1⟩,h.first.1,h.last.1⟩
theorem FreshI.mono{m m' M:Mem}{l:List Int}{v:Value}(h:FreshI m l v m')(k:m'.le M):FreshI m l v M:=by
 obtain⟨h1,a,c,e,h2⟩:=h
 exact⟨h1.mono k,a,c,e,h2.imp id λ⟨b,g1,g2,g3,g4⟩=>⟨b,g1,g2,g3,λq q1 q2=>(g4 q q1 q2).imp λu hu=>k _ _ _ hu⟩⟩
theorem FreshI.less{m m0 m':Mem}{l:List Int}{v:Value}(h:FreshI m l v m')(k:m0.le m):FreshI m0 l v m':=by
 obtain⟨h1,a,c,e,h2⟩:=h
 exact⟨h1,a,c,e,h2.imp id λ⟨b,g1,g2,g3,g4⟩=>⟨b,g1,g2,ZqM k g3,g4⟩⟩
end Go.Proofs.Ytplacemlpkhmfaa
end
