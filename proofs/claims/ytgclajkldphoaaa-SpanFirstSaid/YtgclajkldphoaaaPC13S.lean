/- Part of the proof: conditions and contracts of functions of this program. No condition of its own. -/
import Derived.Test.YtgclajkldphoaaaPVC
import Derived.Test.YtgclajkldphoaaaPC13R
import Derived.Test.YtgclajkldphoaaaMr
import Derived.Test.YtgclajkldphoaaaPVD
import Derived.Test.YtgclajkldphoaaaMc
import Derived.Test.YtgclajkldphoaaaRows
set_option linter.unusedVariables false
set_option linter.unusedSimpArgs false
set_option linter.unusedSectionVars false
namespace Go.Proofs.Ytgclajkldphoaaa
open Go Go.Eng Go.Rx Go.Proofs Go.RowKit
set_option maxRecDepth 100000
abbrev txV(a:Option Addr)(s:List Nat)(c:Nat)(back:Bool):Value:=.agg #[.slice a s.length c,.bool back]
theorem Zv0(t:T)(a:Option Addr)(s:List Nat)(c:Nat)(back:Bool)(f:Nat)(m:Mem)(hr:Rep m t)(hb:Byt m a s)(hs:s.length<=512):CX Try.prog 103 #[txV a s c back,t.v,plV f] m [] (Ret (plV (ZsL t back f s 0 0))):=by
 apply Zfg
 unfold Zc6
 intro b m1 bH _ b1 m2 bL _ b2 m3 bX eB b3 b4
 refine⟨λxs css _ m' q=>∃k o:Nat,k<=s.length/\xs=[.int .i64 k]/\css=[plL o]/\ZsL t back f (s.drop k) k o=ZsL t back f s 0 0/\m3.le m'/\q=s.length - k,⟨_,0,0,by omega,rfl,rfl,rfl,Mem.le_refl _,rfl⟩,?_⟩
 rintro n cs m4 q bZ ⟨k,o,hk,hn,cR,fD,_,hq⟩
 obtain rfl:n=k:=by simpa using hn
 obtain rfl:cs=plL o:=by simpa using cR
 have dQ:m.le m4:=mLt bH (mLt bL (mLt bX bZ))
 refine Zab (λbF=>?_) (λcP=>?_)
 ·have bI:k < s.length:=by have:=of_decide_eq_true bF;omega
  obtain⟨ch,yO⟩:=ZdP bI
  have hw:IntKind.i64.wrap ((k:Int)+1)=((k+1:Nat):Int):=by rw[ZaO (by omega) (by omega)];rfl
  have cG:ZsL t back f (s.drop (k+1)) (k+1) (ZoU t back f k ch o)=ZsL t back f s 0 0:=by rw[Ziu yO]at fD;exact fD
  obtain⟨⟨b5,o5,ha,hv⟩,jX⟩:=(hb.mono dQ).get yO
  simp only[hw,Int.toNat_natCast,Nat.mul_one]
  refine⟨b5,o5,ha,⟨by omega,by omega⟩,_,hv,?_⟩
  cases back with
  | true=>
   refine Ztv (x:=true) rfl ?_
   refine⟨f.testBit (k+1)&&t.hasB ch,Zas (Zsx f (k+1) (by omega) b2 m4 (eB.mono bZ)) λm5 c9=>Zab (λh=>Zas (Zsy t ch jX m5 (hr.mono (mLt dQ c9))) λm6 fF=>⟨by trivial,by rw[h,Bool.true_and]⟩) (λh=>⟨by trivial,by rw[h,Bool.false_and]⟩),Zab (λh=>?_) (λh=>?_)⟩
   ·refine⟨λi _ _=>if i=2 then Ret (plV (2 ^ k))else Ret (plV (o|||2 ^ k)),Ret (plV (2 ^ k)),rfl,ZyR k (by omega) m4,ZbG,Zp5 λm5 c9=>⟨Ret (plV (o|||2 ^ k)),rfl,Zx4 o (2 ^ k) m5,ZbG,Zp5 λm6 fF M dR dW gU=>⟨by trivial,s.length - (k+1),by omega,k+1,o|||2 ^ k,by omega,rfl,rfl,?_,mLt bZ dR,rfl⟩⟩⟩
    rw[<-cG];unfold ZoU;rw[if_pos (by simpa using h)];rfl
   ·refine⟨by trivial,s.length - (k+1),by omega,k+1,o,by omega,rfl,rfl,?_,bZ,rfl⟩
    rw[<-cG];unfold ZoU;rw[if_neg (by simpa using h)]
  | false=>
   refine Ztv (x:=false) rfl ?_
   refine⟨f.testBit k&&t.hasB ch,Zas (Zsx f k (by omega) b2 m4 (eB.mono bZ)) λm5 c9=>Zab (λh=>Zas (Zsy t ch jX m5 (hr.mono (mLt dQ c9))) λm6 fF=>⟨by trivial,by rw[h,Bool.true_and]⟩) (λh=>⟨by trivial,by rw[h,Bool.false_and]⟩),Zab (λh=>?_) (λh=>?_)⟩
   ·refine⟨λi _ _=>if i=2 then Ret (plV (2 ^ (k+1)))else Ret (plV (o|||2 ^ (k+1))),Ret (plV (2 ^ (k+1))),rfl,ZyR (k+1) (by omega) m4,ZbG,Zp5 λm5 c9=>⟨Ret (plV (o|||2 ^ (k+1))),rfl,Zx4 o (2 ^ (k+1)) m5,ZbG,Zp5 λm6 fF M dR dW gU=>⟨by trivial,s.length - (k+1),by omega,k+1,o|||2 ^ (k+1),by omega,rfl,rfl,?_,mLt bZ dR,rfl⟩⟩⟩
    rw[<-cG];unfold ZoU;rw[if_pos (by simpa using h)];rfl
   ·refine⟨by trivial,s.length - (k+1),by omega,k+1,o,by omega,rfl,rfl,?_,bZ,rfl⟩
    rw[<-cG];unfold ZoU;rw[if_neg (by simpa using h)]
 ·have:k=s.length:=by have:=of_decide_eq_false cP;omega
  subst this
  refine Zaa rfl (Zag dQ ?_)
  rw[List.drop_length]at fD
  rw[<-fD];rfl
theorem Zx6(t:T)(f:Nat)(m:Mem):CX Try.prog 101 #[t.v,plV f] m [] (Ret (plV 0)):=by
 apply ZdY
 unfold Zcw
 intro b m1 bH _ b1 m2 bL _ b2
 exact Zag (mLt bH bL) rfl
theorem Zv1(t:T)(f:Nat)(m:Mem):CX Try.prog 102 #[t.v,plV f] m [] (Ret (plV f)):=by
 apply ZdZ
 unfold Zcx
 intro b m1 bH _ b1 m2 bL _ b2
 exact Zag (mLt bH bL) rfl
def IH(a:Option Addr)(s:List Nat)(c:Nat)(back:Bool)(t:T):Prop:=∀x∈t.subs,∀(f:Nat)(m:Mem),f < ZcS->Rep m x->Byt m a s->CX Try.prog 64 #[txV a s c back,x.v,plV f] m [] (Ret (plV (x.lead s back f)))
section
variable (t:T) (a:Option Addr) (s:List Nat) (c:Nat) (back:Bool) (f:Nat) (m:Mem) (hr:Rep m t) (hb:Byt m a s) (hs:s.length<=512) (ih:IH a s c back t) (hf:f < ZcS)
include hr hb hs ih hf
theorem Zzk(pb po:Nat)(hp:m.reads pb po [.slice a s.length c,.bool back]):CX Try.prog 104 #[t.v,plV f,.pointer (some ⟨pb,po,none⟩)] m [] (Ret (plV (if back then ZgC s back t.subs f else Zg6 s back t.subs f))):=by
 apply Zd0
 unfold Zcy
 intro b m1 bH _ b1 b2
 obtain⟨bM,bV⟩:=ZdM hr
 refine⟨λxs css _ m' q=>∃k o:Nat,k<=t.subs.length/\xs=[.int .i64 k]/\css=[plL o]/\o < ZcS/\(if back then ZgC s back (t.subs.take (t.subs.length - k)) o else Zg6 s back (t.subs.drop k) o)=(if back then ZgC s back t.subs f else Zg6 s back t.subs f)/\m1.le m'/\q=t.subs.length - k,⟨_,0,f,by omega,rfl,rfl,hf,by rw[Nat.sub_zero,List.take_length,List.drop_zero],Mem.le_refl _,rfl⟩,?_⟩
 rintro n cs m4 q bZ ⟨k,o,hk,hn,cR,ho,fD,_,hq⟩
 obtain rfl:n=k:=by simpa using hn
 obtain rfl:cs=plL o:=by simpa using cR
 have dQ:m.le m4:=mLt bH bZ
 refine Zab (λbF=>?_) (λcP=>?_)
 ·have bI:k < t.subs.length:=by have:=of_decide_eq_true bF;omega
  have hw:IntKind.i64.wrap ((k:Int)+1)=((k+1:Nat):Int):=by rw[ZaO (by omega) (by omega)];rfl
  have eF:IntKind.i64.wrap ((t.subs.length:Int) - 1)=((t.subs.length - 1:Nat):Int):=by rw[ZaO (by omega) (by omega)];omega
  have dT:IntKind.i64.wrap (((t.subs.length - 1:Nat):Int) - k)=((t.subs.length - 1 - k:Nat):Int):=by rw[ZaO (by omega) (by omega)];omega
  rcases bV with bV|⟨sb,so,nP,qC⟩
  ·rw[bV]at bI;simp at bI
  simp only[hw,eF,dT,Int.toNat_natCast]
  refine⟨.bool back,dQ _ _ _ (hp 1 _ rfl),Zaa rfl ?_⟩
  cases back with
  | true=>
   refine Ztv (x:=true) rfl ?_
   obtain⟨x,hx⟩:=ZdP (l:=t.subs) (k:=t.subs.length - 1 - k) (by omega)
   obtain⟨fE,fI⟩:=qC.get hx
   refine⟨λ_ _ _=>Ret (plV (x.lead s true o)),_,_,hp.mono dQ,sb,so,nP,⟨by omega,by omega⟩,_,_,_,_,_,_,_,_,fE.mono dQ,Ret (plV (x.lead s true o)),rfl,ih x (List.mem_of_getElem? hx) o m4 ho (fI.mono dQ) (hb.mono dQ),ZbG,Zp5 λm6 fF M dR dW=>⟨by trivial,t.subs.length - (k+1),by omega,k+1,x.lead s true o,by omega,rfl,rfl,ZfO s true hs x o ho,?_,mLt bZ dR,rfl⟩⟩
   rw[if_pos rfl,if_pos rfl]at fD ⊢
   rw[show t.subs.length - k=t.subs.length - 1 - k+1 by omega,Zcf hx,ZqS]at fD
   rw[show t.subs.length - (k+1)=t.subs.length - 1 - k by omega]
   exact fD
  | false=>
   refine Ztv (x:=false) rfl ?_
   obtain⟨x,hx⟩:=ZdP bI
   obtain⟨fE,fI⟩:=qC.get hx
   refine⟨λ_ _ _=>Ret (plV (x.lead s false o)),_,_,hp.mono dQ,sb,so,nP,⟨by omega,by omega⟩,_,_,_,_,_,_,_,_,fE.mono dQ,Ret (plV (x.lead s false o)),rfl,ih x (List.mem_of_getElem? hx) o m4 ho (fI.mono dQ) (hb.mono dQ),ZbG,Zp5 λm6 fF M dR dW=>⟨by trivial,t.subs.length - (k+1),by omega,k+1,x.lead s false o,by omega,rfl,rfl,ZfO s false hs x o ho,?_,mLt bZ dR,rfl⟩⟩
   rw[if_neg (by simp),if_neg (by simp)]at fD ⊢
   rw[Ziu hx,ZqR]at fD
   exact fD
 ·have:k=t.subs.length:=by have:=of_decide_eq_false cP;omega
  subst this
  refine Zaa rfl (Zag dQ ?_)
  rw[Nat.sub_self,List.drop_length]at fD
  rw[<-fD];cases back <;> rfl
theorem Zzl(pb po:Nat)(hp:m.reads pb po [.slice a s.length c,.bool back]):CX Try.prog 105 #[t.v,plV f,.pointer (some ⟨pb,po,none⟩)] m [] (Ret (plV (ZqQ s back t.subs f 0))):=by
 apply Zd1
 unfold Zcz
 intro b m1 bH _ b1 m2 bL _ b2 b3
 obtain⟨bM,bV⟩:=ZdM hr
 refine⟨λxs css _ m' q=>∃k o:Nat,k<=t.subs.length/\xs=[.int .i64 k]/\css=[plL o]/\ZqQ s back (t.subs.drop k) f o=ZqQ s back t.subs f 0/\m2.le m'/\q=t.subs.length - k,⟨_,0,0,by omega,rfl,rfl,rfl,Mem.le_refl _,rfl⟩,?_⟩
 rintro n cs m4 q bZ ⟨k,o,hk,hn,cR,fD,_,hq⟩
 obtain rfl:n=k:=by simpa using hn
 obtain rfl:cs=plL o:=by simpa using cR
 have dQ:m.le m4:=mLt bH (mLt bL bZ)
 refine Zab (λbF=>?_) (λcP=>?_)
 ·have bI:k < t.subs.length:=by have:=of_decide_eq_true bF;omega
  have hw:IntKind.i64.wrap ((k:Int)+1)=((k+1:Nat):Int):=by rw[ZaO (by omega) (by omega)];rfl
  rcases bV with bV|⟨sb,so,nP,qC⟩
  ·rw[bV]at bI;simp at bI
  simp only[hw,Int.toNat_natCast]
  obtain⟨x,hx⟩:=ZdP bI
  obtain⟨fE,fI⟩:=qC.get hx
  refine⟨sb,so,nP,⟨by omega,by omega⟩,_,_,_,_,_,_,_,_,fE.mono dQ,λb5=>Zaa rfl ⟨λi _ _=>if i=4 then Ret (plV (x.lead s back f))else Ret (plV (o|||x.lead s back f)),_,_,hp.mono dQ,Ret (plV (x.lead s back f)),rfl,ih x (List.mem_of_getElem? hx) f m4 hf (fI.mono dQ) (hb.mono dQ),ZbG,Zp5 λm5 c9=>⟨Ret (plV (o|||x.lead s back f)),rfl,Zx4 o _ m5,ZbG,Zp5 λm6 fF M dR dW gU=>⟨by trivial,t.subs.length - (k+1),by omega,k+1,o|||x.lead s back f,by omega,rfl,rfl,?_,mLt bZ dR,rfl⟩⟩⟩⟩
  rw[Ziu hx,ZoW]at fD
  exact fD
 ·have:k=t.subs.length:=by have:=of_decide_eq_false cP;omega
  subst this
  refine Zaa rfl (Zag dQ ?_)
  rw[List.drop_length,ZrQ]at fD
  rw[fD];rfl
theorem Zzm(x:T)(hx:t.subs=[x])(pb po:Nat)(hp:m.reads pb po [.slice a s.length c,.bool back]):CX Try.prog 108 #[t.v,plV f,.pointer (some ⟨pb,po,none⟩)] m [] (Ret (plV (Zf9 s back t.subs f))):=by
 apply Zd2
 unfold ZcA
 intro b m1 bH _ b1 m2 bL _ b2
 obtain⟨bM,bV⟩:=ZdM hr
 have dQ:m.le m2:=mLt bH bL
 rcases bV with bV|⟨sb,so,nP,qC⟩
 ·rw[bV]at hx;cases hx
 have gX:t.subs[0]?=some x:=by rw[hx];rfl
 obtain⟨fE,fI⟩:=qC.get gX
 refine⟨λ_ _ _=>Ret (plV (x.lead s back f)),_,_,hp.mono dQ,sb,so,nP,⟨by omega,by rw[hx];simp⟩,_,_,_,_,_,_,_,_,fE.mono dQ,Ret (plV (x.lead s back f)),rfl,ih x (List.mem_of_getElem? gX) f m2 hf (fI.mono dQ) (hb.mono dQ),ZbG,Zp5 λm6 fF M dR dW=>Zag (mLt dQ dR) ?_⟩
 rw[hx];unfold Zf9;rfl
theorem ZtT(x:T)(hx:t.subs=[x])(fX:0<=t.mn):CX Try.prog 107 #[txV a s c back,t.v,plV f] m [] (Ret (plV (Zxl (Zf9 s back t.subs) t.mn t.mx f))):=by
 apply ZeL
 unfold ZcU
 intro b m1 bH _ b1 m2 bL _ b2 b3
 obtain⟨bM,bV⟩:=ZdM hr
 rcases bV with bV|⟨sb,so,nP,qC⟩
 ·rw[bV]at hx;cases hx
 have gX:t.subs[0]?=some x:=by rw[hx];rfl
 obtain⟨fE,fI⟩:=qC.get gX
 have hg:Zf9 s back t.subs=x.lead s back:=by rw[hx];rfl
 have lY:t.subs.length=1:=by rw[hx];rfl
 have cA:=Zvz hr
 obtain⟨N,hN⟩:∃N:Nat,t.mn=N:=⟨t.mn.toNat,by omega⟩
 have CD:=cA.mn
 rw[hg,hN]
 unfold Zxl
 rw[Int.toNat_natCast]
 refine⟨λxs css _ m' q=>∃k o:Nat,k<=N/\xs=[.int .i64 k]/\css=[plL o]/\o < ZcS/\ZwC (x.lead s back) (N - k) o=ZwC (x.lead s back) N f/\m2.le m'/\q=N - k,⟨_,0,f,by omega,rfl,rfl,hf,rfl,Mem.le_refl _,rfl⟩,?_⟩
 rintro n cs m4 q bZ ⟨k,o,hk,hn,cR,ho,fD,_,hq⟩
 obtain rfl:n=k:=by simpa using hn
 obtain rfl:cs=plL o:=by simpa using cR
 have dQ:m.le m4:=mLt bH (mLt bL bZ)
 refine Zab (λbF=>?_) (λcP=>?_)
 ·have bI:k < N:=by have:=of_decide_eq_true bF;omega
  have hw:IntKind.i64.wrap ((k:Int)+1)=((k+1:Nat):Int):=by rw[ZaO (by omega) (by omega)];rfl
  simp only[hw]
  refine⟨λ_ _ _=>Ret (plV (x.lead s back o)),sb,so,nP,⟨by omega,by rw[hx];simp⟩,_,_,_,_,_,_,_,_,fE.mono dQ,Ret (plV (x.lead s back o)),rfl,ih x (List.mem_of_getElem? gX) o m4 ho (fI.mono dQ) (hb.mono dQ),ZbG,Zp5 λm6 fF M dR dW=>⟨by trivial,N - (k+1),by omega,k+1,x.lead s back o,by omega,rfl,rfl,ZfO s back hs x o ho,?_,mLt bZ dR,rfl⟩⟩
  rw[show N - k=N - (k+1)+1 by omega]at fD
  exact fD
 ·have:k=N:=by have:=of_decide_eq_false cP;omega
  subst this
  replace fD:o=ZwC (x.lead s back) k f:=by rw[Nat.sub_self]at fD;exact fD
  rw[<-fD]
  intro b4 b5
  refine Zaa rfl (Zaa rfl ?_)
  refine⟨λxs css _ m' q=>∃(i:Int)(c1:List Value)(out last:Nat),xs=[.int .i64 i]/\css=[c1,plL out,plL last]/\out < ZcS/\last < ZcS/\ZcS - out < q/\Zqc (x.lead s back) t.mx q i out last=Zqc (x.lead s back) t.mx (ZcS+1) k o o/\m4.le m',⟨ZcS+1,k,_,o,o,rfl,rfl,ho,ho,by omega,rfl,Mem.le_refl _⟩,?_⟩
  rintro i cs1 cs2 cs3 m5 q c9 ⟨i',c1,out,last,hi,cR,dE,dK,hq,cW,_⟩
  obtain rfl:i=i':=by simpa using hi
  obtain⟨rfl,rfl,rfl⟩:cs1=c1/\cs2=plL out/\cs3=plL last:=by simpa using cR
  have pN:m.le m5:=mLt dQ c9
  obtain⟨q,rfl⟩:∃q',q=q'+1:=⟨q - 1,by omega⟩
  rw[Zmt (n:=q)]at cW
  refine Zab (λcT=>?_) (λhe=>?_)
  ·have wK:¬i=t.mx:=by simpa using cT
   rw[if_neg wK]at cW
   refine⟨λ_ _ _=>Ret (plV (x.lead s back last)),sb,so,nP,⟨by omega,by rw[hx];simp⟩,_,_,_,_,_,_,_,_,fE.mono pN,Ret (plV (x.lead s back last)),rfl,ih x (List.mem_of_getElem? gX) last m5 dK (fI.mono pN) (hb.mono pN),ZbG,Zp5 λm6 fF M dR dW=>Zav (Zx4 out (x.lead s back last) M) ZbG (Zp5 λm7 qD b7=>?_)⟩
   have iF:=ZfO s back hs x last dK
   have uN:=Nat.or_lt_two_pow dE iF
   refine⟨(out|||x.lead s back last) == out,ZAo uN dE,Zab (λh=>?_) (λh=>?_)⟩
   ·rw[if_pos (by simpa using h)]at cW
    refine Zaa rfl (Zag (mLt pN (mLt dR qD)) ?_)
    rw[<-cW];rfl
   ·have fL:¬(out|||x.lead s back last)=out:=by simpa using h
    rw[if_neg fL]at cW
    have cF:out<=out|||x.lead s back last:=Nat.left_le_or
    refine⟨by trivial,q,by omega,_,_,out|||x.lead s back last,x.lead s back last,rfl,rfl,uN,iF,by omega,cW,mLt c9 (mLt dR qD)⟩
  ·have he':i=t.mx:=by simpa using he
   rw[if_pos he']at cW
   refine Zaa rfl ⟨m,Mem.le_refl _,pN,?_⟩
   rw[<-cW];rfl
end
def KR(a:Option Addr)(s:List Nat)(c:Nat)(back:Bool):Value->Mem->List (List Value)->Prop:=λv m' _=>∃b,v=.agg #[.func (.func 101) #[] #[],.func (.func 102) #[] #[],.func (.func 103) #[txV a s c back] #[],.func (.func 104) #[] #[.pointer (some ⟨b,0,none⟩)],.func (.func 105) #[] #[.pointer (some ⟨b,0,none⟩)],.func (.func 107) #[txV a s c back] #[],.func (.func 108) #[] #[.pointer (some ⟨b,0,none⟩)]]/\m'.reads b 0 [.slice a s.length c,.bool back]
theorem Zgm(a:Option Addr)(s:List Nat)(c:Nat)(back:Bool)(m:Mem):CX Try.prog 88 #[txV a s c back] m [] (KR a s c back):=by
 apply Zff
 unfold Zc5
 intro b m1 bH hb b1
 exact⟨m1,bH,Mem.le_refl _,b,rfl,hb⟩
theorem ZiL{a s c back}:∀(v:Value)(m':Mem) (css:List (List Value)),KR a s c back v m' css->Shape.fits (.agg [.fn,.fn,.fn,.fn,.fn,.fn,.fn]) v=true:=λv _ _ ⟨b,e,_⟩=>by rw[e];rfl
theorem Zu4{t:T}(h:(t.subs.length == 1)=true):∃x,t.subs=[x]:=List.length_eq_one_iff.1 (by simpa using h)
theorem Zv2(t:T)(a:Option Addr)(s:List Nat)(c:Nat)(back:Bool)(f:Nat)(m:Mem)(hr:Rep m t)(hb:Byt m a s)(hs:s.length<=512)(hf:f < ZcS)(hk:t.k=0):CX Try.prog 64 #[txV a s c back,t.v,plV f] m [] (Ret (plV (0))):=by
 have key:ZbM a s.length c back t.s0 t.s1 t.s2 t.s3 t.mn t.mx t.a t.subs.length t.c (wdN f 0:Nat) (wdN f 1:Nat) (wdN f 2:Nat) (wdN f 3:Nat) (wdN f 4:Nat) (wdN f 5:Nat) (wdN f 6:Nat) (wdN f 7:Nat) (wdN f 8:Nat) m (Ret (plV (0))):=by
  unfold ZbM
  intro b1 m1 bH _ b2 m2 bL _ b3 m3 bX _ b4
  refine⟨λi _ _=>if i=1 then KR a s c back else Ret (plV (0)),KR a s c back,rfl,Zgm a s c back m3,ZiL,?_⟩
  rintro g0 i0 c0 g1 i1 c1 g2 i2 c2 g3 i3 c3 g4 i4 c4 g5 i5 c5 g6 i6 c6 m5 c9 ⟨b,hv,cK⟩
  simp only[Value.agg.injEq,Array.mk.injEq,List.cons.injEq,Value.func.injEq,Fn.func.injEq,and_true]at hv
  obtain⟨⟨rfl,rfl,rfl⟩,⟨rfl,rfl,rfl⟩,⟨rfl,rfl,rfl⟩,⟨rfl,rfl,rfl⟩,⟨rfl,rfl,rfl⟩,⟨rfl,rfl,rfl⟩,⟨rfl,rfl,rfl⟩⟩:=hv
  have hM:m.le m5:=mLt bH (mLt bL (mLt bX c9))
  have cI:=Zx6 t f m5
  rw[T.v,hk]at cI
  exact⟨⟨by omega,by omega⟩,Ret (plV (0)),rfl,cI,ZbG,Zp5 λm6 fF M dR dW gU=>Zag (mLt hM dW) rfl⟩
 have h:=ZeA a s.length c back t.s0 t.s1 t.s2 t.s3 t.mn t.mx t.a t.subs.length t.c (wdN f 0:Nat) (wdN f 1:Nat) (wdN f 2:Nat) (wdN f 3:Nat) (wdN f 4:Nat) (wdN f 5:Nat) (wdN f 6:Nat) (wdN f 7:Nat) (wdN f 8:Nat) m _ key
 rw[T.v,hk]
 exact h
theorem Zv3(t:T)(a:Option Addr)(s:List Nat)(c:Nat)(back:Bool)(f:Nat)(m:Mem)(hr:Rep m t)(hb:Byt m a s)(hs:s.length<=512)(hf:f < ZcS)(hk:t.k=1):CX Try.prog 64 #[txV a s c back,t.v,plV f] m [] (Ret (plV (f))):=by
 have key:ZbN a s.length c back t.s0 t.s1 t.s2 t.s3 t.mn t.mx t.a t.subs.length t.c (wdN f 0:Nat) (wdN f 1:Nat) (wdN f 2:Nat) (wdN f 3:Nat) (wdN f 4:Nat) (wdN f 5:Nat) (wdN f 6:Nat) (wdN f 7:Nat) (wdN f 8:Nat) m (Ret (plV (f))):=by
  unfold ZbN
  intro b1 m1 bH _ b2 m2 bL _ b3 m3 bX _ b4
  refine⟨λi _ _=>if i=1 then KR a s c back else Ret (plV (f)),KR a s c back,rfl,Zgm a s c back m3,ZiL,?_⟩
  rintro g0 i0 c0 g1 i1 c1 g2 i2 c2 g3 i3 c3 g4 i4 c4 g5 i5 c5 g6 i6 c6 m5 c9 ⟨b,hv,cK⟩
  simp only[Value.agg.injEq,Array.mk.injEq,List.cons.injEq,Value.func.injEq,Fn.func.injEq,and_true]at hv
  obtain⟨⟨rfl,rfl,rfl⟩,⟨rfl,rfl,rfl⟩,⟨rfl,rfl,rfl⟩,⟨rfl,rfl,rfl⟩,⟨rfl,rfl,rfl⟩,⟨rfl,rfl,rfl⟩,⟨rfl,rfl,rfl⟩⟩:=hv
  have hM:m.le m5:=mLt bH (mLt bL (mLt bX c9))
  have cI:=Zv1 t f m5
  rw[T.v,hk]at cI
  exact⟨⟨by omega,by omega⟩,Ret (plV (f)),rfl,cI,ZbG,Zp5 λm6 fF M dR dW gU=>Zag (mLt hM dW) rfl⟩
 have h:=ZeB a s.length c back t.s0 t.s1 t.s2 t.s3 t.mn t.mx t.a t.subs.length t.c (wdN f 0:Nat) (wdN f 1:Nat) (wdN f 2:Nat) (wdN f 3:Nat) (wdN f 4:Nat) (wdN f 5:Nat) (wdN f 6:Nat) (wdN f 7:Nat) (wdN f 8:Nat) m _ key
 rw[T.v,hk]
 exact h
theorem Zv4(t:T)(a:Option Addr)(s:List Nat)(c:Nat)(back:Bool)(f:Nat)(m:Mem)(hr:Rep m t)(hb:Byt m a s)(hs:s.length<=512)(hf:f < ZcS)(hk:t.k=2):CX Try.prog 64 #[txV a s c back,t.v,plV f] m [] (Ret (plV (ZsL t back f s 0 0))):=by
 have key:ZbO a s.length c back t.s0 t.s1 t.s2 t.s3 t.mn t.mx t.a t.subs.length t.c (wdN f 0:Nat) (wdN f 1:Nat) (wdN f 2:Nat) (wdN f 3:Nat) (wdN f 4:Nat) (wdN f 5:Nat) (wdN f 6:Nat) (wdN f 7:Nat) (wdN f 8:Nat) m (Ret (plV (ZsL t back f s 0 0))):=by
  unfold ZbO
  intro b1 m1 bH _ b2 m2 bL _ b3 m3 bX _ b4
  refine⟨λi _ _=>if i=1 then KR a s c back else Ret (plV (ZsL t back f s 0 0)),KR a s c back,rfl,Zgm a s c back m3,ZiL,?_⟩
  rintro g0 i0 c0 g1 i1 c1 g2 i2 c2 g3 i3 c3 g4 i4 c4 g5 i5 c5 g6 i6 c6 m5 c9 ⟨b,hv,cK⟩
  simp only[Value.agg.injEq,Array.mk.injEq,List.cons.injEq,Value.func.injEq,Fn.func.injEq,and_true]at hv
  obtain⟨⟨rfl,rfl,rfl⟩,⟨rfl,rfl,rfl⟩,⟨rfl,rfl,rfl⟩,⟨rfl,rfl,rfl⟩,⟨rfl,rfl,rfl⟩,⟨rfl,rfl,rfl⟩,⟨rfl,rfl,rfl⟩⟩:=hv
  have hM:m.le m5:=mLt bH (mLt bL (mLt bX c9))
  have cI:=Zv0 t a s c back f m5 (hr.mono hM) (hb.mono hM) hs
  rw[T.v,hk]at cI
  exact⟨⟨by omega,by omega⟩,Ret (plV (ZsL t back f s 0 0)),rfl,cI,ZbG,Zp5 λm6 fF M dR dW gU=>Zag (mLt hM dW) rfl⟩
 have h:=ZeC a s.length c back t.s0 t.s1 t.s2 t.s3 t.mn t.mx t.a t.subs.length t.c (wdN f 0:Nat) (wdN f 1:Nat) (wdN f 2:Nat) (wdN f 3:Nat) (wdN f 4:Nat) (wdN f 5:Nat) (wdN f 6:Nat) (wdN f 7:Nat) (wdN f 8:Nat) m _ key
 rw[T.v,hk]
 exact h
theorem Zv5(t:T)(a:Option Addr)(s:List Nat)(c:Nat)(back:Bool)(f:Nat)(m:Mem)(hr:Rep m t)(hb:Byt m a s)(hs:s.length<=512)(hf:f < ZcS)(ih:IH a s c back t)(hk:t.k=3):CX Try.prog 64 #[txV a s c back,t.v,plV f] m [] (Ret (plV (if back then ZgC s back t.subs f else Zg6 s back t.subs f))):=by
 have key:ZbP a s.length c back t.s0 t.s1 t.s2 t.s3 t.mn t.mx t.a t.subs.length t.c (wdN f 0:Nat) (wdN f 1:Nat) (wdN f 2:Nat) (wdN f 3:Nat) (wdN f 4:Nat) (wdN f 5:Nat) (wdN f 6:Nat) (wdN f 7:Nat) (wdN f 8:Nat) m (Ret (plV (if back then ZgC s back t.subs f else Zg6 s back t.subs f))):=by
  unfold ZbP
  intro b1 m1 bH _ b2 m2 bL _ b3 m3 bX _ b4
  refine⟨λi _ _=>if i=1 then KR a s c back else Ret (plV (if back then ZgC s back t.subs f else Zg6 s back t.subs f)),KR a s c back,rfl,Zgm a s c back m3,ZiL,?_⟩
  rintro g0 i0 c0 g1 i1 c1 g2 i2 c2 g3 i3 c3 g4 i4 c4 g5 i5 c5 g6 i6 c6 m5 c9 ⟨b,hv,cK⟩
  simp only[Value.agg.injEq,Array.mk.injEq,List.cons.injEq,Value.func.injEq,Fn.func.injEq,and_true]at hv
  obtain⟨⟨rfl,rfl,rfl⟩,⟨rfl,rfl,rfl⟩,⟨rfl,rfl,rfl⟩,⟨rfl,rfl,rfl⟩,⟨rfl,rfl,rfl⟩,⟨rfl,rfl,rfl⟩,⟨rfl,rfl,rfl⟩⟩:=hv
  have hM:m.le m5:=mLt bH (mLt bL (mLt bX c9))
  have cI:=Zzk t a s c back f m5 (hr.mono hM) (hb.mono hM) hs ih hf b 0 cK
  rw[T.v,hk]at cI
  exact⟨⟨by omega,by omega⟩,Ret (plV (if back then ZgC s back t.subs f else Zg6 s back t.subs f)),rfl,cI,ZbG,Zp5 λm6 fF M dR dW gU=>Zag (mLt hM dW) rfl⟩
 have h:=ZeD a s.length c back t.s0 t.s1 t.s2 t.s3 t.mn t.mx t.a t.subs.length t.c (wdN f 0:Nat) (wdN f 1:Nat) (wdN f 2:Nat) (wdN f 3:Nat) (wdN f 4:Nat) (wdN f 5:Nat) (wdN f 6:Nat) (wdN f 7:Nat) (wdN f 8:Nat) m _ key
 rw[T.v,hk]
 exact h
theorem Zv6(t:T)(a:Option Addr)(s:List Nat)(c:Nat)(back:Bool)(f:Nat)(m:Mem)(hr:Rep m t)(hb:Byt m a s)(hs:s.length<=512)(hf:f < ZcS)(ih:IH a s c back t)(hk:t.k=4):CX Try.prog 64 #[txV a s c back,t.v,plV f] m [] (Ret (plV (ZqQ s back t.subs f 0))):=by
 have key:ZbQ a s.length c back t.s0 t.s1 t.s2 t.s3 t.mn t.mx t.a t.subs.length t.c (wdN f 0:Nat) (wdN f 1:Nat) (wdN f 2:Nat) (wdN f 3:Nat) (wdN f 4:Nat) (wdN f 5:Nat) (wdN f 6:Nat) (wdN f 7:Nat) (wdN f 8:Nat) m (Ret (plV (ZqQ s back t.subs f 0))):=by
  unfold ZbQ
  intro b1 m1 bH _ b2 m2 bL _ b3 m3 bX _ b4
  refine⟨λi _ _=>if i=1 then KR a s c back else Ret (plV (ZqQ s back t.subs f 0)),KR a s c back,rfl,Zgm a s c back m3,ZiL,?_⟩
  rintro g0 i0 c0 g1 i1 c1 g2 i2 c2 g3 i3 c3 g4 i4 c4 g5 i5 c5 g6 i6 c6 m5 c9 ⟨b,hv,cK⟩
  simp only[Value.agg.injEq,Array.mk.injEq,List.cons.injEq,Value.func.injEq,Fn.func.injEq,and_true]at hv
  obtain⟨⟨rfl,rfl,rfl⟩,⟨rfl,rfl,rfl⟩,⟨rfl,rfl,rfl⟩,⟨rfl,rfl,rfl⟩,⟨rfl,rfl,rfl⟩,⟨rfl,rfl,rfl⟩,⟨rfl,rfl,rfl⟩⟩:=hv
  have hM:m.le m5:=mLt bH (mLt bL (mLt bX c9))
  have cI:=Zzl t a s c back f m5 (hr.mono hM) (hb.mono hM) hs ih hf b 0 cK
  rw[T.v,hk]at cI
  exact⟨⟨by omega,by omega⟩,Ret (plV (ZqQ s back t.subs f 0)),rfl,cI,ZbG,Zp5 λm6 fF M dR dW gU=>Zag (mLt hM dW) rfl⟩
 have h:=ZeE a s.length c back t.s0 t.s1 t.s2 t.s3 t.mn t.mx t.a t.subs.length t.c (wdN f 0:Nat) (wdN f 1:Nat) (wdN f 2:Nat) (wdN f 3:Nat) (wdN f 4:Nat) (wdN f 5:Nat) (wdN f 6:Nat) (wdN f 7:Nat) (wdN f 8:Nat) m _ key
 rw[T.v,hk]
 exact h
theorem Zv7(t:T)(a:Option Addr)(s:List Nat)(c:Nat)(back:Bool)(f:Nat)(m:Mem)(hr:Rep m t)(hb:Byt m a s)(hs:s.length<=512)(hf:f < ZcS)(ih:IH a s c back t)(x:T)(hx:t.subs=[x])(fX:0<=t.mn)(hk:t.k=5):CX Try.prog 64 #[txV a s c back,t.v,plV f] m [] (Ret (plV (Zxl (Zf9 s back t.subs) t.mn t.mx f))):=by
 have key:ZbR a s.length c back t.s0 t.s1 t.s2 t.s3 t.mn t.mx t.a t.subs.length t.c (wdN f 0:Nat) (wdN f 1:Nat) (wdN f 2:Nat) (wdN f 3:Nat) (wdN f 4:Nat) (wdN f 5:Nat) (wdN f 6:Nat) (wdN f 7:Nat) (wdN f 8:Nat) m (Ret (plV (Zxl (Zf9 s back t.subs) t.mn t.mx f))):=by
  unfold ZbR
  intro b1 m1 bH _ b2 m2 bL _ b3 m3 bX _ b4
  refine⟨λi _ _=>if i=1 then KR a s c back else Ret (plV (Zxl (Zf9 s back t.subs) t.mn t.mx f)),KR a s c back,rfl,Zgm a s c back m3,ZiL,?_⟩
  rintro g0 i0 c0 g1 i1 c1 g2 i2 c2 g3 i3 c3 g4 i4 c4 g5 i5 c5 g6 i6 c6 m5 c9 ⟨b,hv,cK⟩
  simp only[Value.agg.injEq,Array.mk.injEq,List.cons.injEq,Value.func.injEq,Fn.func.injEq,and_true]at hv
  obtain⟨⟨rfl,rfl,rfl⟩,⟨rfl,rfl,rfl⟩,⟨rfl,rfl,rfl⟩,⟨rfl,rfl,rfl⟩,⟨rfl,rfl,rfl⟩,⟨rfl,rfl,rfl⟩,⟨rfl,rfl,rfl⟩⟩:=hv
  have hM:m.le m5:=mLt bH (mLt bL (mLt bX c9))
  have cI:=ZtT t a s c back f m5 (hr.mono hM) (hb.mono hM) hs ih hf x hx fX
  rw[T.v,hk]at cI
  exact⟨⟨by omega,by omega⟩,Ret (plV (Zxl (Zf9 s back t.subs) t.mn t.mx f)),rfl,cI,ZbG,Zp5 λm6 fF M dR dW gU=>Zag (mLt hM dW) rfl⟩
 have h:=ZeF a s.length c back t.s0 t.s1 t.s2 t.s3 t.mn t.mx t.a t.subs.length t.c (wdN f 0:Nat) (wdN f 1:Nat) (wdN f 2:Nat) (wdN f 3:Nat) (wdN f 4:Nat) (wdN f 5:Nat) (wdN f 6:Nat) (wdN f 7:Nat) (wdN f 8:Nat) m _ key
 rw[T.v,hk]
 exact h
theorem Zv8(t:T)(a:Option Addr)(s:List Nat)(c:Nat)(back:Bool)(f:Nat)(m:Mem)(hr:Rep m t)(hb:Byt m a s)(hs:s.length<=512)(hf:f < ZcS)(ih:IH a s c back t)(x:T)(hx:t.subs=[x])(hk:t.k=6):CX Try.prog 64 #[txV a s c back,t.v,plV f] m [] (Ret (plV (Zf9 s back t.subs f))):=by
 have key:ZbS a s.length c back t.s0 t.s1 t.s2 t.s3 t.mn t.mx t.a t.subs.length t.c (wdN f 0:Nat) (wdN f 1:Nat) (wdN f 2:Nat) (wdN f 3:Nat) (wdN f 4:Nat) (wdN f 5:Nat) (wdN f 6:Nat) (wdN f 7:Nat) (wdN f 8:Nat) m (Ret (plV (Zf9 s back t.subs f))):=by
  unfold ZbS
  intro b1 m1 bH _ b2 m2 bL _ b3 m3 bX _ b4
  refine⟨λi _ _=>if i=1 then KR a s c back else Ret (plV (Zf9 s back t.subs f)),KR a s c back,rfl,Zgm a s c back m3,ZiL,?_⟩
  rintro g0 i0 c0 g1 i1 c1 g2 i2 c2 g3 i3 c3 g4 i4 c4 g5 i5 c5 g6 i6 c6 m5 c9 ⟨b,hv,cK⟩
  simp only[Value.agg.injEq,Array.mk.injEq,List.cons.injEq,Value.func.injEq,Fn.func.injEq,and_true]at hv
  obtain⟨⟨rfl,rfl,rfl⟩,⟨rfl,rfl,rfl⟩,⟨rfl,rfl,rfl⟩,⟨rfl,rfl,rfl⟩,⟨rfl,rfl,rfl⟩,⟨rfl,rfl,rfl⟩,⟨rfl,rfl,rfl⟩⟩:=hv
  have hM:m.le m5:=mLt bH (mLt bL (mLt bX c9))
  have cI:=Zzm t a s c back f m5 (hr.mono hM) (hb.mono hM) hs ih hf x hx b 0 cK
  rw[T.v,hk]at cI
  exact⟨⟨by omega,by omega⟩,Ret (plV (Zf9 s back t.subs f)),rfl,cI,ZbG,Zp5 λm6 fF M dR dW gU=>Zag (mLt hM dW) rfl⟩
 have h:=ZeG a s.length c back t.s0 t.s1 t.s2 t.s3 t.mn t.mx t.a t.subs.length t.c (wdN f 0:Nat) (wdN f 1:Nat) (wdN f 2:Nat) (wdN f 3:Nat) (wdN f 4:Nat) (wdN f 5:Nat) (wdN f 6:Nat) (wdN f 7:Nat) (wdN f 8:Nat) m _ key
 rw[T.v,hk]
 exact h
theorem Zu5(a:Option Addr)(s:List Nat)(c:Nat)(back:Bool)(hs:s.length<=512)(t:T)(hw:t.walks)(f:Nat)(m:Mem)(hf:f < ZcS)(hr:Rep m t)(hb:Byt m a s):CX Try.prog 64 #[txV a s c back,t.v,plV f] m [] (Ret (plV (t.lead s back f))):=by
 have ih:t.k≠0->IH a s c back t:=λh0 x hx f m hf hr hb=>by
  have bW:=ZoP hx
  exact Zu5 a s c back hs x (ZtA hw h0 hx) f m hf hr hb
 by_cases k0:t.k=0
 ·rw[Zy8 k0];exact Zv2 t a s c back f m hr hb hs hf k0
 have hR:t.right=true:=by
  rcases hw with h|h
  ·exact absurd h k0
  ·exact h t (by rw[Zbk];simp)
 have ih:=ih k0
 by_cases k1:t.k=1
 ·rw[Zxm k1];exact Zv3 t a s c back f m hr hb hs hf k1
 by_cases k2:t.k=2
 ·rw[Zxn k2];exact Zv4 t a s c back f m hr hb hs hf k2
 by_cases k3:t.k=3
 ·rw[ZvE k3];exact Zv5 t a s c back f m hr hb hs hf ih k3
 by_cases k4:t.k=4
 ·rw[Zxo k4];exact Zv6 t a s c back f m hr hb hs hf ih k4
 unfold T.right at hR
 rw[Bool.and_eq_true]at hR
 replace hR:=hR.2
 rw[if_neg k1,if_neg k2,if_neg k3,if_neg k4]at hR
 by_cases k5:t.k=5
 ·rw[if_pos k5,Bool.and_eq_true,Bool.and_eq_true]at hR
  obtain⟨x,hx⟩:=Zu4 hR.1
  have fX:0<=t.mn:=by
   have:=hR.2.1
   simp[Zis]at this
   omega
  rw[Zxp k5];exact Zv7 t a s c back f m hr hb hs hf ih x hx fX k5
 rw[if_neg k5,Bool.and_eq_true]at hR
 have k6:t.k=6:=by simpa using hR.1
 obtain⟨x,hx⟩:=Zu4 hR.2
 rw[Zxq k6];exact Zv8 t a s c back f m hr hb hs hf ih x hx k6
termination_by SizeOf.sizeOf t
decreasing_by exact bW
theorem ZtU(t:T)(a:Option Addr)(len c:Nat)(i:Int)(m:Mem)(hr:Rep m t):CX Try.prog 63 #[t.v,.slice a len c,.int .i64 i] m [] (Ret (.int .i64 (t.wrong len i))):=by
 apply ZiK
 unfold ZfW
 intro b m1 bH _
 refine⟨t.isNone,Zab (λh=>Zas (Zx2 t T0 m1 (hr.mono bH) (ZqT m1)) λm2 bL=>⟨by trivial,Zaq ?_⟩) (λh=>⟨by trivial,Zaq ?_⟩),!t.isNone&&!(t.check == 0),Zab (λh=>Zfr (ZlC false false t m1 (hr.mono bH)) λm2 bL=>⟨by trivial,Zaq ?_⟩) (λh=>⟨by trivial,Zaq ?_⟩),Zab (λh=>Zag bH ?_) (λh=>Zab (λh1=>Zag bH ?_) (λh1=>⟨decide (i < 0)||decide (i > len),Zab (λh2=>⟨by trivial,Zaq ?_⟩) (λh2=>⟨by trivial,Zaq ?_⟩),Zab (λh3=>Zag bH ?_) (λh3=>Zag bH ?_)⟩))⟩
 ·unfold T.isNone;rw[h];rfl
 ·unfold T.isNone;rw[h];rfl
 ·rw[h];rfl
 ·rw[h];rfl
 ·unfold T.wrong;rw[if_pos h]
 ·unfold T.wrong;rw[if_neg (by rw[h];decide),if_pos (of_decide_eq_true h1)]
 ·rw[h2];rfl
 ·rw[h2];rfl
 ·unfold T.wrong;rw[if_neg (by rw[h];decide),if_neg (of_decide_eq_false h1),if_pos (by simpa using h3)]
 ·unfold T.wrong;rw[if_neg (by rw[h];decide),if_neg (of_decide_eq_false h1),if_neg (by simpa using h3)]
def Zu6(l:List Nat):List Value:=l.map λi:Nat=>.int .i64 (i:Nat)
def T.matches(t:T)(s:List Nat):Bool:=t.wrong s.length 0 == 0&&(t.lead s false 1).testBit s.length
theorem Zre(t:T)(a:Option Addr)(s:List Nat)(c:Nat)(m:Mem)(hr:Rep m t)(hb:t.wrong s.length 0=0->Byt m a s):CX Try.prog 29 #[t.v,.slice a s.length c] m [] (Ret (.tuple #[.bool (T.matches t s),.int .i64 (t.wrong s.length 0)])):=by
 apply Zg9
 unfold Zem
 intro b m1 bH _
 refine Zfr (ZtU t a s.length c 0 m1 (hr.mono bH)) λm2 bL=>Zab (λh=>?_) (λh=>?_)
 ·have h':¬t.wrong s.length 0=0:=by simpa using h
  refine Zag (mLt bH bL) ?_
  unfold T.matches
  rw[show(t.wrong s.length 0 == 0)=false by simpa using h'];rfl
 ·have h':t.wrong s.length 0=0:=by simpa using h
  obtain⟨hw,hs,CE,gW⟩:=Zxr h'
  have dW:m.le m2:=mLt bH bL
  have wL:(2:Nat) ^ 0 < ZcS:=Zxk (by omega)
  refine⟨λj _ _=>if j=3 then Ret (plV (2 ^ 0))else Ret (plV (t.lead s false (2 ^ 0))),Ret (plV (2 ^ 0)),rfl,ZyR 0 (by omega) m2,ZbG,Zp5 λm3 bX=>⟨Ret (plV (t.lead s false (2 ^ 0))),rfl,Zu5 a s c false hs t hw (2 ^ 0) m3 wL (hr.mono (mLt dW bX)) ((hb h').mono (mLt dW bX)),ZbG,Zp5 λm4 bZ b2 M dR gU dQ m5 c9 eB=>Zas (Zsx (t.lead s false (2 ^ 0)) s.length (by omega) b2 m5 eB) λm6 fF=>Zag (mLt dW (mLt dR (mLt c9 fF))) ?_⟩⟩
  unfold T.matches
  rw[h'];rfl
theorem Rgs.get{m:Mem}{a l}(h:Rgs m a l){i:Nat}{r:Rg}(hi:l[i]?=some r):(∃b o,a=some ⟨b,o,none⟩/\m.reads b (o+i*10) r.cs)/\Rep m r.t:=by
 refine⟨?_,h.2.2 r (List.mem_of_getElem? hi)⟩
 rcases h.2.1 with h|⟨b,o,h1,h2⟩
 ·subst h;simp at hi
 ·exact⟨b,o,h1,h2 i r hi⟩
theorem Znu(x y:List Nat)(ax ay:Option Addr)(cx cy:Nat)(m:Mem)(hx:rowRd m ax (Zu6 x))(hy:rowRd m ay (Zu6 y))(bM:x.length<=1000000000000000):CX Try.prog 35 #[.slice ax x.length cx,.slice ay y.length cy] m [] (Ret (.bool (x == y))):=by
 apply ZdQ
 unfold Zch
 refine Zab (λh=>Zag (Mem.le_refl _) ?_) (λh=>?_)
 ·have:¬x=y:=λe=>by subst e;simp at h
  rw[show(x == y)=false by simpa using this]
 have hl:x.length=y.length:=by
  simp only[Bool.not_eq_false',beq_iff_eq]at h
  omega
 refine⟨λxs css _ m' q=>∃k:Nat,k<=x.length/\xs=[.int .i64 k]/\x.take k=y.take k/\m.le m'/\q=x.length - k,⟨_,0,by omega,rfl,rfl,Mem.le_refl _,rfl⟩,?_⟩
 rintro z m1 q bH ⟨k,hk,hz,fD,_,hq⟩
 obtain rfl:z=k:=by simpa using hz
 refine Zab (λbF=>?_) (λcP=>?_)
 ·have bI:k < x.length:=by have:=of_decide_eq_true bF;omega
  obtain⟨u,hu⟩:=ZdP bI
  obtain⟨v,hv⟩:=ZdP (l:=y) (k:=k) (by omega)
  have fQ:IntKind.i64.wrap ((k:Int)+1)=((k+1:Nat):Int):=by rw[ZaO (by omega) (by omega)];rfl
  rcases hx.mono bH with hx|⟨b,o,h1,h2⟩
  ·rw[show x=[] by simpa[Zu6]using hx]at bI;simp at bI
  rcases hy.mono bH with hy|⟨b',o',h1',h2'⟩
  ·rw[hl,show y=[] by simpa[Zu6]using hy]at bI;simp at bI
  simp only[fQ,Int.toNat_natCast,Nat.mul_one]
  refine⟨b,o,h1,⟨by omega,by omega⟩,_,h2 k (.int .i64 u) (by rw[Zu6,List.getElem?_map,hu];rfl),b',o',h1',⟨by omega,by omega⟩,_,h2' k (.int .i64 v) (by rw[Zu6,List.getElem?_map,hv];rfl),Zaa rfl (Zab (λhc=>Zag bH ?_) (λhc=>⟨x.length - (k+1),by omega,k+1,by omega,rfl,?_,bH,rfl⟩))⟩
  ·have:¬x=y:=λe=>by
    subst e
    rw[hu]at hv;cases hv
    simp at hc
   rw[show(x == y)=false by simpa using this]
  ·have:u=v:=by
    have:=hc
    simp[RowKit.intOf]at this
    omega
   rw[Zcf hu,Zcf hv,fD,this]
 ·have:k=x.length:=by have:=of_decide_eq_false cP;omega
  subst this
  rw[List.take_length,hl,List.take_length]at fD
  refine Zag bH ?_
  rw[fD];simp
theorem ZzS{n:Int}(h1:0<=n)(h2:n < 256):IntKind.u8.wrap n=n:=by
 unfold IntKind.wrap
 simp only[IntKind.bits,IntKind.signed,Bool.false_and,Bool.false_eq_true,if_false]
 have e:(2:Int) ^ 8=256:=by decide
 rw[e];omega
theorem Zv9(t:T)(m:Mem)(hr:Rep m t):CX Try.prog 40 #[t.v] m [] (Zcu (λu=>∃a c,u=Zap 6 0 0 a c [t])):=by
 apply ZjK
 unfold ZgH
 intro b m1 bH _ b1 b2 hf
 have cF:=Mem.le_add hf t.cs
 refine ZhE (mLt bH cF) ⟨Zap 6 0 0 (some ⟨b2,0,none⟩) 1 [t],rfl,Zbo (Zjo ?_ (hr.mono (mLt bH cF))) (by omega) (by omega) (by omega),_,_,rfl⟩
 intro j v hj
 rw[Nat.zero_add,Mem.add_same];exact hj
theorem Zx7(t:T)(mn mx:Int)(h1 : -9223372036854775808<=mn/\mn<=9223372036854775807)(h2 : -9223372036854775808<=mx/\mx<=9223372036854775807)(m:Mem)(hr:Rep m t):CX Try.prog 41 #[t.v,.int .i64 mn,.int .i64 mx] m [] (Zcu (λu=>∃a c,u=Zap 5 mn mx a c [t])):=by
 apply Znm
 unfold ZiB
 intro b m1 bH _ b1 b2 hf
 have cF:=Mem.le_add hf t.cs
 refine ZhE (mLt bH cF) ⟨Zap 5 mn mx (some ⟨b2,0,none⟩) 1 [t],rfl,Zbo (Zjo ?_ (hr.mono (mLt bH cF))) (by omega) h1 h2,_,_,rfl⟩
 intro j v hj
 rw[Nat.zero_add,Mem.add_same];exact hj
def Zb7(s:ByteArray):List Nat:=s.data.toList.map λb=>b.toNat
theorem Zkz(s:ByteArray):ZaM s=(Zb7 s).map λc:Nat=>Value.int .u8 c:=by
 unfold ZaM Zb7
 rw[List.map_map];rfl
theorem ZmH(s:ByteArray):(Zb7 s).length=s.size:=by unfold Zb7;rw[List.length_map,Array.length_toList];rfl
theorem ZtV(s:ByteArray):∀c∈Zb7 s,c < 256:=by
 intro c hc
 unfold Zb7 at hc
 obtain⟨b,_,rfl⟩:=List.mem_map.1 hc
 exact b.toBitVec.isLt
theorem Zwa{s:ByteArray}{k c:Nat}(h:(Zb7 s)[k]?=some c):ZnL s k=(c:Int):=by
 unfold Zb7 at h
 rw[List.getElem?_map]at h
 obtain⟨b,hb,rfl⟩:=Option.map_eq_some_iff.1 h
 unfold ZnL
 rw[List.getD_eq_getElem?_getD,hb];rfl
theorem ZpD(s:ByteArray)(hs:(Zb7 s).length<=100000)(m:Mem):CX Try.prog 37 #[.string s] m [] (Zcu (λt=>t=Zli (Zb7 s))):=by
 apply ZjL
 unfold ZgI
 intro b b1
 have bM:=ZmH s
 refine⟨λxs css tvs m' q=>∃k:Nat,k<=s.size/\xs=[.int .i64 k]/\css=[ZuD ((Zb7 s).take k)]/\q=s.size - k,⟨_,0,by omega,rfl,rfl,rfl⟩,?_⟩
 rintro n cs m1 q bH ⟨k,hk,hn,cR,hq⟩
 obtain rfl:n=k:=by simpa using hn
 obtain rfl:cs=ZuD ((Zb7 s).take k):=by simpa using cR
 refine Zab (λbF=>?_) (λcP=>?_)
 ·have bI:k < s.size:=by have:=of_decide_eq_true bF;omega
  obtain⟨c,hc⟩:=ZdP (l:=Zb7 s) (k:=k) (by omega)
  have jX:=ZtV s c (List.mem_of_getElem? hc)
  have hw:IntKind.i64.wrap ((k:Int)+1)=((k+1:Nat):Int):=by rw[ZaO (by omega) (by omega)];rfl
  have Av:IntKind.u8.wrap (Int.tdiv (c:Int) 64)=((c / 64:Nat):Int):=by rw[Zx3];exact ZzS (by omega) (by omega)
  have hr:IntKind.u64.wrap (1*2 ^ min (Int.toNat (Int.tmod (c:Int) 64)) 64)=((2 ^ (c % 64):Nat):Int):=by
   rw[Zsw,Int.toNat_natCast,Nat.min_eq_left (by omega),Int.one_mul]
   have:=Zuy (2 ^ (c % 64)) (by
    have:2 ^ (c % 64) < 2 ^ 64:=Nat.pow_lt_pow_right (by omega) (by omega)
    exact this)
   rw[<-this];push_cast;rfl
  have h2:(2:Nat) ^ (c % 64) < 18446744073709551616:=by
   have:(2:Nat) ^ (c % 64) < 2 ^ 64:=Nat.pow_lt_pow_right (by omega) (by omega)
   exact this
  have hj:c / 64 < 4:=by omega
  simp only[hw,Int.toNat_natCast,Zwa hc,Av,hr,Nat.zero_add,Nat.mul_one]
  refine⟨⟨by omega,by omega⟩,by omega,⟨by omega,by omega⟩,Zaw (ZtD _ hj) ⟨⟨by omega,by omega⟩,by omega,by rw[Zsw];omega,Zaa rfl ⟨⟨by omega,by omega⟩,Zaa (by rw[Nat.ble_eq];show c / 64+1<=4;omega) ⟨by trivial,s.size - (k+1),by omega,k+1,by omega,rfl,?_,rfl⟩⟩⟩⟩
  simp only[intOf]
  rw[ZrO _ _ (ZuC _ _) h2,ZqV _ rfl hj,Zcf hc]
 ·have:k=s.size:=by have:=of_decide_eq_false cP;omega
  subst this
  rw[<-bM,List.take_length]
  exact Zaa rfl (Zaa rfl (Zag bH ⟨Zli (Zb7 s),rfl,ZoZ _ m,rfl⟩))
theorem Zrf(n:Nat)(hn:n < 256)(m:Mem):CX Try.prog 38 #[.int .u8 n] m [] (λv _ _=>∃s,v=.string s/\Zb7 s=Zes n):=by
 apply Zh1
 unfold Ze0
 intro b hf
 have ht:Int.tmod (n:Int) 12=((n % 12:Nat):Int):=rfl
 simp only[ht,Int.toNat_natCast,Nat.mul_one]
 refine⟨by omega,⟨by omega,by omega⟩,?_⟩
 have h:n % 12=0\/n % 12=1\/n % 12=2\/n % 12=3\/n % 12=4\/n % 12=5\/n % 12=6\/n % 12=7\/n % 12=8\/n % 12=9\/n % 12=10\/n % 12=11:=by omega
 unfold Zes
 rcases h with e|e|e|e|e|e|e|e|e|e|e|e <;>
 ·rw[e]
  refine Zaw rfl ?_
  exact⟨_,Mem.le_add hf _,Mem.le_refl _,_,rfl,rfl⟩
theorem Zgn(k:Int)(t:T):ZbX k t=if t.k=k then t.subs else if k=3/\t.k=1 then[]else[t]:=rfl
theorem Zfu(l:List T):∀u∈Rx.ZcF l,u.oneCell'=true:=by
 intro u hu
 simp only[Rx.ZcF,List.mem_flatten,List.mem_map]at hu
 obtain⟨_,⟨t,_,rfl⟩,h⟩:=hu
 simp only[T.cs,List.mem_cons,List.not_mem_nil,or_false,T.sl]at h
 rcases h with rfl|rfl|rfl|rfl|rfl|rfl|rfl|rfl <;> rfl
theorem Zn2(k:Int)(t u:T)(hk:k=3\/k=4)(m:Mem)(hr:Rep m t)(hu:Rep m u)(ht:(ZbX k t).length<=10000)(Aw:(ZbX k u).length<=10000):CX Try.prog 39 #[.int .u8 k,t.v,u.v] m [] (Zcu (λr=>∃a c,r=Zh0 k a c (ZbX k t++ZbX k u))):=by
 apply ZjM
 unfold ZgJ
 intro b m1 bH _ b1 m2 bL _ b2 b3 sJ
 have iT:=mLt bH bL
 have dG:m.le (m2.add b3 (t.cs++u.cs)):=mLt iT (Mem.le_add sJ _)
 refine⟨λxs css tvs m' q=>∃(i:Nat)(l:List T)(a:Option Addr)(c:Nat),i<=2/\xs=[.slice a l.length c,.int .i64 i]/\tvs=[.slice a l.length c]/\l=(([t,u].take i).map (ZbX k)).flatten/\rowRd m' a (Rx.ZcF l)/\q=2 - i,⟨2,0,[],none,0,by omega,rfl,rfl,rfl,.inl rfl,rfl⟩,?_⟩
 rintro a n c z a1 n1 c1 m3 q bX ⟨i,l,a',c',hi,cJ,fN,hl,bG,hq⟩
 simp only[List.cons.injEq,Value.slice.injEq,Value.int.injEq,true_and,and_true]at cJ fN
 obtain⟨⟨rfl,rfl,rfl⟩,rfl⟩:=cJ
 obtain⟨rfl,rfl,rfl⟩:=fN
 have kX:=mLt dG bX
 have iF:l.length<=20000:=by
  rw[hl]
  have:i=0\/i=1\/i=2:=by omega
  rcases this with rfl|rfl|rfl <;> simp <;> omega
 refine Zab (λbF=>?_) (λcP=>?_)
 ·have h2:i=0\/i=1:=by have:=of_decide_eq_true bF;omega
  rcases h2 with rfl|rfl
  ·
   refine⟨⟨by omega,by omega⟩,Zaa rfl λb4=>Zaa rfl (Zaw (v:=.int .u8 t.k) rfl (Zaa rfl (Zab (λdM=>Zaw (v:=t.sl) rfl (Zaa rfl ?_)) (λdM=>?_))))⟩
   ·have gE:t.k=k:=by simpa[RowKit.intOf]using dM
    have hj:ZbX k t=t.subs:=by rw[Zgn,if_pos gE]
    have bM:=ht
    rw[hj]at bM
    refine⟨.inl rfl,Rx.ZcF l,Rx.ZcF t.subs,Zan _,Zan _,bG,(Zcg (hr.subs)).mono kX,Zfu _,?_,?_,λa2 c2 m4 bZ cO=>⟨by trivial,1,by omega,1,l++t.subs,a2,c2,by omega,?_,?_,?_,?_,?_⟩⟩
    ·simp only[T.sl,slN];omega
    ·simp only[T.sl,slN];omega
    ·rw[List.length_append];rfl
    ·rw[List.length_append];rfl
    ·rw[hl,<-hj];simp
    ·rw[ZaP];exact cO
    ·omega
   ·have gE:¬t.k=k:=by simpa[RowKit.intOf]using dM
    refine⟨k == 3&&t.k == 1,Zab (λh=>Zaw (v:=.int .u8 t.k) rfl (Zaa rfl ⟨by trivial,by trivial,?_⟩)) (λh=>⟨by trivial,by trivial,?_⟩),Zab (λh=>⟨by trivial,1,by omega,1,l,_,_,by omega,rfl,rfl,?_,bG,by omega⟩) (λh=>Zaa rfl λb6 rM=>?_)⟩
    ·rw[h];rfl
    ·rw[h];rfl
    ·have:k=3/\t.k=1:=by simpa using h
     have hj:ZbX k t=[]:=by rw[Zgn,if_neg gE,if_pos this]
     rw[hl];simp[hj]
    ·have:¬(k=3/\t.k=1):=by simpa using h
     have hj:ZbX k t=[t]:=by rw[Zgn,if_neg gE,if_neg this]
     have iY:=Mem.le_add rM t.cs
     refine⟨.inl rfl,Rx.ZcF l,t.cs,Zan _,rfl,bG.mono iY,.inr ⟨b6,0,rfl,λj v hj=>by rw[Nat.zero_add,Mem.add_same];exact hj⟩,by rw[<-ZbA];exact Zfu _,by omega,by omega,λa2 c2 m4 bZ cO=>⟨by trivial,1,by omega,1,l++[t],a2,c2,by omega,?_,?_,?_,?_,?_⟩⟩
     ·rw[List.length_append];rfl
     ·rw[List.length_append];rfl
     ·rw[hl];simp[hj]
     ·rw[ZaP,ZbA];exact cO
     ·omega
  ·
   refine⟨⟨by omega,by omega⟩,Zaa rfl λb4=>Zaa rfl (Zaw (v:=.int .u8 u.k) rfl (Zaa rfl (Zab (λdM=>Zaw (v:=u.sl) rfl (Zaa rfl ?_)) (λdM=>?_))))⟩
   ·have gE:u.k=k:=by simpa[RowKit.intOf]using dM
    have hj:ZbX k u=u.subs:=by rw[Zgn,if_pos gE]
    have bM:=Aw
    rw[hj]at bM
    refine⟨.inl rfl,Rx.ZcF l,Rx.ZcF u.subs,Zan _,Zan _,bG,(Zcg (hu.subs)).mono kX,Zfu _,?_,?_,λa2 c2 m4 bZ cO=>⟨by trivial,0,by omega,2,l++u.subs,a2,c2,by omega,?_,?_,?_,?_,?_⟩⟩
    ·simp only[T.sl,slN];omega
    ·simp only[T.sl,slN];omega
    ·rw[List.length_append];rfl
    ·rw[List.length_append];rfl
    ·rw[hl,<-hj];simp
    ·rw[ZaP];exact cO
    ·omega
   ·have gE:¬u.k=k:=by simpa[RowKit.intOf]using dM
    refine⟨k == 3&&u.k == 1,Zab (λh=>Zaw (v:=.int .u8 u.k) rfl (Zaa rfl ⟨by trivial,by trivial,?_⟩)) (λh=>⟨by trivial,by trivial,?_⟩),Zab (λh=>⟨by trivial,0,by omega,2,l,_,_,by omega,rfl,rfl,?_,bG,by omega⟩) (λh=>Zaa rfl λb6 rM=>?_)⟩
    ·rw[h];rfl
    ·rw[h];rfl
    ·have:k=3/\u.k=1:=by simpa using h
     have hj:ZbX k u=[]:=by rw[Zgn,if_neg gE,if_pos this]
     rw[hl];simp[hj]
    ·have:¬(k=3/\u.k=1):=by simpa using h
     have hj:ZbX k u=[u]:=by rw[Zgn,if_neg gE,if_neg this]
     have iY:=Mem.le_add rM u.cs
     refine⟨.inl rfl,Rx.ZcF l,u.cs,Zan _,rfl,bG.mono iY,.inr ⟨b6,0,rfl,λj v hj=>by rw[Nat.zero_add,Mem.add_same];exact hj⟩,by rw[<-ZbA];exact Zfu _,by omega,by omega,λa2 c2 m4 bZ cO=>⟨by trivial,0,by omega,2,l++[u],a2,c2,by omega,?_,?_,?_,?_,?_⟩⟩
     ·rw[List.length_append];rfl
     ·rw[List.length_append];rfl
     ·rw[hl];simp[hj]
     ·rw[ZaP,ZbA];exact cO
     ·omega
 ·have:i=2:=by have:=of_decide_eq_false cP;omega
  subst this
  have hl':ZbX k t++ZbX k u=l:=by rw[hl];simp
  rw[hl']
  have bY:∀x∈l,Rep m3 x:=by
   have key:∀t:T,Rep m t->∀x∈ZbX k t,Rep m3 x:=by
    intro t hr x hx
    rw[Zgn]at hx
    split at hx
    ·exact Zex (hr.subs.mono kX) x hx
    ·split at hx
     ·simp at hx
     ·simp at hx;subst hx;exact hr.mono kX
   rw[<-hl']
   intro x hx
   rcases List.mem_append.1 hx with hx|hx
   ·exact key t hr x hx
   ·exact key u hu x hx
  refine Zab (λh0=>?_) (λh0=>Zab (λh1=>?_) (λh1=>?_))
  ·have:l=[]:=by simpa using h0
   subst this
   exact Zag kX ⟨T1,rfl,ZtB _,none,0,rfl⟩
  ·have wH:l.length=1:=by
    have:((l.length:Int) == 1)=true:=h1
    have:=of_decide_eq_true this;omega
   obtain⟨x,rfl⟩:∃x,l=[x]:=by
    match l,wH with
    | [x],_=>exact⟨x,rfl⟩
   rcases bG with bG|⟨b6,o,ha,cK⟩
   ·simp[Rx.ZcF,T.cs]at bG
   ·rw[ZbA]at cK
    exact⟨b6,o,ha,⟨by omega,by simp⟩,_,_,_,_,_,_,_,_,cK,Zaa rfl (ZhE kX ⟨x,rfl,bY x (by simp),none,0,rfl⟩)⟩
  ·have Ax:¬l.length=0:=λe=>by rw[e]at h0;simp at h0
   have lY:¬l.length=1:=λe=>by rw[e]at h1;simp at h1
   obtain⟨x,y,r,rfl⟩:∃x y r,l=x::y::r:=by
    match l,Ax,lY with
    | [],h,_=>simp at h
    | [x],_,h=>simp at h
    | x::y::r,_,_=>exact⟨x,y,r,rfl⟩
   refine ZhE kX ⟨Zap k 0 0 _ _ (x::y::r),rfl,Zbo (Zmv bG bY (by omega)) (by omega) (by omega) (by omega),_,_,rfl⟩
structure Sm (m:Mem)(a:Option Addr)(l:List (Nat×Nat×Nat)):Prop where
 len:l.length<=9223372036854775807
 byte:∀s∈l,s.1 < 256/\s.2.1 < 256/\s.2.2 < 256
 at':∀i s,l[i]?=some s->∃b o,a=some ⟨b,o,none⟩/\m.reads b (o+i*3) [.int .u8 s.1,.int .u8 s.2.1,.int .u8 s.2.2]
theorem Sm.mono{m m':Mem}{a l}(h:Sm m a l)(hm:m.le m'):Sm m' a l:=
 ⟨h.len,h.byte,λi s hi=>by obtain⟨b,o,h1,h2⟩:=h.at' i s hi;exact⟨b,o,h1,h2.mono hm⟩⟩
theorem ZpE(n:Nat):(([[97],[98],[97,98],[97],[98],[99],[97,98,99],[98,99],[10],[0,255],[97],[98]][n % 12]?).getD []:List Nat).length<=100000:=by
 have h:n % 12=0\/n % 12=1\/n % 12=2\/n % 12=3\/n % 12=4\/n % 12=5\/n % 12=6\/n % 12=7\/n % 12=8\/n % 12=9\/n % 12=10\/n % 12=11:=by omega
 rcases h with e|e|e|e|e|e|e|e|e|e|e|e <;> rw[e] <;> decide
theorem Zx8:∀L < 3,∀Mo < 4,((Mo < L\/Mo=0\/(L=1/\Mo=1))->Zis (L:Nat) (-1)=true/\ZvB (L:Nat) (-1)<=((max 1 L:Nat):Int))/\(¬(Mo < L\/Mo=0\/(L=1/\Mo=1))->Zis (L:Nat) (Mo:Nat)=true/\ZvB (L:Nat) (Mo:Nat)<=((max 1 (max L Mo):Nat):Int)):=by
 intro L hL Mo hM
 have h1:L=0\/L=1\/L=2:=by omega
 have h2:Mo=0\/Mo=1\/Mo=2\/Mo=3:=by omega
 rcases h1 with rfl|rfl|rfl <;> rcases h2 with rfl|rfl|rfl|rfl <;> exact⟨λ_=>by first|exact⟨by decide,by decide⟩|omega,λ_=>by first|exact⟨by decide,by decide⟩|omega⟩
theorem Zu7(l:List (Nat×Nat×Nat))(a:Option Addr)(c:Nat)(m:Mem)(hl:Sm m a l)(hc:l.length<=c):CX Try.prog 9 #[.slice a l.length c] m [] (Zcu (λt=>t.check=0)):=by
 apply Zlw
 unfold ZhM
 have bM:=hl.len
 intro b
 have hN:(if(25:Int) < (l.length:Int)then(25:Int)else(l.length:Int))=((min 25 l.length:Nat):Int):=by split <;> omega
 simp only[hN,Int.toNat_natCast,Nat.sub_zero]
 generalize CF:min 25 l.length=N
 refine⟨⟨by omega,by omega⟩,λxs css tvs m' q=>∃(i:Nat)(ts:List T)(a:Option Addr)(c:Nat)(u g:Nat)(mb:Mem),i<=N/\xs=[.slice a ts.length c,.int .i64 u,.int .i64 g,.int .i64 i]/\tvs=[.slice a ts.length c]/\ts.length<=c/\m.le mb/\mb.le m'/\Apart mb a/\rowRd m' a (Rx.ZcF ts)/\(∀t∈ts,Rep mb t)/\J i ts u g/\q=N - i,⟨N,0,[],none,0,1,0,m,by omega,rfl,rfl,by simp,Mem.le_refl _,Mem.le_refl _,.inl rfl,.inl rfl,by simp,J.zero,by omega⟩,?_⟩
 rintro a1 n1 c1 z1 z2 z3 a2 n2 c2 m1 q _ ⟨i,ts,a',c',u,g,mb,hi,cJ,fN,dB,jJ,eI,cU,bG,bY,hJ,hq⟩
 simp only[List.cons.injEq,Value.slice.injEq,Value.int.injEq,true_and,and_true]at cJ fN
 obtain⟨⟨rfl,rfl,rfl⟩,rfl,rfl,rfl⟩:=cJ
 obtain⟨rfl,rfl,rfl⟩:=fN
 have eT:ts.length<=25:=by have:=hJ.sz;have:=Zo0 ts;omega
 refine Zab (λbF=>?_) (λcP=>?_)
 ·have Ay:i < N:=by have:=of_decide_eq_true bF;omega
  have hi':i < l.length:=by omega
  obtain⟨s,hs⟩:=ZdP hi'
  obtain⟨bs,os,ha,cK⟩:=(hl.mono (mLt jJ eI)).at' i s hs
  obtain⟨s1,s2,s3⟩:=s
  obtain⟨CG,lH,yx⟩:=hl.byte _ (List.mem_of_getElem? hs)
  have hw:IntKind.i64.wrap ((i:Int)+1)=((i+1:Nat):Int):=by rw[ZaO (by omega) (by omega)];rfl
  have wM:Int.tmod (intOf (Value.int .u8 (s1:Nat))) 12=((s1 % 12:Nat):Int):=rfl
  simp only[hw,Int.toNat_natCast]
  refine⟨bs,os,ha,⟨by omega,by omega⟩,_,_,_,cK,λb2=>Zaa rfl (Zaa rfl ⟨by omega,?_⟩)⟩
  simp only[wM]
  refine Zab (λh1=>?_) (λh1=>Zab (λh2=>?_) (λh2=>?_))
  ·refine Zav (Zrf s2 lH m1) (λv _ _ ⟨s,e,_⟩=>by rw[e];rfl) ?_
   rintro str m2 bL ⟨s',hv,hb⟩
   cases hv
   refine Zav (ZpD str (by rw[hb];unfold Zes;exact ZpE _) m2) ZaL (Zco λt m3 bX hr ht b3 sJ=>?_)
   rw[hb]at ht
   have dG:=mLt bL (mLt bX (Mem.le_add sJ t.cs))
   obtain⟨k1,k2,k3,k4⟩:=ZrW s2
   refine⟨.inl trivial,Rx.ZcF ts,t.cs,Zan _,rfl,bG.mono (dG),.inr ⟨b3,0,rfl,λj v hj=>by rw[Nat.zero_add,Mem.add_same];exact hj⟩,by rw[<-ZbA];exact Zfu _,by omega,by omega,λa4 c4 m4 bZ cO bU=>⟨by trivial,N - (i+1),by omega,i+1,ts++[t],a4,c4,u,g,mb,by omega,?_,?_,by have:=bU.1;rw[List.length_append];exact this,jJ,mLt eI (mLt (dG) bZ),cU.tok (mLt eI (dG)) bU,?_,?_,?_,by omega⟩⟩
   ·rw[List.length_append];rfl
   ·rw[List.length_append];rfl
   ·rw[ZaP,ZbA];exact cO
   ·intro x hx
    rcases List.mem_append.1 hx with hx|hx
    ·exact bY x hx
    ·simp at hx;subst hx;exact(by rw[ht];exact ZoZ _ _)
   ·rw[ht];exact hJ.push k1 k2 k3 k4
  ·intro b3 sJ
   have dG:=Mem.le_add sJ T1.cs
   refine⟨.inl trivial,Rx.ZcF ts,T1.cs,Zan _,rfl,bG.mono (dG),.inr ⟨b3,0,rfl,λj v hj=>by rw[Nat.zero_add,Mem.add_same];exact hj⟩,by rw[<-ZbA];exact Zfu _,by omega,by omega,λa4 c4 m4 bZ cO bU=>⟨by trivial,N - (i+1),by omega,i+1,ts++[T1],a4,c4,u,g,mb,by omega,?_,?_,by have:=bU.1;rw[List.length_append];exact this,jJ,mLt eI (mLt (dG) bZ),cU.tok (mLt eI (dG)) bU,?_,?_,?_,by omega⟩⟩
   ·rw[List.length_append];rfl
   ·rw[List.length_append];rfl
   ·rw[ZaP,ZbA];exact cO
   ·intro x hx
    rcases List.mem_append.1 hx with hx|hx
    ·exact bY x hx
    ·simp at hx;subst hx;exact ZtB _
   ·exact hJ.push Zxu.1 Zxu.2.1 Zxu.2.2.1 Zxu.2.2.2
  ·refine⟨decide (s1 % 12 < 7)&&decide (1 < ts.length),Zab (λh3=>⟨by trivial,by trivial,?_⟩) (λh3=>⟨by trivial,by trivial,?_⟩),Zab (λh3=>?_) (λh3=>?_)⟩
   ·refine Zaq ?_
    rw[Bool.eq_iff_iff];simp;have:=of_decide_eq_true h3;omega
   ·refine Zaq ?_
    rw[eq_comm,Bool.and_eq_false_iff];left;have:=of_decide_eq_false h3;exact decide_eq_false (by omega)
   ·skip
    obtain⟨r,x,y,rfl⟩:=ZzQ (ts:=ts) (by simp at h3;omega)
    have jK:(r++[x,y]).length=r.length+2:=by simp
    have dT:IntKind.i64.wrap (((r++[x,y]).length:Int) - 2)=(r.length:Int):=by rw[jK,ZaO (by omega) (by omega)];omega
    have eF:IntKind.i64.wrap (((r++[x,y]).length:Int) - 1)=((r.length+1:Nat):Int):=by rw[jK,ZaO (by omega) (by omega)];omega
    simp only[dT,eF,Int.toNat_natCast,Nat.sub_zero]
    obtain⟨bb,my,lM,o',u',hu'⟩:=cU.base bG (by simp)
    obtain⟨bx,ox,pO,nQ⟩:=Zdq bG (i:=r.length) (t:=x) (by simp)
    obtain⟨by',oy,wN,wO⟩:=Zdq bG (i:=r.length+1) (t:=y) (by simp)
    have wP:(ZbX 3 x).length<=10000:=by
     have:=hJ.sz
     rw[ZaV,show szL [x,y]=szL ([x]++[y]) from rfl,ZaV,ZbW,ZbW]at this
     have:=ZfP (k:=3) (t:=x)
     omega
    have wQ:(ZbX 3 y).length<=10000:=by
     have:=hJ.sz
     rw[ZaV,show szL [x,y]=szL ([x]++[y]) from rfl,ZaV,ZbW,ZbW]at this
     have:=ZfP (k:=3) (t:=y)
     omega
    refine⟨λ_ _ _=>Zqd mb m1 (λr=>∃a c,r=Zh0 3 a c (ZbX 3 x++ZbX 3 y)),⟨by omega,by omega⟩,⟨by omega,by omega⟩,bx,ox,pO,⟨by omega,by omega⟩,_,_,_,_,_,_,_,_,nQ,by',oy,wN,⟨by omega,by omega⟩,_,_,_,_,_,_,_,_,wO,Zqd mb m1 (λr=>∃a c,r=Zh0 3 a c (ZbX 3 x++ZbX 3 y)),rfl,(Zn2 3 x y (by omega) mb (bY x (by simp)) (bY y (by simp)) wP wQ).frame2 eI,Zel,Zkx λt m0 m3 bX h0 nR cB mO ht b6 rM=>?_⟩
    obtain⟨at',ct,ht⟩:=ht
    have iY:=Mem.le_add rM t.cs
    have fY:Apart m0 _:=.inr ⟨bb,my,λo=>by rw[cB bb o' u' hu' o];exact lM o⟩
    refine⟨.inr (.inr (by omega)),Rx.ZcF r,t.cs,Zan _,rfl,((Zsu bG).mono bX).mono iY,.inr ⟨b6,0,rfl,λj v hj=>by rw[Nat.zero_add,Mem.add_same];exact hj⟩,by rw[<-ZbA];exact Zfu _,by omega,by omega,λa4 c4 m4 bZ cO bU M dR dW gU dQ=>⟨by trivial,N - (i+1),by omega,i+1,r++[t],a4,c4,u,g,m0,by omega,?_,?_,by have:=bU.1;rw[List.length_append];exact this,mLt jJ h0,mLt nR dW,fY.tok (mLt nR iY) bU,?_,?_,?_,by omega⟩⟩
    ·rw[List.length_append];rfl
    ·rw[List.length_append];rfl
    ·rw[ZaP,ZbA];exact cO.mono dQ
    ·intro z hz
     rcases List.mem_append.1 hz with hz|hz
     ·exact(bY z (by simp[hz])).mono h0
     ·simp at hz;subst hz;exact mO
    ·rw[ht];exact hJ.join (by omega) (by omega) _ _
   ·refine⟨decide (s1 % 12 < 9)&&decide (1 < ts.length),Zab (λh4=>⟨by trivial,by trivial,?_⟩) (λh4=>⟨by trivial,by trivial,?_⟩),Zab (λh4=>?_) (λh4=>?_)⟩
    ·refine Zaq ?_
     rw[Bool.eq_iff_iff];simp;have:=of_decide_eq_true h4;omega
    ·refine Zaq ?_
     rw[eq_comm,Bool.and_eq_false_iff];left;have:=of_decide_eq_false h4;exact decide_eq_false (by omega)
    ·skip
     obtain⟨r,x,y,rfl⟩:=ZzQ (ts:=ts) (by simp at h4;omega)
     have jK:(r++[x,y]).length=r.length+2:=by simp
     have dT:IntKind.i64.wrap (((r++[x,y]).length:Int) - 2)=(r.length:Int):=by rw[jK,ZaO (by omega) (by omega)];omega
     have eF:IntKind.i64.wrap (((r++[x,y]).length:Int) - 1)=((r.length+1:Nat):Int):=by rw[jK,ZaO (by omega) (by omega)];omega
     simp only[dT,eF,Int.toNat_natCast,Nat.sub_zero]
     obtain⟨bb,my,lM,o',u',hu'⟩:=cU.base bG (by simp)
     obtain⟨bx,ox,pO,nQ⟩:=Zdq bG (i:=r.length) (t:=x) (by simp)
     obtain⟨by',oy,wN,wO⟩:=Zdq bG (i:=r.length+1) (t:=y) (by simp)
     have wP:(ZbX 4 x).length<=10000:=by
      have:=hJ.sz
      rw[ZaV,show szL [x,y]=szL ([x]++[y]) from rfl,ZaV,ZbW,ZbW]at this
      have:=ZfP (k:=4) (t:=x)
      omega
     have wQ:(ZbX 4 y).length<=10000:=by
      have:=hJ.sz
      rw[ZaV,show szL [x,y]=szL ([x]++[y]) from rfl,ZaV,ZbW,ZbW]at this
      have:=ZfP (k:=4) (t:=y)
      omega
     refine⟨λ_ _ _=>Zqd mb m1 (λr=>∃a c,r=Zh0 4 a c (ZbX 4 x++ZbX 4 y)),⟨by omega,by omega⟩,⟨by omega,by omega⟩,bx,ox,pO,⟨by omega,by omega⟩,_,_,_,_,_,_,_,_,nQ,by',oy,wN,⟨by omega,by omega⟩,_,_,_,_,_,_,_,_,wO,Zqd mb m1 (λr=>∃a c,r=Zh0 4 a c (ZbX 4 x++ZbX 4 y)),rfl,(Zn2 4 x y (by omega) mb (bY x (by simp)) (bY y (by simp)) wP wQ).frame2 eI,Zel,Zkx λt m0 m3 bX h0 nR cB mO ht b6 rM=>?_⟩
     obtain⟨at',ct,ht⟩:=ht
     have iY:=Mem.le_add rM t.cs
     have fY:Apart m0 _:=.inr ⟨bb,my,λo=>by rw[cB bb o' u' hu' o];exact lM o⟩
     refine⟨.inr (.inr (by omega)),Rx.ZcF r,t.cs,Zan _,rfl,((Zsu bG).mono bX).mono iY,.inr ⟨b6,0,rfl,λj v hj=>by rw[Nat.zero_add,Mem.add_same];exact hj⟩,by rw[<-ZbA];exact Zfu _,by omega,by omega,λa4 c4 m4 bZ cO bU M dR dW gU dQ=>⟨by trivial,N - (i+1),by omega,i+1,r++[t],a4,c4,u,g,m0,by omega,?_,?_,by have:=bU.1;rw[List.length_append];exact this,mLt jJ h0,mLt nR dW,fY.tok (mLt nR iY) bU,?_,?_,?_,by omega⟩⟩
     ·rw[List.length_append];rfl
     ·rw[List.length_append];rfl
     ·rw[ZaP,ZbA];exact cO.mono dQ
     ·intro z hz
      rcases List.mem_append.1 hz with hz|hz
      ·exact(bY z (by simp[hz])).mono h0
      ·simp at hz;subst hz;exact mO
     ·rw[ht];exact hJ.join (by omega) (by omega) _ _
    ·refine⟨decide (s1 % 12=9)&&(decide (0 < ts.length)&&decide (g < 9)),Zab (λh5=>Zab (λh6=>⟨by trivial,by trivial,?_⟩) (λh6=>⟨by trivial,by trivial,?_⟩)) (λh5=>⟨by trivial,by trivial,?_⟩),Zab (λh5=>?_) (λh5=>?_)⟩
     ·refine Zaq ?_
      have e1:=of_decide_eq_true h6
      have e2:s1 % 12=9:=by have:=h5;simp at this;omega
      rw[decide_eq_true e2,decide_eq_true (show 0 < ts.length by omega),Bool.true_and,Bool.true_and,Bool.eq_iff_iff];simp;omega
     ·refine Zaq ?_
      have e1:=of_decide_eq_false h6
      rw[decide_eq_false (show ¬0 < ts.length by omega)];simp
     ·refine Zaq ?_
      have e2:¬s1 % 12=9:=by have:=h5;simp at this;omega
      rw[decide_eq_false e2];rfl
     ·
      have Az:g < 9:=by simp at h5;omega
      skip
      obtain⟨r,x,rfl⟩:=ZzR (ts:=ts) (by simp at h5;omega)
      have jK:(r++[x]).length=r.length+1:=by simp
      have eF:IntKind.i64.wrap (((r++[x]).length:Int) - 1)=(r.length:Int):=by rw[jK,ZaO (by omega) (by omega)];omega
      obtain⟨bb,my,lM,o',u',hu'⟩:=cU.base bG (by simp)
      subst my
      obtain⟨bx,ox,pO,nQ⟩:=Zdq bG (i:=r.length) (t:=x) (by simp)
      cases pO
      have AA:IntKind.i64.wrap ((g:Int)+1)=((g+1:Nat):Int):=by rw[ZaO (by omega) (by omega)];rfl
      simp only[eF,AA,Int.toNat_natCast]
      refine⟨_,_,rfl,⟨by omega,by omega⟩,_,_,_,_,_,_,_,_,nQ,Zav ((Zv9 x mb (bY x (by simp))).frame2 eI) (Zel (mb:=mb) (M0:=m1)) (Zkx λt m0 m3 bX h0 nR cB mO ht=>?_)⟩
      obtain⟨at',ct,ht⟩:=ht
      have fY:m0.free bb:=λo=>by rw[cB bb o' u' hu' o];exact lM o
      refine⟨bb,0,rfl,⟨by omega,by omega⟩,rfl,by omega,by trivial,N - (i+1),by omega,i+1,r++[t],_,_,u,g+1,m0,by omega,?_,?_,by rw[List.length_append];rw[jK]at dB;exact dB,mLt jJ h0,Mem.le_upd nR fY _ _,.inr ⟨bb,rfl,fY⟩,Zsv (bG.mono bX),?_,?_,by omega⟩
      ·rw[jK,List.length_append];rfl
      ·rw[jK,List.length_append];rfl
      ·intro z hz
       rcases List.mem_append.1 hz with hz|hz
       ·exact(bY z (by simp[hz])).mono h0
       ·simp at hz;subst hz;exact mO
      ·rw[ht];exact hJ.group Az _ _
     ·by_cases h0:0 < ts.length
      ·skip
       obtain⟨r,x,rfl⟩:=ZzR (ts:=ts) (by exact h0)
       have jK:(r++[x]).length=r.length+1:=by simp
       have eF:IntKind.i64.wrap (((r++[x]).length:Int) - 1)=(r.length:Int):=by rw[jK,ZaO (by omega) (by omega)];omega
       obtain⟨bb,my,lM,o',u',hu'⟩:=cU.base bG (by simp)
       subst my
       obtain⟨bx,ox,pO,nQ⟩:=Zdq bG (i:=r.length) (t:=x) (by simp)
       cases pO
       have AB:IntKind.i64.wrap (Int.tmod (intOf (Value.int .u8 (s2:Nat))) 3)=((s2 % 3:Nat):Int):=by
        rw[show Int.tmod (intOf (Value.int .u8 (s2:Nat))) 3=((s2 % 3:Nat):Int) from rfl,ZaO (by omega) (by omega)]
       have AC:IntKind.i64.wrap (Int.tmod (intOf (Value.int .u8 (s3:Nat))) 4)=((s3 % 4:Nat):Int):=by
        rw[show Int.tmod (intOf (Value.int .u8 (s3:Nat))) 4=((s3 % 4:Nat):Int) from rfl,ZaO (by omega) (by omega)]
       simp only[eF,AB,AC,Int.toNat_natCast]
       have AD:s2 % 3 < 3:=by omega
       have dQ:s3 % 4 < 4:=by omega
       generalize s2 % 3=L at *
       generalize s3 % 4=Mo at *
       refine⟨decide (9 < s1 % 12)&&!(x.k == 1),Zab (λh6=>Zab (λh7=>⟨_,_,rfl,⟨by omega,by omega⟩,.int .u8 x.k,nQ 0 _ rfl,Zaa rfl ⟨by trivial,by trivial,?_⟩⟩) (λh7=>absurd h7 (by simp))) (λh6=>⟨by trivial,by trivial,?_⟩),Zab (λh6=>Zaa rfl ⟨by omega,Zaa rfl ⟨by omega,?_⟩⟩) (λh6=>⟨by trivial,N - (i+1),by omega,i+1,r++[x],_,_,u,g,mb,by omega,rfl,rfl,dB,jJ,eI,cU,bG,bY,hJ.skip,by omega⟩)⟩
       ·refine Zaq ?_
        have:=of_decide_eq_true h6
        rw[decide_eq_true (show 9 < s1 % 12 by omega),Bool.true_and];rfl
       ·refine Zaq ?_
        have:=of_decide_eq_false h6
        rw[decide_eq_false (show ¬9 < s1 % 12 by omega)];rfl
       ·have gA:x.k≠1:=by
         rw[Bool.and_eq_true]at h6
         simpa using h6.2
        obtain⟨tab1,tab2⟩:=Zx8 L AD Mo dQ
        refine⟨decide (Mo < L\/Mo=0\/(L=1/\Mo=1)),Zab (λg1=>⟨by trivial,by trivial,Zaq ?_⟩) (λg1=>Zab (λg2=>⟨by trivial,by trivial,Zaq ?_⟩) (λg2=>Zab (λg3=>⟨by trivial,by trivial,Zaq ?_⟩) (λg3=>⟨by trivial,by trivial,Zaq ?_⟩))),Zab (λg4=>?_) (λg4=>?_)⟩
        ·have:=of_decide_eq_true g1
         exact(decide_eq_true (by omega)).symm
        ·have:Mo=0:=by simp at g2;omega
         exact(decide_eq_true (by omega)).symm
        ·have e1:=of_decide_eq_false g1
         have e2:¬Mo=0:=by simp at g2;omega
         have e3:L=1:=by simp at g3;omega
         rw[Bool.eq_iff_iff];simp;omega
        ·have e1:=of_decide_eq_false g1
         have e2:¬Mo=0:=by simp at g2;omega
         have e3:¬L=1:=by simp at g3;omega
         exact(decide_eq_false (by omega)).symm
        ·
         have hA:(if(1:Int) > (if(-1:Int) > (L:Int)then(-1:Int)else(L:Int))then(1:Int)else(if(-1:Int) > (L:Int)then(-1:Int)else(L:Int)))=((max 1 L:Nat):Int):=by
          split <;> split <;> omega
         obtain⟨tb,tp⟩:=tab1 (of_decide_eq_true g4)
         have tT:u*max 1 L<=48:=by have:=Nat.mul_le_mul hJ.u16 (show max 1 L<=3 by omega);omega
         have wR:IntKind.i64.wrap ((u:Int)*((max 1 L:Nat):Int))=((u*max 1 L:Nat):Int):=by rw[<-Int.natCast_mul];exact ZaO (by omega) (by omega)
         simp only[hA,wR]
         refine Zab (λg5=>?_) (λg5=>⟨by trivial,N - (i+1),by omega,i+1,r++[x],_,_,u,g,mb,by omega,rfl,rfl,dB,jJ,eI,cU,bG,bY,hJ.skip,by omega⟩)
         have rN:u*max 1 L<=16:=by have:=of_decide_eq_true g5;omega
         refine⟨_,_,rfl,⟨by omega,by omega⟩,_,_,_,_,_,_,_,_,nQ,Zav ((Zx7 x (L:Nat) (-1:Int) ⟨by omega,by omega⟩ ⟨by omega,by omega⟩ mb (bY x (by simp))).frame2 eI) (Zel (mb:=mb) (M0:=m1)) (Zkx λt m0 m3 bX h0 nR cB mO ht=>?_)⟩
         obtain⟨at',ct,ht⟩:=ht
         have fY:m0.free bb:=λo=>by rw[cB bb o' u' hu' o];exact lM o
         refine⟨bb,0,rfl,⟨by omega,by omega⟩,rfl,by omega,by trivial,N - (i+1),by omega,i+1,r++[t],_,_,u*max 1 L,g,m0,by omega,?_,?_,by rw[List.length_append];rw[jK]at dB;exact dB,mLt jJ h0,Mem.le_upd nR fY _ _,.inr ⟨bb,rfl,fY⟩,Zsv (bG.mono bX),?_,?_,by omega⟩
         ·rw[jK,List.length_append];rfl
         ·rw[jK,List.length_append];rfl
         ·intro z hz
          rcases List.mem_append.1 hz with hz|hz
          ·exact(bY z (by simp[hz])).mono h0
          ·simp at hz;subst hz;exact mO
         ·rw[ht];exact hJ.rep gA tb tp (by omega) rN _ _
        ·
         have hA:(if(1:Int) > (if((Mo:Int)) > (L:Int)then((Mo:Int))else(L:Int))then(1:Int)else(if((Mo:Int)) > (L:Int)then((Mo:Int))else(L:Int)))=((max 1 (max L Mo):Nat):Int):=by
          split <;> split <;> omega
         obtain⟨tb,tp⟩:=tab2 (of_decide_eq_false g4)
         have tT:u*max 1 (max L Mo)<=48:=by have:=Nat.mul_le_mul hJ.u16 (show max 1 (max L Mo)<=3 by omega);omega
         have wR:IntKind.i64.wrap ((u:Int)*((max 1 (max L Mo):Nat):Int))=((u*max 1 (max L Mo):Nat):Int):=by rw[<-Int.natCast_mul];exact ZaO (by omega) (by omega)
         simp only[hA,wR]
         refine Zab (λg5=>?_) (λg5=>⟨by trivial,N - (i+1),by omega,i+1,r++[x],_,_,u,g,mb,by omega,rfl,rfl,dB,jJ,eI,cU,bG,bY,hJ.skip,by omega⟩)
         have rN:u*max 1 (max L Mo)<=16:=by have:=of_decide_eq_true g5;omega
         refine⟨_,_,rfl,⟨by omega,by omega⟩,_,_,_,_,_,_,_,_,nQ,Zav ((Zx7 x (L:Nat) ((Mo:Int)) ⟨by omega,by omega⟩ ⟨by omega,by omega⟩ mb (bY x (by simp))).frame2 eI) (Zel (mb:=mb) (M0:=m1)) (Zkx λt m0 m3 bX h0 nR cB mO ht=>?_)⟩
         obtain⟨at',ct,ht⟩:=ht
         have fY:m0.free bb:=λo=>by rw[cB bb o' u' hu' o];exact lM o
         refine⟨bb,0,rfl,⟨by omega,by omega⟩,rfl,by omega,by trivial,N - (i+1),by omega,i+1,r++[t],_,_,u*max 1 (max L Mo),g,m0,by omega,?_,?_,by rw[List.length_append];rw[jK]at dB;exact dB,mLt jJ h0,Mem.le_upd nR fY _ _,.inr ⟨bb,rfl,fY⟩,Zsv (bG.mono bX),?_,?_,by omega⟩
         ·rw[jK,List.length_append];rfl
         ·rw[jK,List.length_append];rfl
         ·intro z hz
          rcases List.mem_append.1 hz with hz|hz
          ·exact(bY z (by simp[hz])).mono h0
          ·simp at hz;subst hz;exact mO
         ·rw[ht];exact hJ.rep gA tb tp (by omega) rN _ _
      ·refine⟨false,Zab (λh6=>Zab (λh7=>absurd (of_decide_eq_true h7) (by omega)) (λh7=>⟨by trivial,by trivial,rfl⟩)) (λh6=>⟨by trivial,by trivial,rfl⟩),ZpA rfl ⟨by trivial,N - (i+1),by omega,i+1,ts,_,_,u,g,mb,by omega,rfl,rfl,dB,jJ,eI,cU,bG,bY,hJ.skip,by omega⟩⟩
 ·have Ay:i=N:=by have:=of_decide_eq_false cP;omega
  have bH:=mLt jJ eI
  refine Zab (λh0=>?_) (λh0=>?_)
  ·have wS:(Zb7 ⟨#[97]⟩)=Zes 0:=by rfl
   refine Zav (ZpD ⟨#[97]⟩ (by decide) m1) ZaL (Zco λt m2 bL hr ht=>ZhE (mLt bH bL) ⟨t,rfl,hr,?_⟩)
   rw[wS]at ht
   obtain⟨k1,k2,k3,k4⟩:=ZrW 0
   rw[<-ht]at k1 k2 k3 k4
   exact F.done (l:=[]) ⟨k1,by simp,by simp[szL,Zak,k2],by simp[ZeS];omega,by simp[grL,Zak,k4]⟩
  ·obtain⟨t0,rest,rfl⟩:∃t r,ts=t::r:=by cases ts with
    | nil=>simp at h0
    | cons t r=>exact⟨t,r,rfl⟩
   have hF:=F.start hJ (by omega)
   obtain⟨bb,my,lM,o',u',hu'⟩:=cU.base bG (by simp)
   subst my
   obtain⟨bx,ox,pO,nQ⟩:=Zdq bG (i:=0) (t:=t0) rfl
   cases pO
   rw[List.length_cons]at eT dB
   refine⟨_,_,rfl,⟨by omega,by simp⟩,_,_,_,_,_,_,_,_,nQ,λb2=>Zaa rfl ⟨⟨by omega,by rw[List.length_cons];omega⟩,?_⟩⟩
   refine⟨λxs css tvs m' q=>∃(k:Nat)(t:T),k<=rest.length/\xs=[.int .i64 k]/\css=[t.cs]/\m1.le m'/\Rep m' t/\F t (rest.drop k)/\q=rest.length - k,⟨rest.length,0,t0,by omega,rfl,rfl,Mem.le_refl _,(bY t0 (by simp)).mono eI,hF,by omega⟩,?_⟩
   rintro z cs m2 q2 _ ⟨k,t,hk,hz,cR,bL,mO,u2,kR⟩
   obtain rfl:z=k:=by simpa using hz
   obtain rfl:cs=t.cs:=by simpa using cR
   have AE:((t0::rest).length - Int.toNat 1)=rest.length:=by simp
   simp only[AE]
   refine Zab (λbF=>?_) (λrO=>Zaa rfl (ZhE (mLt bH bL) ⟨t,rfl,mO,u2.done⟩))
   have bI:k < rest.length:=by have:=of_decide_eq_true bF;omega
   obtain⟨x,hx⟩:=ZdP bI
   obtain⟨b3,o3,AF,td⟩:=Zdq (bG.mono bL) (i:=k+1) (t:=x) (by simpa using hx)
   cases AF
   have fQ:IntKind.i64.wrap ((k:Int)+1)=((k+1:Nat):Int):=by rw[ZaO (by omega) (by omega)];rfl
   simp only[fQ,Int.toNat_natCast]
   rw[Ziu hx]at u2
   have bW:=u2.sz
   rw[Zlj]at bW
   have yD:=ZfP (k:=4) (t:=t)
   have yG:=ZfP (k:=4) (t:=x)
   have mP:ZaC (some (⟨bb,0,none⟩:Addr)) (Int.toNat 1) c2 8=some ⟨bb,0+8,none⟩:=by
    unfold ZaC
    have:Nat.beq c2 1=false:=by
     cases hb:Nat.beq c2 1 with
     | false=>rfl
     | true=>have:=Nat.eq_of_beq_eq_true hb;omega
    show(bif Nat.beq c2 1 then _ else some (Addr.add _ (1*8)))=_
    rw[this,ZbZ];rfl
   refine⟨_,_,mP,⟨by omega,by omega⟩,_,_,_,_,_,_,_,_,by rw[show 0+8+k*8=0+(k+1)*8 by omega];exact td,λb4=>Zaa rfl (Zav (Zn2 4 t x (.inr rfl) m2 mO ((bY x (by simp[List.mem_of_getElem? hx])).mono (mLt eI bL)) (by omega) (by omega)) ZaL (Zco λt' m3 bX hr' ht'=>⟨by trivial,by trivial,rest.length - (k+1),by omega,k+1,t',by omega,rfl,rfl,mLt bL bX,hr',?_,by omega⟩))⟩
   obtain⟨a3,c3,ht'⟩:=ht'
   rw[ht'];exact u2.step _ _
end Go.Proofs.Ytgclajkldphoaaa
namespace Go.Proofs.Ytgclajkldphoaaa
open Go Go.Eng Go.Rx Go.Proofs Go.RowKit Go.ChangeShapes Go.WideShapes Go.ChangeAt
set_option maxRecDepth 100000
theorem Zzn:ownKnob Try.prog.godebug=none:=by kernel_rfl
theorem Zx9:laidOutB Try.prog=true:=by kernel_rfl
theorem Zya{n:Int}(h:(Lit.int .u8 n).wf=true):0<=n/\n < 256:=by
 have:0<=n/\n<=255:=by simpa[Lit.wf,IntKind.min,IntKind.max,IntKind.signed,IntKind.bits]using h
 omega
theorem ZpF{w:World}{a:Addr}{v:Value}(h:w.cell? ((a.add (0*3)).add 0)=some v):∃b o,a=⟨b,o,none⟩:=by
 obtain⟨b,o,sp⟩:=a
 cases sp with
 | none=>exact⟨b,o,rfl⟩
 | some s=>
  exfalso
  have e:(Addr.add (Addr.add ⟨b,o,some s⟩ (0*3)) 0)=⟨b,o,some s⟩:=rfl
  rw[e]at h
  unfold World.cell? at h
  split at h
  ·simp at h
  ·cases h
theorem Zu8:Try.prog.cellsOf 22=1/\Try.prog.cellsOf 78=3:=⟨by kernel_rfl,by kernel_rfl⟩
theorem ZtW{H:Type}{enc:TypeId×Value->H}{w:World}{base:Nat}{sp:Nat->Bool}{fO:Bool}{n:Nat}{cs:List Value}{x:DataW H×List MemPlace}(h:DataW.trod enc Try.prog w base sp fO n 78 cs=some x):
  ∃s:Nat×Nat×Nat,cs=[.int .u8 s.1,.int .u8 s.2.1,.int .u8 s.2.2]/\s.1 < 256/\s.2.1 < 256/\s.2.2 < 256:=by
 obtain⟨xs,k,rfl,rfl,bM,cJ,hx⟩:=DataW.trod_struct (fs:=(Try.prog.fieldsOf 78)) (by kernel_rfl) h
 rw[Zu8.2]at bM
 have hf:(Try.prog.fieldsOf 78)=#[⟨ "Kind",5,0,false, "", "",0⟩,⟨ "N",5,1,false, "", "",1⟩,⟨ "M",5,2,false, "", "",2⟩]:=by kernel_rfl
 rw[hf]at hx cJ
 have hc:Try.prog.cellsOf 5=1:=by kernel_rfl
 obtain⟨c0,c1,c2,rfl⟩:∃a b c,cs=[a,b,c]:=by
  match cs,bM with
  | [a,b,c],_=>exact⟨a,b,c,rfl⟩
 have get:∀i,i < 3->∃z,xs[i]?=some z:=λi hi=>⟨xs[i]'(by rw[cJ];exact hi),List.getElem?_eq_getElem _⟩
 have h0:DataW.trod enc Try.prog w base sp fO k 5 (List.take (Try.prog.cellsOf 5) (List.drop 0 [c0,c1,c2]))=xs[0]?:=hx 0 _ rfl
 have h1:DataW.trod enc Try.prog w base sp fO k 5 (List.take (Try.prog.cellsOf 5) (List.drop 1 [c0,c1,c2]))=xs[1]?:=hx 1 _ rfl
 have h2:DataW.trod enc Try.prog w base sp fO k 5 (List.take (Try.prog.cellsOf 5) (List.drop 2 [c0,c1,c2]))=xs[2]?:=hx 2 _ rfl
 obtain⟨z0,e0⟩:=get 0 (by omega)
 obtain⟨z1,e1⟩:=get 1 (by omega)
 obtain⟨z2,e2⟩:=get 2 (by omega)
 rw[e0,hc]at h0
 rw[e1,hc]at h1
 rw[e2,hc]at h2
 have g0:DataW.trod enc Try.prog w base sp fO k 5 [c0]=some z0:=h0
 have g1:DataW.trod enc Try.prog w base sp fO k 5 [c1]=some z1:=h1
 have g2:DataW.trod enc Try.prog w base sp fO k 5 [c2]=some z2:=h2
 obtain⟨n0,k0,_,w0⟩:=DataW.trod_int Try.underlying5 g0
 obtain⟨n1,k1,_,w1⟩:=DataW.trod_int Try.underlying5 g1
 obtain⟨n2,k2,_,w2⟩:=DataW.trod_int Try.underlying5 g2
 simp at k0 k1 k2
 have:=Zya w0
 have:=Zya w1
 have:=Zya w2
 obtain⟨m0,rfl⟩:∃k:Nat,n0=k:=⟨n0.toNat,by omega⟩
 obtain⟨m1,rfl⟩:∃k:Nat,n1=k:=⟨n1.toNat,by omega⟩
 obtain⟨m2,rfl⟩:∃k:Nat,n2=k:=⟨n2.toNat,by omega⟩
 exact⟨(m0,m1,m2),by rw[k0,k1,k2],by simp;omega,by simp;omega,by simp;omega⟩
theorem ZpG{H:Type}{enc:TypeId×Value->H}{W:World}{fO:Bool}{n:Nat}{cs:List Value}{x:DataW H×List MemPlace}(h:DataW.trod enc Try.prog W 0 (λ_=>true) fO n 22 cs=some x):
  ∃l a c,cs=[.slice a l.length c]/\Sm (ZwB W) a l/\l.length<=c:=by
 rcases Go.Deep.open_slice Try.underlying22 h with⟨cR,_⟩|⟨a,len,m,m',n',D,Pl,cR,hb,hl,hm,eO,_,hx⟩
 ·exact⟨[],none,0,cR,⟨by simp,by simp,λi s hi=>by simp at hi⟩,Nat.le_refl _⟩
 ·simp only[if_true]at eO
  subst eO
  rw[Zu8.2]at hx
  obtain⟨F,hF⟩:=Go.Deep.choose_lt (α:=Nat×Nat×Nat) (n:=m') (p:=λi s=>(∀j v,[Value.int .u8 (s.1:Nat),.int .u8 (s.2.1:Nat),.int .u8 (s.2.2:Nat)][j]?=some v->W.cell? ((a.add (i*3)).add j)=some v)/\s.1 < 256/\s.2.1 < 256/\s.2.2 < 256) (λi hi=>by
   obtain⟨cs,h1,h2⟩:=hx i hi
   obtain⟨s,rfl,hs⟩:=ZtW h2
   obtain⟨_,_,hc⟩:=World.cells?_some h1
   refine⟨s,λj v hj=>?_,hs⟩
   have bF:=(List.getElem?_eq_some_iff.1 hj).1
   rw[hc j (by simpa using bF)];exact hj)
  refine⟨(List.range len).map F,some a,m',by rw[cR];simp,⟨by simp[maxLen]at hm ⊢;omega,?_,?_⟩,by simpa using hl⟩
  ·intro s hs
   obtain⟨i,hi,rfl⟩:=List.mem_map.1 hs
   exact(hF i (by have:=List.mem_range.1 hi;omega)).2
  ·intro i s hi
   rw[List.getElem?_map]at hi
   obtain⟨i',hi',rfl⟩:=Option.map_eq_some_iff.1 hi
   have bF:i < len:=by have:=(List.getElem?_eq_some_iff.1 hi').1;simpa using this
   have e:i'=i:=by rw[List.getElem?_range bF]at hi';exact(Option.some.inj hi').symm
   subst e
   obtain⟨h1,_⟩:=hF i' (by omega)
   obtain⟨b,o,rfl⟩:=ZpF ((hF 0 (by omega)).1 0 _ rfl)
   refine⟨b,o,rfl,λj v hj=>?_⟩
   have:=h1 j v hj
   rw[ZbZ,ZbZ]at this
   exact this
theorem ZkA(a:Option Addr)(n c:Nat):(Value.slice a n c).cells.toList=[.slice a n c]:=rfl
theorem ZkB{H:Type}{enc:TypeId×Value->H}{W:World}{fO:Bool}{v:Value}{d:DataW H}{ps:List MemPlace}{r:Reach}{b0:Nat}(fZ:Value.okWide Try.prog W r b0 22 v)(h:DataW.Trod enc Try.prog W 0 (λ_=>true) fO 22 v d ps):
  ∃l a c,v=.slice a l.length c/\Sm (ZwB W) a l/\l.length<=c:=by
 obtain⟨n,h⟩:=h
 obtain⟨a0,len0,cap0,rfl⟩:=okWide_slice Try.underlying22 fZ
 rw[ZkA]at h
 obtain⟨l,a,c,cR,h1,h2⟩:=ZpG h
 exact⟨l,a,c,by simpa using cR,h1,h2⟩
theorem Zzo:Try.prog.cellsOf 5=1:=by kernel_rfl
theorem Zyb{H:Type}{enc:TypeId×Value->H}{W:World}{fO:Bool}{v:Value}{d:DataW H}{ps:List MemPlace}{r:Reach}{b0:Nat}(fZ:Value.okWide Try.prog W r b0 35 v)(h:DataW.Trod enc Try.prog W 0 (λ_=>true) fO 35 v d ps):
  ∃s a c,v=.slice a s.length c/\Byt (ZwB W) a s/\s.length<=c/\s.length<=9223372036854775807:=by
 obtain⟨n,h⟩:=h
 obtain⟨a0,len0,cap0,rfl⟩:=okWide_slice Try.underlying35 fZ
 rw[ZkA]at h
 rcases Go.Deep.open_slice1 Try.underlying35 Zzo h with⟨cR,_⟩|⟨a,len,m,m',n',V,D,Pl,cR,hb,hl,hm,eO,_,hx⟩
 ·exact⟨[],none,0,by simpa using cR,⟨.inl rfl,by simp⟩,Nat.le_refl _,by simp⟩
 ·simp only[if_true]at eO
  subst eO
  have hm':m'<=9223372036854775807:=by simp[maxLen]at hm;omega
  obtain⟨F,hF⟩:=Go.Deep.choose_lt (α:=Nat) (n:=m') (p:=λi s=>W.cell? (a.add i)=some (.int .u8 (s:Nat))/\s < 256) (λi hi=>by
   obtain⟨h1,h2⟩:=hx i hi
   obtain⟨k,hk,_,hw⟩:=DataW.trod_int Try.underlying5 h2
   have:=Zya hw
   obtain⟨k',rfl⟩:∃k':Nat,k=k':=⟨k.toNat,by omega⟩
   simp at hk
   exact⟨k',by rw[h1,hk],by omega⟩)
  refine⟨(List.range len).map F,some a,m',by have:=cR;simp at this ⊢;exact this,⟨?_,?_⟩,by simpa using hl,by simp;omega⟩
  ·by_cases h0:len=0
   ·left;subst h0;rfl
   ·right
    obtain⟨b,o,rfl⟩:=ZpF (a:=a) (v:=.int .u8 (F 0:Nat)) (by
     have:=(hF 0 (by omega)).1
     exact this)
    refine⟨b,o,rfl,λj v hj=>?_⟩
    rw[List.map_map,List.getElem?_map]at hj
    obtain⟨i',hi',rfl⟩:=Option.map_eq_some_iff.1 hj
    have bF:j < len:=by have:=(List.getElem?_eq_some_iff.1 hi').1;simpa using this
    have e:i'=j:=by rw[List.getElem?_range bF]at hi';exact(Option.some.inj hi').symm
    subst e
    have:=(hF i' (by omega)).1
    rw[ZbZ]at this
    exact this
  ·intro c hc
   obtain⟨i,hi,rfl⟩:=List.mem_map.1 hc
   exact(hF i (by have:=List.mem_range.1 hi;omega)).2
end Go.Proofs.Ytgclajkldphoaaa