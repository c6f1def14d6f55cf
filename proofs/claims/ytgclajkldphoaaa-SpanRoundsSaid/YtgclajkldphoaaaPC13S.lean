/- Part of the proof: conditions and contracts of functions of this program. No condition of its own. -/
import Derived.Test.YtgclajkldphoaaaPVC
import Derived.Test.YtgclajkldphoaaaPC13R
import Derived.Test.YtgclajkldphoaaaMr
import Derived.Test.YtgclajkldphoaaaPVD
import Derived.Test.YtgclajkldphoaaaMc
import Derived.Test.YtgclajkldphoaaaRows
set_option linter.unusedVariables false
set_option linter.unusedSimpArgs false
set_option linter.unusedSectionVars false
namespace Go.Proofs.Ytgclajkldphoaaa
open Go Go.Eng Go.Rx Go.Proofs Go.RowKit
set_option maxRecDepth 100000
abbrev txV(a:Option Addr)(s:List Nat)(c:Nat)(back:Bool):Value:=.agg #[.slice a s.length c,.bool back]
theorem ZuI(t:T)(a:Option Addr)(s:List Nat)(c:Nat)(back:Bool)(f:Nat)(m:Mem)(hr:Rep m t)(hb:Byt m a s)(hs:s.length<=512):CX Try.prog 103 #[txV a s c back,t.v,plV f] m [] (Ret (plV (ZrJ t back f s 0 0))):=by
 apply ZeL
 unfold ZcO
 intro b m1 bH _ b1 m2 bO _ b2 m3 bX eB b3 b4
 refine⟨λxs css _ m' q=>∃k o:Nat,k<=s.length/\xs=[.int .i64 k]/\css=[plL o]/\ZrJ t back f (s.drop k) k o=ZrJ t back f s 0 0/\m3.le m'/\q=s.length - k,⟨_,0,0,by omega,rfl,rfl,rfl,Mem.le_refl _,rfl⟩,?_⟩
 rintro n cs m4 q cB ⟨k,o,hk,hn,cP,eZ,_,hq⟩
 obtain rfl:n=k:=by simpa using hn
 obtain rfl:cs=plL o:=by simpa using cP
 have dV:m.le m4:=mLt bH (mLt bO (mLt bX cB))
 refine Zab (λbF=>?_) (λcR=>?_)
 ·have bI:k < s.length:=by have:=of_decide_eq_true bF;omega
  obtain⟨ch,t7⟩:=Zfl bI
  have hw:IntKind.i64.wrap ((k:Int)+1)=((k+1:Nat):Int):=by rw[ZaK (by omega) (by omega)];rfl
  have dM:ZrJ t back f (s.drop (k+1)) (k+1) (Zod t back f k ch o)=ZrJ t back f s 0 0:=by rw[ZhW t7]at eZ;exact eZ
  obtain⟨⟨b5,o5,ha,hv⟩,jE⟩:=(hb.mono dV).get t7
  simp only[hw,Int.toNat_natCast,Nat.mul_one]
  refine⟨b5,o5,ha,⟨by omega,by omega⟩,_,hv,?_⟩
  cases back with
  | true=>
   refine Zss (x:=true) rfl ?_
   refine⟨f.testBit (k+1)&&t.hasB ch,Zaq (ZrB f (k+1) (by omega) b2 m4 (eB.mono cB)) λm5 c7=>Zab (λh=>Zaq (ZrC t ch jE m5 (hr.mono (mLt dV c7))) λm6 eP=>⟨by trivial,by rw[h,Bool.true_and]⟩) (λh=>⟨by trivial,by rw[h,Bool.false_and]⟩),Zab (λh=>?_) (λh=>?_)⟩
   ·refine⟨λi _ _=>if i=2 then Ret (plV (2 ^ k))else Ret (plV (o|||2 ^ k)),Ret (plV (2 ^ k)),rfl,Zxw k (by omega) m4,Zbx,Zpl λm5 c7=>⟨Ret (plV (o|||2 ^ k)),rfl,ZwM o (2 ^ k) m5,Zbx,Zpl λm6 eP M dL dR kB=>⟨by trivial,s.length - (k+1),by omega,k+1,o|||2 ^ k,by omega,rfl,rfl,?_,mLt cB dL,rfl⟩⟩⟩
    rw[<-dM];unfold Zod;rw[if_pos (by simpa using h)];rfl
   ·refine⟨by trivial,s.length - (k+1),by omega,k+1,o,by omega,rfl,rfl,?_,cB,rfl⟩
    rw[<-dM];unfold Zod;rw[if_neg (by simpa using h)]
  | false=>
   refine Zss (x:=false) rfl ?_
   refine⟨f.testBit k&&t.hasB ch,Zaq (ZrB f k (by omega) b2 m4 (eB.mono cB)) λm5 c7=>Zab (λh=>Zaq (ZrC t ch jE m5 (hr.mono (mLt dV c7))) λm6 eP=>⟨by trivial,by rw[h,Bool.true_and]⟩) (λh=>⟨by trivial,by rw[h,Bool.false_and]⟩),Zab (λh=>?_) (λh=>?_)⟩
   ·refine⟨λi _ _=>if i=2 then Ret (plV (2 ^ (k+1)))else Ret (plV (o|||2 ^ (k+1))),Ret (plV (2 ^ (k+1))),rfl,Zxw (k+1) (by omega) m4,Zbx,Zpl λm5 c7=>⟨Ret (plV (o|||2 ^ (k+1))),rfl,ZwM o (2 ^ (k+1)) m5,Zbx,Zpl λm6 eP M dL dR kB=>⟨by trivial,s.length - (k+1),by omega,k+1,o|||2 ^ (k+1),by omega,rfl,rfl,?_,mLt cB dL,rfl⟩⟩⟩
    rw[<-dM];unfold Zod;rw[if_pos (by simpa using h)];rfl
   ·refine⟨by trivial,s.length - (k+1),by omega,k+1,o,by omega,rfl,rfl,?_,cB,rfl⟩
    rw[<-dM];unfold Zod;rw[if_neg (by simpa using h)]
 ·have:k=s.length:=by have:=of_decide_eq_false cR;omega
  subst this
  refine Zaa rfl (Zah dV ?_)
  rw[List.drop_length]at eZ
  rw[<-eZ];rfl
theorem ZwO(t:T)(f:Nat)(m:Mem):CX Try.prog 101 #[t.v,plV f] m [] (Ret (plV 0)):=by
 apply ZdA
 unfold Zcf
 intro b m1 bH _ b1 m2 bO _ b2
 exact Zah (mLt bH bO) rfl
theorem ZuJ(t:T)(f:Nat)(m:Mem):CX Try.prog 102 #[t.v,plV f] m [] (Ret (plV f)):=by
 apply ZdB
 unfold Zcg
 intro b m1 bH _ b1 m2 bO _ b2
 exact Zah (mLt bH bO) rfl
def IH(a:Option Addr)(s:List Nat)(c:Nat)(back:Bool)(t:T):Prop:=∀x∈t.subs,∀(f:Nat)(m:Mem),f < Zcz->Rep m x->Byt m a s->CX Try.prog 64 #[txV a s c back,x.v,plV f] m [] (Ret (plV (x.lead s back f)))
section
variable (t:T) (a:Option Addr) (s:List Nat) (c:Nat) (back:Bool) (f:Nat) (m:Mem) (hr:Rep m t) (hb:Byt m a s) (hs:s.length<=512) (ih:IH a s c back t) (hf:f < Zcz)
include hr hb hs ih hf
theorem ZxX(pb po:Nat)(hp:m.reads pb po [.slice a s.length c,.bool back]):CX Try.prog 104 #[t.v,plV f,.pointer (some ⟨pb,po,none⟩)] m [] (Ret (plV (if back then Zf6 s back t.subs f else Zgw s back t.subs f))):=by
 apply ZdC
 unfold Zch
 intro b m1 bH _ b1 b2
 obtain⟨bL,bV⟩:=Zdq hr
 refine⟨λxs css _ m' q=>∃k o:Nat,k<=t.subs.length/\xs=[.int .i64 k]/\css=[plL o]/\o < Zcz/\(if back then Zf6 s back (t.subs.take (t.subs.length - k)) o else Zgw s back (t.subs.drop k) o)=(if back then Zf6 s back t.subs f else Zgw s back t.subs f)/\m1.le m'/\q=t.subs.length - k,⟨_,0,f,by omega,rfl,rfl,hf,by rw[Nat.sub_zero,List.take_length,List.drop_zero],Mem.le_refl _,rfl⟩,?_⟩
 rintro n cs m4 q cB ⟨k,o,hk,hn,cP,ho,eZ,_,hq⟩
 obtain rfl:n=k:=by simpa using hn
 obtain rfl:cs=plL o:=by simpa using cP
 have dV:m.le m4:=mLt bH cB
 refine Zab (λbF=>?_) (λcR=>?_)
 ·have bI:k < t.subs.length:=by have:=of_decide_eq_true bF;omega
  have hw:IntKind.i64.wrap ((k:Int)+1)=((k+1:Nat):Int):=by rw[ZaK (by omega) (by omega)];rfl
  have eH:IntKind.i64.wrap ((t.subs.length:Int) - 1)=((t.subs.length - 1:Nat):Int):=by rw[ZaK (by omega) (by omega)];omega
  have dX:IntKind.i64.wrap (((t.subs.length - 1:Nat):Int) - k)=((t.subs.length - 1 - k:Nat):Int):=by rw[ZaK (by omega) (by omega)];omega
  rcases bV with bV|⟨sb,so,mL,pP⟩
  ·rw[bV]at bI;simp at bI
  simp only[hw,eH,dX,Int.toNat_natCast]
  refine⟨.bool back,dV _ _ _ (hp 1 _ rfl),Zaa rfl ?_⟩
  cases back with
  | true=>
   refine Zss (x:=true) rfl ?_
   obtain⟨x,hx⟩:=Zfl (l:=t.subs) (k:=t.subs.length - 1 - k) (by omega)
   obtain⟨fA,fE⟩:=pP.get hx
   refine⟨λ_ _ _=>Ret (plV (x.lead s true o)),_,_,hp.mono dV,sb,so,mL,⟨by omega,by omega⟩,_,_,_,_,_,_,_,_,fA.mono dV,Ret (plV (x.lead s true o)),rfl,ih x (List.mem_of_getElem? hx) o m4 ho (fE.mono dV) (hb.mono dV),Zbx,Zpl λm6 eP M dL dR=>⟨by trivial,t.subs.length - (k+1),by omega,k+1,x.lead s true o,by omega,rfl,rfl,Zfh s true hs x o ho,?_,mLt cB dL,rfl⟩⟩
   rw[if_pos rfl,if_pos rfl]at eZ ⊢
   rw[show t.subs.length - k=t.subs.length - 1 - k+1 by omega,Zce hx,Zp9]at eZ
   rw[show t.subs.length - (k+1)=t.subs.length - 1 - k by omega]
   exact eZ
  | false=>
   refine Zss (x:=false) rfl ?_
   obtain⟨x,hx⟩:=Zfl bI
   obtain⟨fA,fE⟩:=pP.get hx
   refine⟨λ_ _ _=>Ret (plV (x.lead s false o)),_,_,hp.mono dV,sb,so,mL,⟨by omega,by omega⟩,_,_,_,_,_,_,_,_,fA.mono dV,Ret (plV (x.lead s false o)),rfl,ih x (List.mem_of_getElem? hx) o m4 ho (fE.mono dV) (hb.mono dV),Zbx,Zpl λm6 eP M dL dR=>⟨by trivial,t.subs.length - (k+1),by omega,k+1,x.lead s false o,by omega,rfl,rfl,Zfh s false hs x o ho,?_,mLt cB dL,rfl⟩⟩
   rw[if_neg (by simp),if_neg (by simp)]at eZ ⊢
   rw[ZhW hx,Zp8]at eZ
   exact eZ
 ·have:k=t.subs.length:=by have:=of_decide_eq_false cR;omega
  subst this
  refine Zaa rfl (Zah dV ?_)
  rw[Nat.sub_self,List.drop_length]at eZ
  rw[<-eZ];cases back <;> rfl
theorem ZxY(pb po:Nat)(hp:m.reads pb po [.slice a s.length c,.bool back]):CX Try.prog 105 #[t.v,plV f,.pointer (some ⟨pb,po,none⟩)] m [] (Ret (plV (Zp7 s back t.subs f 0))):=by
 apply ZdD
 unfold Zci
 intro b m1 bH _ b1 m2 bO _ b2 b3
 obtain⟨bL,bV⟩:=Zdq hr
 refine⟨λxs css _ m' q=>∃k o:Nat,k<=t.subs.length/\xs=[.int .i64 k]/\css=[plL o]/\Zp7 s back (t.subs.drop k) f o=Zp7 s back t.subs f 0/\m2.le m'/\q=t.subs.length - k,⟨_,0,0,by omega,rfl,rfl,rfl,Mem.le_refl _,rfl⟩,?_⟩
 rintro n cs m4 q cB ⟨k,o,hk,hn,cP,eZ,_,hq⟩
 obtain rfl:n=k:=by simpa using hn
 obtain rfl:cs=plL o:=by simpa using cP
 have dV:m.le m4:=mLt bH (mLt bO cB)
 refine Zab (λbF=>?_) (λcR=>?_)
 ·have bI:k < t.subs.length:=by have:=of_decide_eq_true bF;omega
  have hw:IntKind.i64.wrap ((k:Int)+1)=((k+1:Nat):Int):=by rw[ZaK (by omega) (by omega)];rfl
  rcases bV with bV|⟨sb,so,mL,pP⟩
  ·rw[bV]at bI;simp at bI
  simp only[hw,Int.toNat_natCast]
  obtain⟨x,hx⟩:=Zfl bI
  obtain⟨fA,fE⟩:=pP.get hx
  refine⟨sb,so,mL,⟨by omega,by omega⟩,_,_,_,_,_,_,_,_,fA.mono dV,λb5=>Zaa rfl ⟨λi _ _=>if i=4 then Ret (plV (x.lead s back f))else Ret (plV (o|||x.lead s back f)),_,_,hp.mono dV,Ret (plV (x.lead s back f)),rfl,ih x (List.mem_of_getElem? hx) f m4 hf (fE.mono dV) (hb.mono dV),Zbx,Zpl λm5 c7=>⟨Ret (plV (o|||x.lead s back f)),rfl,ZwM o _ m5,Zbx,Zpl λm6 eP M dL dR kB=>⟨by trivial,t.subs.length - (k+1),by omega,k+1,o|||x.lead s back f,by omega,rfl,rfl,?_,mLt cB dL,rfl⟩⟩⟩⟩
  rw[ZhW hx,Zof]at eZ
  exact eZ
 ·have:k=t.subs.length:=by have:=of_decide_eq_false cR;omega
  subst this
  refine Zaa rfl (Zah dV ?_)
  rw[List.drop_length,Zq3]at eZ
  rw[eZ];rfl
theorem ZxZ(x:T)(hx:t.subs=[x])(pb po:Nat)(hp:m.reads pb po [.slice a s.length c,.bool back]):CX Try.prog 108 #[t.v,plV f,.pointer (some ⟨pb,po,none⟩)] m [] (Ret (plV (ZfC s back t.subs f))):=by
 apply ZdE
 unfold Zcj
 intro b m1 bH _ b1 m2 bO _ b2
 obtain⟨bL,bV⟩:=Zdq hr
 have dV:m.le m2:=mLt bH bO
 rcases bV with bV|⟨sb,so,mL,pP⟩
 ·rw[bV]at hx;cases hx
 have gN:t.subs[0]?=some x:=by rw[hx];rfl
 obtain⟨fA,fE⟩:=pP.get gN
 refine⟨λ_ _ _=>Ret (plV (x.lead s back f)),_,_,hp.mono dV,sb,so,mL,⟨by omega,by rw[hx];simp⟩,_,_,_,_,_,_,_,_,fA.mono dV,Ret (plV (x.lead s back f)),rfl,ih x (List.mem_of_getElem? gN) f m2 hf (fE.mono dV) (hb.mono dV),Zbx,Zpl λm6 eP M dL dR=>Zah (mLt dV dL) ?_⟩
 rw[hx];unfold ZfC;rfl
theorem ZsM(x:T)(hx:t.subs=[x])(fT:0<=t.mn):CX Try.prog 107 #[txV a s c back,t.v,plV f] m [] (Ret (plV (Zv6 (ZfC s back t.subs) t.mn t.mx f))):=by
 apply Zej
 unfold ZcB
 intro b m1 bH _ b1 m2 bO _ b2 b3
 obtain⟨bL,bV⟩:=Zdq hr
 rcases bV with bV|⟨sb,so,mL,pP⟩
 ·rw[bV]at hx;cases hx
 have gN:t.subs[0]?=some x:=by rw[hx];rfl
 obtain⟨fA,fE⟩:=pP.get gN
 have hg:ZfC s back t.subs=x.lead s back:=by rw[hx];rfl
 have nM:t.subs.length=1:=by rw[hx];rfl
 have bY:=Zul hr
 obtain⟨N,hN⟩:∃N:Nat,t.mn=N:=⟨t.mn.toNat,by omega⟩
 have BE:=bY.mn
 rw[hg,hN]
 unfold Zv6
 rw[Int.toNat_natCast]
 refine⟨λxs css _ m' q=>∃k o:Nat,k<=N/\xs=[.int .i64 k]/\css=[plL o]/\o < Zcz/\Zvm (x.lead s back) (N - k) o=Zvm (x.lead s back) N f/\m2.le m'/\q=N - k,⟨_,0,f,by omega,rfl,rfl,hf,rfl,Mem.le_refl _,rfl⟩,?_⟩
 rintro n cs m4 q cB ⟨k,o,hk,hn,cP,ho,eZ,_,hq⟩
 obtain rfl:n=k:=by simpa using hn
 obtain rfl:cs=plL o:=by simpa using cP
 have dV:m.le m4:=mLt bH (mLt bO cB)
 refine Zab (λbF=>?_) (λcR=>?_)
 ·have bI:k < N:=by have:=of_decide_eq_true bF;omega
  have hw:IntKind.i64.wrap ((k:Int)+1)=((k+1:Nat):Int):=by rw[ZaK (by omega) (by omega)];rfl
  simp only[hw]
  refine⟨λ_ _ _=>Ret (plV (x.lead s back o)),sb,so,mL,⟨by omega,by rw[hx];simp⟩,_,_,_,_,_,_,_,_,fA.mono dV,Ret (plV (x.lead s back o)),rfl,ih x (List.mem_of_getElem? gN) o m4 ho (fE.mono dV) (hb.mono dV),Zbx,Zpl λm6 eP M dL dR=>⟨by trivial,N - (k+1),by omega,k+1,x.lead s back o,by omega,rfl,rfl,Zfh s back hs x o ho,?_,mLt cB dL,rfl⟩⟩
  rw[show N - k=N - (k+1)+1 by omega]at eZ
  exact eZ
 ·have:k=N:=by have:=of_decide_eq_false cR;omega
  subst this
  replace eZ:o=Zvm (x.lead s back) k f:=by rw[Nat.sub_self]at eZ;exact eZ
  rw[<-eZ]
  intro b4 b5
  refine Zaa rfl (Zaa rfl ?_)
  refine⟨λxs css _ m' q=>∃(i:Int)(c1:List Value)(out last:Nat),xs=[.int .i64 i]/\css=[c1,plL out,plL last]/\out < Zcz/\last < Zcz/\Zcz - out < q/\Zpt (x.lead s back) t.mx q i out last=Zpt (x.lead s back) t.mx (Zcz+1) k o o/\m4.le m',⟨Zcz+1,k,_,o,o,rfl,rfl,ho,ho,by omega,rfl,Mem.le_refl _⟩,?_⟩
  rintro i cs1 cs2 cs3 m5 q c7 ⟨i',c1,out,last,hi,cP,dC,dI,hq,cV,_⟩
  obtain rfl:i=i':=by simpa using hi
  obtain⟨rfl,rfl,rfl⟩:cs1=c1/\cs2=plL out/\cs3=plL last:=by simpa using cP
  have sN:m.le m5:=mLt dV c7
  obtain⟨q,rfl⟩:∃q',q=q'+1:=⟨q - 1,by omega⟩
  rw[ZlI (n:=q)]at cV
  refine Zab (λcN=>?_) (λhe=>?_)
  ·have vK:¬i=t.mx:=by simpa using cN
   rw[if_neg vK]at cV
   refine⟨λ_ _ _=>Ret (plV (x.lead s back last)),sb,so,mL,⟨by omega,by rw[hx];simp⟩,_,_,_,_,_,_,_,_,fA.mono sN,Ret (plV (x.lead s back last)),rfl,ih x (List.mem_of_getElem? gN) last m5 dI (fE.mono sN) (hb.mono sN),Zbx,Zpl λm6 eP M dL dR=>ZaZ (ZwM out (x.lead s back last) M) Zbx (Zpl λm7 mM b7=>?_)⟩
   have jY:=Zfh s back hs x last dI
   have pB:=Nat.or_lt_two_pow dC jY
   refine⟨(out|||x.lead s back last) == out,ZyW pB dC,Zab (λh=>?_) (λh=>?_)⟩
   ·rw[if_pos (by simpa using h)]at cV
    refine Zaa rfl (Zah (mLt sN (mLt dL mM)) ?_)
    rw[<-cV];rfl
   ·have fX:¬(out|||x.lead s back last)=out:=by simpa using h
    rw[if_neg fX]at cV
    have cE:out<=out|||x.lead s back last:=Nat.left_le_or
    refine⟨by trivial,q,by omega,_,_,out|||x.lead s back last,x.lead s back last,rfl,rfl,pB,jY,by omega,cV,mLt c7 (mLt dL mM)⟩
  ·have he':i=t.mx:=by simpa using he
   rw[if_pos he']at cV
   refine Zaa rfl ⟨m,Mem.le_refl _,sN,?_⟩
   rw[<-cV];rfl
end
def KR(a:Option Addr)(s:List Nat)(c:Nat)(back:Bool):Value->Mem->List (List Value)->Prop:=λv m' _=>∃b,v=.agg #[.func (.func 101) #[] #[],.func (.func 102) #[] #[],.func (.func 103) #[txV a s c back] #[],.func (.func 104) #[] #[.pointer (some ⟨b,0,none⟩)],.func (.func 105) #[] #[.pointer (some ⟨b,0,none⟩)],.func (.func 107) #[txV a s c back] #[],.func (.func 108) #[] #[.pointer (some ⟨b,0,none⟩)]]/\m'.reads b 0 [.slice a s.length c,.bool back]
theorem ZfR(a:Option Addr)(s:List Nat)(c:Nat)(back:Bool)(m:Mem):CX Try.prog 88 #[txV a s c back] m [] (KR a s c back):=by
 apply ZeK
 unfold ZcN
 intro b m1 bH hb b1
 exact⟨m1,bH,Mem.le_refl _,b,rfl,hb⟩
theorem Zia{a s c back}:∀(v:Value)(m':Mem) (css:List (List Value)),KR a s c back v m' css->Shape.fits (.agg [.fn,.fn,.fn,.fn,.fn,.fn,.fn]) v=true:=λv _ _ ⟨b,e,_⟩=>by rw[e];rfl
theorem ZtT{t:T}(h:(t.subs.length == 1)=true):∃x,t.subs=[x]:=List.length_eq_one_iff.1 (by simpa using h)
theorem ZuK(t:T)(a:Option Addr)(s:List Nat)(c:Nat)(back:Bool)(f:Nat)(m:Mem)(hr:Rep m t)(hb:Byt m a s)(hs:s.length<=512)(hf:f < Zcz)(hk:t.k=0):CX Try.prog 64 #[txV a s c back,t.v,plV f] m [] (Ret (plV (0))):=by
 have key:ZbC a s.length c back t.s0 t.s1 t.s2 t.s3 t.mn t.mx t.a t.subs.length t.c (wdN f 0:Nat) (wdN f 1:Nat) (wdN f 2:Nat) (wdN f 3:Nat) (wdN f 4:Nat) (wdN f 5:Nat) (wdN f 6:Nat) (wdN f 7:Nat) (wdN f 8:Nat) m (Ret (plV (0))):=by
  unfold ZbC
  intro b1 m1 bH _ b2 m2 bO _ b3 m3 bX _ b4
  refine⟨λi _ _=>if i=1 then KR a s c back else Ret (plV (0)),KR a s c back,rfl,ZfR a s c back m3,Zia,?_⟩
  rintro g0 i0 c0 g1 i1 c1 g2 i2 c2 g3 i3 c3 g4 i4 c4 g5 i5 c5 g6 i6 c6 m5 c7 ⟨b,hv,cS⟩
  simp only[Value.agg.injEq,Array.mk.injEq,List.cons.injEq,Value.func.injEq,Fn.func.injEq,and_true]at hv
  obtain⟨⟨rfl,rfl,rfl⟩,⟨rfl,rfl,rfl⟩,⟨rfl,rfl,rfl⟩,⟨rfl,rfl,rfl⟩,⟨rfl,rfl,rfl⟩,⟨rfl,rfl,rfl⟩,⟨rfl,rfl,rfl⟩⟩:=hv
  have hM:m.le m5:=mLt bH (mLt bO (mLt bX c7))
  have cG:=ZwO t f m5
  rw[T.v,hk]at cG
  exact⟨⟨by omega,by omega⟩,Ret (plV (0)),rfl,cG,Zbx,Zpl λm6 eP M dL dR kB=>Zah (mLt hM dR) rfl⟩
 have h:=Zd8 a s.length c back t.s0 t.s1 t.s2 t.s3 t.mn t.mx t.a t.subs.length t.c (wdN f 0:Nat) (wdN f 1:Nat) (wdN f 2:Nat) (wdN f 3:Nat) (wdN f 4:Nat) (wdN f 5:Nat) (wdN f 6:Nat) (wdN f 7:Nat) (wdN f 8:Nat) m _ key
 rw[T.v,hk]
 exact h
theorem ZuL(t:T)(a:Option Addr)(s:List Nat)(c:Nat)(back:Bool)(f:Nat)(m:Mem)(hr:Rep m t)(hb:Byt m a s)(hs:s.length<=512)(hf:f < Zcz)(hk:t.k=1):CX Try.prog 64 #[txV a s c back,t.v,plV f] m [] (Ret (plV (f))):=by
 have key:ZbD a s.length c back t.s0 t.s1 t.s2 t.s3 t.mn t.mx t.a t.subs.length t.c (wdN f 0:Nat) (wdN f 1:Nat) (wdN f 2:Nat) (wdN f 3:Nat) (wdN f 4:Nat) (wdN f 5:Nat) (wdN f 6:Nat) (wdN f 7:Nat) (wdN f 8:Nat) m (Ret (plV (f))):=by
  unfold ZbD
  intro b1 m1 bH _ b2 m2 bO _ b3 m3 bX _ b4
  refine⟨λi _ _=>if i=1 then KR a s c back else Ret (plV (f)),KR a s c back,rfl,ZfR a s c back m3,Zia,?_⟩
  rintro g0 i0 c0 g1 i1 c1 g2 i2 c2 g3 i3 c3 g4 i4 c4 g5 i5 c5 g6 i6 c6 m5 c7 ⟨b,hv,cS⟩
  simp only[Value.agg.injEq,Array.mk.injEq,List.cons.injEq,Value.func.injEq,Fn.func.injEq,and_true]at hv
  obtain⟨⟨rfl,rfl,rfl⟩,⟨rfl,rfl,rfl⟩,⟨rfl,rfl,rfl⟩,⟨rfl,rfl,rfl⟩,⟨rfl,rfl,rfl⟩,⟨rfl,rfl,rfl⟩,⟨rfl,rfl,rfl⟩⟩:=hv
  have hM:m.le m5:=mLt bH (mLt bO (mLt bX c7))
  have cG:=ZuJ t f m5
  rw[T.v,hk]at cG
  exact⟨⟨by omega,by omega⟩,Ret (plV (f)),rfl,cG,Zbx,Zpl λm6 eP M dL dR kB=>Zah (mLt hM dR) rfl⟩
 have h:=Zd9 a s.length c back t.s0 t.s1 t.s2 t.s3 t.mn t.mx t.a t.subs.length t.c (wdN f 0:Nat) (wdN f 1:Nat) (wdN f 2:Nat) (wdN f 3:Nat) (wdN f 4:Nat) (wdN f 5:Nat) (wdN f 6:Nat) (wdN f 7:Nat) (wdN f 8:Nat) m _ key
 rw[T.v,hk]
 exact h
theorem ZuM(t:T)(a:Option Addr)(s:List Nat)(c:Nat)(back:Bool)(f:Nat)(m:Mem)(hr:Rep m t)(hb:Byt m a s)(hs:s.length<=512)(hf:f < Zcz)(hk:t.k=2):CX Try.prog 64 #[txV a s c back,t.v,plV f] m [] (Ret (plV (ZrJ t back f s 0 0))):=by
 have key:ZbE a s.length c back t.s0 t.s1 t.s2 t.s3 t.mn t.mx t.a t.subs.length t.c (wdN f 0:Nat) (wdN f 1:Nat) (wdN f 2:Nat) (wdN f 3:Nat) (wdN f 4:Nat) (wdN f 5:Nat) (wdN f 6:Nat) (wdN f 7:Nat) (wdN f 8:Nat) m (Ret (plV (ZrJ t back f s 0 0))):=by
  unfold ZbE
  intro b1 m1 bH _ b2 m2 bO _ b3 m3 bX _ b4
  refine⟨λi _ _=>if i=1 then KR a s c back else Ret (plV (ZrJ t back f s 0 0)),KR a s c back,rfl,ZfR a s c back m3,Zia,?_⟩
  rintro g0 i0 c0 g1 i1 c1 g2 i2 c2 g3 i3 c3 g4 i4 c4 g5 i5 c5 g6 i6 c6 m5 c7 ⟨b,hv,cS⟩
  simp only[Value.agg.injEq,Array.mk.injEq,List.cons.injEq,Value.func.injEq,Fn.func.injEq,and_true]at hv
  obtain⟨⟨rfl,rfl,rfl⟩,⟨rfl,rfl,rfl⟩,⟨rfl,rfl,rfl⟩,⟨rfl,rfl,rfl⟩,⟨rfl,rfl,rfl⟩,⟨rfl,rfl,rfl⟩,⟨rfl,rfl,rfl⟩⟩:=hv
  have hM:m.le m5:=mLt bH (mLt bO (mLt bX c7))
  have cG:=ZuI t a s c back f m5 (hr.mono hM) (hb.mono hM) hs
  rw[T.v,hk]at cG
  exact⟨⟨by omega,by omega⟩,Ret (plV (ZrJ t back f s 0 0)),rfl,cG,Zbx,Zpl λm6 eP M dL dR kB=>Zah (mLt hM dR) rfl⟩
 have h:=Zea a s.length c back t.s0 t.s1 t.s2 t.s3 t.mn t.mx t.a t.subs.length t.c (wdN f 0:Nat) (wdN f 1:Nat) (wdN f 2:Nat) (wdN f 3:Nat) (wdN f 4:Nat) (wdN f 5:Nat) (wdN f 6:Nat) (wdN f 7:Nat) (wdN f 8:Nat) m _ key
 rw[T.v,hk]
 exact h
theorem ZuN(t:T)(a:Option Addr)(s:List Nat)(c:Nat)(back:Bool)(f:Nat)(m:Mem)(hr:Rep m t)(hb:Byt m a s)(hs:s.length<=512)(hf:f < Zcz)(ih:IH a s c back t)(hk:t.k=3):CX Try.prog 64 #[txV a s c back,t.v,plV f] m [] (Ret (plV (if back then Zf6 s back t.subs f else Zgw s back t.subs f))):=by
 have key:ZbF a s.length c back t.s0 t.s1 t.s2 t.s3 t.mn t.mx t.a t.subs.length t.c (wdN f 0:Nat) (wdN f 1:Nat) (wdN f 2:Nat) (wdN f 3:Nat) (wdN f 4:Nat) (wdN f 5:Nat) (wdN f 6:Nat) (wdN f 7:Nat) (wdN f 8:Nat) m (Ret (plV (if back then Zf6 s back t.subs f else Zgw s back t.subs f))):=by
  unfold ZbF
  intro b1 m1 bH _ b2 m2 bO _ b3 m3 bX _ b4
  refine⟨λi _ _=>if i=1 then KR a s c back else Ret (plV (if back then Zf6 s back t.subs f else Zgw s back t.subs f)),KR a s c back,rfl,ZfR a s c back m3,Zia,?_⟩
  rintro g0 i0 c0 g1 i1 c1 g2 i2 c2 g3 i3 c3 g4 i4 c4 g5 i5 c5 g6 i6 c6 m5 c7 ⟨b,hv,cS⟩
  simp only[Value.agg.injEq,Array.mk.injEq,List.cons.injEq,Value.func.injEq,Fn.func.injEq,and_true]at hv
  obtain⟨⟨rfl,rfl,rfl⟩,⟨rfl,rfl,rfl⟩,⟨rfl,rfl,rfl⟩,⟨rfl,rfl,rfl⟩,⟨rfl,rfl,rfl⟩,⟨rfl,rfl,rfl⟩,⟨rfl,rfl,rfl⟩⟩:=hv
  have hM:m.le m5:=mLt bH (mLt bO (mLt bX c7))
  have cG:=ZxX t a s c back f m5 (hr.mono hM) (hb.mono hM) hs ih hf b 0 cS
  rw[T.v,hk]at cG
  exact⟨⟨by omega,by omega⟩,Ret (plV (if back then Zf6 s back t.subs f else Zgw s back t.subs f)),rfl,cG,Zbx,Zpl λm6 eP M dL dR kB=>Zah (mLt hM dR) rfl⟩
 have h:=Zeb a s.length c back t.s0 t.s1 t.s2 t.s3 t.mn t.mx t.a t.subs.length t.c (wdN f 0:Nat) (wdN f 1:Nat) (wdN f 2:Nat) (wdN f 3:Nat) (wdN f 4:Nat) (wdN f 5:Nat) (wdN f 6:Nat) (wdN f 7:Nat) (wdN f 8:Nat) m _ key
 rw[T.v,hk]
 exact h
theorem ZuO(t:T)(a:Option Addr)(s:List Nat)(c:Nat)(back:Bool)(f:Nat)(m:Mem)(hr:Rep m t)(hb:Byt m a s)(hs:s.length<=512)(hf:f < Zcz)(ih:IH a s c back t)(hk:t.k=4):CX Try.prog 64 #[txV a s c back,t.v,plV f] m [] (Ret (plV (Zp7 s back t.subs f 0))):=by
 have key:ZbG a s.length c back t.s0 t.s1 t.s2 t.s3 t.mn t.mx t.a t.subs.length t.c (wdN f 0:Nat) (wdN f 1:Nat) (wdN f 2:Nat) (wdN f 3:Nat) (wdN f 4:Nat) (wdN f 5:Nat) (wdN f 6:Nat) (wdN f 7:Nat) (wdN f 8:Nat) m (Ret (plV (Zp7 s back t.subs f 0))):=by
  unfold ZbG
  intro b1 m1 bH _ b2 m2 bO _ b3 m3 bX _ b4
  refine⟨λi _ _=>if i=1 then KR a s c back else Ret (plV (Zp7 s back t.subs f 0)),KR a s c back,rfl,ZfR a s c back m3,Zia,?_⟩
  rintro g0 i0 c0 g1 i1 c1 g2 i2 c2 g3 i3 c3 g4 i4 c4 g5 i5 c5 g6 i6 c6 m5 c7 ⟨b,hv,cS⟩
  simp only[Value.agg.injEq,Array.mk.injEq,List.cons.injEq,Value.func.injEq,Fn.func.injEq,and_true]at hv
  obtain⟨⟨rfl,rfl,rfl⟩,⟨rfl,rfl,rfl⟩,⟨rfl,rfl,rfl⟩,⟨rfl,rfl,rfl⟩,⟨rfl,rfl,rfl⟩,⟨rfl,rfl,rfl⟩,⟨rfl,rfl,rfl⟩⟩:=hv
  have hM:m.le m5:=mLt bH (mLt bO (mLt bX c7))
  have cG:=ZxY t a s c back f m5 (hr.mono hM) (hb.mono hM) hs ih hf b 0 cS
  rw[T.v,hk]at cG
  exact⟨⟨by omega,by omega⟩,Ret (plV (Zp7 s back t.subs f 0)),rfl,cG,Zbx,Zpl λm6 eP M dL dR kB=>Zah (mLt hM dR) rfl⟩
 have h:=Zec a s.length c back t.s0 t.s1 t.s2 t.s3 t.mn t.mx t.a t.subs.length t.c (wdN f 0:Nat) (wdN f 1:Nat) (wdN f 2:Nat) (wdN f 3:Nat) (wdN f 4:Nat) (wdN f 5:Nat) (wdN f 6:Nat) (wdN f 7:Nat) (wdN f 8:Nat) m _ key
 rw[T.v,hk]
 exact h
theorem ZuP(t:T)(a:Option Addr)(s:List Nat)(c:Nat)(back:Bool)(f:Nat)(m:Mem)(hr:Rep m t)(hb:Byt m a s)(hs:s.length<=512)(hf:f < Zcz)(ih:IH a s c back t)(x:T)(hx:t.subs=[x])(fT:0<=t.mn)(hk:t.k=5):CX Try.prog 64 #[txV a s c back,t.v,plV f] m [] (Ret (plV (Zv6 (ZfC s back t.subs) t.mn t.mx f))):=by
 have key:ZbH a s.length c back t.s0 t.s1 t.s2 t.s3 t.mn t.mx t.a t.subs.length t.c (wdN f 0:Nat) (wdN f 1:Nat) (wdN f 2:Nat) (wdN f 3:Nat) (wdN f 4:Nat) (wdN f 5:Nat) (wdN f 6:Nat) (wdN f 7:Nat) (wdN f 8:Nat) m (Ret (plV (Zv6 (ZfC s back t.subs) t.mn t.mx f))):=by
  unfold ZbH
  intro b1 m1 bH _ b2 m2 bO _ b3 m3 bX _ b4
  refine⟨λi _ _=>if i=1 then KR a s c back else Ret (plV (Zv6 (ZfC s back t.subs) t.mn t.mx f)),KR a s c back,rfl,ZfR a s c back m3,Zia,?_⟩
  rintro g0 i0 c0 g1 i1 c1 g2 i2 c2 g3 i3 c3 g4 i4 c4 g5 i5 c5 g6 i6 c6 m5 c7 ⟨b,hv,cS⟩
  simp only[Value.agg.injEq,Array.mk.injEq,List.cons.injEq,Value.func.injEq,Fn.func.injEq,and_true]at hv
  obtain⟨⟨rfl,rfl,rfl⟩,⟨rfl,rfl,rfl⟩,⟨rfl,rfl,rfl⟩,⟨rfl,rfl,rfl⟩,⟨rfl,rfl,rfl⟩,⟨rfl,rfl,rfl⟩,⟨rfl,rfl,rfl⟩⟩:=hv
  have hM:m.le m5:=mLt bH (mLt bO (mLt bX c7))
  have cG:=ZsM t a s c back f m5 (hr.mono hM) (hb.mono hM) hs ih hf x hx fT
  rw[T.v,hk]at cG
  exact⟨⟨by omega,by omega⟩,Ret (plV (Zv6 (ZfC s back t.subs) t.mn t.mx f)),rfl,cG,Zbx,Zpl λm6 eP M dL dR kB=>Zah (mLt hM dR) rfl⟩
 have h:=Zed a s.length c back t.s0 t.s1 t.s2 t.s3 t.mn t.mx t.a t.subs.length t.c (wdN f 0:Nat) (wdN f 1:Nat) (wdN f 2:Nat) (wdN f 3:Nat) (wdN f 4:Nat) (wdN f 5:Nat) (wdN f 6:Nat) (wdN f 7:Nat) (wdN f 8:Nat) m _ key
 rw[T.v,hk]
 exact h
theorem ZuQ(t:T)(a:Option Addr)(s:List Nat)(c:Nat)(back:Bool)(f:Nat)(m:Mem)(hr:Rep m t)(hb:Byt m a s)(hs:s.length<=512)(hf:f < Zcz)(ih:IH a s c back t)(x:T)(hx:t.subs=[x])(hk:t.k=6):CX Try.prog 64 #[txV a s c back,t.v,plV f] m [] (Ret (plV (ZfC s back t.subs f))):=by
 have key:ZbI a s.length c back t.s0 t.s1 t.s2 t.s3 t.mn t.mx t.a t.subs.length t.c (wdN f 0:Nat) (wdN f 1:Nat) (wdN f 2:Nat) (wdN f 3:Nat) (wdN f 4:Nat) (wdN f 5:Nat) (wdN f 6:Nat) (wdN f 7:Nat) (wdN f 8:Nat) m (Ret (plV (ZfC s back t.subs f))):=by
  unfold ZbI
  intro b1 m1 bH _ b2 m2 bO _ b3 m3 bX _ b4
  refine⟨λi _ _=>if i=1 then KR a s c back else Ret (plV (ZfC s back t.subs f)),KR a s c back,rfl,ZfR a s c back m3,Zia,?_⟩
  rintro g0 i0 c0 g1 i1 c1 g2 i2 c2 g3 i3 c3 g4 i4 c4 g5 i5 c5 g6 i6 c6 m5 c7 ⟨b,hv,cS⟩
  simp only[Value.agg.injEq,Array.mk.injEq,List.cons.injEq,Value.func.injEq,Fn.func.injEq,and_true]at hv
  obtain⟨⟨rfl,rfl,rfl⟩,⟨rfl,rfl,rfl⟩,⟨rfl,rfl,rfl⟩,⟨rfl,rfl,rfl⟩,⟨rfl,rfl,rfl⟩,⟨rfl,rfl,rfl⟩,⟨rfl,rfl,rfl⟩⟩:=hv
  have hM:m.le m5:=mLt bH (mLt bO (mLt bX c7))
  have cG:=ZxZ t a s c back f m5 (hr.mono hM) (hb.mono hM) hs ih hf x hx b 0 cS
  rw[T.v,hk]at cG
  exact⟨⟨by omega,by omega⟩,Ret (plV (ZfC s back t.subs f)),rfl,cG,Zbx,Zpl λm6 eP M dL dR kB=>Zah (mLt hM dR) rfl⟩
 have h:=Zee a s.length c back t.s0 t.s1 t.s2 t.s3 t.mn t.mx t.a t.subs.length t.c (wdN f 0:Nat) (wdN f 1:Nat) (wdN f 2:Nat) (wdN f 3:Nat) (wdN f 4:Nat) (wdN f 5:Nat) (wdN f 6:Nat) (wdN f 7:Nat) (wdN f 8:Nat) m _ key
 rw[T.v,hk]
 exact h
theorem ZtU(a:Option Addr)(s:List Nat)(c:Nat)(back:Bool)(hs:s.length<=512)(t:T)(hw:t.walks)(f:Nat)(m:Mem)(hf:f < Zcz)(hr:Rep m t)(hb:Byt m a s):CX Try.prog 64 #[txV a s c back,t.v,plV f] m [] (Ret (plV (t.lead s back f))):=by
 have ih:t.k≠0->IH a s c back t:=λh0 x hx f m hf hr hb=>by
  have bW:=Zn8 hx
  exact ZtU a s c back hs x (Zsx hw h0 hx) f m hf hr hb
 by_cases k0:t.k=0
 ·rw[ZxN k0];exact ZuK t a s c back f m hr hb hs hf k0
 have hR:t.right=true:=by
  rcases hw with h|h
  ·exact absurd h k0
  ·exact h t (by rw[Zbc];simp)
 have ih:=ih k0
 by_cases k1:t.k=1
 ·rw[Zv7 k1];exact ZuL t a s c back f m hr hb hs hf k1
 by_cases k2:t.k=2
 ·rw[Zv8 k2];exact ZuM t a s c back f m hr hb hs hf k2
 by_cases k3:t.k=3
 ·rw[Zuq k3];exact ZuN t a s c back f m hr hb hs hf ih k3
 by_cases k4:t.k=4
 ·rw[Zv9 k4];exact ZuO t a s c back f m hr hb hs hf ih k4
 unfold T.right at hR
 rw[Bool.and_eq_true]at hR
 replace hR:=hR.2
 rw[if_neg k1,if_neg k2,if_neg k3,if_neg k4]at hR
 by_cases k5:t.k=5
 ·rw[if_pos k5,Bool.and_eq_true,Bool.and_eq_true]at hR
  obtain⟨x,hx⟩:=ZtT hR.1
  have fT:0<=t.mn:=by
   have:=hR.2.1
   simp[Zfg]at this
   omega
  rw[Zwa k5];exact ZuP t a s c back f m hr hb hs hf ih x hx fT k5
 rw[if_neg k5,Bool.and_eq_true]at hR
 have k6:t.k=6:=by simpa using hR.1
 obtain⟨x,hx⟩:=ZtT hR.2
 rw[Zwb k6];exact ZuQ t a s c back f m hr hb hs hf ih x hx k6
termination_by SizeOf.sizeOf t
decreasing_by exact bW
end Go.Proofs.Ytgclajkldphoaaa
set_option linter.unusedVariables false
set_option linter.unusedSimpArgs false
set_option linter.unusedSectionVars false
namespace Go.Proofs.Ytgclajkldphoaaa
open Go Go.Eng Go.Rx Go.Proofs Go.RowKit
set_option maxRecDepth 100000
theorem ZsN(t:T)(a:Option Addr)(len c:Nat)(i:Int)(m:Mem)(hr:Rep m t):CX Try.prog 63 #[t.v,.slice a len c,.int .i64 i] m [] (Ret (.int .i64 (t.wrong len i))):=by
 apply Zh9
 unfold Zfr
 intro b m1 bH _
 refine⟨t.isNone,Zab (λh=>Zaq (ZwK t T0 m1 (hr.mono bH) (Zqa m1)) λm2 bO=>⟨by trivial,Zao ?_⟩) (λh=>⟨by trivial,Zao ?_⟩),!t.isNone&&!(t.check == 0),Zab (λh=>ZeV (Zng false false t m1 (hr.mono bH)) λm2 bO=>⟨by trivial,Zao ?_⟩) (λh=>⟨by trivial,Zao ?_⟩),Zab (λh=>Zah bH ?_) (λh=>Zab (λh1=>Zah bH ?_) (λh1=>⟨decide (i < 0)||decide (i > len),Zab (λh2=>⟨by trivial,Zao ?_⟩) (λh2=>⟨by trivial,Zao ?_⟩),Zab (λh3=>Zah bH ?_) (λh3=>Zah bH ?_)⟩))⟩
 ·unfold T.isNone;rw[h];rfl
 ·unfold T.isNone;rw[h];rfl
 ·rw[h];rfl
 ·rw[h];rfl
 ·unfold T.wrong;rw[if_pos h]
 ·unfold T.wrong;rw[if_neg (by rw[h];decide),if_pos (of_decide_eq_true h1)]
 ·rw[h2];rfl
 ·rw[h2];rfl
 ·unfold T.wrong;rw[if_neg (by rw[h];decide),if_neg (of_decide_eq_false h1),if_pos (by simpa using h3)]
 ·unfold T.wrong;rw[if_neg (by rw[h];decide),if_neg (of_decide_eq_false h1),if_neg (by simpa using h3)]
def ZtV(l:List Nat):List Value:=l.map λi:Nat=>.int .i64 (i:Nat)
def T.matches(t:T)(s:List Nat):Bool:=t.wrong s.length 0 == 0&&(t.lead s false 1).testBit s.length
theorem ZlW(t:T)(a:Option Addr)(s:List Nat)(c:Nat)(m:Mem)(hr:Rep m t)(hb:t.wrong s.length 0=0->Byt m a s):CX Try.prog 29 #[t.v,.slice a s.length c] m [] (Ret (.tuple #[.bool (T.matches t s),.int .i64 (t.wrong s.length 0)])):=by
 apply ZgB
 unfold ZdX
 intro b m1 bH _
 refine ZeV (ZsN t a s.length c 0 m1 (hr.mono bH)) λm2 bO=>Zab (λh=>?_) (λh=>?_)
 ·have h':¬t.wrong s.length 0=0:=by simpa using h
  refine Zah (mLt bH bO) ?_
  unfold T.matches
  rw[show(t.wrong s.length 0 == 0)=false by simpa using h'];rfl
 ·have h':t.wrong s.length 0=0:=by simpa using h
  obtain⟨hw,hs,BF,iT⟩:=Zwc h'
  have dR:m.le m2:=mLt bH bO
  have vL:(2:Nat) ^ 0 < Zcz:=Zv5 (by omega)
  refine⟨λj _ _=>if j=3 then Ret (plV (2 ^ 0))else Ret (plV (t.lead s false (2 ^ 0))),Ret (plV (2 ^ 0)),rfl,Zxw 0 (by omega) m2,Zbx,Zpl λm3 bX=>⟨Ret (plV (t.lead s false (2 ^ 0))),rfl,ZtU a s c false hs t hw (2 ^ 0) m3 vL (hr.mono (mLt dR bX)) ((hb h').mono (mLt dR bX)),Zbx,Zpl λm4 cB b2 M dL kB dV m5 c7 eB=>Zaq (ZrB (t.lead s false (2 ^ 0)) s.length (by omega) b2 m5 eB) λm6 eP=>Zah (mLt dR (mLt dL (mLt c7 eP))) ?_⟩⟩
  unfold T.matches
  rw[h'];rfl
end Go.Proofs.Ytgclajkldphoaaa
set_option linter.unusedVariables false
set_option linter.unusedSimpArgs false
set_option linter.unusedSectionVars false
namespace Go.Proofs.Ytgclajkldphoaaa
open Go Go.Eng Go.Rx Go.Proofs Go.RowKit
set_option maxRecDepth 100000
theorem Rgs.get{m:Mem}{a l}(h:Rgs m a l){i:Nat}{r:Rg}(hi:l[i]?=some r):(∃b o,a=some ⟨b,o,none⟩/\m.reads b (o+i*10) r.cs)/\Rep m r.t:=by
 refine⟨?_,h.2.2 r (List.mem_of_getElem? hi)⟩
 rcases h.2.1 with h|⟨b,o,h1,h2⟩
 ·subst h;simp at hi
 ·exact⟨b,o,h1,h2 i r hi⟩
theorem ZmD(x y:List Nat)(ax ay:Option Addr)(cx cy:Nat)(m:Mem)(hx:rowRd m ax (ZtV x))(hy:rowRd m ay (ZtV y))(bL:x.length<=1000000000000000):CX Try.prog 35 #[.slice ax x.length cx,.slice ay y.length cy] m [] (Ret (.bool (x == y))):=by
 apply Zdu
 unfold Zb2
 refine Zab (λh=>Zah (Mem.le_refl _) ?_) (λh=>?_)
 ·have:¬x=y:=λe=>by subst e;simp at h
  rw[show(x == y)=false by simpa using this]
 have hl:x.length=y.length:=by
  simp only[Bool.not_eq_false',beq_iff_eq]at h
  omega
 refine⟨λxs css _ m' q=>∃k:Nat,k<=x.length/\xs=[.int .i64 k]/\x.take k=y.take k/\m.le m'/\q=x.length - k,⟨_,0,by omega,rfl,rfl,Mem.le_refl _,rfl⟩,?_⟩
 rintro z m1 q bH ⟨k,hk,hz,eZ,_,hq⟩
 obtain rfl:z=k:=by simpa using hz
 refine Zab (λbF=>?_) (λcR=>?_)
 ·have bI:k < x.length:=by have:=of_decide_eq_true bF;omega
  obtain⟨u,hu⟩:=Zfl bI
  obtain⟨v,hv⟩:=Zfl (l:=y) (k:=k) (by omega)
  have fB:IntKind.i64.wrap ((k:Int)+1)=((k+1:Nat):Int):=by rw[ZaK (by omega) (by omega)];rfl
  rcases hx.mono bH with hx|⟨b,o,h1,h2⟩
  ·rw[show x=[] by simpa[ZtV]using hx]at bI;simp at bI
  rcases hy.mono bH with hy|⟨b',o',h1',h2'⟩
  ·rw[hl,show y=[] by simpa[ZtV]using hy]at bI;simp at bI
  simp only[fB,Int.toNat_natCast,Nat.mul_one]
  refine⟨b,o,h1,⟨by omega,by omega⟩,_,h2 k (.int .i64 u) (by rw[ZtV,List.getElem?_map,hu];rfl),b',o',h1',⟨by omega,by omega⟩,_,h2' k (.int .i64 v) (by rw[ZtV,List.getElem?_map,hv];rfl),Zaa rfl (Zab (λhc=>Zah bH ?_) (λhc=>⟨x.length - (k+1),by omega,k+1,by omega,rfl,?_,bH,rfl⟩))⟩
  ·have:¬x=y:=λe=>by
    subst e
    rw[hu]at hv;cases hv
    simp at hc
   rw[show(x == y)=false by simpa using this]
  ·have:u=v:=by
    have:=hc
    simp[RowKit.intOf]at this
    omega
   rw[Zce hu,Zce hv,eZ,this]
 ·have:k=x.length:=by have:=of_decide_eq_false cR;omega
  subst this
  rw[List.take_length,hl,List.take_length]at eZ
  refine Zah bH ?_
  rw[eZ];simp
end Go.Proofs.Ytgclajkldphoaaa
set_option linter.unusedVariables false
set_option linter.unusedSimpArgs false
set_option linter.unusedSectionVars false
namespace Go.Proofs.Ytgclajkldphoaaa
open Go Go.Eng Go.Rx Go.Proofs Go.RowKit
set_option maxRecDepth 100000
theorem Zyr{n:Int}(h1:0<=n)(h2:n < 256):IntKind.u8.wrap n=n:=by
 unfold IntKind.wrap
 simp only[IntKind.bits,IntKind.signed,Bool.false_and,Bool.false_eq_true,if_false]
 have e:(2:Int) ^ 8=256:=by decide
 rw[e];omega
theorem ZuR(t:T)(m:Mem)(hr:Rep m t):CX Try.prog 40 #[t.v] m [] (Zhx (λu=>∃a c,u=Zap 6 0 0 a c [t])):=by
 apply Zi3
 unfold Zf8
 intro b m1 bH _ b1 b2 hf
 have cE:=Mem.le_add hf t.cs
 refine Zg1 (mLt bH cE) ⟨Zap 6 0 0 (some ⟨b2,0,none⟩) 1 [t],rfl,Zbg (Zg4 ?_ (hr.mono (mLt bH cE))) (by omega) (by omega) (by omega),_,_,rfl⟩
 intro j v hj
 rw[Nat.zero_add,Mem.add_same];exact hj
theorem ZwP(t:T)(mn mx:Int)(h1 : -9223372036854775808<=mn/\mn<=9223372036854775807)(h2 : -9223372036854775808<=mx/\mx<=9223372036854775807)(m:Mem)(hr:Rep m t):CX Try.prog 41 #[t.v,.int .i64 mn,.int .i64 mx] m [] (Zhx (λu=>∃a c,u=Zap 5 mn mx a c [t])):=by
 apply Zmv
 unfold Zh0
 intro b m1 bH _ b1 b2 hf
 have cE:=Mem.le_add hf t.cs
 refine Zg1 (mLt bH cE) ⟨Zap 5 mn mx (some ⟨b2,0,none⟩) 1 [t],rfl,Zbg (Zg4 ?_ (hr.mono (mLt bH cE))) (by omega) h1 h2,_,_,rfl⟩
 intro j v hj
 rw[Nat.zero_add,Mem.add_same];exact hj
def ZbV(s:ByteArray):List Nat:=s.data.toList.map λb=>b.toNat
theorem ZjP(s:ByteArray):ZaG s=(ZbV s).map λc:Nat=>Value.int .u8 c:=by
 unfold ZaG ZbV
 rw[List.map_map];rfl
theorem ZlX(s:ByteArray):(ZbV s).length=s.size:=by unfold ZbV;rw[List.length_map,Array.length_toList];rfl
theorem ZsO(s:ByteArray):∀c∈ZbV s,c < 256:=by
 intro c hc
 unfold ZbV at hc
 obtain⟨b,_,rfl⟩:=List.mem_map.1 hc
 exact b.toBitVec.isLt
theorem ZuS{s:ByteArray}{k c:Nat}(h:(ZbV s)[k]?=some c):ZmT s k=(c:Int):=by
 unfold ZbV at h
 rw[List.getElem?_map]at h
 obtain⟨b,hb,rfl⟩:=Option.map_eq_some_iff.1 h
 unfold ZmT
 rw[List.getD_eq_getElem?_getD,hb];rfl
theorem ZoS(s:ByteArray)(hs:(ZbV s).length<=100000)(m:Mem):CX Try.prog 37 #[.string s] m [] (Zhx (λt=>t=Zkw (ZbV s))):=by
 apply Zi4
 unfold Zf9
 intro b b1
 have bL:=ZlX s
 refine⟨λxs css tvs m' q=>∃k:Nat,k<=s.size/\xs=[.int .i64 k]/\css=[Zts ((ZbV s).take k)]/\q=s.size - k,⟨_,0,by omega,rfl,rfl,rfl⟩,?_⟩
 rintro n cs m1 q bH ⟨k,hk,hn,cP,hq⟩
 obtain rfl:n=k:=by simpa using hn
 obtain rfl:cs=Zts ((ZbV s).take k):=by simpa using cP
 refine Zab (λbF=>?_) (λcR=>?_)
 ·have bI:k < s.size:=by have:=of_decide_eq_true bF;omega
  obtain⟨c,hc⟩:=Zfl (l:=ZbV s) (k:=k) (by omega)
  have jE:=ZsO s c (List.mem_of_getElem? hc)
  have hw:IntKind.i64.wrap ((k:Int)+1)=((k+1:Nat):Int):=by rw[ZaK (by omega) (by omega)];rfl
  have zq:IntKind.u8.wrap (Int.tdiv (c:Int) 64)=((c / 64:Nat):Int):=by rw[ZwL];exact Zyr (by omega) (by omega)
  have hr:IntKind.u64.wrap (1*2 ^ min (Int.toNat (Int.tmod (c:Int) 64)) 64)=((2 ^ (c % 64):Nat):Int):=by
   rw[ZrA,Int.toNat_natCast,Nat.min_eq_left (by omega),Int.one_mul]
   have:=Zvl (2 ^ (c % 64)) (by
    have:2 ^ (c % 64) < 2 ^ 64:=Nat.pow_lt_pow_right (by omega) (by omega)
    exact this)
   rw[<-this];push_cast;rfl
  have h2:(2:Nat) ^ (c % 64) < 18446744073709551616:=by
   have:(2:Nat) ^ (c % 64) < 2 ^ 64:=Nat.pow_lt_pow_right (by omega) (by omega)
   exact this
  have hj:c / 64 < 4:=by omega
  simp only[hw,Int.toNat_natCast,ZuS hc,zq,hr,Nat.zero_add,Nat.mul_one]
  refine⟨⟨by omega,by omega⟩,by omega,⟨by omega,by omega⟩,Zau (ZsA _ hj) ⟨⟨by omega,by omega⟩,by omega,by rw[ZrA];omega,Zaa rfl ⟨⟨by omega,by omega⟩,Zaa (by rw[Nat.ble_eq];show c / 64+1<=4;omega) ⟨by trivial,s.size - (k+1),by omega,k+1,by omega,rfl,?_,rfl⟩⟩⟩⟩
  simp only[intOf]
  rw[Zq1 _ _ (Ztr _ _) h2,Zqc _ rfl hj,Zce hc]
 ·have:k=s.size:=by have:=of_decide_eq_false cR;omega
  subst this
  rw[<-bL,List.take_length]
  exact Zaa rfl (Zaa rfl (Zah bH ⟨Zkw (ZbV s),rfl,Zoi _ m,rfl⟩))
theorem Zqs(n:Nat)(hn:n < 256)(m:Mem):CX Try.prog 38 #[.int .u8 n] m [] (λv _ _=>∃s,v=.string s/\ZbV s=Zd2 n):=by
 apply Zht
 unfold Zex
 intro b hf
 have ht:Int.tmod (n:Int) 12=((n % 12:Nat):Int):=rfl
 simp only[ht,Int.toNat_natCast,Nat.mul_one]
 refine⟨by omega,⟨by omega,by omega⟩,?_⟩
 have h:n % 12=0\/n % 12=1\/n % 12=2\/n % 12=3\/n % 12=4\/n % 12=5\/n % 12=6\/n % 12=7\/n % 12=8\/n % 12=9\/n % 12=10\/n % 12=11:=by omega
 unfold Zd2
 rcases h with e|e|e|e|e|e|e|e|e|e|e|e <;>
 ·rw[e]
  refine Zau rfl ?_
  exact⟨_,Mem.le_add hf _,Mem.le_refl _,_,rfl,rfl⟩
end Go.Proofs.Ytgclajkldphoaaa
set_option linter.unusedVariables false
set_option linter.unusedSimpArgs false
set_option linter.unusedSectionVars false
namespace Go.Proofs.Ytgclajkldphoaaa
open Go Go.Eng Go.Rx Go.Proofs Go.RowKit
set_option maxRecDepth 100000
end Go.Proofs.Ytgclajkldphoaaa
set_option linter.unusedVariables false
set_option linter.unusedSimpArgs false
set_option linter.unusedSectionVars false
namespace Go.Proofs.Ytgclajkldphoaaa
open Go Go.Eng Go.Rx Go.Proofs Go.RowKit
set_option maxRecDepth 100000
theorem ZfS(k:Int)(t:T):ZbM k t=if t.k=k then t.subs else if k=3/\t.k=1 then[]else[t]:=rfl
theorem ZeY(l:List T):∀u∈Rx.ZcS l,u.oneCell'=true:=by
 intro u hu
 simp only[Rx.ZcS,List.mem_flatten,List.mem_map]at hu
 obtain⟨_,⟨t,_,rfl⟩,h⟩:=hu
 simp only[T.cs,List.mem_cons,List.not_mem_nil,or_false,T.sl]at h
 rcases h with rfl|rfl|rfl|rfl|rfl|rfl|rfl|rfl <;> rfl
theorem Znh(k:Int)(t u:T)(hk:k=3\/k=4)(m:Mem)(hr:Rep m t)(hu:Rep m u)(ht:(ZbM k t).length<=10000)(zr:(ZbM k u).length<=10000):CX Try.prog 39 #[.int .u8 k,t.v,u.v] m [] (Zhx (λr=>∃a c,r=Zhs k a c (ZbM k t++ZbM k u))):=by
 apply Zi5
 unfold Zga
 intro b m1 bH _ b1 m2 bO _ b2 b3 rH
 have iE:=mLt bH bO
 have dE:m.le (m2.add b3 (t.cs++u.cs)):=mLt iE (Mem.le_add rH _)
 refine⟨λxs css tvs m' q=>∃(i:Nat)(l:List T)(a:Option Addr)(c:Nat),i<=2/\xs=[.slice a l.length c,.int .i64 i]/\tvs=[.slice a l.length c]/\l=(([t,u].take i).map (ZbM k)).flatten/\rowRd m' a (Rx.ZcS l)/\q=2 - i,⟨2,0,[],none,0,by omega,rfl,rfl,rfl,.inl rfl,rfl⟩,?_⟩
 rintro a n c z a1 n1 c1 m3 q bX ⟨i,l,a',c',hi,cU,gQ,hl,bG,hq⟩
 simp only[List.cons.injEq,Value.slice.injEq,Value.int.injEq,true_and,and_true]at cU gQ
 obtain⟨⟨rfl,rfl,rfl⟩,rfl⟩:=cU
 obtain⟨rfl,rfl,rfl⟩:=gQ
 have kC:=mLt dE bX
 have jY:l.length<=20000:=by
  rw[hl]
  have:i=0\/i=1\/i=2:=by omega
  rcases this with rfl|rfl|rfl <;> simp <;> omega
 refine Zab (λbF=>?_) (λcR=>?_)
 ·have h2:i=0\/i=1:=by have:=of_decide_eq_true bF;omega
  rcases h2 with rfl|rfl
  ·
   refine⟨⟨by omega,by omega⟩,Zaa rfl λb4=>Zaa rfl (Zau (v:=.int .u8 t.k) rfl (Zaa rfl (Zab (λdP=>Zau (v:=t.sl) rfl (Zaa rfl ?_)) (λdP=>?_))))⟩
   ·have gA:t.k=k:=by simpa[RowKit.intOf]using dP
    have hj:ZbM k t=t.subs:=by rw[ZfS,if_pos gA]
    have bL:=ht
    rw[hj]at bL
    refine⟨.inl rfl,Rx.ZcS l,Rx.ZcS t.subs,Zar _,Zar _,bG,(Zg5 (hr.subs)).mono kC,ZeY _,?_,?_,λa2 c2 m4 cB cI=>⟨by trivial,1,by omega,1,l++t.subs,a2,c2,by omega,?_,?_,?_,?_,?_⟩⟩
    ·simp only[T.sl,slN];omega
    ·simp only[T.sl,slN];omega
    ·rw[List.length_append];rfl
    ·rw[List.length_append];rfl
    ·rw[hl,<-hj];simp
    ·rw[ZaP];exact cI
    ·omega
   ·have gA:¬t.k=k:=by simpa[RowKit.intOf]using dP
    refine⟨k == 3&&t.k == 1,Zab (λh=>Zau (v:=.int .u8 t.k) rfl (Zaa rfl ⟨by trivial,by trivial,?_⟩)) (λh=>⟨by trivial,by trivial,?_⟩),Zab (λh=>⟨by trivial,1,by omega,1,l,_,_,by omega,rfl,rfl,?_,bG,by omega⟩) (λh=>Zaa rfl λb6 q6=>?_)⟩
    ·rw[h];rfl
    ·rw[h];rfl
    ·have:k=3/\t.k=1:=by simpa using h
     have hj:ZbM k t=[]:=by rw[ZfS,if_neg gA,if_pos this]
     rw[hl];simp[hj]
    ·have:¬(k=3/\t.k=1):=by simpa using h
     have hj:ZbM k t=[t]:=by rw[ZfS,if_neg gA,if_neg this]
     have iJ:=Mem.le_add q6 t.cs
     refine⟨.inl rfl,Rx.ZcS l,t.cs,Zar _,rfl,bG.mono iJ,.inr ⟨b6,0,rfl,λj v hj=>by rw[Nat.zero_add,Mem.add_same];exact hj⟩,by rw[<-Zbs];exact ZeY _,by omega,by omega,λa2 c2 m4 cB cI=>⟨by trivial,1,by omega,1,l++[t],a2,c2,by omega,?_,?_,?_,?_,?_⟩⟩
     ·rw[List.length_append];rfl
     ·rw[List.length_append];rfl
     ·rw[hl];simp[hj]
     ·rw[ZaP,Zbs];exact cI
     ·omega
  ·
   refine⟨⟨by omega,by omega⟩,Zaa rfl λb4=>Zaa rfl (Zau (v:=.int .u8 u.k) rfl (Zaa rfl (Zab (λdP=>Zau (v:=u.sl) rfl (Zaa rfl ?_)) (λdP=>?_))))⟩
   ·have gA:u.k=k:=by simpa[RowKit.intOf]using dP
    have hj:ZbM k u=u.subs:=by rw[ZfS,if_pos gA]
    have bL:=zr
    rw[hj]at bL
    refine⟨.inl rfl,Rx.ZcS l,Rx.ZcS u.subs,Zar _,Zar _,bG,(Zg5 (hu.subs)).mono kC,ZeY _,?_,?_,λa2 c2 m4 cB cI=>⟨by trivial,0,by omega,2,l++u.subs,a2,c2,by omega,?_,?_,?_,?_,?_⟩⟩
    ·simp only[T.sl,slN];omega
    ·simp only[T.sl,slN];omega
    ·rw[List.length_append];rfl
    ·rw[List.length_append];rfl
    ·rw[hl,<-hj];simp
    ·rw[ZaP];exact cI
    ·omega
   ·have gA:¬u.k=k:=by simpa[RowKit.intOf]using dP
    refine⟨k == 3&&u.k == 1,Zab (λh=>Zau (v:=.int .u8 u.k) rfl (Zaa rfl ⟨by trivial,by trivial,?_⟩)) (λh=>⟨by trivial,by trivial,?_⟩),Zab (λh=>⟨by trivial,0,by omega,2,l,_,_,by omega,rfl,rfl,?_,bG,by omega⟩) (λh=>Zaa rfl λb6 q6=>?_)⟩
    ·rw[h];rfl
    ·rw[h];rfl
    ·have:k=3/\u.k=1:=by simpa using h
     have hj:ZbM k u=[]:=by rw[ZfS,if_neg gA,if_pos this]
     rw[hl];simp[hj]
    ·have:¬(k=3/\u.k=1):=by simpa using h
     have hj:ZbM k u=[u]:=by rw[ZfS,if_neg gA,if_neg this]
     have iJ:=Mem.le_add q6 u.cs
     refine⟨.inl rfl,Rx.ZcS l,u.cs,Zar _,rfl,bG.mono iJ,.inr ⟨b6,0,rfl,λj v hj=>by rw[Nat.zero_add,Mem.add_same];exact hj⟩,by rw[<-Zbs];exact ZeY _,by omega,by omega,λa2 c2 m4 cB cI=>⟨by trivial,0,by omega,2,l++[u],a2,c2,by omega,?_,?_,?_,?_,?_⟩⟩
     ·rw[List.length_append];rfl
     ·rw[List.length_append];rfl
     ·rw[hl];simp[hj]
     ·rw[ZaP,Zbs];exact cI
     ·omega
 ·have:i=2:=by have:=of_decide_eq_false cR;omega
  subst this
  have hl':ZbM k t++ZbM k u=l:=by rw[hl];simp
  rw[hl']
  have cK:∀x∈l,Rep m3 x:=by
   have key:∀t:T,Rep m t->∀x∈ZbM k t,Rep m3 x:=by
    intro t hr x hx
    rw[ZfS]at hx
    split at hx
    ·exact Zoh (hr.subs.mono kC) x hx
    ·split at hx
     ·simp at hx
     ·simp at hx;subst hx;exact hr.mono kC
   rw[<-hl']
   intro x hx
   rcases List.mem_append.1 hx with hx|hx
   ·exact key t hr x hx
   ·exact key u hu x hx
  refine Zab (λh0=>?_) (λh0=>Zab (λh1=>?_) (λh1=>?_))
  ·have:l=[]:=by simpa using h0
   subst this
   exact Zah kC ⟨T1,rfl,Zsy _,none,0,rfl⟩
  ·have vH:l.length=1:=by
    have:((l.length:Int) == 1)=true:=h1
    have:=of_decide_eq_true this;omega
   obtain⟨x,rfl⟩:∃x,l=[x]:=by
    match l,vH with
    | [x],_=>exact⟨x,rfl⟩
   rcases bG with bG|⟨b6,o,ha,cS⟩
   ·simp[Rx.ZcS,T.cs]at bG
   ·rw[Zbs]at cS
    exact⟨b6,o,ha,⟨by omega,by simp⟩,_,_,_,_,_,_,_,_,cS,Zaa rfl (Zg1 kC ⟨x,rfl,cK x (by simp),none,0,rfl⟩)⟩
  ·have vM:¬l.length=0:=λe=>by rw[e]at h0;simp at h0
   have nM:¬l.length=1:=λe=>by rw[e]at h1;simp at h1
   obtain⟨x,y,r,rfl⟩:∃x y r,l=x::y::r:=by
    match l,vM,nM with
    | [],h,_=>simp at h
    | [x],_,h=>simp at h
    | x::y::r,_,_=>exact⟨x,y,r,rfl⟩
   refine Zg1 kC ⟨Zap k 0 0 _ _ (x::y::r),rfl,Zbg (Zq7 bG cK (by omega)) (by omega) (by omega) (by omega),_,_,rfl⟩
end Go.Proofs.Ytgclajkldphoaaa
set_option linter.unusedVariables false
set_option linter.unusedSimpArgs false
set_option linter.unusedSectionVars false
namespace Go.Proofs.Ytgclajkldphoaaa
open Go Go.Eng Go.Rx Go.Proofs Go.RowKit
set_option maxRecDepth 100000
structure Sm (m:Mem)(a:Option Addr)(l:List (Nat×Nat×Nat)):Prop where
 len:l.length<=9223372036854775807
 byte:∀s∈l,s.1 < 256/\s.2.1 < 256/\s.2.2 < 256
 at':∀i s,l[i]?=some s->∃b o,a=some ⟨b,o,none⟩/\m.reads b (o+i*3) [.int .u8 s.1,.int .u8 s.2.1,.int .u8 s.2.2]
theorem Sm.mono{m m':Mem}{a l}(h:Sm m a l)(hm:m.le m'):Sm m' a l:=
 ⟨h.len,h.byte,λi s hi=>by obtain⟨b,o,h1,h2⟩:=h.at' i s hi;exact⟨b,o,h1,h2.mono hm⟩⟩
theorem ZoT(n:Nat):(([[97],[98],[97,98],[97],[98],[99],[97,98,99],[98,99],[10],[0,255],[97],[98]][n % 12]?).getD []:List Nat).length<=100000:=by
 have h:n % 12=0\/n % 12=1\/n % 12=2\/n % 12=3\/n % 12=4\/n % 12=5\/n % 12=6\/n % 12=7\/n % 12=8\/n % 12=9\/n % 12=10\/n % 12=11:=by omega
 rcases h with e|e|e|e|e|e|e|e|e|e|e|e <;> rw[e] <;> decide
theorem ZwQ:∀L < 3,∀Mo < 4,((Mo < L\/Mo=0\/(L=1/\Mo=1))->Zfg (L:Nat) (-1)=true/\Zun (L:Nat) (-1)<=((max 1 L:Nat):Int))/\(¬(Mo < L\/Mo=0\/(L=1/\Mo=1))->Zfg (L:Nat) (Mo:Nat)=true/\Zun (L:Nat) (Mo:Nat)<=((max 1 (max L Mo):Nat):Int)):=by
 intro L hL Mo hM
 have h1:L=0\/L=1\/L=2:=by omega
 have h2:Mo=0\/Mo=1\/Mo=2\/Mo=3:=by omega
 rcases h1 with rfl|rfl|rfl <;> rcases h2 with rfl|rfl|rfl|rfl <;> exact⟨λ_=>by first|exact⟨by decide,by decide⟩|omega,λ_=>by first|exact⟨by decide,by decide⟩|omega⟩
theorem ZwR(l:List (Nat×Nat×Nat))(a:Option Addr)(c:Nat)(m:Mem)(hl:Sm m a l)(hc:l.length<=c):CX Try.prog 9 #[.slice a l.length c] m [] (Zhx (λt=>t.check=0)):=by
 apply ZkK
 unfold Zhe
 have bL:=hl.len
 intro b
 have hN:(if(25:Int) < (l.length:Int)then(25:Int)else(l.length:Int))=((min 25 l.length:Nat):Int):=by split <;> omega
 simp only[hN,Int.toNat_natCast,Nat.sub_zero]
 generalize BG:min 25 l.length=N
 refine⟨⟨by omega,by omega⟩,λxs css tvs m' q=>∃(i:Nat)(ts:List T)(a:Option Addr)(c:Nat)(u g:Nat)(mb:Mem),i<=N/\xs=[.slice a ts.length c,.int .i64 u,.int .i64 g,.int .i64 i]/\tvs=[.slice a ts.length c]/\ts.length<=c/\m.le mb/\mb.le m'/\Apart mb a/\rowRd m' a (Rx.ZcS ts)/\(∀t∈ts,Rep mb t)/\J i ts u g/\q=N - i,⟨N,0,[],none,0,1,0,m,by omega,rfl,rfl,by simp,Mem.le_refl _,Mem.le_refl _,.inl rfl,.inl rfl,by simp,J.zero,by omega⟩,?_⟩
 rintro a1 n1 c1 z1 z2 z3 a2 n2 c2 m1 q _ ⟨i,ts,a',c',u,g,mb,hi,cU,gQ,c9,iO,eG,cT,bG,cK,hJ,hq⟩
 simp only[List.cons.injEq,Value.slice.injEq,Value.int.injEq,true_and,and_true]at cU gQ
 obtain⟨⟨rfl,rfl,rfl⟩,rfl,rfl,rfl⟩:=cU
 obtain⟨rfl,rfl,rfl⟩:=gQ
 have jM:ts.length<=25:=by have:=hJ.sz;have:=Zq9 ts;omega
 refine Zab (λbF=>?_) (λcR=>?_)
 ·have zt:i < N:=by have:=of_decide_eq_true bF;omega
  have hi':i < l.length:=by omega
  obtain⟨s,hs⟩:=Zfl hi'
  obtain⟨bs,os,ha,cS⟩:=(hl.mono (mLt iO eG)).at' i s hs
  obtain⟨s1,s2,s3⟩:=s
  obtain⟨BH,kK,xq⟩:=hl.byte _ (List.mem_of_getElem? hs)
  have hw:IntKind.i64.wrap ((i:Int)+1)=((i+1:Nat):Int):=by rw[ZaK (by omega) (by omega)];rfl
  have vN:Int.tmod (intOf (Value.int .u8 (s1:Nat))) 12=((s1 % 12:Nat):Int):=rfl
  simp only[hw,Int.toNat_natCast]
  refine⟨bs,os,ha,⟨by omega,by omega⟩,_,_,_,cS,λb2=>Zaa rfl (Zaa rfl ⟨by omega,?_⟩)⟩
  simp only[vN]
  refine Zab (λh1=>?_) (λh1=>Zab (λh2=>?_) (λh2=>?_))
  ·refine ZaZ (Zqs s2 kK m1) (λv _ _ ⟨s,e,_⟩=>by rw[e];rfl) ?_
   rintro str m2 bO ⟨s',hv,hb⟩
   cases hv
   refine ZaZ (ZoS str (by rw[hb];unfold Zd2;exact ZoT _) m2) ZbT (Zgx λt m3 bX hr ht b3 rH=>?_)
   rw[hb]at ht
   have dE:=mLt bO (mLt bX (Mem.le_add rH t.cs))
   obtain⟨k1,k2,k3,k4⟩:=Zra s2
   refine⟨.inl trivial,Rx.ZcS ts,t.cs,Zar _,rfl,bG.mono (dE),.inr ⟨b3,0,rfl,λj v hj=>by rw[Nat.zero_add,Mem.add_same];exact hj⟩,by rw[<-Zbs];exact ZeY _,by omega,by omega,λa4 c4 m4 cB cI bR=>⟨by trivial,N - (i+1),by omega,i+1,ts++[t],a4,c4,u,g,mb,by omega,?_,?_,by have:=bR.1;rw[List.length_append];exact this,iO,mLt eG (mLt (dE) cB),cT.tok (mLt eG (dE)) bR,?_,?_,?_,by omega⟩⟩
   ·rw[List.length_append];rfl
   ·rw[List.length_append];rfl
   ·rw[ZaP,Zbs];exact cI
   ·intro x hx
    rcases List.mem_append.1 hx with hx|hx
    ·exact cK x hx
    ·simp at hx;subst hx;exact(by rw[ht];exact Zoi _ _)
   ·rw[ht];exact hJ.push k1 k2 k3 k4
  ·intro b3 rH
   have dE:=Mem.le_add rH T1.cs
   refine⟨.inl trivial,Rx.ZcS ts,T1.cs,Zar _,rfl,bG.mono (dE),.inr ⟨b3,0,rfl,λj v hj=>by rw[Nat.zero_add,Mem.add_same];exact hj⟩,by rw[<-Zbs];exact ZeY _,by omega,by omega,λa4 c4 m4 cB cI bR=>⟨by trivial,N - (i+1),by omega,i+1,ts++[T1],a4,c4,u,g,mb,by omega,?_,?_,by have:=bR.1;rw[List.length_append];exact this,iO,mLt eG (mLt (dE) cB),cT.tok (mLt eG (dE)) bR,?_,?_,?_,by omega⟩⟩
   ·rw[List.length_append];rfl
   ·rw[List.length_append];rfl
   ·rw[ZaP,Zbs];exact cI
   ·intro x hx
    rcases List.mem_append.1 hx with hx|hx
    ·exact cK x hx
    ·simp at hx;subst hx;exact Zsy _
   ·exact hJ.push Zwf.1 Zwf.2.1 Zwf.2.2.1 Zwf.2.2.2
  ·refine⟨decide (s1 % 12 < 7)&&decide (1 < ts.length),Zab (λh3=>⟨by trivial,by trivial,?_⟩) (λh3=>⟨by trivial,by trivial,?_⟩),Zab (λh3=>?_) (λh3=>?_)⟩
   ·refine Zao ?_
    rw[Bool.eq_iff_iff];simp;have:=of_decide_eq_true h3;omega
   ·refine Zao ?_
    rw[eq_comm,Bool.and_eq_false_iff];left;have:=of_decide_eq_false h3;exact decide_eq_false (by omega)
   ·skip
    obtain⟨r,x,y,rfl⟩:=Zyp (ts:=ts) (by simp at h3;omega)
    have iP:(r++[x,y]).length=r.length+2:=by simp
    have dX:IntKind.i64.wrap (((r++[x,y]).length:Int) - 2)=(r.length:Int):=by rw[iP,ZaK (by omega) (by omega)];omega
    have eH:IntKind.i64.wrap (((r++[x,y]).length:Int) - 1)=((r.length+1:Nat):Int):=by rw[iP,ZaK (by omega) (by omega)];omega
    simp only[dX,eH,Int.toNat_natCast,Nat.sub_zero]
    obtain⟨bb,lC,kP,o',u',hu'⟩:=cT.base bG (by simp)
    obtain⟨bx,ox,oO,mN⟩:=Zfm bG (i:=r.length) (t:=x) (by simp)
    obtain⟨by',oy,vO,vP⟩:=Zfm bG (i:=r.length+1) (t:=y) (by simp)
    have vQ:(ZbM 3 x).length<=10000:=by
     have:=hJ.sz
     rw[ZaQ,show szL [x,y]=szL ([x]++[y]) from rfl,ZaQ,ZbL,ZbL]at this
     have:=Zfi (k:=3) (t:=x)
     omega
    have vR:(ZbM 3 y).length<=10000:=by
     have:=hJ.sz
     rw[ZaQ,show szL [x,y]=szL ([x]++[y]) from rfl,ZaQ,ZbL,ZbL]at this
     have:=Zfi (k:=3) (t:=y)
     omega
    refine⟨λ_ _ _=>Zpv mb m1 (λr=>∃a c,r=Zhs 3 a c (ZbM 3 x++ZbM 3 y)),⟨by omega,by omega⟩,⟨by omega,by omega⟩,bx,ox,oO,⟨by omega,by omega⟩,_,_,_,_,_,_,_,_,mN,by',oy,vO,⟨by omega,by omega⟩,_,_,_,_,_,_,_,_,vP,Zpv mb m1 (λr=>∃a c,r=Zhs 3 a c (ZbM 3 x++ZbM 3 y)),rfl,(Znh 3 x y (by omega) mb (cK x (by simp)) (cK y (by simp)) vQ vR).frame2 eG,ZdW,ZjN λt m0 m3 bX h0 mO bZ lJ ht b6 q6=>?_⟩
    obtain⟨at',ct,ht⟩:=ht
    have iJ:=Mem.le_add q6 t.cs
    have fU:Apart m0 _:=.inr ⟨bb,lC,λo=>by rw[bZ bb o' u' hu' o];exact kP o⟩
    refine⟨.inr (.inr (by omega)),Rx.ZcS r,t.cs,Zar _,rfl,((Zry bG).mono bX).mono iJ,.inr ⟨b6,0,rfl,λj v hj=>by rw[Nat.zero_add,Mem.add_same];exact hj⟩,by rw[<-Zbs];exact ZeY _,by omega,by omega,λa4 c4 m4 cB cI bR M dL dR kB dV=>⟨by trivial,N - (i+1),by omega,i+1,r++[t],a4,c4,u,g,m0,by omega,?_,?_,by have:=bR.1;rw[List.length_append];exact this,mLt iO h0,mLt mO dR,fU.tok (mLt mO iJ) bR,?_,?_,?_,by omega⟩⟩
    ·rw[List.length_append];rfl
    ·rw[List.length_append];rfl
    ·rw[ZaP,Zbs];exact cI.mono dV
    ·intro z hz
     rcases List.mem_append.1 hz with hz|hz
     ·exact(cK z (by simp[hz])).mono h0
     ·simp at hz;subst hz;exact lJ
    ·rw[ht];exact hJ.join (by omega) (by omega) _ _
   ·refine⟨decide (s1 % 12 < 9)&&decide (1 < ts.length),Zab (λh4=>⟨by trivial,by trivial,?_⟩) (λh4=>⟨by trivial,by trivial,?_⟩),Zab (λh4=>?_) (λh4=>?_)⟩
    ·refine Zao ?_
     rw[Bool.eq_iff_iff];simp;have:=of_decide_eq_true h4;omega
    ·refine Zao ?_
     rw[eq_comm,Bool.and_eq_false_iff];left;have:=of_decide_eq_false h4;exact decide_eq_false (by omega)
    ·skip
     obtain⟨r,x,y,rfl⟩:=Zyp (ts:=ts) (by simp at h4;omega)
     have iP:(r++[x,y]).length=r.length+2:=by simp
     have dX:IntKind.i64.wrap (((r++[x,y]).length:Int) - 2)=(r.length:Int):=by rw[iP,ZaK (by omega) (by omega)];omega
     have eH:IntKind.i64.wrap (((r++[x,y]).length:Int) - 1)=((r.length+1:Nat):Int):=by rw[iP,ZaK (by omega) (by omega)];omega
     simp only[dX,eH,Int.toNat_natCast,Nat.sub_zero]
     obtain⟨bb,lC,kP,o',u',hu'⟩:=cT.base bG (by simp)
     obtain⟨bx,ox,oO,mN⟩:=Zfm bG (i:=r.length) (t:=x) (by simp)
     obtain⟨by',oy,vO,vP⟩:=Zfm bG (i:=r.length+1) (t:=y) (by simp)
     have vQ:(ZbM 4 x).length<=10000:=by
      have:=hJ.sz
      rw[ZaQ,show szL [x,y]=szL ([x]++[y]) from rfl,ZaQ,ZbL,ZbL]at this
      have:=Zfi (k:=4) (t:=x)
      omega
     have vR:(ZbM 4 y).length<=10000:=by
      have:=hJ.sz
      rw[ZaQ,show szL [x,y]=szL ([x]++[y]) from rfl,ZaQ,ZbL,ZbL]at this
      have:=Zfi (k:=4) (t:=y)
      omega
     refine⟨λ_ _ _=>Zpv mb m1 (λr=>∃a c,r=Zhs 4 a c (ZbM 4 x++ZbM 4 y)),⟨by omega,by omega⟩,⟨by omega,by omega⟩,bx,ox,oO,⟨by omega,by omega⟩,_,_,_,_,_,_,_,_,mN,by',oy,vO,⟨by omega,by omega⟩,_,_,_,_,_,_,_,_,vP,Zpv mb m1 (λr=>∃a c,r=Zhs 4 a c (ZbM 4 x++ZbM 4 y)),rfl,(Znh 4 x y (by omega) mb (cK x (by simp)) (cK y (by simp)) vQ vR).frame2 eG,ZdW,ZjN λt m0 m3 bX h0 mO bZ lJ ht b6 q6=>?_⟩
     obtain⟨at',ct,ht⟩:=ht
     have iJ:=Mem.le_add q6 t.cs
     have fU:Apart m0 _:=.inr ⟨bb,lC,λo=>by rw[bZ bb o' u' hu' o];exact kP o⟩
     refine⟨.inr (.inr (by omega)),Rx.ZcS r,t.cs,Zar _,rfl,((Zry bG).mono bX).mono iJ,.inr ⟨b6,0,rfl,λj v hj=>by rw[Nat.zero_add,Mem.add_same];exact hj⟩,by rw[<-Zbs];exact ZeY _,by omega,by omega,λa4 c4 m4 cB cI bR M dL dR kB dV=>⟨by trivial,N - (i+1),by omega,i+1,r++[t],a4,c4,u,g,m0,by omega,?_,?_,by have:=bR.1;rw[List.length_append];exact this,mLt iO h0,mLt mO dR,fU.tok (mLt mO iJ) bR,?_,?_,?_,by omega⟩⟩
     ·rw[List.length_append];rfl
     ·rw[List.length_append];rfl
     ·rw[ZaP,Zbs];exact cI.mono dV
     ·intro z hz
      rcases List.mem_append.1 hz with hz|hz
      ·exact(cK z (by simp[hz])).mono h0
      ·simp at hz;subst hz;exact lJ
     ·rw[ht];exact hJ.join (by omega) (by omega) _ _
    ·refine⟨decide (s1 % 12=9)&&(decide (0 < ts.length)&&decide (g < 9)),Zab (λh5=>Zab (λh6=>⟨by trivial,by trivial,?_⟩) (λh6=>⟨by trivial,by trivial,?_⟩)) (λh5=>⟨by trivial,by trivial,?_⟩),Zab (λh5=>?_) (λh5=>?_)⟩
     ·refine Zao ?_
      have e1:=of_decide_eq_true h6
      have e2:s1 % 12=9:=by have:=h5;simp at this;omega
      rw[decide_eq_true e2,decide_eq_true (show 0 < ts.length by omega),Bool.true_and,Bool.true_and,Bool.eq_iff_iff];simp;omega
     ·refine Zao ?_
      have e1:=of_decide_eq_false h6
      rw[decide_eq_false (show ¬0 < ts.length by omega)];simp
     ·refine Zao ?_
      have e2:¬s1 % 12=9:=by have:=h5;simp at this;omega
      rw[decide_eq_false e2];rfl
     ·
      have zu:g < 9:=by simp at h5;omega
      skip
      obtain⟨r,x,rfl⟩:=Zyq (ts:=ts) (by simp at h5;omega)
      have iP:(r++[x]).length=r.length+1:=by simp
      have eH:IntKind.i64.wrap (((r++[x]).length:Int) - 1)=(r.length:Int):=by rw[iP,ZaK (by omega) (by omega)];omega
      obtain⟨bb,lC,kP,o',u',hu'⟩:=cT.base bG (by simp)
      subst lC
      obtain⟨bx,ox,oO,mN⟩:=Zfm bG (i:=r.length) (t:=x) (by simp)
      cases oO
      have zv:IntKind.i64.wrap ((g:Int)+1)=((g+1:Nat):Int):=by rw[ZaK (by omega) (by omega)];rfl
      simp only[eH,zv,Int.toNat_natCast]
      refine⟨_,_,rfl,⟨by omega,by omega⟩,_,_,_,_,_,_,_,_,mN,ZaZ ((ZuR x mb (cK x (by simp))).frame2 eG) (ZdW (mb:=mb) (M0:=m1)) (ZjN λt m0 m3 bX h0 mO bZ lJ ht=>?_)⟩
      obtain⟨at',ct,ht⟩:=ht
      have fU:m0.free bb:=λo=>by rw[bZ bb o' u' hu' o];exact kP o
      refine⟨bb,0,rfl,⟨by omega,by omega⟩,rfl,by omega,by trivial,N - (i+1),by omega,i+1,r++[t],_,_,u,g+1,m0,by omega,?_,?_,by rw[List.length_append];rw[iP]at c9;exact c9,mLt iO h0,Mem.le_upd mO fU _ _,.inr ⟨bb,rfl,fU⟩,Zrz (bG.mono bX),?_,?_,by omega⟩
      ·rw[iP,List.length_append];rfl
      ·rw[iP,List.length_append];rfl
      ·intro z hz
       rcases List.mem_append.1 hz with hz|hz
       ·exact(cK z (by simp[hz])).mono h0
       ·simp at hz;subst hz;exact lJ
      ·rw[ht];exact hJ.group zu _ _
     ·by_cases h0:0 < ts.length
      ·skip
       obtain⟨r,x,rfl⟩:=Zyq (ts:=ts) (by exact h0)
       have iP:(r++[x]).length=r.length+1:=by simp
       have eH:IntKind.i64.wrap (((r++[x]).length:Int) - 1)=(r.length:Int):=by rw[iP,ZaK (by omega) (by omega)];omega
       obtain⟨bb,lC,kP,o',u',hu'⟩:=cT.base bG (by simp)
       subst lC
       obtain⟨bx,ox,oO,mN⟩:=Zfm bG (i:=r.length) (t:=x) (by simp)
       cases oO
       have zw:IntKind.i64.wrap (Int.tmod (intOf (Value.int .u8 (s2:Nat))) 3)=((s2 % 3:Nat):Int):=by
        rw[show Int.tmod (intOf (Value.int .u8 (s2:Nat))) 3=((s2 % 3:Nat):Int) from rfl,ZaK (by omega) (by omega)]
       have zx:IntKind.i64.wrap (Int.tmod (intOf (Value.int .u8 (s3:Nat))) 4)=((s3 % 4:Nat):Int):=by
        rw[show Int.tmod (intOf (Value.int .u8 (s3:Nat))) 4=((s3 % 4:Nat):Int) from rfl,ZaK (by omega) (by omega)]
       simp only[eH,zw,zx,Int.toNat_natCast]
       have zy:s2 % 3 < 3:=by omega
       have dV:s3 % 4 < 4:=by omega
       generalize s2 % 3=L at *
       generalize s3 % 4=Mo at *
       refine⟨decide (9 < s1 % 12)&&!(x.k == 1),Zab (λh6=>Zab (λh7=>⟨_,_,rfl,⟨by omega,by omega⟩,.int .u8 x.k,mN 0 _ rfl,Zaa rfl ⟨by trivial,by trivial,?_⟩⟩) (λh7=>absurd h7 (by simp))) (λh6=>⟨by trivial,by trivial,?_⟩),Zab (λh6=>Zaa rfl ⟨by omega,Zaa rfl ⟨by omega,?_⟩⟩) (λh6=>⟨by trivial,N - (i+1),by omega,i+1,r++[x],_,_,u,g,mb,by omega,rfl,rfl,c9,iO,eG,cT,bG,cK,hJ.skip,by omega⟩)⟩
       ·refine Zao ?_
        have:=of_decide_eq_true h6
        rw[decide_eq_true (show 9 < s1 % 12 by omega),Bool.true_and];rfl
       ·refine Zao ?_
        have:=of_decide_eq_false h6
        rw[decide_eq_false (show ¬9 < s1 % 12 by omega)];rfl
       ·have fW:x.k≠1:=by
         rw[Bool.and_eq_true]at h6
         simpa using h6.2
        obtain⟨tab1,tab2⟩:=ZwQ L zy Mo dV
        refine⟨decide (Mo < L\/Mo=0\/(L=1/\Mo=1)),Zab (λg1=>⟨by trivial,by trivial,Zao ?_⟩) (λg1=>Zab (λg2=>⟨by trivial,by trivial,Zao ?_⟩) (λg2=>Zab (λg3=>⟨by trivial,by trivial,Zao ?_⟩) (λg3=>⟨by trivial,by trivial,Zao ?_⟩))),Zab (λg4=>?_) (λg4=>?_)⟩
        ·have:=of_decide_eq_true g1
         exact(decide_eq_true (by omega)).symm
        ·have:Mo=0:=by simp at g2;omega
         exact(decide_eq_true (by omega)).symm
        ·have e1:=of_decide_eq_false g1
         have e2:¬Mo=0:=by simp at g2;omega
         have e3:L=1:=by simp at g3;omega
         rw[Bool.eq_iff_iff];simp;omega
        ·have e1:=of_decide_eq_false g1
         have e2:¬Mo=0:=by simp at g2;omega
         have e3:¬L=1:=by simp at g3;omega
         exact(decide_eq_false (by omega)).symm
        ·
         have hA:(if(1:Int) > (if(-1:Int) > (L:Int)then(-1:Int)else(L:Int))then(1:Int)else(if(-1:Int) > (L:Int)then(-1:Int)else(L:Int)))=((max 1 L:Nat):Int):=by
          split <;> split <;> omega
         obtain⟨tb,tp⟩:=tab1 (of_decide_eq_true g4)
         have qZ:u*max 1 L<=48:=by have:=Nat.mul_le_mul hJ.u16 (show max 1 L<=3 by omega);omega
         have vS:IntKind.i64.wrap ((u:Int)*((max 1 L:Nat):Int))=((u*max 1 L:Nat):Int):=by rw[<-Int.natCast_mul];exact ZaK (by omega) (by omega)
         simp only[hA,vS]
         refine Zab (λg5=>?_) (λg5=>⟨by trivial,N - (i+1),by omega,i+1,r++[x],_,_,u,g,mb,by omega,rfl,rfl,c9,iO,eG,cT,bG,cK,hJ.skip,by omega⟩)
         have q7:u*max 1 L<=16:=by have:=of_decide_eq_true g5;omega
         refine⟨_,_,rfl,⟨by omega,by omega⟩,_,_,_,_,_,_,_,_,mN,ZaZ ((ZwP x (L:Nat) (-1:Int) ⟨by omega,by omega⟩ ⟨by omega,by omega⟩ mb (cK x (by simp))).frame2 eG) (ZdW (mb:=mb) (M0:=m1)) (ZjN λt m0 m3 bX h0 mO bZ lJ ht=>?_)⟩
         obtain⟨at',ct,ht⟩:=ht
         have fU:m0.free bb:=λo=>by rw[bZ bb o' u' hu' o];exact kP o
         refine⟨bb,0,rfl,⟨by omega,by omega⟩,rfl,by omega,by trivial,N - (i+1),by omega,i+1,r++[t],_,_,u*max 1 L,g,m0,by omega,?_,?_,by rw[List.length_append];rw[iP]at c9;exact c9,mLt iO h0,Mem.le_upd mO fU _ _,.inr ⟨bb,rfl,fU⟩,Zrz (bG.mono bX),?_,?_,by omega⟩
         ·rw[iP,List.length_append];rfl
         ·rw[iP,List.length_append];rfl
         ·intro z hz
          rcases List.mem_append.1 hz with hz|hz
          ·exact(cK z (by simp[hz])).mono h0
          ·simp at hz;subst hz;exact lJ
         ·rw[ht];exact hJ.rep fW tb tp (by omega) q7 _ _
        ·
         have hA:(if(1:Int) > (if((Mo:Int)) > (L:Int)then((Mo:Int))else(L:Int))then(1:Int)else(if((Mo:Int)) > (L:Int)then((Mo:Int))else(L:Int)))=((max 1 (max L Mo):Nat):Int):=by
          split <;> split <;> omega
         obtain⟨tb,tp⟩:=tab2 (of_decide_eq_false g4)
         have qZ:u*max 1 (max L Mo)<=48:=by have:=Nat.mul_le_mul hJ.u16 (show max 1 (max L Mo)<=3 by omega);omega
         have vS:IntKind.i64.wrap ((u:Int)*((max 1 (max L Mo):Nat):Int))=((u*max 1 (max L Mo):Nat):Int):=by rw[<-Int.natCast_mul];exact ZaK (by omega) (by omega)
         simp only[hA,vS]
         refine Zab (λg5=>?_) (λg5=>⟨by trivial,N - (i+1),by omega,i+1,r++[x],_,_,u,g,mb,by omega,rfl,rfl,c9,iO,eG,cT,bG,cK,hJ.skip,by omega⟩)
         have q7:u*max 1 (max L Mo)<=16:=by have:=of_decide_eq_true g5;omega
         refine⟨_,_,rfl,⟨by omega,by omega⟩,_,_,_,_,_,_,_,_,mN,ZaZ ((ZwP x (L:Nat) ((Mo:Int)) ⟨by omega,by omega⟩ ⟨by omega,by omega⟩ mb (cK x (by simp))).frame2 eG) (ZdW (mb:=mb) (M0:=m1)) (ZjN λt m0 m3 bX h0 mO bZ lJ ht=>?_)⟩
         obtain⟨at',ct,ht⟩:=ht
         have fU:m0.free bb:=λo=>by rw[bZ bb o' u' hu' o];exact kP o
         refine⟨bb,0,rfl,⟨by omega,by omega⟩,rfl,by omega,by trivial,N - (i+1),by omega,i+1,r++[t],_,_,u*max 1 (max L Mo),g,m0,by omega,?_,?_,by rw[List.length_append];rw[iP]at c9;exact c9,mLt iO h0,Mem.le_upd mO fU _ _,.inr ⟨bb,rfl,fU⟩,Zrz (bG.mono bX),?_,?_,by omega⟩
         ·rw[iP,List.length_append];rfl
         ·rw[iP,List.length_append];rfl
         ·intro z hz
          rcases List.mem_append.1 hz with hz|hz
          ·exact(cK z (by simp[hz])).mono h0
          ·simp at hz;subst hz;exact lJ
         ·rw[ht];exact hJ.rep fW tb tp (by omega) q7 _ _
      ·refine⟨false,Zab (λh6=>Zab (λh7=>absurd (of_decide_eq_true h7) (by omega)) (λh7=>⟨by trivial,by trivial,rfl⟩)) (λh6=>⟨by trivial,by trivial,rfl⟩),ZkQ rfl ⟨by trivial,N - (i+1),by omega,i+1,ts,_,_,u,g,mb,by omega,rfl,rfl,c9,iO,eG,cT,bG,cK,hJ.skip,by omega⟩⟩
 ·have zt:i=N:=by have:=of_decide_eq_false cR;omega
  have bH:=mLt iO eG
  refine Zab (λh0=>?_) (λh0=>?_)
  ·have vT:(ZbV ⟨#[97]⟩)=Zd2 0:=by rfl
   refine ZaZ (ZoS ⟨#[97]⟩ (by decide) m1) ZbT (Zgx λt m2 bO hr ht=>Zg1 (mLt bH bO) ⟨t,rfl,hr,?_⟩)
   rw[vT]at ht
   obtain⟨k1,k2,k3,k4⟩:=Zra 0
   rw[<-ht]at k1 k2 k3 k4
   exact F.done (l:=[]) ⟨k1,by simp,by simp[szL,Zak,k2],by simp[ZfB];omega,by simp[grL,Zak,k4]⟩
  ·obtain⟨t0,rest,rfl⟩:∃t r,ts=t::r:=by cases ts with
    | nil=>simp at h0
    | cons t r=>exact⟨t,r,rfl⟩
   have hF:=F.start hJ (by omega)
   obtain⟨bb,lC,kP,o',u',hu'⟩:=cT.base bG (by simp)
   subst lC
   obtain⟨bx,ox,oO,mN⟩:=Zfm bG (i:=0) (t:=t0) rfl
   cases oO
   rw[List.length_cons]at jM c9
   refine⟨_,_,rfl,⟨by omega,by simp⟩,_,_,_,_,_,_,_,_,mN,λb2=>Zaa rfl ⟨⟨by omega,by rw[List.length_cons];omega⟩,?_⟩⟩
   refine⟨λxs css tvs m' q=>∃(k:Nat)(t:T),k<=rest.length/\xs=[.int .i64 k]/\css=[t.cs]/\m1.le m'/\Rep m' t/\F t (rest.drop k)/\q=rest.length - k,⟨rest.length,0,t0,by omega,rfl,rfl,Mem.le_refl _,(cK t0 (by simp)).mono eG,hF,by omega⟩,?_⟩
   rintro z cs m2 q2 _ ⟨k,t,hk,hz,cP,bO,lJ,t8,jW⟩
   obtain rfl:z=k:=by simpa using hz
   obtain rfl:cs=t.cs:=by simpa using cP
   have xG:((t0::rest).length - Int.toNat 1)=rest.length:=by simp
   simp only[xG]
   refine Zab (λbF=>?_) (λvU=>Zaa rfl (Zg1 (mLt bH bO) ⟨t,rfl,lJ,t8.done⟩))
   have bI:k < rest.length:=by have:=of_decide_eq_true bF;omega
   obtain⟨x,hx⟩:=Zfl bI
   obtain⟨b3,o3,zA,sf⟩:=Zfm (bG.mono bO) (i:=k+1) (t:=x) (by simpa using hx)
   cases zA
   have fB:IntKind.i64.wrap ((k:Int)+1)=((k+1:Nat):Int):=by rw[ZaK (by omega) (by omega)];rfl
   simp only[fB,Int.toNat_natCast]
   rw[ZhW hx]at t8
   have bW:=t8.sz
   rw[Zkx]at bW
   have y0:=Zfi (k:=4) (t:=t)
   have xA:=Zfi (k:=4) (t:=x)
   have lK:ZaW (some (⟨bb,0,none⟩:Addr)) (Int.toNat 1) c2 8=some ⟨bb,0+8,none⟩:=by
    unfold ZaW
    have:Nat.beq c2 1=false:=by
     cases hb:Nat.beq c2 1 with
     | false=>rfl
     | true=>have:=Nat.eq_of_beq_eq_true hb;omega
    show(bif Nat.beq c2 1 then _ else some (Addr.add _ (1*8)))=_
    rw[this,ZbO];rfl
   refine⟨_,_,lK,⟨by omega,by omega⟩,_,_,_,_,_,_,_,_,by rw[show 0+8+k*8=0+(k+1)*8 by omega];exact sf,λb4=>Zaa rfl (ZaZ (Znh 4 t x (.inr rfl) m2 lJ ((cK x (by simp[List.mem_of_getElem? hx])).mono (mLt eG bO)) (by omega) (by omega)) ZbT (Zgx λt' m3 bX hr' ht'=>⟨by trivial,by trivial,rest.length - (k+1),by omega,k+1,t',by omega,rfl,rfl,mLt bO bX,hr',?_,by omega⟩))⟩
   obtain⟨a3,c3,ht'⟩:=ht'
   rw[ht'];exact t8.step _ _
end Go.Proofs.Ytgclajkldphoaaa
set_option linter.unusedVariables false
set_option linter.unusedSimpArgs false
namespace Go.Proofs.Ytgclajkldphoaaa
open Go Go.Eng Go.Rx Go.Proofs Go.RowKit Go.ChangeShapes Go.WideShapes Go.ChangeAt
set_option maxRecDepth 100000
theorem Zx0:ownKnob Try.prog.godebug=none:=by kernel_rfl
theorem ZwS:laidOutB Try.prog=true:=by kernel_rfl
theorem ZtW{n:Int}(h:(Lit.int .u8 n).wf=true):0<=n/\n < 256:=by
 have:0<=n/\n<=255:=by simpa[Lit.wf,IntKind.min,IntKind.max,IntKind.signed,IntKind.bits]using h
 omega
theorem ZoU{w:World}{a:Addr}{v:Value}(h:w.cell? ((a.add (0*3)).add 0)=some v):∃b o,a=⟨b,o,none⟩:=by
 obtain⟨b,o,sp⟩:=a
 cases sp with
 | none=>exact⟨b,o,rfl⟩
 | some s=>
  exfalso
  have e:(Addr.add (Addr.add ⟨b,o,some s⟩ (0*3)) 0)=⟨b,o,some s⟩:=rfl
  rw[e]at h
  unfold World.cell? at h
  split at h
  ·simp at h
  ·cases h
theorem ZtX:Try.prog.cellsOf 22=1/\Try.prog.cellsOf 78=3:=⟨by kernel_rfl,by kernel_rfl⟩
theorem ZsP{H:Type}{enc:TypeId×Value->H}{w:World}{base:Nat}{sp:Nat->Bool}{fI:Bool}{n:Nat}{cs:List Value}{x:DataW H×List MemPlace}(h:DataW.trod enc Try.prog w base sp fI n 78 cs=some x):
  ∃s:Nat×Nat×Nat,cs=[.int .u8 s.1,.int .u8 s.2.1,.int .u8 s.2.2]/\s.1 < 256/\s.2.1 < 256/\s.2.2 < 256:=by
 obtain⟨xs,k,rfl,rfl,bL,cU,hx⟩:=DataW.trod_struct (fs:=(Try.prog.fieldsOf 78)) (by kernel_rfl) h
 rw[ZtX.2]at bL
 have hf:(Try.prog.fieldsOf 78)=#[⟨ "Kind",5,0,false, "", "",0⟩,⟨ "N",5,1,false, "", "",1⟩,⟨ "M",5,2,false, "", "",2⟩]:=by kernel_rfl
 rw[hf]at hx cU
 have hc:Try.prog.cellsOf 5=1:=by kernel_rfl
 obtain⟨c0,c1,c2,rfl⟩:∃a b c,cs=[a,b,c]:=by
  match cs,bL with
  | [a,b,c],_=>exact⟨a,b,c,rfl⟩
 have get:∀i,i < 3->∃z,xs[i]?=some z:=λi hi=>⟨xs[i]'(by rw[cU];exact hi),List.getElem?_eq_getElem _⟩
 have h0:DataW.trod enc Try.prog w base sp fI k 5 (List.take (Try.prog.cellsOf 5) (List.drop 0 [c0,c1,c2]))=xs[0]?:=hx 0 _ rfl
 have h1:DataW.trod enc Try.prog w base sp fI k 5 (List.take (Try.prog.cellsOf 5) (List.drop 1 [c0,c1,c2]))=xs[1]?:=hx 1 _ rfl
 have h2:DataW.trod enc Try.prog w base sp fI k 5 (List.take (Try.prog.cellsOf 5) (List.drop 2 [c0,c1,c2]))=xs[2]?:=hx 2 _ rfl
 obtain⟨z0,e0⟩:=get 0 (by omega)
 obtain⟨z1,e1⟩:=get 1 (by omega)
 obtain⟨z2,e2⟩:=get 2 (by omega)
 rw[e0,hc]at h0
 rw[e1,hc]at h1
 rw[e2,hc]at h2
 have g0:DataW.trod enc Try.prog w base sp fI k 5 [c0]=some z0:=h0
 have g1:DataW.trod enc Try.prog w base sp fI k 5 [c1]=some z1:=h1
 have g2:DataW.trod enc Try.prog w base sp fI k 5 [c2]=some z2:=h2
 obtain⟨n0,k0,_,w0⟩:=DataW.trod_int Try.underlying5 g0
 obtain⟨n1,k1,_,w1⟩:=DataW.trod_int Try.underlying5 g1
 obtain⟨n2,k2,_,w2⟩:=DataW.trod_int Try.underlying5 g2
 simp at k0 k1 k2
 have:=ZtW w0
 have:=ZtW w1
 have:=ZtW w2
 obtain⟨m0,rfl⟩:∃k:Nat,n0=k:=⟨n0.toNat,by omega⟩
 obtain⟨m1,rfl⟩:∃k:Nat,n1=k:=⟨n1.toNat,by omega⟩
 obtain⟨m2,rfl⟩:∃k:Nat,n2=k:=⟨n2.toNat,by omega⟩
 exact⟨(m0,m1,m2),by rw[k0,k1,k2],by simp;omega,by simp;omega,by simp;omega⟩
theorem ZoV{H:Type}{enc:TypeId×Value->H}{W:World}{fI:Bool}{n:Nat}{cs:List Value}{x:DataW H×List MemPlace}(h:DataW.trod enc Try.prog W 0 (λ_=>true) fI n 22 cs=some x):
  ∃l a c,cs=[.slice a l.length c]/\Sm (Zvj W) a l/\l.length<=c:=by
 rcases Go.Deep.open_slice Try.underlying22 h with⟨cP,_⟩|⟨a,len,m,m',n',D,Pl,cP,hb,hl,hm,eK,_,hx⟩
 ·exact⟨[],none,0,cP,⟨by simp,by simp,λi s hi=>by simp at hi⟩,Nat.le_refl _⟩
 ·simp only[if_true]at eK
  subst eK
  rw[ZtX.2]at hx
  obtain⟨F,hF⟩:=Go.Deep.choose_lt (α:=Nat×Nat×Nat) (n:=m') (p:=λi s=>(∀j v,[Value.int .u8 (s.1:Nat),.int .u8 (s.2.1:Nat),.int .u8 (s.2.2:Nat)][j]?=some v->W.cell? ((a.add (i*3)).add j)=some v)/\s.1 < 256/\s.2.1 < 256/\s.2.2 < 256) (λi hi=>by
   obtain⟨cs,h1,h2⟩:=hx i hi
   obtain⟨s,rfl,hs⟩:=ZsP h2
   obtain⟨_,_,hc⟩:=World.cells?_some h1
   refine⟨s,λj v hj=>?_,hs⟩
   have bF:=(List.getElem?_eq_some_iff.1 hj).1
   rw[hc j (by simpa using bF)];exact hj)
  refine⟨(List.range len).map F,some a,m',by rw[cP];simp,⟨by simp[maxLen]at hm ⊢;omega,?_,?_⟩,by simpa using hl⟩
  ·intro s hs
   obtain⟨i,hi,rfl⟩:=List.mem_map.1 hs
   exact(hF i (by have:=List.mem_range.1 hi;omega)).2
  ·intro i s hi
   rw[List.getElem?_map]at hi
   obtain⟨i',hi',rfl⟩:=Option.map_eq_some_iff.1 hi
   have bF:i < len:=by have:=(List.getElem?_eq_some_iff.1 hi').1;simpa using this
   have e:i'=i:=by rw[List.getElem?_range bF]at hi';exact(Option.some.inj hi').symm
   subst e
   obtain⟨h1,_⟩:=hF i' (by omega)
   obtain⟨b,o,rfl⟩:=ZoU ((hF 0 (by omega)).1 0 _ rfl)
   refine⟨b,o,rfl,λj v hj=>?_⟩
   have:=h1 j v hj
   rw[ZbO,ZbO]at this
   exact this
theorem ZjQ(a:Option Addr)(n c:Nat):(Value.slice a n c).cells.toList=[.slice a n c]:=rfl
theorem ZoW{H:Type}{enc:TypeId×Value->H}{W:World}{fI:Bool}{v:Value}{d:DataW H}{ps:List MemPlace}{r:Reach}{b0:Nat}(fJ:Value.okWide Try.prog W r b0 22 v)(h:DataW.Trod enc Try.prog W 0 (λ_=>true) fI 22 v d ps):
  ∃l a c,v=.slice a l.length c/\Sm (Zvj W) a l/\l.length<=c:=by
 obtain⟨n,h⟩:=h
 obtain⟨a0,len0,cap0,rfl⟩:=okWide_slice Try.underlying22 fJ
 rw[ZjQ]at h
 obtain⟨l,a,c,cP,h1,h2⟩:=ZoV h
 exact⟨l,a,c,by simpa using cP,h1,h2⟩
theorem Zx1:Try.prog.cellsOf 5=1:=by kernel_rfl
theorem ZwT{H:Type}{enc:TypeId×Value->H}{W:World}{fI:Bool}{v:Value}{d:DataW H}{ps:List MemPlace}{r:Reach}{b0:Nat}(fJ:Value.okWide Try.prog W r b0 35 v)(h:DataW.Trod enc Try.prog W 0 (λ_=>true) fI 35 v d ps):
  ∃s a c,v=.slice a s.length c/\Byt (Zvj W) a s/\s.length<=c/\s.length<=9223372036854775807:=by
 obtain⟨n,h⟩:=h
 obtain⟨a0,len0,cap0,rfl⟩:=okWide_slice Try.underlying35 fJ
 rw[ZjQ]at h
 rcases Go.Deep.open_slice1 Try.underlying35 Zx1 h with⟨cP,_⟩|⟨a,len,m,m',n',V,D,Pl,cP,hb,hl,hm,eK,_,hx⟩
 ·exact⟨[],none,0,by simpa using cP,⟨.inl rfl,by simp⟩,Nat.le_refl _,by simp⟩
 ·simp only[if_true]at eK
  subst eK
  have hm':m'<=9223372036854775807:=by simp[maxLen]at hm;omega
  obtain⟨F,hF⟩:=Go.Deep.choose_lt (α:=Nat) (n:=m') (p:=λi s=>W.cell? (a.add i)=some (.int .u8 (s:Nat))/\s < 256) (λi hi=>by
   obtain⟨h1,h2⟩:=hx i hi
   obtain⟨k,hk,_,hw⟩:=DataW.trod_int Try.underlying5 h2
   have:=ZtW hw
   obtain⟨k',rfl⟩:∃k':Nat,k=k':=⟨k.toNat,by omega⟩
   simp at hk
   exact⟨k',by rw[h1,hk],by omega⟩)
  refine⟨(List.range len).map F,some a,m',by have:=cP;simp at this ⊢;exact this,⟨?_,?_⟩,by simpa using hl,by simp;omega⟩
  ·by_cases h0:len=0
   ·left;subst h0;rfl
   ·right
    obtain⟨b,o,rfl⟩:=ZoU (a:=a) (v:=.int .u8 (F 0:Nat)) (by
     have:=(hF 0 (by omega)).1
     exact this)
    refine⟨b,o,rfl,λj v hj=>?_⟩
    rw[List.map_map,List.getElem?_map]at hj
    obtain⟨i',hi',rfl⟩:=Option.map_eq_some_iff.1 hj
    have bF:j < len:=by have:=(List.getElem?_eq_some_iff.1 hi').1;simpa using this
    have e:i'=j:=by rw[List.getElem?_range bF]at hi';exact(Option.some.inj hi').symm
    subst e
    have:=(hF i' (by omega)).1
    rw[ZbO]at this
    exact this
  ·intro c hc
   obtain⟨i,hi,rfl⟩:=List.mem_map.1 hc
   exact(hF i (by have:=List.mem_range.1 hi;omega)).2
end Go.Proofs.Ytgclajkldphoaaa
