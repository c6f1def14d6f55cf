/- Part of the proof: conditions and contracts of functions of this program. No condition of its own. -/
import Derived.Test.YtgclajkldphoaaaGreatPVC
import Derived.Test.YtgclajkldphoaaaGreatPC13R
import Derived.Test.YtgclajkldphoaaaGreatMr
import Derived.Test.YtgclajkldphoaaaGreatPVD
set_option linter.unusedVariables false
set_option linter.unusedSimpArgs false
set_option linter.unusedSectionVars false
namespace Go.Proofs.YtgclajkldphoaaaGreat
open Go Go.Eng Go.Rx Go.Proofs Go.RowKit
set_option maxRecDepth 100000
abbrev txV(a:Option Addr)(s:List Nat)(c:Nat)(back:Bool):Value:=.agg #[.slice a s.length c,.bool back]
theorem Zwa(t:T)(a:Option Addr)(s:List Nat)(c:Nat)(back:Bool)(f:Nat)(m:Mem)(hr:Rep m t)(hb:Byt m a s)(hs:s.length<=512):CX Tryz.prog 83 #[txV a s c back,t.v,plV f] m [] (Ret (plV (ZsM t back f s 0 0))):=by
 apply Ze8
 unfold ZcZ
 intro b m1 bH _ b1 m2 bL _ b2 m3 bX eA b3 b4
 refine⟨λxs css _ m' q=>∃k o:Nat,k<=s.length/\xs=[.int .i64 k]/\css=[plL o]/\ZsM t back f (s.drop k) k o=ZsM t back f s 0 0/\m3.le m'/\q=s.length - k,⟨_,0,0,by omega,rfl,rfl,rfl,Mem.le_refl _,rfl⟩,?_⟩
 rintro n cs m4 q cA ⟨k,o,hk,hn,cQ,fF,_,hq⟩
 obtain rfl:n=k:=by simpa using hn
 obtain rfl:cs=plL o:=by simpa using cQ
 have dU:m.le m4:=mLt bH (mLt bL (mLt bX cA))
 refine Zab (λbF=>?_) (λcR=>?_)
 ·have bI:k < s.length:=by have:=of_decide_eq_true bF;omega
  obtain⟨ch,yg⟩:=Zea bI
  have hw:IntKind.i64.wrap ((k:Int)+1)=((k+1:Nat):Int):=by rw[ZaN (by omega) (by omega)];rfl
  have bY:ZsM t back f (s.drop (k+1)) (k+1) (ZoT t back f k ch o)=ZsM t back f s 0 0:=by rw[Zih yg]at fF;exact fF
  obtain⟨⟨b5,o5,ha,hv⟩,jT⟩:=(hb.mono dU).get yg
  simp only[hw,Int.toNat_natCast,Nat.mul_one]
  refine⟨b5,o5,ha,⟨by omega,by omega⟩,_,hv,?_⟩
  cases back with
  | true=>
   refine Ztv (x:=true) rfl ?_
   refine⟨f.testBit (k+1)&&t.hasB ch,Zax (ZpB f (k+1) (by omega) b2 m4 (eA.mono cA)) λm5 c9=>Zab (λh=>Zax (Zsw t ch jT m5 (hr.mono (mLt dU c9))) λm6 fE=>⟨by trivial,by rw[h,Bool.true_and]⟩) (λh=>⟨by trivial,by rw[h,Bool.false_and]⟩),Zab (λh=>?_) (λh=>?_)⟩
   ·refine⟨λi _ _=>if i=2 then Ret (plV (2 ^ k))else Ret (plV (o|||2 ^ k)),Ret (plV (2 ^ k)),rfl,Zye k (by omega) m4,Zbs,ZnS λm5 c9=>⟨Ret (plV (o|||2 ^ k)),rfl,Zyf o (2 ^ k) m5,Zbs,ZnS λm6 fE M dQ dT iG=>⟨by trivial,s.length - (k+1),by omega,k+1,o|||2 ^ k,by omega,rfl,rfl,?_,mLt cA dQ,rfl⟩⟩⟩
    rw[<-bY];unfold ZoT;rw[if_pos (by simpa using h)];rfl
   ·refine⟨by trivial,s.length - (k+1),by omega,k+1,o,by omega,rfl,rfl,?_,cA,rfl⟩
    rw[<-bY];unfold ZoT;rw[if_neg (by simpa using h)]
  | false=>
   refine Ztv (x:=false) rfl ?_
   refine⟨f.testBit k&&t.hasB ch,Zax (ZpB f k (by omega) b2 m4 (eA.mono cA)) λm5 c9=>Zab (λh=>Zax (Zsw t ch jT m5 (hr.mono (mLt dU c9))) λm6 fE=>⟨by trivial,by rw[h,Bool.true_and]⟩) (λh=>⟨by trivial,by rw[h,Bool.false_and]⟩),Zab (λh=>?_) (λh=>?_)⟩
   ·refine⟨λi _ _=>if i=2 then Ret (plV (2 ^ (k+1)))else Ret (plV (o|||2 ^ (k+1))),Ret (plV (2 ^ (k+1))),rfl,Zye (k+1) (by omega) m4,Zbs,ZnS λm5 c9=>⟨Ret (plV (o|||2 ^ (k+1))),rfl,Zyf o (2 ^ (k+1)) m5,Zbs,ZnS λm6 fE M dQ dT iG=>⟨by trivial,s.length - (k+1),by omega,k+1,o|||2 ^ (k+1),by omega,rfl,rfl,?_,mLt cA dQ,rfl⟩⟩⟩
    rw[<-bY];unfold ZoT;rw[if_pos (by simpa using h)];rfl
   ·refine⟨by trivial,s.length - (k+1),by omega,k+1,o,by omega,rfl,rfl,?_,cA,rfl⟩
    rw[<-bY];unfold ZoT;rw[if_neg (by simpa using h)]
 ·have:k=s.length:=by have:=of_decide_eq_false cR;omega
  subst this
  refine Zaa rfl (Zaf dU ?_)
  rw[List.drop_length]at fF
  rw[<-fF];rfl
theorem Zyj(t:T)(f:Nat)(m:Mem):CX Tryz.prog 81 #[t.v,plV f] m [] (Ret (plV 0)):=by
 apply ZdM
 unfold Zcm
 intro b m1 bH _ b1 m2 bL _ b2
 exact Zaf (mLt bH bL) rfl
theorem Zwb(t:T)(f:Nat)(m:Mem):CX Tryz.prog 82 #[t.v,plV f] m [] (Ret (plV f)):=by
 apply ZdN
 unfold Zcn
 intro b m1 bH _ b1 m2 bL _ b2
 exact Zaf (mLt bH bL) rfl
def IH(a:Option Addr)(s:List Nat)(c:Nat)(back:Bool)(t:T):Prop:=∀x∈t.subs,∀(f:Nat)(m:Mem),f < ZcC->Rep m x->Byt m a s->CX Tryz.prog 39 #[txV a s c back,x.v,plV f] m [] (Ret (plV (x.lead s back f)))
section
variable (t:T) (a:Option Addr) (s:List Nat) (c:Nat) (back:Bool) (f:Nat) (m:Mem) (hr:Rep m t) (hb:Byt m a s) (hs:s.length<=512) (ih:IH a s c back t) (hf:f < ZcC)
include hr hb hs ih hf
theorem Zzv(pb po:Nat)(hp:m.reads pb po [.slice a s.length c,.bool back]):CX Tryz.prog 84 #[t.v,plV f,.pointer (some ⟨pb,po,none⟩)] m [] (Ret (plV (if back then Zgs s back t.subs f else ZgU s back t.subs f))):=by
 apply ZdO
 unfold Zco
 intro b m1 bH _ b1 b2
 obtain⟨bO,bV⟩:=ZdB hr
 refine⟨λxs css _ m' q=>∃k o:Nat,k<=t.subs.length/\xs=[.int .i64 k]/\css=[plL o]/\o < ZcC/\(if back then Zgs s back (t.subs.take (t.subs.length - k)) o else ZgU s back (t.subs.drop k) o)=(if back then Zgs s back t.subs f else ZgU s back t.subs f)/\m1.le m'/\q=t.subs.length - k,⟨_,0,f,by omega,rfl,rfl,hf,by rw[Nat.sub_zero,List.take_length,List.drop_zero],Mem.le_refl _,rfl⟩,?_⟩
 rintro n cs m4 q cA ⟨k,o,hk,hn,cQ,ho,fF,_,hq⟩
 obtain rfl:n=k:=by simpa using hn
 obtain rfl:cs=plL o:=by simpa using cQ
 have dU:m.le m4:=mLt bH cA
 refine Zab (λbF=>?_) (λcR=>?_)
 ·have bI:k < t.subs.length:=by have:=of_decide_eq_true bF;omega
  have hw:IntKind.i64.wrap ((k:Int)+1)=((k+1:Nat):Int):=by rw[ZaN (by omega) (by omega)];rfl
  have eM:IntKind.i64.wrap ((t.subs.length:Int) - 1)=((t.subs.length - 1:Nat):Int):=by rw[ZaN (by omega) (by omega)];omega
  have dS:IntKind.i64.wrap (((t.subs.length - 1:Nat):Int) - k)=((t.subs.length - 1 - k:Nat):Int):=by rw[ZaN (by omega) (by omega)];omega
  rcases bV with bV|⟨sb,so,mY,p7⟩
  ·rw[bV]at bI;simp at bI
  simp only[hw,eM,dS,Int.toNat_natCast]
  refine⟨.bool back,dU _ _ _ (hp 1 _ rfl),Zaa rfl ?_⟩
  cases back with
  | true=>
   refine Ztv (x:=true) rfl ?_
   obtain⟨x,hx⟩:=Zea (l:=t.subs) (k:=t.subs.length - 1 - k) (by omega)
   obtain⟨fG,fL⟩:=p7.get hx
   refine⟨λ_ _ _=>Ret (plV (x.lead s true o)),_,_,hp.mono dU,sb,so,mY,⟨by omega,by omega⟩,_,_,_,_,_,_,_,_,fG.mono dU,Ret (plV (x.lead s true o)),rfl,ih x (List.mem_of_getElem? hx) o m4 ho (fL.mono dU) (hb.mono dU),Zbs,ZnS λm6 fE M dQ dT=>⟨by trivial,t.subs.length - (k+1),by omega,k+1,x.lead s true o,by omega,rfl,rfl,ZfF s true hs x o ho,?_,mLt cA dQ,rfl⟩⟩
   rw[if_pos rfl,if_pos rfl]at fF ⊢
   rw[show t.subs.length - k=t.subs.length - 1 - k+1 by omega,ZbZ hx,ZqQ]at fF
   rw[show t.subs.length - (k+1)=t.subs.length - 1 - k by omega]
   exact fF
  | false=>
   refine Ztv (x:=false) rfl ?_
   obtain⟨x,hx⟩:=Zea bI
   obtain⟨fG,fL⟩:=p7.get hx
   refine⟨λ_ _ _=>Ret (plV (x.lead s false o)),_,_,hp.mono dU,sb,so,mY,⟨by omega,by omega⟩,_,_,_,_,_,_,_,_,fG.mono dU,Ret (plV (x.lead s false o)),rfl,ih x (List.mem_of_getElem? hx) o m4 ho (fL.mono dU) (hb.mono dU),Zbs,ZnS λm6 fE M dQ dT=>⟨by trivial,t.subs.length - (k+1),by omega,k+1,x.lead s false o,by omega,rfl,rfl,ZfF s false hs x o ho,?_,mLt cA dQ,rfl⟩⟩
   rw[if_neg (by simp),if_neg (by simp)]at fF ⊢
   rw[Zih hx,ZqP]at fF
   exact fF
 ·have:k=t.subs.length:=by have:=of_decide_eq_false cR;omega
  subst this
  refine Zaa rfl (Zaf dU ?_)
  rw[Nat.sub_self,List.drop_length]at fF
  rw[<-fF];cases back <;> rfl
theorem Zzw(pb po:Nat)(hp:m.reads pb po [.slice a s.length c,.bool back]):CX Tryz.prog 85 #[t.v,plV f,.pointer (some ⟨pb,po,none⟩)] m [] (Ret (plV (ZqO s back t.subs f 0))):=by
 apply ZdP
 unfold Zcp
 intro b m1 bH _ b1 m2 bL _ b2 b3
 obtain⟨bO,bV⟩:=ZdB hr
 refine⟨λxs css _ m' q=>∃k o:Nat,k<=t.subs.length/\xs=[.int .i64 k]/\css=[plL o]/\ZqO s back (t.subs.drop k) f o=ZqO s back t.subs f 0/\m2.le m'/\q=t.subs.length - k,⟨_,0,0,by omega,rfl,rfl,rfl,Mem.le_refl _,rfl⟩,?_⟩
 rintro n cs m4 q cA ⟨k,o,hk,hn,cQ,fF,_,hq⟩
 obtain rfl:n=k:=by simpa using hn
 obtain rfl:cs=plL o:=by simpa using cQ
 have dU:m.le m4:=mLt bH (mLt bL cA)
 refine Zab (λbF=>?_) (λcR=>?_)
 ·have bI:k < t.subs.length:=by have:=of_decide_eq_true bF;omega
  have hw:IntKind.i64.wrap ((k:Int)+1)=((k+1:Nat):Int):=by rw[ZaN (by omega) (by omega)];rfl
  rcases bV with bV|⟨sb,so,mY,p7⟩
  ·rw[bV]at bI;simp at bI
  simp only[hw,Int.toNat_natCast]
  obtain⟨x,hx⟩:=Zea bI
  obtain⟨fG,fL⟩:=p7.get hx
  refine⟨sb,so,mY,⟨by omega,by omega⟩,_,_,_,_,_,_,_,_,fG.mono dU,λb5=>Zaa rfl ⟨λi _ _=>if i=4 then Ret (plV (x.lead s back f))else Ret (plV (o|||x.lead s back f)),_,_,hp.mono dU,Ret (plV (x.lead s back f)),rfl,ih x (List.mem_of_getElem? hx) f m4 hf (fL.mono dU) (hb.mono dU),Zbs,ZnS λm5 c9=>⟨Ret (plV (o|||x.lead s back f)),rfl,Zyf o _ m5,Zbs,ZnS λm6 fE M dQ dT iG=>⟨by trivial,t.subs.length - (k+1),by omega,k+1,o|||x.lead s back f,by omega,rfl,rfl,?_,mLt cA dQ,rfl⟩⟩⟩⟩
  rw[Zih hx,ZoV]at fF
  exact fF
 ·have:k=t.subs.length:=by have:=of_decide_eq_false cR;omega
  subst this
  refine Zaa rfl (Zaf dU ?_)
  rw[List.drop_length,ZrK]at fF
  rw[fF];rfl
theorem Zzx(x:T)(hx:t.subs=[x])(pb po:Nat)(hp:m.reads pb po [.slice a s.length c,.bool back]):CX Tryz.prog 88 #[t.v,plV f,.pointer (some ⟨pb,po,none⟩)] m [] (Ret (plV (Zf1 s back t.subs f))):=by
 apply ZdQ
 unfold Zcq
 intro b m1 bH _ b1 m2 bL _ b2
 obtain⟨bO,bV⟩:=ZdB hr
 have dU:m.le m2:=mLt bH bL
 rcases bV with bV|⟨sb,so,mY,p7⟩
 ·rw[bV]at hx;cases hx
 have hC:t.subs[0]?=some x:=by rw[hx];rfl
 obtain⟨fG,fL⟩:=p7.get hC
 refine⟨λ_ _ _=>Ret (plV (x.lead s back f)),_,_,hp.mono dU,sb,so,mY,⟨by omega,by rw[hx];simp⟩,_,_,_,_,_,_,_,_,fG.mono dU,Ret (plV (x.lead s back f)),rfl,ih x (List.mem_of_getElem? hC) f m2 hf (fL.mono dU) (hb.mono dU),Zbs,ZnS λm6 fE M dQ dT=>Zaf (mLt dU dQ) ?_⟩
 rw[hx];unfold Zf1;rfl
theorem ZtX(x:T)(hx:t.subs=[x])(fZ:0<=t.mn):CX Tryz.prog 87 #[txV a s c back,t.v,plV f] m [] (Ret (plV (Zxw (Zf1 s back t.subs) t.mn t.mx f))):=by
 apply ZeE
 unfold ZcJ
 intro b m1 bH _ b1 m2 bL _ b2 b3
 obtain⟨bO,bV⟩:=ZdB hr
 rcases bV with bV|⟨sb,so,mY,p7⟩
 ·rw[bV]at hx;cases hx
 have hC:t.subs[0]?=some x:=by rw[hx];rfl
 obtain⟨fG,fL⟩:=p7.get hC
 have hg:Zf1 s back t.subs=x.lead s back:=by rw[hx];rfl
 have lX:t.subs.length=1:=by rw[hx];rfl
 have bZ:=ZvH hr
 obtain⟨N,hN⟩:∃N:Nat,t.mn=N:=⟨t.mn.toNat,by omega⟩
 have Cc:=bZ.mn
 rw[hg,hN]
 unfold Zxw
 rw[Int.toNat_natCast]
 refine⟨λxs css _ m' q=>∃k o:Nat,k<=N/\xs=[.int .i64 k]/\css=[plL o]/\o < ZcC/\ZwN (x.lead s back) (N - k) o=ZwN (x.lead s back) N f/\m2.le m'/\q=N - k,⟨_,0,f,by omega,rfl,rfl,hf,rfl,Mem.le_refl _,rfl⟩,?_⟩
 rintro n cs m4 q cA ⟨k,o,hk,hn,cQ,ho,fF,_,hq⟩
 obtain rfl:n=k:=by simpa using hn
 obtain rfl:cs=plL o:=by simpa using cQ
 have dU:m.le m4:=mLt bH (mLt bL cA)
 refine Zab (λbF=>?_) (λcR=>?_)
 ·have bI:k < N:=by have:=of_decide_eq_true bF;omega
  have hw:IntKind.i64.wrap ((k:Int)+1)=((k+1:Nat):Int):=by rw[ZaN (by omega) (by omega)];rfl
  simp only[hw]
  refine⟨λ_ _ _=>Ret (plV (x.lead s back o)),sb,so,mY,⟨by omega,by rw[hx];simp⟩,_,_,_,_,_,_,_,_,fG.mono dU,Ret (plV (x.lead s back o)),rfl,ih x (List.mem_of_getElem? hC) o m4 ho (fL.mono dU) (hb.mono dU),Zbs,ZnS λm6 fE M dQ dT=>⟨by trivial,N - (k+1),by omega,k+1,x.lead s back o,by omega,rfl,rfl,ZfF s back hs x o ho,?_,mLt cA dQ,rfl⟩⟩
  rw[show N - k=N - (k+1)+1 by omega]at fF
  exact fF
 ·have:k=N:=by have:=of_decide_eq_false cR;omega
  subst this
  replace fF:o=ZwN (x.lead s back) k f:=by rw[Nat.sub_self]at fF;exact fF
  rw[<-fF]
  intro b4 b5
  refine Zaa rfl (Zaa rfl ?_)
  refine⟨λxs css _ m' q=>∃(i:Int)(c1:List Value)(out last:Nat),xs=[.int .i64 i]/\css=[c1,plL out,plL last]/\out < ZcC/\last < ZcC/\ZcC - out < q/\Zp9 (x.lead s back) t.mx q i out last=Zp9 (x.lead s back) t.mx (ZcC+1) k o o/\m4.le m',⟨ZcC+1,k,_,o,o,rfl,rfl,ho,ho,by omega,rfl,Mem.le_refl _⟩,?_⟩
  rintro i cs1 cs2 cs3 m5 q c9 ⟨i',c1,out,last,hi,cQ,dE,dK,hq,cW,_⟩
  obtain rfl:i=i':=by simpa using hi
  obtain⟨rfl,rfl,rfl⟩:cs1=c1/\cs2=plL out/\cs3=plL last:=by simpa using cQ
  have sd:m.le m5:=mLt dU c9
  obtain⟨q,rfl⟩:∃q',q=q'+1:=⟨q - 1,by omega⟩
  rw[Zmm (n:=q)]at cW
  refine Zab (λcT=>?_) (λhe=>?_)
  ·have wu:¬i=t.mx:=by simpa using cT
   rw[if_neg wu]at cW
   refine⟨λ_ _ _=>Ret (plV (x.lead s back last)),sb,so,mY,⟨by omega,by rw[hx];simp⟩,_,_,_,_,_,_,_,_,fG.mono sd,Ret (plV (x.lead s back last)),rfl,ih x (List.mem_of_getElem? hC) last m5 dK (fL.mono sd) (hb.mono sd),Zbs,ZnS λm6 fE M dQ dT=>ZaJ (Zyf out (x.lead s back last) M) Zbs (ZnS λm7 lZ b7=>?_)⟩
   have gJ:=ZfF s back hs x last dK
   have um:=Nat.or_lt_two_pow dE gJ
   refine⟨(out|||x.lead s back last) == out,ZAB um dE,Zab (λh=>?_) (λh=>?_)⟩
   ·rw[if_pos (by simpa using h)]at cW
    refine Zaa rfl (Zaf (mLt sd (mLt dQ lZ)) ?_)
    rw[<-cW];rfl
   ·have gY:¬(out|||x.lead s back last)=out:=by simpa using h
    rw[if_neg gY]at cW
    have cF:out<=out|||x.lead s back last:=Nat.left_le_or
    refine⟨by trivial,q,by omega,_,_,out|||x.lead s back last,x.lead s back last,rfl,rfl,um,gJ,by omega,cW,mLt c9 (mLt dQ lZ)⟩
  ·have he':i=t.mx:=by simpa using he
   rw[if_pos he']at cW
   refine Zaa rfl ⟨m,Mem.le_refl _,sd,?_⟩
   rw[<-cW];rfl
end
def KR(a:Option Addr)(s:List Nat)(c:Nat)(back:Bool):Value->Mem->List (List Value)->Prop:=λv m' _=>∃b,v=.agg #[.func (.func 81) #[] #[],.func (.func 82) #[] #[],.func (.func 83) #[txV a s c back] #[],.func (.func 84) #[] #[.pointer (some ⟨b,0,none⟩)],.func (.func 85) #[] #[.pointer (some ⟨b,0,none⟩)],.func (.func 87) #[txV a s c back] #[],.func (.func 88) #[] #[.pointer (some ⟨b,0,none⟩)]]/\m'.reads b 0 [.slice a s.length c,.bool back]
theorem Zgf(a:Option Addr)(s:List Nat)(c:Nat)(back:Bool)(m:Mem):CX Tryz.prog 55 #[txV a s c back] m [] (KR a s c back):=by
 apply Ze7
 unfold ZcY
 intro b m1 bH hb b1
 exact⟨m1,bH,Mem.le_refl _,b,rfl,hb⟩
theorem Ziy{a s c back}:∀(v:Value)(m':Mem) (css:List (List Value)),KR a s c back v m' css->Shape.fits (.agg [.fn,.fn,.fn,.fn,.fn,.fn,.fn]) v=true:=λv _ _ ⟨b,e,_⟩=>by rw[e];rfl
theorem Zvg{t:T}(h:(t.subs.length == 1)=true):∃x,t.subs=[x]:=List.length_eq_one_iff.1 (by simpa using h)
theorem Zwc(t:T)(a:Option Addr)(s:List Nat)(c:Nat)(back:Bool)(f:Nat)(m:Mem)(hr:Rep m t)(hb:Byt m a s)(hs:s.length<=512)(hf:f < ZcC)(hk:t.k=0):CX Tryz.prog 39 #[txV a s c back,t.v,plV f] m [] (Ret (plV (0))):=by
 have key:ZbH a s.length c back t.s0 t.s1 t.s2 t.s3 t.mn t.mx t.a t.subs.length t.c (wdN f 0:Nat) (wdN f 1:Nat) (wdN f 2:Nat) (wdN f 3:Nat) (wdN f 4:Nat) (wdN f 5:Nat) (wdN f 6:Nat) (wdN f 7:Nat) (wdN f 8:Nat) m (Ret (plV (0))):=by
  unfold ZbH
  intro b1 m1 bH _ b2 m2 bL _ b3 m3 bX _ b4
  refine⟨λi _ _=>if i=1 then KR a s c back else Ret (plV (0)),KR a s c back,rfl,Zgf a s c back m3,Ziy,?_⟩
  rintro g0 i0 c0 g1 i1 c1 g2 i2 c2 g3 i3 c3 g4 i4 c4 g5 i5 c5 g6 i6 c6 m5 c9 ⟨b,hv,cP⟩
  simp only[Value.agg.injEq,Array.mk.injEq,List.cons.injEq,Value.func.injEq,Fn.func.injEq,and_true]at hv
  obtain⟨⟨rfl,rfl,rfl⟩,⟨rfl,rfl,rfl⟩,⟨rfl,rfl,rfl⟩,⟨rfl,rfl,rfl⟩,⟨rfl,rfl,rfl⟩,⟨rfl,rfl,rfl⟩,⟨rfl,rfl,rfl⟩⟩:=hv
  have hM:m.le m5:=mLt bH (mLt bL (mLt bX c9))
  have cI:=Zyj t f m5
  rw[T.v,hk]at cI
  exact⟨⟨by omega,by omega⟩,Ret (plV (0)),rfl,cI,Zbs,ZnS λm6 fE M dQ dT iG=>Zaf (mLt hM dT) rfl⟩
 have h:=Zes a s.length c back t.s0 t.s1 t.s2 t.s3 t.mn t.mx t.a t.subs.length t.c (wdN f 0:Nat) (wdN f 1:Nat) (wdN f 2:Nat) (wdN f 3:Nat) (wdN f 4:Nat) (wdN f 5:Nat) (wdN f 6:Nat) (wdN f 7:Nat) (wdN f 8:Nat) m _ key
 rw[T.v,hk]
 exact h
theorem Zwd(t:T)(a:Option Addr)(s:List Nat)(c:Nat)(back:Bool)(f:Nat)(m:Mem)(hr:Rep m t)(hb:Byt m a s)(hs:s.length<=512)(hf:f < ZcC)(hk:t.k=1):CX Tryz.prog 39 #[txV a s c back,t.v,plV f] m [] (Ret (plV (f))):=by
 have key:ZbI a s.length c back t.s0 t.s1 t.s2 t.s3 t.mn t.mx t.a t.subs.length t.c (wdN f 0:Nat) (wdN f 1:Nat) (wdN f 2:Nat) (wdN f 3:Nat) (wdN f 4:Nat) (wdN f 5:Nat) (wdN f 6:Nat) (wdN f 7:Nat) (wdN f 8:Nat) m (Ret (plV (f))):=by
  unfold ZbI
  intro b1 m1 bH _ b2 m2 bL _ b3 m3 bX _ b4
  refine⟨λi _ _=>if i=1 then KR a s c back else Ret (plV (f)),KR a s c back,rfl,Zgf a s c back m3,Ziy,?_⟩
  rintro g0 i0 c0 g1 i1 c1 g2 i2 c2 g3 i3 c3 g4 i4 c4 g5 i5 c5 g6 i6 c6 m5 c9 ⟨b,hv,cP⟩
  simp only[Value.agg.injEq,Array.mk.injEq,List.cons.injEq,Value.func.injEq,Fn.func.injEq,and_true]at hv
  obtain⟨⟨rfl,rfl,rfl⟩,⟨rfl,rfl,rfl⟩,⟨rfl,rfl,rfl⟩,⟨rfl,rfl,rfl⟩,⟨rfl,rfl,rfl⟩,⟨rfl,rfl,rfl⟩,⟨rfl,rfl,rfl⟩⟩:=hv
  have hM:m.le m5:=mLt bH (mLt bL (mLt bX c9))
  have cI:=Zwb t f m5
  rw[T.v,hk]at cI
  exact⟨⟨by omega,by omega⟩,Ret (plV (f)),rfl,cI,Zbs,ZnS λm6 fE M dQ dT iG=>Zaf (mLt hM dT) rfl⟩
 have h:=Zet a s.length c back t.s0 t.s1 t.s2 t.s3 t.mn t.mx t.a t.subs.length t.c (wdN f 0:Nat) (wdN f 1:Nat) (wdN f 2:Nat) (wdN f 3:Nat) (wdN f 4:Nat) (wdN f 5:Nat) (wdN f 6:Nat) (wdN f 7:Nat) (wdN f 8:Nat) m _ key
 rw[T.v,hk]
 exact h
theorem Zwe(t:T)(a:Option Addr)(s:List Nat)(c:Nat)(back:Bool)(f:Nat)(m:Mem)(hr:Rep m t)(hb:Byt m a s)(hs:s.length<=512)(hf:f < ZcC)(hk:t.k=2):CX Tryz.prog 39 #[txV a s c back,t.v,plV f] m [] (Ret (plV (ZsM t back f s 0 0))):=by
 have key:ZbJ a s.length c back t.s0 t.s1 t.s2 t.s3 t.mn t.mx t.a t.subs.length t.c (wdN f 0:Nat) (wdN f 1:Nat) (wdN f 2:Nat) (wdN f 3:Nat) (wdN f 4:Nat) (wdN f 5:Nat) (wdN f 6:Nat) (wdN f 7:Nat) (wdN f 8:Nat) m (Ret (plV (ZsM t back f s 0 0))):=by
  unfold ZbJ
  intro b1 m1 bH _ b2 m2 bL _ b3 m3 bX _ b4
  refine⟨λi _ _=>if i=1 then KR a s c back else Ret (plV (ZsM t back f s 0 0)),KR a s c back,rfl,Zgf a s c back m3,Ziy,?_⟩
  rintro g0 i0 c0 g1 i1 c1 g2 i2 c2 g3 i3 c3 g4 i4 c4 g5 i5 c5 g6 i6 c6 m5 c9 ⟨b,hv,cP⟩
  simp only[Value.agg.injEq,Array.mk.injEq,List.cons.injEq,Value.func.injEq,Fn.func.injEq,and_true]at hv
  obtain⟨⟨rfl,rfl,rfl⟩,⟨rfl,rfl,rfl⟩,⟨rfl,rfl,rfl⟩,⟨rfl,rfl,rfl⟩,⟨rfl,rfl,rfl⟩,⟨rfl,rfl,rfl⟩,⟨rfl,rfl,rfl⟩⟩:=hv
  have hM:m.le m5:=mLt bH (mLt bL (mLt bX c9))
  have cI:=Zwa t a s c back f m5 (hr.mono hM) (hb.mono hM) hs
  rw[T.v,hk]at cI
  exact⟨⟨by omega,by omega⟩,Ret (plV (ZsM t back f s 0 0)),rfl,cI,Zbs,ZnS λm6 fE M dQ dT iG=>Zaf (mLt hM dT) rfl⟩
 have h:=Zeu a s.length c back t.s0 t.s1 t.s2 t.s3 t.mn t.mx t.a t.subs.length t.c (wdN f 0:Nat) (wdN f 1:Nat) (wdN f 2:Nat) (wdN f 3:Nat) (wdN f 4:Nat) (wdN f 5:Nat) (wdN f 6:Nat) (wdN f 7:Nat) (wdN f 8:Nat) m _ key
 rw[T.v,hk]
 exact h
theorem Zwf(t:T)(a:Option Addr)(s:List Nat)(c:Nat)(back:Bool)(f:Nat)(m:Mem)(hr:Rep m t)(hb:Byt m a s)(hs:s.length<=512)(hf:f < ZcC)(ih:IH a s c back t)(hk:t.k=3):CX Tryz.prog 39 #[txV a s c back,t.v,plV f] m [] (Ret (plV (if back then Zgs s back t.subs f else ZgU s back t.subs f))):=by
 have key:ZbK a s.length c back t.s0 t.s1 t.s2 t.s3 t.mn t.mx t.a t.subs.length t.c (wdN f 0:Nat) (wdN f 1:Nat) (wdN f 2:Nat) (wdN f 3:Nat) (wdN f 4:Nat) (wdN f 5:Nat) (wdN f 6:Nat) (wdN f 7:Nat) (wdN f 8:Nat) m (Ret (plV (if back then Zgs s back t.subs f else ZgU s back t.subs f))):=by
  unfold ZbK
  intro b1 m1 bH _ b2 m2 bL _ b3 m3 bX _ b4
  refine⟨λi _ _=>if i=1 then KR a s c back else Ret (plV (if back then Zgs s back t.subs f else ZgU s back t.subs f)),KR a s c back,rfl,Zgf a s c back m3,Ziy,?_⟩
  rintro g0 i0 c0 g1 i1 c1 g2 i2 c2 g3 i3 c3 g4 i4 c4 g5 i5 c5 g6 i6 c6 m5 c9 ⟨b,hv,cP⟩
  simp only[Value.agg.injEq,Array.mk.injEq,List.cons.injEq,Value.func.injEq,Fn.func.injEq,and_true]at hv
  obtain⟨⟨rfl,rfl,rfl⟩,⟨rfl,rfl,rfl⟩,⟨rfl,rfl,rfl⟩,⟨rfl,rfl,rfl⟩,⟨rfl,rfl,rfl⟩,⟨rfl,rfl,rfl⟩,⟨rfl,rfl,rfl⟩⟩:=hv
  have hM:m.le m5:=mLt bH (mLt bL (mLt bX c9))
  have cI:=Zzv t a s c back f m5 (hr.mono hM) (hb.mono hM) hs ih hf b 0 cP
  rw[T.v,hk]at cI
  exact⟨⟨by omega,by omega⟩,Ret (plV (if back then Zgs s back t.subs f else ZgU s back t.subs f)),rfl,cI,Zbs,ZnS λm6 fE M dQ dT iG=>Zaf (mLt hM dT) rfl⟩
 have h:=Zev a s.length c back t.s0 t.s1 t.s2 t.s3 t.mn t.mx t.a t.subs.length t.c (wdN f 0:Nat) (wdN f 1:Nat) (wdN f 2:Nat) (wdN f 3:Nat) (wdN f 4:Nat) (wdN f 5:Nat) (wdN f 6:Nat) (wdN f 7:Nat) (wdN f 8:Nat) m _ key
 rw[T.v,hk]
 exact h
theorem Zwg(t:T)(a:Option Addr)(s:List Nat)(c:Nat)(back:Bool)(f:Nat)(m:Mem)(hr:Rep m t)(hb:Byt m a s)(hs:s.length<=512)(hf:f < ZcC)(ih:IH a s c back t)(hk:t.k=4):CX Tryz.prog 39 #[txV a s c back,t.v,plV f] m [] (Ret (plV (ZqO s back t.subs f 0))):=by
 have key:ZbL a s.length c back t.s0 t.s1 t.s2 t.s3 t.mn t.mx t.a t.subs.length t.c (wdN f 0:Nat) (wdN f 1:Nat) (wdN f 2:Nat) (wdN f 3:Nat) (wdN f 4:Nat) (wdN f 5:Nat) (wdN f 6:Nat) (wdN f 7:Nat) (wdN f 8:Nat) m (Ret (plV (ZqO s back t.subs f 0))):=by
  unfold ZbL
  intro b1 m1 bH _ b2 m2 bL _ b3 m3 bX _ b4
  refine⟨λi _ _=>if i=1 then KR a s c back else Ret (plV (ZqO s back t.subs f 0)),KR a s c back,rfl,Zgf a s c back m3,Ziy,?_⟩
  rintro g0 i0 c0 g1 i1 c1 g2 i2 c2 g3 i3 c3 g4 i4 c4 g5 i5 c5 g6 i6 c6 m5 c9 ⟨b,hv,cP⟩
  simp only[Value.agg.injEq,Array.mk.injEq,List.cons.injEq,Value.func.injEq,Fn.func.injEq,and_true]at hv
  obtain⟨⟨rfl,rfl,rfl⟩,⟨rfl,rfl,rfl⟩,⟨rfl,rfl,rfl⟩,⟨rfl,rfl,rfl⟩,⟨rfl,rfl,rfl⟩,⟨rfl,rfl,rfl⟩,⟨rfl,rfl,rfl⟩⟩:=hv
  have hM:m.le m5:=mLt bH (mLt bL (mLt bX c9))
  have cI:=Zzw t a s c back f m5 (hr.mono hM) (hb.mono hM) hs ih hf b 0 cP
  rw[T.v,hk]at cI
  exact⟨⟨by omega,by omega⟩,Ret (plV (ZqO s back t.subs f 0)),rfl,cI,Zbs,ZnS λm6 fE M dQ dT iG=>Zaf (mLt hM dT) rfl⟩
 have h:=Zew a s.length c back t.s0 t.s1 t.s2 t.s3 t.mn t.mx t.a t.subs.length t.c (wdN f 0:Nat) (wdN f 1:Nat) (wdN f 2:Nat) (wdN f 3:Nat) (wdN f 4:Nat) (wdN f 5:Nat) (wdN f 6:Nat) (wdN f 7:Nat) (wdN f 8:Nat) m _ key
 rw[T.v,hk]
 exact h
theorem Zwh(t:T)(a:Option Addr)(s:List Nat)(c:Nat)(back:Bool)(f:Nat)(m:Mem)(hr:Rep m t)(hb:Byt m a s)(hs:s.length<=512)(hf:f < ZcC)(ih:IH a s c back t)(x:T)(hx:t.subs=[x])(fZ:0<=t.mn)(hk:t.k=5):CX Tryz.prog 39 #[txV a s c back,t.v,plV f] m [] (Ret (plV (Zxw (Zf1 s back t.subs) t.mn t.mx f))):=by
 have key:ZbM a s.length c back t.s0 t.s1 t.s2 t.s3 t.mn t.mx t.a t.subs.length t.c (wdN f 0:Nat) (wdN f 1:Nat) (wdN f 2:Nat) (wdN f 3:Nat) (wdN f 4:Nat) (wdN f 5:Nat) (wdN f 6:Nat) (wdN f 7:Nat) (wdN f 8:Nat) m (Ret (plV (Zxw (Zf1 s back t.subs) t.mn t.mx f))):=by
  unfold ZbM
  intro b1 m1 bH _ b2 m2 bL _ b3 m3 bX _ b4
  refine⟨λi _ _=>if i=1 then KR a s c back else Ret (plV (Zxw (Zf1 s back t.subs) t.mn t.mx f)),KR a s c back,rfl,Zgf a s c back m3,Ziy,?_⟩
  rintro g0 i0 c0 g1 i1 c1 g2 i2 c2 g3 i3 c3 g4 i4 c4 g5 i5 c5 g6 i6 c6 m5 c9 ⟨b,hv,cP⟩
  simp only[Value.agg.injEq,Array.mk.injEq,List.cons.injEq,Value.func.injEq,Fn.func.injEq,and_true]at hv
  obtain⟨⟨rfl,rfl,rfl⟩,⟨rfl,rfl,rfl⟩,⟨rfl,rfl,rfl⟩,⟨rfl,rfl,rfl⟩,⟨rfl,rfl,rfl⟩,⟨rfl,rfl,rfl⟩,⟨rfl,rfl,rfl⟩⟩:=hv
  have hM:m.le m5:=mLt bH (mLt bL (mLt bX c9))
  have cI:=ZtX t a s c back f m5 (hr.mono hM) (hb.mono hM) hs ih hf x hx fZ
  rw[T.v,hk]at cI
  exact⟨⟨by omega,by omega⟩,Ret (plV (Zxw (Zf1 s back t.subs) t.mn t.mx f)),rfl,cI,Zbs,ZnS λm6 fE M dQ dT iG=>Zaf (mLt hM dT) rfl⟩
 have h:=Zex a s.length c back t.s0 t.s1 t.s2 t.s3 t.mn t.mx t.a t.subs.length t.c (wdN f 0:Nat) (wdN f 1:Nat) (wdN f 2:Nat) (wdN f 3:Nat) (wdN f 4:Nat) (wdN f 5:Nat) (wdN f 6:Nat) (wdN f 7:Nat) (wdN f 8:Nat) m _ key
 rw[T.v,hk]
 exact h
theorem Zwi(t:T)(a:Option Addr)(s:List Nat)(c:Nat)(back:Bool)(f:Nat)(m:Mem)(hr:Rep m t)(hb:Byt m a s)(hs:s.length<=512)(hf:f < ZcC)(ih:IH a s c back t)(x:T)(hx:t.subs=[x])(hk:t.k=6):CX Tryz.prog 39 #[txV a s c back,t.v,plV f] m [] (Ret (plV (Zf1 s back t.subs f))):=by
 have key:ZbN a s.length c back t.s0 t.s1 t.s2 t.s3 t.mn t.mx t.a t.subs.length t.c (wdN f 0:Nat) (wdN f 1:Nat) (wdN f 2:Nat) (wdN f 3:Nat) (wdN f 4:Nat) (wdN f 5:Nat) (wdN f 6:Nat) (wdN f 7:Nat) (wdN f 8:Nat) m (Ret (plV (Zf1 s back t.subs f))):=by
  unfold ZbN
  intro b1 m1 bH _ b2 m2 bL _ b3 m3 bX _ b4
  refine⟨λi _ _=>if i=1 then KR a s c back else Ret (plV (Zf1 s back t.subs f)),KR a s c back,rfl,Zgf a s c back m3,Ziy,?_⟩
  rintro g0 i0 c0 g1 i1 c1 g2 i2 c2 g3 i3 c3 g4 i4 c4 g5 i5 c5 g6 i6 c6 m5 c9 ⟨b,hv,cP⟩
  simp only[Value.agg.injEq,Array.mk.injEq,List.cons.injEq,Value.func.injEq,Fn.func.injEq,and_true]at hv
  obtain⟨⟨rfl,rfl,rfl⟩,⟨rfl,rfl,rfl⟩,⟨rfl,rfl,rfl⟩,⟨rfl,rfl,rfl⟩,⟨rfl,rfl,rfl⟩,⟨rfl,rfl,rfl⟩,⟨rfl,rfl,rfl⟩⟩:=hv
  have hM:m.le m5:=mLt bH (mLt bL (mLt bX c9))
  have cI:=Zzx t a s c back f m5 (hr.mono hM) (hb.mono hM) hs ih hf x hx b 0 cP
  rw[T.v,hk]at cI
  exact⟨⟨by omega,by omega⟩,Ret (plV (Zf1 s back t.subs f)),rfl,cI,Zbs,ZnS λm6 fE M dQ dT iG=>Zaf (mLt hM dT) rfl⟩
 have h:=Zey a s.length c back t.s0 t.s1 t.s2 t.s3 t.mn t.mx t.a t.subs.length t.c (wdN f 0:Nat) (wdN f 1:Nat) (wdN f 2:Nat) (wdN f 3:Nat) (wdN f 4:Nat) (wdN f 5:Nat) (wdN f 6:Nat) (wdN f 7:Nat) (wdN f 8:Nat) m _ key
 rw[T.v,hk]
 exact h
theorem Zsx(a:Option Addr)(s:List Nat)(c:Nat)(back:Bool)(hs:s.length<=512)(t:T)(hw:t.walks)(f:Nat)(m:Mem)(hf:f < ZcC)(hr:Rep m t)(hb:Byt m a s):CX Tryz.prog 39 #[txV a s c back,t.v,plV f] m [] (Ret (plV (t.lead s back f))):=by
 have ih:t.k≠0->IH a s c back t:=λh0 x hx f m hf hr hb=>by
  have bW:=Zm8 hx
  exact Zsx a s c back hs x (ZtA hw h0 hx) f m hf hr hb
 by_cases k0:t.k=0
 ·rw[Zzk k0];exact Zwc t a s c back f m hr hb hs hf k0
 have hR:t.right=true:=by
  rcases hw with h|h
  ·exact absurd h k0
  ·exact h t (by rw[Zbh];simp)
 have ih:=ih k0
 by_cases k1:t.k=1
 ·rw[Zxx k1];exact Zwd t a s c back f m hr hb hs hf k1
 by_cases k2:t.k=2
 ·rw[Zxy k2];exact Zwe t a s c back f m hr hb hs hf k2
 by_cases k3:t.k=3
 ·rw[ZvM k3];exact Zwf t a s c back f m hr hb hs hf ih k3
 by_cases k4:t.k=4
 ·rw[Zxz k4];exact Zwg t a s c back f m hr hb hs hf ih k4
 unfold T.right at hR
 rw[Bool.and_eq_true]at hR
 replace hR:=hR.2
 rw[if_neg k1,if_neg k2,if_neg k3,if_neg k4]at hR
 by_cases k5:t.k=5
 ·rw[if_pos k5,Bool.and_eq_true,Bool.and_eq_true]at hR
  obtain⟨x,hx⟩:=Zvg hR.1
  have fZ:0<=t.mn:=by
   have:=hR.2.1
   simp[Zif]at this
   omega
  rw[ZxA k5];exact Zwh t a s c back f m hr hb hs hf ih x hx fZ k5
 rw[if_neg k5,Bool.and_eq_true]at hR
 have k6:t.k=6:=by simpa using hR.1
 obtain⟨x,hx⟩:=Zvg hR.2
 rw[ZxB k6];exact Zwi t a s c back f m hr hb hs hf ih x hx k6
termination_by SizeOf.sizeOf t
decreasing_by exact bW
theorem ZpC(t:T)(a:Option Addr)(len c:Nat)(i:Int)(m:Mem)(hr:Rep m t):CX Tryz.prog 38 #[t.v,.slice a len c,.int .i64 i] m [] (Ret (.int .i64 (t.wrong len i))):=by
 apply Zix
 unfold ZfS
 intro b m1 bH _
 refine⟨t.isNone,Zab (λh=>Zax (Zyc t T0 m1 (hr.mono bH) (ZvO m1)) λm2 bL=>⟨by trivial,Zaq ?_⟩) (λh=>⟨by trivial,Zaq ?_⟩),!t.isNone&&!(t.check == 0),Zab (λh=>Zej (Zn0 false false t m1 (hr.mono bH)) λm2 bL=>⟨by trivial,Zaq ?_⟩) (λh=>⟨by trivial,Zaq ?_⟩),Zab (λh=>Zaf bH ?_) (λh=>Zab (λh1=>Zaf bH ?_) (λh1=>⟨decide (i < 0)||decide (i > len),Zab (λh2=>⟨by trivial,Zaq ?_⟩) (λh2=>⟨by trivial,Zaq ?_⟩),Zab (λh3=>Zaf bH ?_) (λh3=>Zaf bH ?_)⟩))⟩
 ·unfold T.isNone;rw[h];rfl
 ·unfold T.isNone;rw[h];rfl
 ·rw[h];rfl
 ·rw[h];rfl
 ·unfold T.wrong;rw[if_pos h]
 ·unfold T.wrong;rw[if_neg (by rw[h];decide),if_pos (of_decide_eq_true h1)]
 ·rw[h2];rfl
 ·rw[h2];rfl
 ·unfold T.wrong;rw[if_neg (by rw[h];decide),if_neg (of_decide_eq_false h1),if_pos (by simpa using h3)]
 ·unfold T.wrong;rw[if_neg (by rw[h];decide),if_neg (of_decide_eq_false h1),if_neg (by simpa using h3)]
def Zlr(l:List Nat):List Value:=l.map λi:Nat=>.int .i64 (i:Nat)
def Zy4(e:Int)(l:List Nat):Value->Mem->List (List Value)->Prop:=λv m' _=>∃a c,v=.tuple #[.slice a l.length c,.int .i64 e]/\rowRd m' a (Zlr l)
theorem Zmy{e l}:∀(v:Value)(m':Mem) (css:List (List Value)),Zy4 e l v m' css->Shape.fits (.tup [.slice,.int .i64]) v=true:=λv _ _ ⟨a,c,h,_⟩=>by rw[h];rfl
def T.list(t:T)(s:List Nat)(i:Int)(back:Bool):List Nat:=if t.wrong s.length i=0 then ZdK (t.lead s back (2 ^ i.toNat))else[]
theorem Zra{l:List Nat}{q i:Nat}(h:l[q]?=some i):Zlr (l.take q)++[.int .i64 (i:Nat)]=Zlr (l.take (q+1)):=by
 unfold Zlr
 rw[ZbZ h,List.map_append];rfl
theorem Zyk(t:T)(a:Option Addr)(s:List Nat)(c:Nat)(i:Int)(back:Bool)(m:Mem)(hr:Rep m t)(hb:t.wrong s.length i=0->Byt m a s):CX Tryz.prog 48 #[t.v,.slice a s.length c,.int .i64 i,.bool back] m [] (Zy4 (t.wrong s.length i) (T.list t s i back)):=by
 apply ZjC
 unfold Zgx
 intro b m1 bH _
 refine Zej (ZpC t a s.length c i m1 (hr.mono bH)) λm2 bL=>Zab (λh=>?_) (λh b1=>?_)
 ·have h':¬t.wrong s.length i=0:=by simpa using h
  refine Zaf (mLt bH bL) ⟨none,0,?_,.inl ?_⟩ <;> unfold T.list <;> rw[if_neg h'] <;> rfl
 ·have h':t.wrong s.length i=0:=by simpa using h
  obtain⟨hw,hs,uG,fW⟩:=ZuN h'
  obtain⟨n,rfl⟩:∃n:Nat,i=n:=⟨i.toNat,by omega⟩
  have dT:m.le m2:=mLt bH bL
  have rq:(2:Nat) ^ n < ZcC:=ZwO (by omega)
  refine⟨λj _ _=>if j=5 then Ret (plV (2 ^ n))else Ret (plV (t.lead s back (2 ^ n))),Ret (plV (2 ^ n)),rfl,Zye n (by omega) m2,Zbs,ZnS λm3 bX=>⟨Ret (plV (t.lead s back (2 ^ n))),rfl,Zsx a s c back hs t hw (2 ^ n) m3 rq (hr.mono (mLt dT bX)) ((hb h').mono (mLt dT bX)),Zbs,ZnS λm4 cA b2 M dQ iG dU m5 c9 eA=>ZaJ (Zzu (t.lead s back (2 ^ n)) b2 m5 eA) (λv _ _ ⟨c,e,_⟩=>by rw[e];rfl) ?_⟩⟩
  rintro g fi ca m6 fE ⟨cb,hv,ww⟩
  simp only[Value.func.injEq,Fn.func.injEq,Array.mk.injEq]at hv
  obtain⟨rfl,rfl,rfl⟩:=hv
  have wx:m.le m6:=mLt dT (mLt dQ (mLt c9 fE))
  have hL:T.list t s (n:Int) back=ZdK (t.lead s back (2 ^ n)):=by unfold T.list;rw[if_pos h'];rfl
  rw[hL,h']
  generalize hX:ZdK (t.lead s back (2 ^ n))=X
  have se:X.length<=513:=by rw[<-hX];exact ZvP _
  refine⟨X.map λi=>[.int .i64 (i:Nat)],?_,?_,?_⟩
  ·rw[<-hX];exact Zyh _ b2 cb m6 (eA.mono fE) ww
  ·intro x hx
   obtain⟨y,_,rfl⟩:=List.mem_map.1 hx
   rfl
  refine⟨λxs css tvs m' q=>∃a' c',css=[[.slice a' q c']]/\tvs=[.slice a' q c']/\rowRd m' a' (Zlr (X.take q)),⟨none,0,rfl,rfl,.inl rfl⟩,?_,?_⟩
  ·rintro z cs a1 n1 c1 m7 q lZ hq ⟨a',c',cQ,fI,bG⟩
   obtain rfl:cs=[.slice a' q c']:=by simpa using cQ
   obtain⟨rfl,rfl,rfl⟩:a1=a'/\n1=q/\c1=c':=by simpa using fI
   have hq':(X.map λi=>[Value.int .i64 (i:Nat)])[(n1:Nat)]?=some [.int .i64 z]:=hq
   rw[List.getElem?_map]at hq'
   obtain⟨y,hy,hz⟩:=Option.map_eq_some_iff.1 hq'
   obtain rfl:z=y:=(Zxr hz).symm
   have bF:=(List.getElem?_eq_some_iff.1 hy).1
   refine Zar rfl λb3 bP=>Zaa rfl ⟨.inl rfl,Zlr (X.take n1),[.int .i64 y],?_,rfl,bG.mono (Mem.le_add bP _),.inr ⟨b3,0,rfl,?_⟩,?_,?_,?_,?_⟩
   ·simp[Zlr,slN];omega
   ·intro j v hj;rw[Nat.zero_add,Mem.add_same];exact hj
   ·intro u hu;obtain rfl:u=.int .i64 y:=by simpa using hu
    rfl
   ·simp only[slN];omega
   ·simp only[slN];omega
   ·intro a2 c2 m8 sf gP
    refine⟨by trivial,a2,c2,rfl,rfl,?_⟩
    rw[<-Zra hy];exact gP
  ·rintro cs a1 n1 c1 m7 lZ ⟨a',c',cQ,fI,bG⟩
   rw[List.length_map]at cQ fI bG
   obtain rfl:cs=[.slice a' X.length c']:=by simpa using cQ
   rw[List.take_length]at bG
   exact Zar rfl ⟨m7,mLt wx lZ,Mem.le_refl _,a',c',rfl,bG⟩
theorem Zyl(t:T)(a:Option Addr)(s:List Nat)(c:Nat)(i:Int)(m:Mem)(hr:Rep m t)(hb:t.wrong s.length i=0->Byt m a s):CX Tryz.prog 13 #[t.v,.slice a s.length c,.int .i64 i] m [] (Zy4 (t.wrong s.length i) (T.list t s i false)):=by
 apply ZjD
 unfold Zgy
 intro b m1 bH _
 refine ZaJ (Zyk t a s c i false m1 (hr.mono bH) (λh=>(hb h).mono bH)) Zmy ?_
 intro a1 n1 c1 e1 m2 bL h
 exact⟨m2,mLt bH bL,Mem.le_refl _,h⟩
def T.matches(t:T)(s:List Nat):Bool:=t.wrong s.length 0 == 0&&(t.lead s false 1).testBit s.length
theorem Zjf(t:T)(a:Option Addr)(s:List Nat)(c:Nat)(m:Mem)(hr:Rep m t)(hb:t.wrong s.length 0=0->Byt m a s):CX Tryz.prog 9 #[t.v,.slice a s.length c] m [] (Ret (.tuple #[.bool (T.matches t s),.int .i64 (t.wrong s.length 0)])):=by
 apply ZgX
 unfold Zec
 intro b m1 bH _
 refine Zej (ZpC t a s.length c 0 m1 (hr.mono bH)) λm2 bL=>Zab (λh=>?_) (λh=>?_)
 ·have h':¬t.wrong s.length 0=0:=by simpa using h
  refine Zaf (mLt bH bL) ?_
  unfold T.matches
  rw[show(t.wrong s.length 0 == 0)=false by simpa using h'];rfl
 ·have h':t.wrong s.length 0=0:=by simpa using h
  obtain⟨hw,hs,uG,fW⟩:=ZuN h'
  have dT:m.le m2:=mLt bH bL
  have rq:(2:Nat) ^ 0 < ZcC:=ZwO (by omega)
  refine⟨λj _ _=>if j=3 then Ret (plV (2 ^ 0))else Ret (plV (t.lead s false (2 ^ 0))),Ret (plV (2 ^ 0)),rfl,Zye 0 (by omega) m2,Zbs,ZnS λm3 bX=>⟨Ret (plV (t.lead s false (2 ^ 0))),rfl,Zsx a s c false hs t hw (2 ^ 0) m3 rq (hr.mono (mLt dT bX)) ((hb h').mono (mLt dT bX)),Zbs,ZnS λm4 cA b2 M dQ iG dU m5 c9 eA=>Zax (ZpB (t.lead s false (2 ^ 0)) s.length (by omega) b2 m5 eA) λm6 fE=>Zaf (mLt dT (mLt dQ (mLt c9 fE))) ?_⟩⟩
  unfold T.matches
  rw[h'];rfl
theorem Rgs.get{m:Mem}{a l}(h:Rgs m a l){i:Nat}{r:Rg}(hi:l[i]?=some r):(∃b o,a=some ⟨b,o,none⟩/\m.reads b (o+i*10) r.cs)/\Rep m r.t:=by
 refine⟨?_,h.2.2 r (List.mem_of_getElem? hi)⟩
 rcases h.2.1 with h|⟨b,o,h1,h2⟩
 ·subst h;simp at hi
 ·exact⟨b,o,h1,h2 i r hi⟩
theorem Znm(x y:List Nat)(ax ay:Option Addr)(cx cy:Nat)(m:Mem)(hx:rowRd m ax (Zlr x))(hy:rowRd m ay (Zlr y))(bO:x.length<=1000000000000000):CX Tryz.prog 16 #[.slice ax x.length cx,.slice ay y.length cy] m [] (Ret (.bool (x == y))):=by
 apply ZdF
 unfold Zcb
 refine Zab (λh=>Zaf (Mem.le_refl _) ?_) (λh=>?_)
 ·have:¬x=y:=λe=>by subst e;simp at h
  rw[show(x == y)=false by simpa using this]
 have hl:x.length=y.length:=by
  simp only[Bool.not_eq_false',beq_iff_eq]at h
  omega
 refine⟨λxs css _ m' q=>∃k:Nat,k<=x.length/\xs=[.int .i64 k]/\x.take k=y.take k/\m.le m'/\q=x.length - k,⟨_,0,by omega,rfl,rfl,Mem.le_refl _,rfl⟩,?_⟩
 rintro z m1 q bH ⟨k,hk,hz,fF,_,hq⟩
 obtain rfl:z=k:=by simpa using hz
 refine Zab (λbF=>?_) (λcR=>?_)
 ·have bI:k < x.length:=by have:=of_decide_eq_true bF;omega
  obtain⟨u,hu⟩:=Zea bI
  obtain⟨v,hv⟩:=Zea (l:=y) (k:=k) (by omega)
  have fH:IntKind.i64.wrap ((k:Int)+1)=((k+1:Nat):Int):=by rw[ZaN (by omega) (by omega)];rfl
  rcases hx.mono bH with hx|⟨b,o,h1,h2⟩
  ·rw[show x=[] by simpa[Zlr]using hx]at bI;simp at bI
  rcases hy.mono bH with hy|⟨b',o',h1',h2'⟩
  ·rw[hl,show y=[] by simpa[Zlr]using hy]at bI;simp at bI
  simp only[fH,Int.toNat_natCast,Nat.mul_one]
  refine⟨b,o,h1,⟨by omega,by omega⟩,_,h2 k (.int .i64 u) (by rw[Zlr,List.getElem?_map,hu];rfl),b',o',h1',⟨by omega,by omega⟩,_,h2' k (.int .i64 v) (by rw[Zlr,List.getElem?_map,hv];rfl),Zaa rfl (Zab (λhc=>Zaf bH ?_) (λhc=>⟨x.length - (k+1),by omega,k+1,by omega,rfl,?_,bH,rfl⟩))⟩
  ·have:¬x=y:=λe=>by
    subst e
    rw[hu]at hv;cases hv
    simp at hc
   rw[show(x == y)=false by simpa using this]
  ·have:u=v:=by
    have:=hc
    simp[RowKit.intOf]at this
    omega
   rw[ZbZ hu,ZbZ hv,fF,this]
 ·have:k=x.length:=by have:=of_decide_eq_false cR;omega
  subst this
  rw[List.take_length,hl,List.take_length]at fF
  refine Zaf bH ?_
  rw[fF];simp
theorem Zz5{n:Int}(h1:0<=n)(h2:n < 256):IntKind.u8.wrap n=n:=by
 unfold IntKind.wrap
 simp only[IntKind.bits,IntKind.signed,Bool.false_and,Bool.false_eq_true,if_false]
 have e:(2:Int) ^ 8=256:=by decide
 rw[e];omega
theorem Zwj(t:T)(m:Mem)(hr:Rep m t):CX Tryz.prog 30 #[t.v] m [] (ZfG (λu=>∃a c,u=Zas 6 0 0 a c [t])):=by
 apply Zjv
 unfold Zgu
 intro b m1 bH _ b1 b2 hf
 have cF:=Mem.le_add hf t.cs
 refine Zhs (mLt bH cF) ⟨Zas 6 0 0 (some ⟨b2,0,none⟩) 1 [t],rfl,Zbk (Zi9 ?_ (hr.mono (mLt bH cF))) (by omega) (by omega) (by omega),_,_,rfl⟩
 intro j v hj
 rw[Nat.zero_add,Mem.add_same];exact hj
theorem Zym(t:T)(mn mx:Int)(h1 : -9223372036854775808<=mn/\mn<=9223372036854775807)(h2 : -9223372036854775808<=mx/\mx<=9223372036854775807)(m:Mem)(hr:Rep m t):CX Tryz.prog 31 #[t.v,.int .i64 mn,.int .i64 mx] m [] (ZfG (λu=>∃a c,u=Zas 5 mn mx a c [t])):=by
 apply Zne
 unfold Zio
 intro b m1 bH _ b1 b2 hf
 have cF:=Mem.le_add hf t.cs
 refine Zhs (mLt bH cF) ⟨Zas 5 mn mx (some ⟨b2,0,none⟩) 1 [t],rfl,Zbk (Zi9 ?_ (hr.mono (mLt bH cF))) (by omega) h1 h2,_,_,rfl⟩
 intro j v hj
 rw[Nat.zero_add,Mem.add_same];exact hj
def Zb2(s:ByteArray):List Nat:=s.data.toList.map λb=>b.toNat
theorem Zkk(s:ByteArray):ZaI s=(Zb2 s).map λc:Nat=>Value.int .u8 c:=by
 unfold ZaI Zb2
 rw[List.map_map];rfl
theorem Zmz(s:ByteArray):(Zb2 s).length=s.size:=by unfold Zb2;rw[List.length_map,Array.length_toList];rfl
theorem ZtY(s:ByteArray):∀c∈Zb2 s,c < 256:=by
 intro c hc
 unfold Zb2 at hc
 obtain⟨b,_,rfl⟩:=List.mem_map.1 hc
 exact b.toBitVec.isLt
theorem Zwk{s:ByteArray}{k c:Nat}(h:(Zb2 s)[k]?=some c):ZnG s k=(c:Int):=by
 unfold Zb2 at h
 rw[List.getElem?_map]at h
 obtain⟨b,hb,rfl⟩:=Option.map_eq_some_iff.1 h
 unfold ZnG
 rw[List.getD_eq_getElem?_getD,hb];rfl
theorem ZpD(s:ByteArray)(hs:(Zb2 s).length<=100000)(m:Mem):CX Tryz.prog 27 #[.string s] m [] (ZfG (λt=>t=Zk3 (Zb2 s))):=by
 apply Zjw
 unfold Zgv
 intro b b1
 have bO:=Zmz s
 refine⟨λxs css tvs m' q=>∃k:Nat,k<=s.size/\xs=[.int .i64 k]/\css=[ZuP ((Zb2 s).take k)]/\q=s.size - k,⟨_,0,by omega,rfl,rfl,rfl⟩,?_⟩
 rintro n cs m1 q bH ⟨k,hk,hn,cQ,hq⟩
 obtain rfl:n=k:=by simpa using hn
 obtain rfl:cs=ZuP ((Zb2 s).take k):=by simpa using cQ
 refine Zab (λbF=>?_) (λcR=>?_)
 ·have bI:k < s.size:=by have:=of_decide_eq_true bF;omega
  obtain⟨c,hc⟩:=Zea (l:=Zb2 s) (k:=k) (by omega)
  have jT:=ZtY s c (List.mem_of_getElem? hc)
  have hw:IntKind.i64.wrap ((k:Int)+1)=((k+1:Nat):Int):=by rw[ZaN (by omega) (by omega)];rfl
  have zZ:IntKind.u8.wrap (Int.tdiv (c:Int) 64)=((c / 64:Nat):Int):=by rw[Zyd];exact Zz5 (by omega) (by omega)
  have hr:IntKind.u64.wrap (1*2 ^ min (Int.toNat (Int.tmod (c:Int) 64)) 64)=((2 ^ (c % 64):Nat):Int):=by
   rw[Zsv,Int.toNat_natCast,Nat.min_eq_left (by omega),Int.one_mul]
   have:=ZwM (2 ^ (c % 64)) (by
    have:2 ^ (c % 64) < 2 ^ 64:=Nat.pow_lt_pow_right (by omega) (by omega)
    exact this)
   rw[<-this];push_cast;rfl
  have h2:(2:Nat) ^ (c % 64) < 18446744073709551616:=by
   have:(2:Nat) ^ (c % 64) < 2 ^ 64:=Nat.pow_lt_pow_right (by omega) (by omega)
   exact this
  have hj:c / 64 < 4:=by omega
  simp only[hw,Int.toNat_natCast,Zwk hc,zZ,hr,Nat.zero_add,Nat.mul_one]
  refine⟨⟨by omega,by omega⟩,by omega,⟨by omega,by omega⟩,Zar (ZtD _ hj) ⟨⟨by omega,by omega⟩,by omega,by rw[Zsv];omega,Zaa rfl ⟨⟨by omega,by omega⟩,Zaa (by rw[Nat.ble_eq];show c / 64+1<=4;omega) ⟨by trivial,s.size - (k+1),by omega,k+1,by omega,rfl,?_,rfl⟩⟩⟩⟩
  simp only[intOf]
  rw[ZrI _ _ (ZuO _ _) h2,ZqS _ rfl hj,ZbZ hc]
 ·have:k=s.size:=by have:=of_decide_eq_false cR;omega
  subst this
  rw[<-bO,List.take_length]
  exact Zaa rfl (Zaa rfl (Zaf bH ⟨Zk3 (Zb2 s),rfl,ZoY _ m,rfl⟩))
theorem Zrb(n:Nat)(hn:n < 256)(m:Mem):CX Tryz.prog 28 #[.int .u8 n] m [] (λv _ _=>∃s,v=.string s/\Zb2 s=Zek n):=by
 apply ZhP
 unfold ZeT
 intro b hf
 have ht:Int.tmod (n:Int) 12=((n % 12:Nat):Int):=rfl
 simp only[ht,Int.toNat_natCast,Nat.mul_one]
 refine⟨by omega,⟨by omega,by omega⟩,?_⟩
 have h:n % 12=0\/n % 12=1\/n % 12=2\/n % 12=3\/n % 12=4\/n % 12=5\/n % 12=6\/n % 12=7\/n % 12=8\/n % 12=9\/n % 12=10\/n % 12=11:=by omega
 unfold Zek
 rcases h with e|e|e|e|e|e|e|e|e|e|e|e <;>
 ·rw[e]
  refine Zar rfl ?_
  exact⟨_,Mem.le_add hf _,Mem.le_refl _,_,rfl,rfl⟩
theorem Zgg(k:Int)(t:T):ZbR k t=if t.k=k then t.subs else if k=3/\t.k=1 then[]else[t]:=rfl
theorem Zfl(l:List T):∀u∈Rx.Zcu l,u.oneCell'=true:=by
 intro u hu
 simp only[Rx.Zcu,List.mem_flatten,List.mem_map]at hu
 obtain⟨_,⟨t,_,rfl⟩,h⟩:=hu
 simp only[T.cs,List.mem_cons,List.not_mem_nil,or_false,T.sl]at h
 rcases h with rfl|rfl|rfl|rfl|rfl|rfl|rfl|rfl <;> rfl
theorem Zn1(k:Int)(t u:T)(hk:k=3\/k=4)(m:Mem)(hr:Rep m t)(hu:Rep m u)(ht:(ZbR k t).length<=10000)(z6:(ZbR k u).length<=10000):CX Tryz.prog 29 #[.int .u8 k,t.v,u.v] m [] (ZfG (λr=>∃a c,r=ZhO k a c (ZbR k t++ZbR k u))):=by
 apply Zjx
 unfold Zgw
 intro b m1 bH _ b1 m2 bL _ b2 b3 sg
 have iV:=mLt bH bL
 have dH:m.le (m2.add b3 (t.cs++u.cs)):=mLt iV (Mem.le_add sg _)
 refine⟨λxs css tvs m' q=>∃(i:Nat)(l:List T)(a:Option Addr)(c:Nat),i<=2/\xs=[.slice a l.length c,.int .i64 i]/\tvs=[.slice a l.length c]/\l=(([t,u].take i).map (ZbR k)).flatten/\rowRd m' a (Rx.Zcu l)/\q=2 - i,⟨2,0,[],none,0,by omega,rfl,rfl,rfl,.inl rfl,rfl⟩,?_⟩
 rintro a n c z a1 n1 c1 m3 q bX ⟨i,l,a',c',hi,cJ,fI,hl,bG,hq⟩
 simp only[List.cons.injEq,Value.slice.injEq,Value.int.injEq,true_and,and_true]at cJ fI
 obtain⟨⟨rfl,rfl,rfl⟩,rfl⟩:=cJ
 obtain⟨rfl,rfl,rfl⟩:=fI
 have kO:=mLt dH bX
 have gJ:l.length<=20000:=by
  rw[hl]
  have:i=0\/i=1\/i=2:=by omega
  rcases this with rfl|rfl|rfl <;> simp <;> omega
 refine Zab (λbF=>?_) (λcR=>?_)
 ·have h2:i=0\/i=1:=by have:=of_decide_eq_true bF;omega
  rcases h2 with rfl|rfl
  ·
   refine⟨⟨by omega,by omega⟩,Zaa rfl λb4=>Zaa rfl (Zar (v:=.int .u8 t.k) rfl (Zaa rfl (Zab (λdM=>Zar (v:=t.sl) rfl (Zaa rfl ?_)) (λdM=>?_))))⟩
   ·have gH:t.k=k:=by simpa[RowKit.intOf]using dM
    have hj:ZbR k t=t.subs:=by rw[Zgg,if_pos gH]
    have bO:=ht
    rw[hj]at bO
    refine⟨.inl rfl,Rx.Zcu l,Rx.Zcu t.subs,Zao _,Zao _,bG,(ZcH (hr.subs)).mono kO,Zfl _,?_,?_,λa2 c2 m4 cA cO=>⟨by trivial,1,by omega,1,l++t.subs,a2,c2,by omega,?_,?_,?_,?_,?_⟩⟩
    ·simp only[T.sl,slN];omega
    ·simp only[T.sl,slN];omega
    ·rw[List.length_append];rfl
    ·rw[List.length_append];rfl
    ·rw[hl,<-hj];simp
    ·rw[ZaL];exact cO
    ·omega
   ·have gH:¬t.k=k:=by simpa[RowKit.intOf]using dM
    refine⟨k == 3&&t.k == 1,Zab (λh=>Zar (v:=.int .u8 t.k) rfl (Zaa rfl ⟨by trivial,by trivial,?_⟩)) (λh=>⟨by trivial,by trivial,?_⟩),Zab (λh=>⟨by trivial,1,by omega,1,l,_,_,by omega,rfl,rfl,?_,bG,by omega⟩) (λh=>Zaa rfl λb6 rr=>?_)⟩
    ·rw[h];rfl
    ·rw[h];rfl
    ·have:k=3/\t.k=1:=by simpa using h
     have hj:ZbR k t=[]:=by rw[Zgg,if_neg gH,if_pos this]
     rw[hl];simp[hj]
    ·have:¬(k=3/\t.k=1):=by simpa using h
     have hj:ZbR k t=[t]:=by rw[Zgg,if_neg gH,if_neg this]
     have iY:=Mem.le_add rr t.cs
     refine⟨.inl rfl,Rx.Zcu l,t.cs,Zao _,rfl,bG.mono iY,.inr ⟨b6,0,rfl,λj v hj=>by rw[Nat.zero_add,Mem.add_same];exact hj⟩,by rw[<-Zby];exact Zfl _,by omega,by omega,λa2 c2 m4 cA cO=>⟨by trivial,1,by omega,1,l++[t],a2,c2,by omega,?_,?_,?_,?_,?_⟩⟩
     ·rw[List.length_append];rfl
     ·rw[List.length_append];rfl
     ·rw[hl];simp[hj]
     ·rw[ZaL,Zby];exact cO
     ·omega
  ·
   refine⟨⟨by omega,by omega⟩,Zaa rfl λb4=>Zaa rfl (Zar (v:=.int .u8 u.k) rfl (Zaa rfl (Zab (λdM=>Zar (v:=u.sl) rfl (Zaa rfl ?_)) (λdM=>?_))))⟩
   ·have gH:u.k=k:=by simpa[RowKit.intOf]using dM
    have hj:ZbR k u=u.subs:=by rw[Zgg,if_pos gH]
    have bO:=z6
    rw[hj]at bO
    refine⟨.inl rfl,Rx.Zcu l,Rx.Zcu u.subs,Zao _,Zao _,bG,(ZcH (hu.subs)).mono kO,Zfl _,?_,?_,λa2 c2 m4 cA cO=>⟨by trivial,0,by omega,2,l++u.subs,a2,c2,by omega,?_,?_,?_,?_,?_⟩⟩
    ·simp only[T.sl,slN];omega
    ·simp only[T.sl,slN];omega
    ·rw[List.length_append];rfl
    ·rw[List.length_append];rfl
    ·rw[hl,<-hj];simp
    ·rw[ZaL];exact cO
    ·omega
   ·have gH:¬u.k=k:=by simpa[RowKit.intOf]using dM
    refine⟨k == 3&&u.k == 1,Zab (λh=>Zar (v:=.int .u8 u.k) rfl (Zaa rfl ⟨by trivial,by trivial,?_⟩)) (λh=>⟨by trivial,by trivial,?_⟩),Zab (λh=>⟨by trivial,0,by omega,2,l,_,_,by omega,rfl,rfl,?_,bG,by omega⟩) (λh=>Zaa rfl λb6 rr=>?_)⟩
    ·rw[h];rfl
    ·rw[h];rfl
    ·have:k=3/\u.k=1:=by simpa using h
     have hj:ZbR k u=[]:=by rw[Zgg,if_neg gH,if_pos this]
     rw[hl];simp[hj]
    ·have:¬(k=3/\u.k=1):=by simpa using h
     have hj:ZbR k u=[u]:=by rw[Zgg,if_neg gH,if_neg this]
     have iY:=Mem.le_add rr u.cs
     refine⟨.inl rfl,Rx.Zcu l,u.cs,Zao _,rfl,bG.mono iY,.inr ⟨b6,0,rfl,λj v hj=>by rw[Nat.zero_add,Mem.add_same];exact hj⟩,by rw[<-Zby];exact Zfl _,by omega,by omega,λa2 c2 m4 cA cO=>⟨by trivial,0,by omega,2,l++[u],a2,c2,by omega,?_,?_,?_,?_,?_⟩⟩
     ·rw[List.length_append];rfl
     ·rw[List.length_append];rfl
     ·rw[hl];simp[hj]
     ·rw[ZaL,Zby];exact cO
     ·omega
 ·have:i=2:=by have:=of_decide_eq_false cR;omega
  subst this
  have hl':ZbR k t++ZbR k u=l:=by rw[hl];simp
  rw[hl']
  have cB:∀x∈l,Rep m3 x:=by
   have key:∀t:T,Rep m t->∀x∈ZbR k t,Rep m3 x:=by
    intro t hr x hx
    rw[Zgg]at hx
    split at hx
    ·exact ZfI (hr.subs.mono kO) x hx
    ·split at hx
     ·simp at hx
     ·simp at hx;subst hx;exact hr.mono kO
   rw[<-hl']
   intro x hx
   rcases List.mem_append.1 hx with hx|hx
   ·exact key t hr x hx
   ·exact key u hu x hx
  refine Zab (λh0=>?_) (λh0=>Zab (λh1=>?_) (λh1=>?_))
  ·have:l=[]:=by simpa using h0
   subst this
   exact Zaf kO ⟨T1,rfl,ZtB _,none,0,rfl⟩
  ·have wp:l.length=1:=by
    have:((l.length:Int) == 1)=true:=h1
    have:=of_decide_eq_true this;omega
   obtain⟨x,rfl⟩:∃x,l=[x]:=by
    match l,wp with
    | [x],_=>exact⟨x,rfl⟩
   rcases bG with bG|⟨b6,o,ha,cP⟩
   ·simp[Rx.Zcu,T.cs]at bG
   ·rw[Zby]at cP
    exact⟨b6,o,ha,⟨by omega,by simp⟩,_,_,_,_,_,_,_,_,cP,Zaa rfl (Zhs kO ⟨x,rfl,cB x (by simp),none,0,rfl⟩)⟩
  ·have z7:¬l.length=0:=λe=>by rw[e]at h0;simp at h0
   have lX:¬l.length=1:=λe=>by rw[e]at h1;simp at h1
   obtain⟨x,y,r,rfl⟩:∃x y r,l=x::y::r:=by
    match l,z7,lX with
    | [],h,_=>simp at h
    | [x],_,h=>simp at h
    | x::y::r,_,_=>exact⟨x,y,r,rfl⟩
   refine Zhs kO ⟨Zas k 0 0 _ _ (x::y::r),rfl,Zbk (Zmo bG cB (by omega)) (by omega) (by omega) (by omega),_,_,rfl⟩
structure Sm (m:Mem)(a:Option Addr)(l:List (Nat×Nat×Nat)):Prop where
 len:l.length<=9223372036854775807
 byte:∀s∈l,s.1 < 256/\s.2.1 < 256/\s.2.2 < 256
 at':∀i s,l[i]?=some s->∃b o,a=some ⟨b,o,none⟩/\m.reads b (o+i*3) [.int .u8 s.1,.int .u8 s.2.1,.int .u8 s.2.2]
theorem Sm.mono{m m':Mem}{a l}(h:Sm m a l)(hm:m.le m'):Sm m' a l:=
 ⟨h.len,h.byte,λi s hi=>by obtain⟨b,o,h1,h2⟩:=h.at' i s hi;exact⟨b,o,h1,h2.mono hm⟩⟩
theorem ZpE(n:Nat):(([[97],[98],[97,98],[97],[98],[99],[97,98,99],[98,99],[10],[0,255],[97],[98]][n % 12]?).getD []:List Nat).length<=100000:=by
 have h:n % 12=0\/n % 12=1\/n % 12=2\/n % 12=3\/n % 12=4\/n % 12=5\/n % 12=6\/n % 12=7\/n % 12=8\/n % 12=9\/n % 12=10\/n % 12=11:=by omega
 rcases h with e|e|e|e|e|e|e|e|e|e|e|e <;> rw[e] <;> decide
theorem Zyn:∀L < 3,∀Mo < 4,((Mo < L\/Mo=0\/(L=1/\Mo=1))->Zif (L:Nat) (-1)=true/\ZvJ (L:Nat) (-1)<=((max 1 L:Nat):Int))/\(¬(Mo < L\/Mo=0\/(L=1/\Mo=1))->Zif (L:Nat) (Mo:Nat)=true/\ZvJ (L:Nat) (Mo:Nat)<=((max 1 (max L Mo):Nat):Int)):=by
 intro L hL Mo hM
 have h1:L=0\/L=1\/L=2:=by omega
 have h2:Mo=0\/Mo=1\/Mo=2\/Mo=3:=by omega
 rcases h1 with rfl|rfl|rfl <;> rcases h2 with rfl|rfl|rfl|rfl <;> exact⟨λ_=>by first|exact⟨by decide,by decide⟩|omega,λ_=>by first|exact⟨by decide,by decide⟩|omega⟩
theorem Zvh(l:List (Nat×Nat×Nat))(a:Option Addr)(c:Nat)(m:Mem)(hl:Sm m a l)(hc:l.length<=c):CX Tryz.prog 5 #[.slice a l.length c] m [] (ZfG (λt=>t.check=0)):=by
 apply Zlj
 unfold Zhz
 have bO:=hl.len
 intro b
 have hN:(if(25:Int) < (l.length:Int)then(25:Int)else(l.length:Int))=((min 25 l.length:Nat):Int):=by split <;> omega
 simp only[hN,Int.toNat_natCast,Nat.sub_zero]
 generalize Cd:min 25 l.length=N
 refine⟨⟨by omega,by omega⟩,λxs css tvs m' q=>∃(i:Nat)(ts:List T)(a:Option Addr)(c:Nat)(u g:Nat)(mb:Mem),i<=N/\xs=[.slice a ts.length c,.int .i64 u,.int .i64 g,.int .i64 i]/\tvs=[.slice a ts.length c]/\ts.length<=c/\m.le mb/\mb.le m'/\Apart mb a/\rowRd m' a (Rx.Zcu ts)/\(∀t∈ts,Rep mb t)/\J i ts u g/\q=N - i,⟨N,0,[],none,0,1,0,m,by omega,rfl,rfl,by simp,Mem.le_refl _,Mem.le_refl _,.inl rfl,.inl rfl,by simp,J.zero,by omega⟩,?_⟩
 rintro a1 n1 c1 z1 z2 z3 a2 n2 c2 m1 q _ ⟨i,ts,a',c',u,g,mb,hi,cJ,fI,dB,iH,eJ,cV,bG,cB,hJ,hq⟩
 simp only[List.cons.injEq,Value.slice.injEq,Value.int.injEq,true_and,and_true]at cJ fI
 obtain⟨⟨rfl,rfl,rfl⟩,rfl,rfl,rfl⟩:=cJ
 obtain⟨rfl,rfl,rfl⟩:=fI
 have eU:ts.length<=25:=by have:=hJ.sz;have:=ZoZ ts;omega
 refine Zab (λbF=>?_) (λcR=>?_)
 ·have z8:i < N:=by have:=of_decide_eq_true bF;omega
  have hi':i < l.length:=by omega
  obtain⟨s,hs⟩:=Zea hi'
  obtain⟨bs,os,ha,cP⟩:=(hl.mono (mLt iH eJ)).at' i s hs
  obtain⟨s1,s2,s3⟩:=s
  obtain⟨Ce,kX,xX⟩:=hl.byte _ (List.mem_of_getElem? hs)
  have hw:IntKind.i64.wrap ((i:Int)+1)=((i+1:Nat):Int):=by rw[ZaN (by omega) (by omega)];rfl
  have wy:Int.tmod (intOf (Value.int .u8 (s1:Nat))) 12=((s1 % 12:Nat):Int):=rfl
  simp only[hw,Int.toNat_natCast]
  refine⟨bs,os,ha,⟨by omega,by omega⟩,_,_,_,cP,λb2=>Zaa rfl (Zaa rfl ⟨by omega,?_⟩)⟩
  simp only[wy]
  refine Zab (λh1=>?_) (λh1=>Zab (λh2=>?_) (λh2=>?_))
  ·refine ZaJ (Zrb s2 kX m1) (λv _ _ ⟨s,e,_⟩=>by rw[e];rfl) ?_
   rintro str m2 bL ⟨s',hv,hb⟩
   cases hv
   refine ZaJ (ZpD str (by rw[hb];unfold Zek;exact ZpE _) m2) Zbw (ZfH λt m3 bX hr ht b3 sg=>?_)
   rw[hb]at ht
   have dH:=mLt bL (mLt bX (Mem.le_add sg t.cs))
   obtain⟨k1,k2,k3,k4⟩:=ZrQ s2
   refine⟨.inl trivial,Rx.Zcu ts,t.cs,Zao _,rfl,bG.mono (dH),.inr ⟨b3,0,rfl,λj v hj=>by rw[Nat.zero_add,Mem.add_same];exact hj⟩,by rw[<-Zby];exact Zfl _,by omega,by omega,λa4 c4 m4 cA cO bR=>⟨by trivial,N - (i+1),by omega,i+1,ts++[t],a4,c4,u,g,mb,by omega,?_,?_,by have:=bR.1;rw[List.length_append];exact this,iH,mLt eJ (mLt (dH) cA),cV.tok (mLt eJ (dH)) bR,?_,?_,?_,by omega⟩⟩
   ·rw[List.length_append];rfl
   ·rw[List.length_append];rfl
   ·rw[ZaL,Zby];exact cO
   ·intro x hx
    rcases List.mem_append.1 hx with hx|hx
    ·exact cB x hx
    ·simp at hx;subst hx;exact(by rw[ht];exact ZoY _ _)
   ·rw[ht];exact hJ.push k1 k2 k3 k4
  ·intro b3 sg
   have dH:=Mem.le_add sg T1.cs
   refine⟨.inl trivial,Rx.Zcu ts,T1.cs,Zao _,rfl,bG.mono (dH),.inr ⟨b3,0,rfl,λj v hj=>by rw[Nat.zero_add,Mem.add_same];exact hj⟩,by rw[<-Zby];exact Zfl _,by omega,by omega,λa4 c4 m4 cA cO bR=>⟨by trivial,N - (i+1),by omega,i+1,ts++[T1],a4,c4,u,g,mb,by omega,?_,?_,by have:=bR.1;rw[List.length_append];exact this,iH,mLt eJ (mLt (dH) cA),cV.tok (mLt eJ (dH)) bR,?_,?_,?_,by omega⟩⟩
   ·rw[List.length_append];rfl
   ·rw[List.length_append];rfl
   ·rw[ZaL,Zby];exact cO
   ·intro x hx
    rcases List.mem_append.1 hx with hx|hx
    ·exact cB x hx
    ·simp at hx;subst hx;exact ZtB _
   ·exact hJ.push ZxE.1 ZxE.2.1 ZxE.2.2.1 ZxE.2.2.2
  ·refine⟨decide (s1 % 12 < 7)&&decide (1 < ts.length),Zab (λh3=>⟨by trivial,by trivial,?_⟩) (λh3=>⟨by trivial,by trivial,?_⟩),Zab (λh3=>?_) (λh3=>?_)⟩
   ·refine Zaq ?_
    rw[Bool.eq_iff_iff];simp;have:=of_decide_eq_true h3;omega
   ·refine Zaq ?_
    rw[eq_comm,Bool.and_eq_false_iff];left;have:=of_decide_eq_false h3;exact decide_eq_false (by omega)
   ·skip
    obtain⟨r,x,y,rfl⟩:=Zz3 (ts:=ts) (by simp at h3;omega)
    have jG:(r++[x,y]).length=r.length+2:=by simp
    have dS:IntKind.i64.wrap (((r++[x,y]).length:Int) - 2)=(r.length:Int):=by rw[jG,ZaN (by omega) (by omega)];omega
    have eM:IntKind.i64.wrap (((r++[x,y]).length:Int) - 1)=((r.length+1:Nat):Int):=by rw[jG,ZaN (by omega) (by omega)];omega
    simp only[dS,eM,Int.toNat_natCast,Nat.sub_zero]
    obtain⟨bb,lP,lC,o',u',hu'⟩:=cV.base bG (by simp)
    obtain⟨bx,ox,oY,mZ⟩:=ZdE bG (i:=r.length) (t:=x) (by simp)
    obtain⟨by',oy,wz,wA⟩:=ZdE bG (i:=r.length+1) (t:=y) (by simp)
    have wB:(ZbR 3 x).length<=10000:=by
     have:=hJ.sz
     rw[ZaT,show szL [x,y]=szL ([x]++[y]) from rfl,ZaT,ZbQ,ZbQ]at this
     have:=ZfJ (k:=3) (t:=x)
     omega
    have wC:(ZbR 3 y).length<=10000:=by
     have:=hJ.sz
     rw[ZaT,show szL [x,y]=szL ([x]++[y]) from rfl,ZaT,ZbQ,ZbQ]at this
     have:=ZfJ (k:=3) (t:=y)
     omega
    refine⟨λ_ _ _=>Zqb mb m1 (λr=>∃a c,r=ZhO 3 a c (ZbR 3 x++ZbR 3 y)),⟨by omega,by omega⟩,⟨by omega,by omega⟩,bx,ox,oY,⟨by omega,by omega⟩,_,_,_,_,_,_,_,_,mZ,by',oy,wz,⟨by omega,by omega⟩,_,_,_,_,_,_,_,_,wA,Zqb mb m1 (λr=>∃a c,r=ZhO 3 a c (ZbR 3 x++ZbR 3 y)),rfl,(Zn1 3 x y (by omega) mb (cB x (by simp)) (cB y (by simp)) wB wC).frame2 eJ,Zeb,Zki λt m0 m3 bX h0 nA cC my ht b6 rr=>?_⟩
    obtain⟨at',ct,ht⟩:=ht
    have iY:=Mem.le_add rr t.cs
    have gA:Apart m0 _:=.inr ⟨bb,lP,λo=>by rw[cC bb o' u' hu' o];exact lC o⟩
    refine⟨.inr (.inr (by omega)),Rx.Zcu r,t.cs,Zao _,rfl,((Zst bG).mono bX).mono iY,.inr ⟨b6,0,rfl,λj v hj=>by rw[Nat.zero_add,Mem.add_same];exact hj⟩,by rw[<-Zby];exact Zfl _,by omega,by omega,λa4 c4 m4 cA cO bR M dQ dT iG dU=>⟨by trivial,N - (i+1),by omega,i+1,r++[t],a4,c4,u,g,m0,by omega,?_,?_,by have:=bR.1;rw[List.length_append];exact this,mLt iH h0,mLt nA dT,gA.tok (mLt nA iY) bR,?_,?_,?_,by omega⟩⟩
    ·rw[List.length_append];rfl
    ·rw[List.length_append];rfl
    ·rw[ZaL,Zby];exact cO.mono dU
    ·intro z hz
     rcases List.mem_append.1 hz with hz|hz
     ·exact(cB z (by simp[hz])).mono h0
     ·simp at hz;subst hz;exact my
    ·rw[ht];exact hJ.join (by omega) (by omega) _ _
   ·refine⟨decide (s1 % 12 < 9)&&decide (1 < ts.length),Zab (λh4=>⟨by trivial,by trivial,?_⟩) (λh4=>⟨by trivial,by trivial,?_⟩),Zab (λh4=>?_) (λh4=>?_)⟩
    ·refine Zaq ?_
     rw[Bool.eq_iff_iff];simp;have:=of_decide_eq_true h4;omega
    ·refine Zaq ?_
     rw[eq_comm,Bool.and_eq_false_iff];left;have:=of_decide_eq_false h4;exact decide_eq_false (by omega)
    ·skip
     obtain⟨r,x,y,rfl⟩:=Zz3 (ts:=ts) (by simp at h4;omega)
     have jG:(r++[x,y]).length=r.length+2:=by simp
     have dS:IntKind.i64.wrap (((r++[x,y]).length:Int) - 2)=(r.length:Int):=by rw[jG,ZaN (by omega) (by omega)];omega
     have eM:IntKind.i64.wrap (((r++[x,y]).length:Int) - 1)=((r.length+1:Nat):Int):=by rw[jG,ZaN (by omega) (by omega)];omega
     simp only[dS,eM,Int.toNat_natCast,Nat.sub_zero]
     obtain⟨bb,lP,lC,o',u',hu'⟩:=cV.base bG (by simp)
     obtain⟨bx,ox,oY,mZ⟩:=ZdE bG (i:=r.length) (t:=x) (by simp)
     obtain⟨by',oy,wz,wA⟩:=ZdE bG (i:=r.length+1) (t:=y) (by simp)
     have wB:(ZbR 4 x).length<=10000:=by
      have:=hJ.sz
      rw[ZaT,show szL [x,y]=szL ([x]++[y]) from rfl,ZaT,ZbQ,ZbQ]at this
      have:=ZfJ (k:=4) (t:=x)
      omega
     have wC:(ZbR 4 y).length<=10000:=by
      have:=hJ.sz
      rw[ZaT,show szL [x,y]=szL ([x]++[y]) from rfl,ZaT,ZbQ,ZbQ]at this
      have:=ZfJ (k:=4) (t:=y)
      omega
     refine⟨λ_ _ _=>Zqb mb m1 (λr=>∃a c,r=ZhO 4 a c (ZbR 4 x++ZbR 4 y)),⟨by omega,by omega⟩,⟨by omega,by omega⟩,bx,ox,oY,⟨by omega,by omega⟩,_,_,_,_,_,_,_,_,mZ,by',oy,wz,⟨by omega,by omega⟩,_,_,_,_,_,_,_,_,wA,Zqb mb m1 (λr=>∃a c,r=ZhO 4 a c (ZbR 4 x++ZbR 4 y)),rfl,(Zn1 4 x y (by omega) mb (cB x (by simp)) (cB y (by simp)) wB wC).frame2 eJ,Zeb,Zki λt m0 m3 bX h0 nA cC my ht b6 rr=>?_⟩
     obtain⟨at',ct,ht⟩:=ht
     have iY:=Mem.le_add rr t.cs
     have gA:Apart m0 _:=.inr ⟨bb,lP,λo=>by rw[cC bb o' u' hu' o];exact lC o⟩
     refine⟨.inr (.inr (by omega)),Rx.Zcu r,t.cs,Zao _,rfl,((Zst bG).mono bX).mono iY,.inr ⟨b6,0,rfl,λj v hj=>by rw[Nat.zero_add,Mem.add_same];exact hj⟩,by rw[<-Zby];exact Zfl _,by omega,by omega,λa4 c4 m4 cA cO bR M dQ dT iG dU=>⟨by trivial,N - (i+1),by omega,i+1,r++[t],a4,c4,u,g,m0,by omega,?_,?_,by have:=bR.1;rw[List.length_append];exact this,mLt iH h0,mLt nA dT,gA.tok (mLt nA iY) bR,?_,?_,?_,by omega⟩⟩
     ·rw[List.length_append];rfl
     ·rw[List.length_append];rfl
     ·rw[ZaL,Zby];exact cO.mono dU
     ·intro z hz
      rcases List.mem_append.1 hz with hz|hz
      ·exact(cB z (by simp[hz])).mono h0
      ·simp at hz;subst hz;exact my
     ·rw[ht];exact hJ.join (by omega) (by omega) _ _
    ·refine⟨decide (s1 % 12=9)&&(decide (0 < ts.length)&&decide (g < 9)),Zab (λh5=>Zab (λh6=>⟨by trivial,by trivial,?_⟩) (λh6=>⟨by trivial,by trivial,?_⟩)) (λh5=>⟨by trivial,by trivial,?_⟩),Zab (λh5=>?_) (λh5=>?_)⟩
     ·refine Zaq ?_
      have e1:=of_decide_eq_true h6
      have e2:s1 % 12=9:=by have:=h5;simp at this;omega
      rw[decide_eq_true e2,decide_eq_true (show 0 < ts.length by omega),Bool.true_and,Bool.true_and,Bool.eq_iff_iff];simp;omega
     ·refine Zaq ?_
      have e1:=of_decide_eq_false h6
      rw[decide_eq_false (show ¬0 < ts.length by omega)];simp
     ·refine Zaq ?_
      have e2:¬s1 % 12=9:=by have:=h5;simp at this;omega
      rw[decide_eq_false e2];rfl
     ·
      have Aa:g < 9:=by simp at h5;omega
      skip
      obtain⟨r,x,rfl⟩:=Zz4 (ts:=ts) (by simp at h5;omega)
      have jG:(r++[x]).length=r.length+1:=by simp
      have eM:IntKind.i64.wrap (((r++[x]).length:Int) - 1)=(r.length:Int):=by rw[jG,ZaN (by omega) (by omega)];omega
      obtain⟨bb,lP,lC,o',u',hu'⟩:=cV.base bG (by simp)
      subst lP
      obtain⟨bx,ox,oY,mZ⟩:=ZdE bG (i:=r.length) (t:=x) (by simp)
      cases oY
      have Ab:IntKind.i64.wrap ((g:Int)+1)=((g+1:Nat):Int):=by rw[ZaN (by omega) (by omega)];rfl
      simp only[eM,Ab,Int.toNat_natCast]
      refine⟨_,_,rfl,⟨by omega,by omega⟩,_,_,_,_,_,_,_,_,mZ,ZaJ ((Zwj x mb (cB x (by simp))).frame2 eJ) (Zeb (mb:=mb) (M0:=m1)) (Zki λt m0 m3 bX h0 nA cC my ht=>?_)⟩
      obtain⟨at',ct,ht⟩:=ht
      have gA:m0.free bb:=λo=>by rw[cC bb o' u' hu' o];exact lC o
      refine⟨bb,0,rfl,⟨by omega,by omega⟩,rfl,by omega,by trivial,N - (i+1),by omega,i+1,r++[t],_,_,u,g+1,m0,by omega,?_,?_,by rw[List.length_append];rw[jG]at dB;exact dB,mLt iH h0,Mem.le_upd nA gA _ _,.inr ⟨bb,rfl,gA⟩,Zsu (bG.mono bX),?_,?_,by omega⟩
      ·rw[jG,List.length_append];rfl
      ·rw[jG,List.length_append];rfl
      ·intro z hz
       rcases List.mem_append.1 hz with hz|hz
       ·exact(cB z (by simp[hz])).mono h0
       ·simp at hz;subst hz;exact my
      ·rw[ht];exact hJ.group Aa _ _
     ·by_cases h0:0 < ts.length
      ·skip
       obtain⟨r,x,rfl⟩:=Zz4 (ts:=ts) (by exact h0)
       have jG:(r++[x]).length=r.length+1:=by simp
       have eM:IntKind.i64.wrap (((r++[x]).length:Int) - 1)=(r.length:Int):=by rw[jG,ZaN (by omega) (by omega)];omega
       obtain⟨bb,lP,lC,o',u',hu'⟩:=cV.base bG (by simp)
       subst lP
       obtain⟨bx,ox,oY,mZ⟩:=ZdE bG (i:=r.length) (t:=x) (by simp)
       cases oY
       have Ac:IntKind.i64.wrap (Int.tmod (intOf (Value.int .u8 (s2:Nat))) 3)=((s2 % 3:Nat):Int):=by
        rw[show Int.tmod (intOf (Value.int .u8 (s2:Nat))) 3=((s2 % 3:Nat):Int) from rfl,ZaN (by omega) (by omega)]
       have Ad:IntKind.i64.wrap (Int.tmod (intOf (Value.int .u8 (s3:Nat))) 4)=((s3 % 4:Nat):Int):=by
        rw[show Int.tmod (intOf (Value.int .u8 (s3:Nat))) 4=((s3 % 4:Nat):Int) from rfl,ZaN (by omega) (by omega)]
       simp only[eM,Ac,Ad,Int.toNat_natCast]
       have Ae:s2 % 3 < 3:=by omega
       have dU:s3 % 4 < 4:=by omega
       generalize s2 % 3=L at *
       generalize s3 % 4=Mo at *
       refine⟨decide (9 < s1 % 12)&&!(x.k == 1),Zab (λh6=>Zab (λh7=>⟨_,_,rfl,⟨by omega,by omega⟩,.int .u8 x.k,mZ 0 _ rfl,Zaa rfl ⟨by trivial,by trivial,?_⟩⟩) (λh7=>absurd h7 (by simp))) (λh6=>⟨by trivial,by trivial,?_⟩),Zab (λh6=>Zaa rfl ⟨by omega,Zaa rfl ⟨by omega,?_⟩⟩) (λh6=>⟨by trivial,N - (i+1),by omega,i+1,r++[x],_,_,u,g,mb,by omega,rfl,rfl,dB,iH,eJ,cV,bG,cB,hJ.skip,by omega⟩)⟩
       ·refine Zaq ?_
        have:=of_decide_eq_true h6
        rw[decide_eq_true (show 9 < s1 % 12 by omega),Bool.true_and];rfl
       ·refine Zaq ?_
        have:=of_decide_eq_false h6
        rw[decide_eq_false (show ¬9 < s1 % 12 by omega)];rfl
       ·have fP:x.k≠1:=by
         rw[Bool.and_eq_true]at h6
         simpa using h6.2
        obtain⟨tab1,tab2⟩:=Zyn L Ae Mo dU
        refine⟨decide (Mo < L\/Mo=0\/(L=1/\Mo=1)),Zab (λg1=>⟨by trivial,by trivial,Zaq ?_⟩) (λg1=>Zab (λg2=>⟨by trivial,by trivial,Zaq ?_⟩) (λg2=>Zab (λg3=>⟨by trivial,by trivial,Zaq ?_⟩) (λg3=>⟨by trivial,by trivial,Zaq ?_⟩))),Zab (λg4=>?_) (λg4=>?_)⟩
        ·have:=of_decide_eq_true g1
         exact(decide_eq_true (by omega)).symm
        ·have:Mo=0:=by simp at g2;omega
         exact(decide_eq_true (by omega)).symm
        ·have e1:=of_decide_eq_false g1
         have e2:¬Mo=0:=by simp at g2;omega
         have e3:L=1:=by simp at g3;omega
         rw[Bool.eq_iff_iff];simp;omega
        ·have e1:=of_decide_eq_false g1
         have e2:¬Mo=0:=by simp at g2;omega
         have e3:¬L=1:=by simp at g3;omega
         exact(decide_eq_false (by omega)).symm
        ·
         have hA:(if(1:Int) > (if(-1:Int) > (L:Int)then(-1:Int)else(L:Int))then(1:Int)else(if(-1:Int) > (L:Int)then(-1:Int)else(L:Int)))=((max 1 L:Nat):Int):=by
          split <;> split <;> omega
         obtain⟨tb,tp⟩:=tab1 (of_decide_eq_true g4)
         have tn:u*max 1 L<=48:=by have:=Nat.mul_le_mul hJ.u16 (show max 1 L<=3 by omega);omega
         have wD:IntKind.i64.wrap ((u:Int)*((max 1 L:Nat):Int))=((u*max 1 L:Nat):Int):=by rw[<-Int.natCast_mul];exact ZaN (by omega) (by omega)
         simp only[hA,wD]
         refine Zab (λg5=>?_) (λg5=>⟨by trivial,N - (i+1),by omega,i+1,r++[x],_,_,u,g,mb,by omega,rfl,rfl,dB,iH,eJ,cV,bG,cB,hJ.skip,by omega⟩)
         have ru:u*max 1 L<=16:=by have:=of_decide_eq_true g5;omega
         refine⟨_,_,rfl,⟨by omega,by omega⟩,_,_,_,_,_,_,_,_,mZ,ZaJ ((Zym x (L:Nat) (-1:Int) ⟨by omega,by omega⟩ ⟨by omega,by omega⟩ mb (cB x (by simp))).frame2 eJ) (Zeb (mb:=mb) (M0:=m1)) (Zki λt m0 m3 bX h0 nA cC my ht=>?_)⟩
         obtain⟨at',ct,ht⟩:=ht
         have gA:m0.free bb:=λo=>by rw[cC bb o' u' hu' o];exact lC o
         refine⟨bb,0,rfl,⟨by omega,by omega⟩,rfl,by omega,by trivial,N - (i+1),by omega,i+1,r++[t],_,_,u*max 1 L,g,m0,by omega,?_,?_,by rw[List.length_append];rw[jG]at dB;exact dB,mLt iH h0,Mem.le_upd nA gA _ _,.inr ⟨bb,rfl,gA⟩,Zsu (bG.mono bX),?_,?_,by omega⟩
         ·rw[jG,List.length_append];rfl
         ·rw[jG,List.length_append];rfl
         ·intro z hz
          rcases List.mem_append.1 hz with hz|hz
          ·exact(cB z (by simp[hz])).mono h0
          ·simp at hz;subst hz;exact my
         ·rw[ht];exact hJ.rep fP tb tp (by omega) ru _ _
        ·
         have hA:(if(1:Int) > (if((Mo:Int)) > (L:Int)then((Mo:Int))else(L:Int))then(1:Int)else(if((Mo:Int)) > (L:Int)then((Mo:Int))else(L:Int)))=((max 1 (max L Mo):Nat):Int):=by
          split <;> split <;> omega
         obtain⟨tb,tp⟩:=tab2 (of_decide_eq_false g4)
         have tn:u*max 1 (max L Mo)<=48:=by have:=Nat.mul_le_mul hJ.u16 (show max 1 (max L Mo)<=3 by omega);omega
         have wD:IntKind.i64.wrap ((u:Int)*((max 1 (max L Mo):Nat):Int))=((u*max 1 (max L Mo):Nat):Int):=by rw[<-Int.natCast_mul];exact ZaN (by omega) (by omega)
         simp only[hA,wD]
         refine Zab (λg5=>?_) (λg5=>⟨by trivial,N - (i+1),by omega,i+1,r++[x],_,_,u,g,mb,by omega,rfl,rfl,dB,iH,eJ,cV,bG,cB,hJ.skip,by omega⟩)
         have ru:u*max 1 (max L Mo)<=16:=by have:=of_decide_eq_true g5;omega
         refine⟨_,_,rfl,⟨by omega,by omega⟩,_,_,_,_,_,_,_,_,mZ,ZaJ ((Zym x (L:Nat) ((Mo:Int)) ⟨by omega,by omega⟩ ⟨by omega,by omega⟩ mb (cB x (by simp))).frame2 eJ) (Zeb (mb:=mb) (M0:=m1)) (Zki λt m0 m3 bX h0 nA cC my ht=>?_)⟩
         obtain⟨at',ct,ht⟩:=ht
         have gA:m0.free bb:=λo=>by rw[cC bb o' u' hu' o];exact lC o
         refine⟨bb,0,rfl,⟨by omega,by omega⟩,rfl,by omega,by trivial,N - (i+1),by omega,i+1,r++[t],_,_,u*max 1 (max L Mo),g,m0,by omega,?_,?_,by rw[List.length_append];rw[jG]at dB;exact dB,mLt iH h0,Mem.le_upd nA gA _ _,.inr ⟨bb,rfl,gA⟩,Zsu (bG.mono bX),?_,?_,by omega⟩
         ·rw[jG,List.length_append];rfl
         ·rw[jG,List.length_append];rfl
         ·intro z hz
          rcases List.mem_append.1 hz with hz|hz
          ·exact(cB z (by simp[hz])).mono h0
          ·simp at hz;subst hz;exact my
         ·rw[ht];exact hJ.rep fP tb tp (by omega) ru _ _
      ·refine⟨false,Zab (λh6=>Zab (λh7=>absurd (of_decide_eq_true h7) (by omega)) (λh7=>⟨by trivial,by trivial,rfl⟩)) (λh6=>⟨by trivial,by trivial,rfl⟩),ZjA rfl ⟨by trivial,N - (i+1),by omega,i+1,ts,_,_,u,g,mb,by omega,rfl,rfl,dB,iH,eJ,cV,bG,cB,hJ.skip,by omega⟩⟩
 ·have z8:i=N:=by have:=of_decide_eq_false cR;omega
  have bH:=mLt iH eJ
  refine Zab (λh0=>?_) (λh0=>?_)
  ·have wE:(Zb2 ⟨#[97]⟩)=Zek 0:=by rfl
   refine ZaJ (ZpD ⟨#[97]⟩ (by decide) m1) Zbw (ZfH λt m2 bL hr ht=>Zhs (mLt bH bL) ⟨t,rfl,hr,?_⟩)
   rw[wE]at ht
   obtain⟨k1,k2,k3,k4⟩:=ZrQ 0
   rw[<-ht]at k1 k2 k3 k4
   exact F.done (l:=[]) ⟨k1,by simp,by simp[szL,Zal,k2],by simp[ZeK];omega,by simp[grL,Zal,k4]⟩
  ·obtain⟨t0,rest,rfl⟩:∃t r,ts=t::r:=by cases ts with
    | nil=>simp at h0
    | cons t r=>exact⟨t,r,rfl⟩
   have hF:=F.start hJ (by omega)
   obtain⟨bb,lP,lC,o',u',hu'⟩:=cV.base bG (by simp)
   subst lP
   obtain⟨bx,ox,oY,mZ⟩:=ZdE bG (i:=0) (t:=t0) rfl
   cases oY
   rw[List.length_cons]at eU dB
   refine⟨_,_,rfl,⟨by omega,by simp⟩,_,_,_,_,_,_,_,_,mZ,λb2=>Zaa rfl ⟨⟨by omega,by rw[List.length_cons];omega⟩,?_⟩⟩
   refine⟨λxs css tvs m' q=>∃(k:Nat)(t:T),k<=rest.length/\xs=[.int .i64 k]/\css=[t.cs]/\m1.le m'/\Rep m' t/\F t (rest.drop k)/\q=rest.length - k,⟨rest.length,0,t0,by omega,rfl,rfl,Mem.le_refl _,(cB t0 (by simp)).mono eJ,hF,by omega⟩,?_⟩
   rintro z cs m2 q2 _ ⟨k,t,hk,hz,cQ,bL,my,uH,kJ⟩
   obtain rfl:z=k:=by simpa using hz
   obtain rfl:cs=t.cs:=by simpa using cQ
   have Af:((t0::rest).length - Int.toNat 1)=rest.length:=by simp
   simp only[Af]
   refine Zab (λbF=>?_) (λwF=>Zaa rfl (Zhs (mLt bH bL) ⟨t,rfl,my,uH.done⟩))
   have bI:k < rest.length:=by have:=of_decide_eq_true bF;omega
   obtain⟨x,hx⟩:=Zea bI
   obtain⟨b3,o3,Ag,sN⟩:=ZdE (bG.mono bL) (i:=k+1) (t:=x) (by simpa using hx)
   cases Ag
   have fH:IntKind.i64.wrap ((k:Int)+1)=((k+1:Nat):Int):=by rw[ZaN (by omega) (by omega)];rfl
   simp only[fH,Int.toNat_natCast]
   rw[Zih hx]at uH
   have bW:=uH.sz
   rw[Zk4]at bW
   have zI:=ZfJ (k:=4) (t:=t)
   have uB:=ZfJ (k:=4) (t:=x)
   have mA:Za0 (some (⟨bb,0,none⟩:Addr)) (Int.toNat 1) c2 8=some ⟨bb,0+8,none⟩:=by
    unfold Za0
    have:Nat.beq c2 1=false:=by
     cases hb:Nat.beq c2 1 with
     | false=>rfl
     | true=>have:=Nat.eq_of_beq_eq_true hb;omega
    show(bif Nat.beq c2 1 then _ else some (Addr.add _ (1*8)))=_
    rw[this,ZbT];rfl
   refine⟨_,_,mA,⟨by omega,by omega⟩,_,_,_,_,_,_,_,_,by rw[show 0+8+k*8=0+(k+1)*8 by omega];exact sN,λb4=>Zaa rfl (ZaJ (Zn1 4 t x (.inr rfl) m2 my ((cB x (by simp[List.mem_of_getElem? hx])).mono (mLt eJ bL)) (by omega) (by omega)) Zbw (ZfH λt' m3 bX hr' ht'=>⟨by trivial,by trivial,rest.length - (k+1),by omega,k+1,t',by omega,rfl,rfl,mLt bL bX,hr',?_,by omega⟩))⟩
   obtain⟨a3,c3,ht'⟩:=ht'
   rw[ht'];exact uH.step _ _
end Go.Proofs.YtgclajkldphoaaaGreat