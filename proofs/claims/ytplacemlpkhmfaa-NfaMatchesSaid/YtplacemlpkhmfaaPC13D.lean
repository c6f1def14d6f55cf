/- Part of the proof: conditions and contracts of functions of this program. No condition of its own. -/
import Derived.Test.YtplacemlpkhmfaaPC13P
import Derived.Test.YtplacemlpkhmfaaPVC
import Derived.Test.YtplacemlpkhmfaaPC13C
import Derived.Test.YtplacemlpkhmfaaPC13R
set_option linter.unusedVariables false
set_option linter.unusedSimpArgs false
set_option linter.unusedSectionVars false
namespace Go.Proofs.Ytplacemlpkhmfaa
open Go Go.Eng Go.Rx Go.Proofs Go.RowKit
set_option maxRecDepth 100000
abbrev txV(a:Option Addr)(s:List Nat)(c:Nat)(back:Bool):Value:=.agg #[.slice a s.length c,.bool back]
theorem Zvv(t:T)(a:Option Addr)(s:List Nat)(c:Nat)(back:Bool)(f:Nat)(m:Mem)(hr:Rep m t)(hb:Byt m a s)(hs:s.length≤512):CX Try.prog 149 #[txV a s c back,t.v,plV f] m [] (Ret (plV (Zsr t back f s 0 0))):=by
 apply ZeX
 unfold ZcN
 intro b m1 bJ _ b1 m2 bT _ b2 m3 cH gu b3 b4
 refine⟨fun xs css _ m' q=>∃k o:Nat,k≤s.length∧xs=[.int .i64 k]∧css=[plL o]∧Zsr t back f (s.drop k) k o=Zsr t back f s 0 0∧m3.le m'∧q=s.length - k,⟨_,0,0,by omega,rfl,rfl,rfl,Mem.le_refl _,rfl⟩,?_⟩
 rintro n cs m4 q cQ ⟨k,o,hk,hn,cK,gF,_,hq⟩
 obtain rfl:n=k:=by simpa using hn
 obtain rfl:cs=plL o:=by simpa using cK
 have eJ:m.le m4:=Mem.le_trans bJ (Mem.le_trans bT (Mem.le_trans cH cQ))
 refine Zab (fun bS=>?_) (fun cX=>?_)
 ·have bR:k < s.length:=by have:=of_decide_eq_true bS;omega
  obtain⟨ch,kj⟩:=ZiW bR
  have hw:IntKind.i64.wrap ((k:Int)+1)=((k+1:Nat):Int):=by rw[Zat (by omega) (by omega)];rfl
  have dD:Zsr t back f (s.drop (k+1)) (k+1) (ZoU t back f k ch o)=Zsr t back f s 0 0:=by rw[Zcd kj]at gF;exact gF
  obtain⟨⟨b5,o5,ha,hv⟩,iW⟩:=(hb.mono eJ).get kj
  simp only[hw,Int.toNat_natCast,Nat.mul_one]
  refine⟨b5,o5,ha,⟨by omega,by omega⟩,_,hv,?_⟩
  cases back with
  | true=>
   refine Zs0 (x:=true) rfl ?_
   refine⟨f.testBit (k+1)&&t.hasB ch,Zak (ZpD f (k+1) (by omega) b2 m4 (gu.mono cQ)) fun m5 cW=>Zab (fun h=>Zak (Zsi t ch iW m5 (hr.mono (Mem.le_trans eJ cW))) fun m6 eV=>⟨by trivial,by rw[h,Bool.true_and]⟩) (fun h=>⟨by trivial,by rw[h,Bool.false_and]⟩),Zab (fun h=>?_) (fun h=>?_)⟩
   ·refine⟨fun i _ _=>if i=2 then Ret (plV (2 ^ k))else Ret (plV (o|||2 ^ k)),Ret (plV (2 ^ k)),rfl,ZwT k (by omega) m4,Zbi,ZnW fun m5 cW=>⟨Ret (plV (o|||2 ^ k)),rfl,ZwU o (2 ^ k) m5,Zbi,ZnW fun m6 eV M dR dG gW=>⟨by trivial,s.length - (k+1),by omega,k+1,o|||2 ^ k,by omega,rfl,rfl,?_,Mem.le_trans cQ dR,rfl⟩⟩⟩
    rw[←dD];unfold ZoU;rw[if_pos (by simpa using h)];rfl
   ·refine⟨by trivial,s.length - (k+1),by omega,k+1,o,by omega,rfl,rfl,?_,cQ,rfl⟩
    rw[←dD];unfold ZoU;rw[if_neg (by simpa using h)]
  | false=>
   refine Zs0 (x:=false) rfl ?_
   refine⟨f.testBit k&&t.hasB ch,Zak (ZpD f k (by omega) b2 m4 (gu.mono cQ)) fun m5 cW=>Zab (fun h=>Zak (Zsi t ch iW m5 (hr.mono (Mem.le_trans eJ cW))) fun m6 eV=>⟨by trivial,by rw[h,Bool.true_and]⟩) (fun h=>⟨by trivial,by rw[h,Bool.false_and]⟩),Zab (fun h=>?_) (fun h=>?_)⟩
   ·refine⟨fun i _ _=>if i=2 then Ret (plV (2 ^ (k+1)))else Ret (plV (o|||2 ^ (k+1))),Ret (plV (2 ^ (k+1))),rfl,ZwT (k+1) (by omega) m4,Zbi,ZnW fun m5 cW=>⟨Ret (plV (o|||2 ^ (k+1))),rfl,ZwU o (2 ^ (k+1)) m5,Zbi,ZnW fun m6 eV M dR dG gW=>⟨by trivial,s.length - (k+1),by omega,k+1,o|||2 ^ (k+1),by omega,rfl,rfl,?_,Mem.le_trans cQ dR,rfl⟩⟩⟩
    rw[←dD];unfold ZoU;rw[if_pos (by simpa using h)];rfl
   ·refine⟨by trivial,s.length - (k+1),by omega,k+1,o,by omega,rfl,rfl,?_,cQ,rfl⟩
    rw[←dD];unfold ZoU;rw[if_neg (by simpa using h)]
 ·have:k=s.length:=by have:=of_decide_eq_false cX;omega
  subst this
  refine Zaa rfl (Zac eJ ?_)
  rw[List.drop_length]at gF
  rw[←gF];rfl
theorem ZwY(t:T)(f:Nat)(m:Mem):CX Try.prog 147 #[t.v,plV f] m [] (Ret (plV 0)):=by
 apply ZdK
 unfold Zcg
 intro b m1 bJ _ b1 m2 bT _ b2
 exact Zac (Mem.le_trans bJ bT) rfl
theorem Zvw(t:T)(f:Nat)(m:Mem):CX Try.prog 148 #[t.v,plV f] m [] (Ret (plV f)):=by
 apply ZdL
 unfold Zch
 intro b m1 bJ _ b1 m2 bT _ b2
 exact Zac (Mem.le_trans bJ bT) rfl
def IH(a:Option Addr)(s:List Nat)(c:Nat)(back:Bool)(t:T):Prop:=∀x∈t.subs,∀(f:Nat)(m:Mem),f < Zcl→Rep m x→Byt m a s→CX Try.prog 89 #[txV a s c back,x.v,plV f] m [] (Ret (plV (x.lead s back f)))
section
variable (t:T) (a:Option Addr) (s:List Nat) (c:Nat) (back:Bool) (f:Nat) (m:Mem) (hr:Rep m t) (hb:Byt m a s) (hs:s.length≤512) (ih:IH a s c back t) (hf:f < Zcl)
include hr hb hs ih hf
theorem Zx0(pb po:Nat)(hp:m.reads pb po [.slice a s.length c,.bool back]):CX Try.prog 150 #[t.v,plV f,.pointer (some ⟨pb,po,none⟩)] m [] (Ret (plV (if back then ZgG s back t.subs f else Zg6 s back t.subs f))):=by
 apply ZdM
 unfold Zci
 intro b m1 bJ _ b1 b2
 obtain⟨bX,cR⟩:=Zcp hr
 refine⟨fun xs css _ m' q=>∃k o:Nat,k≤t.subs.length∧xs=[.int .i64 k]∧css=[plL o]∧o < Zcl∧(if back then ZgG s back (t.subs.take (t.subs.length - k)) o else Zg6 s back (t.subs.drop k) o)=(if back then ZgG s back t.subs f else Zg6 s back t.subs f)∧m1.le m'∧q=t.subs.length - k,⟨_,0,f,by omega,rfl,rfl,hf,by rw[Nat.sub_zero,List.take_length,List.drop_zero],Mem.le_refl _,rfl⟩,?_⟩
 rintro n cs m4 q cQ ⟨k,o,hk,hn,cK,ho,gF,_,hq⟩
 obtain rfl:n=k:=by simpa using hn
 obtain rfl:cs=plL o:=by simpa using cK
 have eJ:m.le m4:=Mem.le_trans bJ cQ
 refine Zab (fun bS=>?_) (fun cX=>?_)
 ·have bR:k < t.subs.length:=by have:=of_decide_eq_true bS;omega
  have hw:IntKind.i64.wrap ((k:Int)+1)=((k+1:Nat):Int):=by rw[Zat (by omega) (by omega)];rfl
  have eR:IntKind.i64.wrap ((t.subs.length:Int) - 1)=((t.subs.length - 1:Nat):Int):=by rw[Zat (by omega) (by omega)];omega
  have eZ:IntKind.i64.wrap (((t.subs.length - 1:Nat):Int) - k)=((t.subs.length - 1 - k:Nat):Int):=by rw[Zat (by omega) (by omega)];omega
  rcases cR with cR|⟨sb,so,iX,lI⟩
  ·rw[cR]at bR;simp at bR
  simp only[hw,eR,eZ,Int.toNat_natCast]
  refine⟨.bool back,eJ _ _ _ (hp 1 _ rfl),Zaa rfl ?_⟩
  cases back with
  | true=>
   refine Zs0 (x:=true) rfl ?_
   obtain⟨x,hx⟩:=ZiW (l:=t.subs) (k:=t.subs.length - 1 - k) (by omega)
   obtain⟨gB,il⟩:=lI.get hx
   refine⟨fun _ _ _=>Ret (plV (x.lead s true o)),_,_,hp.mono eJ,sb,so,iX,⟨by omega,by omega⟩,_,_,_,_,_,_,_,_,gB.mono eJ,Ret (plV (x.lead s true o)),rfl,ih x (List.mem_of_getElem? hx) o m4 ho (il.mono eJ) (hb.mono eJ),Zbi,ZnW fun m6 eV M dR dG=>⟨by trivial,t.subs.length - (k+1),by omega,k+1,x.lead s true o,by omega,rfl,rfl,ZfF s true hs x o ho,?_,Mem.le_trans cQ dR,rfl⟩⟩
   rw[if_pos rfl,if_pos rfl]at gF ⊢
   rw[show t.subs.length - k=t.subs.length - 1 - k+1 by omega,ZrQ hx,ZqF]at gF
   rw[show t.subs.length - (k+1)=t.subs.length - 1 - k by omega]
   exact gF
  | false=>
   refine Zs0 (x:=false) rfl ?_
   obtain⟨x,hx⟩:=ZiW bR
   obtain⟨gB,il⟩:=lI.get hx
   refine⟨fun _ _ _=>Ret (plV (x.lead s false o)),_,_,hp.mono eJ,sb,so,iX,⟨by omega,by omega⟩,_,_,_,_,_,_,_,_,gB.mono eJ,Ret (plV (x.lead s false o)),rfl,ih x (List.mem_of_getElem? hx) o m4 ho (il.mono eJ) (hb.mono eJ),Zbi,ZnW fun m6 eV M dR dG=>⟨by trivial,t.subs.length - (k+1),by omega,k+1,x.lead s false o,by omega,rfl,rfl,ZfF s false hs x o ho,?_,Mem.le_trans cQ dR,rfl⟩⟩
   rw[if_neg (by simp),if_neg (by simp)]at gF ⊢
   rw[Zcd hx,ZqE]at gF
   exact gF
 ·have:k=t.subs.length:=by have:=of_decide_eq_false cX;omega
  subst this
  refine Zaa rfl (Zac eJ ?_)
  rw[Nat.sub_self,List.drop_length]at gF
  rw[←gF];cases back <;> rfl
theorem Zx1(pb po:Nat)(hp:m.reads pb po [.slice a s.length c,.bool back]):CX Try.prog 151 #[t.v,plV f,.pointer (some ⟨pb,po,none⟩)] m [] (Ret (plV (ZqD s back t.subs f 0))):=by
 apply ZdN
 unfold Zcj
 intro b m1 bJ _ b1 m2 bT _ b2 b3
 obtain⟨bX,cR⟩:=Zcp hr
 refine⟨fun xs css _ m' q=>∃k o:Nat,k≤t.subs.length∧xs=[.int .i64 k]∧css=[plL o]∧ZqD s back (t.subs.drop k) f o=ZqD s back t.subs f 0∧m2.le m'∧q=t.subs.length - k,⟨_,0,0,by omega,rfl,rfl,rfl,Mem.le_refl _,rfl⟩,?_⟩
 rintro n cs m4 q cQ ⟨k,o,hk,hn,cK,gF,_,hq⟩
 obtain rfl:n=k:=by simpa using hn
 obtain rfl:cs=plL o:=by simpa using cK
 have eJ:m.le m4:=Mem.le_trans bJ (Mem.le_trans bT cQ)
 refine Zab (fun bS=>?_) (fun cX=>?_)
 ·have bR:k < t.subs.length:=by have:=of_decide_eq_true bS;omega
  have hw:IntKind.i64.wrap ((k:Int)+1)=((k+1:Nat):Int):=by rw[Zat (by omega) (by omega)];rfl
  rcases cR with cR|⟨sb,so,iX,lI⟩
  ·rw[cR]at bR;simp at bR
  simp only[hw,Int.toNat_natCast]
  obtain⟨x,hx⟩:=ZiW bR
  obtain⟨gB,il⟩:=lI.get hx
  refine⟨sb,so,iX,⟨by omega,by omega⟩,_,_,_,_,_,_,_,_,gB.mono eJ,fun b5=>Zaa rfl ⟨fun i _ _=>if i=4 then Ret (plV (x.lead s back f))else Ret (plV (o|||x.lead s back f)),_,_,hp.mono eJ,Ret (plV (x.lead s back f)),rfl,ih x (List.mem_of_getElem? hx) f m4 hf (il.mono eJ) (hb.mono eJ),Zbi,ZnW fun m5 cW=>⟨Ret (plV (o|||x.lead s back f)),rfl,ZwU o _ m5,Zbi,ZnW fun m6 eV M dR dG gW=>⟨by trivial,t.subs.length - (k+1),by omega,k+1,o|||x.lead s back f,by omega,rfl,rfl,?_,Mem.le_trans cQ dR,rfl⟩⟩⟩⟩
  rw[Zcd hx,ZoW]at gF
  exact gF
 ·have:k=t.subs.length:=by have:=of_decide_eq_false cX;omega
  subst this
  refine Zaa rfl (Zac eJ ?_)
  rw[List.drop_length,ZrP]at gF
  rw[gF];rfl
theorem Zx2(x:T)(hx:t.subs=[x])(pb po:Nat)(hp:m.reads pb po [.slice a s.length c,.bool back]):CX Try.prog 154 #[t.v,plV f,.pointer (some ⟨pb,po,none⟩)] m [] (Ret (plV (Zgb s back t.subs f))):=by
 apply ZdO
 unfold Zck
 intro b m1 bJ _ b1 m2 bT _ b2
 obtain⟨bX,cR⟩:=Zcp hr
 have eJ:m.le m2:=Mem.le_trans bJ bT
 rcases cR with cR|⟨sb,so,iX,lI⟩
 ·rw[cR]at hx;cases hx
 have kK:t.subs[0]?=some x:=by rw[hx];rfl
 obtain⟨gB,il⟩:=lI.get kK
 refine⟨fun _ _ _=>Ret (plV (x.lead s back f)),_,_,hp.mono eJ,sb,so,iX,⟨by omega,by rw[hx];simp⟩,_,_,_,_,_,_,_,_,gB.mono eJ,Ret (plV (x.lead s back f)),rfl,ih x (List.mem_of_getElem? kK) f m2 hf (il.mono eJ) (hb.mono eJ),Zbi,ZnW fun m6 eV M dR dG=>Zac (Mem.le_trans eJ dR) ?_⟩
 rw[hx];unfold Zgb;rfl
theorem Ztv(x:T)(hx:t.subs=[x])(kE:0≤t.mn):CX Try.prog 153 #[txV a s c back,t.v,plV f] m [] (Ret (plV (Zwy (Zgb s back t.subs) t.mn t.mx f))):=by
 apply Zeu
 unfold Zct
 intro b m1 bJ _ b1 m2 bT _ b2 b3
 obtain⟨bX,cR⟩:=Zcp hr
 rcases cR with cR|⟨sb,so,iX,lI⟩
 ·rw[cR]at hx;cases hx
 have kK:t.subs[0]?=some x:=by rw[hx];rfl
 obtain⟨gB,il⟩:=lI.get kK
 have hg:Zgb s back t.subs=x.lead s back:=by rw[hx];rfl
 have mo:t.subs.length=1:=by rw[hx];rfl
 have cO:=Zu8 hr
 obtain⟨N,hN⟩:∃N:Nat,t.mn=N:=⟨t.mn.toNat,by omega⟩
 have oD:=cO.mn
 rw[hg,hN]
 unfold Zwy
 rw[Int.toNat_natCast]
 refine⟨fun xs css _ m' q=>∃k o:Nat,k≤N∧xs=[.int .i64 k]∧css=[plL o]∧o < Zcl∧Zv1 (x.lead s back) (N - k) o=Zv1 (x.lead s back) N f∧m2.le m'∧q=N - k,⟨_,0,f,by omega,rfl,rfl,hf,rfl,Mem.le_refl _,rfl⟩,?_⟩
 rintro n cs m4 q cQ ⟨k,o,hk,hn,cK,ho,gF,_,hq⟩
 obtain rfl:n=k:=by simpa using hn
 obtain rfl:cs=plL o:=by simpa using cK
 have eJ:m.le m4:=Mem.le_trans bJ (Mem.le_trans bT cQ)
 refine Zab (fun bS=>?_) (fun cX=>?_)
 ·have bR:k < N:=by have:=of_decide_eq_true bS;omega
  have hw:IntKind.i64.wrap ((k:Int)+1)=((k+1:Nat):Int):=by rw[Zat (by omega) (by omega)];rfl
  simp only[hw]
  refine⟨fun _ _ _=>Ret (plV (x.lead s back o)),sb,so,iX,⟨by omega,by rw[hx];simp⟩,_,_,_,_,_,_,_,_,gB.mono eJ,Ret (plV (x.lead s back o)),rfl,ih x (List.mem_of_getElem? kK) o m4 ho (il.mono eJ) (hb.mono eJ),Zbi,ZnW fun m6 eV M dR dG=>⟨by trivial,N - (k+1),by omega,k+1,x.lead s back o,by omega,rfl,rfl,ZfF s back hs x o ho,?_,Mem.le_trans cQ dR,rfl⟩⟩
  rw[show N - k=N - (k+1)+1 by omega]at gF
  exact gF
 ·have:k=N:=by have:=of_decide_eq_false cX;omega
  subst this
  replace gF:o=Zv1 (x.lead s back) k f:=by rw[Nat.sub_self]at gF;exact gF
  rw[←gF]
  intro b4 b5
  refine Zaa rfl (Zaa rfl ?_)
  refine⟨fun xs css _ m' q=>∃(i:Int)(c1:List Value)(out last:Nat),xs=[.int .i64 i]∧css=[c1,plL out,plL last]∧out < Zcl∧last < Zcl∧Zcl - out < q∧Zp9 (x.lead s back) t.mx q i out last=Zp9 (x.lead s back) t.mx (Zcl+1) k o o∧m4.le m',⟨Zcl+1,k,_,o,o,rfl,rfl,ho,ho,by omega,rfl,Mem.le_refl _⟩,?_⟩
  rintro i cs1 cs2 cs3 m5 q cW ⟨i',c1,out,last,hi,cK,eF,cD,hq,cM,_⟩
  obtain rfl:i=i':=by simpa using hi
  obtain⟨rfl,rfl,rfl⟩:cs1=c1∧cs2=plL out∧cs3=plL last:=by simpa using cK
  have mI:m.le m5:=Mem.le_trans eJ cW
  obtain⟨q,rfl⟩:∃q',q=q'+1:=⟨q - 1,by omega⟩
  rw[ZmH (n:=q)]at cM
  refine Zab (fun dI=>?_) (fun he=>?_)
  ·have rP:¬i=t.mx:=by simpa using dI
   rw[if_neg rP]at cM
   refine⟨fun _ _ _=>Ret (plV (x.lead s back last)),sb,so,iX,⟨by omega,by rw[hx];simp⟩,_,_,_,_,_,_,_,_,gB.mono mI,Ret (plV (x.lead s back last)),rfl,ih x (List.mem_of_getElem? kK) last m5 cD (il.mono mI) (hb.mono mI),Zbi,ZnW fun m6 eV M dR dG=>Zap (ZwU out (x.lead s back last) M) Zbi (ZnW fun m7 jb b7=>?_)⟩
   have fN:=ZfF s back hs x last cD
   have nM:=Nat.or_lt_two_pow eF fN
   refine⟨(out|||x.lead s back last) == out,ZyR nM eF,Zab (fun h=>?_) (fun h=>?_)⟩
   ·rw[if_pos (by simpa using h)]at cM
    refine Zaa rfl (Zac (Mem.le_trans mI (Mem.le_trans dR jb)) ?_)
    rw[←cM];rfl
   ·have iJ:¬(out|||x.lead s back last)=out:=by simpa using h
    rw[if_neg iJ]at cM
    have cS:out≤out|||x.lead s back last:=Nat.left_le_or
    refine⟨by trivial,q,by omega,_,_,out|||x.lead s back last,x.lead s back last,rfl,rfl,nM,fN,by omega,cM,Mem.le_trans cW (Mem.le_trans dR jb)⟩
  ·have he':i=t.mx:=by simpa using he
   rw[if_pos he']at cM
   refine Zaa rfl ⟨m,Mem.le_refl _,mI,?_⟩
   rw[←cM];rfl
end
def KR(a:Option Addr)(s:List Nat)(c:Nat)(back:Bool):Value→Mem→List (List Value)→Prop:=fun v m' _=>∃b,v=.agg #[.func (.func 147) #[] #[],.func (.func 148) #[] #[],.func (.func 149) #[txV a s c back] #[],.func (.func 150) #[] #[.pointer (some ⟨b,0,none⟩)],.func (.func 151) #[] #[.pointer (some ⟨b,0,none⟩)],.func (.func 153) #[txV a s c back] #[],.func (.func 154) #[] #[.pointer (some ⟨b,0,none⟩)]]∧m'.reads b 0 [.slice a s.length c,.bool back]
theorem Zgm(a:Option Addr)(s:List Nat)(c:Nat)(back:Bool)(m:Mem):CX Try.prog 119 #[txV a s c back] m [] (KR a s c back):=by
 apply ZeW
 unfold ZcM
 intro b m1 bJ hb b1
 exact⟨m1,bJ,Mem.le_refl _,b,rfl,hb⟩
theorem Zi0{a s c back}:∀(v:Value)(m':Mem) (css:List (List Value)),KR a s c back v m' css→Shape.fits (.agg [.fn,.fn,.fn,.fn,.fn,.fn,.fn]) v=true:=fun v _ _ ⟨b,e,_⟩=>by rw[e];rfl
theorem Zuy{t:T}(h:(t.subs.length == 1)=true):∃x,t.subs=[x]:=List.length_eq_one_iff.1 (by simpa using h)
theorem Zvx(t:T)(a:Option Addr)(s:List Nat)(c:Nat)(back:Bool)(f:Nat)(m:Mem)(hr:Rep m t)(hb:Byt m a s)(hs:s.length≤512)(hf:f < Zcl)(hk:t.k=0):CX Try.prog 89 #[txV a s c back,t.v,plV f] m [] (Ret (plV (0))):=by
 have key:ZbF a s.length c back t.s0 t.s1 t.s2 t.s3 t.mn t.mx t.a t.subs.length t.c (wdN f 0:Nat) (wdN f 1:Nat) (wdN f 2:Nat) (wdN f 3:Nat) (wdN f 4:Nat) (wdN f 5:Nat) (wdN f 6:Nat) (wdN f 7:Nat) (wdN f 8:Nat) m (Ret (plV (0))):=by
  unfold ZbF
  intro b1 m1 bJ _ b2 m2 bT _ b3 m3 cH _ b4
  refine⟨fun i _ _=>if i=1 then KR a s c back else Ret (plV (0)),KR a s c back,rfl,Zgm a s c back m3,Zi0,?_⟩
  rintro g0 i0 c0 g1 i1 c1 g2 i2 c2 g3 i3 c3 g4 i4 c4 g5 i5 c5 g6 i6 c6 m5 cW ⟨b,hv,cU⟩
  simp only[Value.agg.injEq,Array.mk.injEq,List.cons.injEq,Value.func.injEq,Fn.func.injEq,and_true]at hv
  obtain⟨⟨rfl,rfl,rfl⟩,⟨rfl,rfl,rfl⟩,⟨rfl,rfl,rfl⟩,⟨rfl,rfl,rfl⟩,⟨rfl,rfl,rfl⟩,⟨rfl,rfl,rfl⟩,⟨rfl,rfl,rfl⟩⟩:=hv
  have hM:m.le m5:=Mem.le_trans bJ (Mem.le_trans bT (Mem.le_trans cH cW))
  have cL:=ZwY t f m5
  rw[T.v,hk]at cL
  exact⟨⟨by omega,by omega⟩,Ret (plV (0)),rfl,cL,Zbi,ZnW fun m6 eV M dR dG gW=>Zac (Mem.le_trans hM dG) rfl⟩
 have h:=Zei a s.length c back t.s0 t.s1 t.s2 t.s3 t.mn t.mx t.a t.subs.length t.c (wdN f 0:Nat) (wdN f 1:Nat) (wdN f 2:Nat) (wdN f 3:Nat) (wdN f 4:Nat) (wdN f 5:Nat) (wdN f 6:Nat) (wdN f 7:Nat) (wdN f 8:Nat) m _ key
 rw[T.v,hk]
 exact h
theorem Zvy(t:T)(a:Option Addr)(s:List Nat)(c:Nat)(back:Bool)(f:Nat)(m:Mem)(hr:Rep m t)(hb:Byt m a s)(hs:s.length≤512)(hf:f < Zcl)(hk:t.k=1):CX Try.prog 89 #[txV a s c back,t.v,plV f] m [] (Ret (plV (f))):=by
 have key:ZbG a s.length c back t.s0 t.s1 t.s2 t.s3 t.mn t.mx t.a t.subs.length t.c (wdN f 0:Nat) (wdN f 1:Nat) (wdN f 2:Nat) (wdN f 3:Nat) (wdN f 4:Nat) (wdN f 5:Nat) (wdN f 6:Nat) (wdN f 7:Nat) (wdN f 8:Nat) m (Ret (plV (f))):=by
  unfold ZbG
  intro b1 m1 bJ _ b2 m2 bT _ b3 m3 cH _ b4
  refine⟨fun i _ _=>if i=1 then KR a s c back else Ret (plV (f)),KR a s c back,rfl,Zgm a s c back m3,Zi0,?_⟩
  rintro g0 i0 c0 g1 i1 c1 g2 i2 c2 g3 i3 c3 g4 i4 c4 g5 i5 c5 g6 i6 c6 m5 cW ⟨b,hv,cU⟩
  simp only[Value.agg.injEq,Array.mk.injEq,List.cons.injEq,Value.func.injEq,Fn.func.injEq,and_true]at hv
  obtain⟨⟨rfl,rfl,rfl⟩,⟨rfl,rfl,rfl⟩,⟨rfl,rfl,rfl⟩,⟨rfl,rfl,rfl⟩,⟨rfl,rfl,rfl⟩,⟨rfl,rfl,rfl⟩,⟨rfl,rfl,rfl⟩⟩:=hv
  have hM:m.le m5:=Mem.le_trans bJ (Mem.le_trans bT (Mem.le_trans cH cW))
  have cL:=Zvw t f m5
  rw[T.v,hk]at cL
  exact⟨⟨by omega,by omega⟩,Ret (plV (f)),rfl,cL,Zbi,ZnW fun m6 eV M dR dG gW=>Zac (Mem.le_trans hM dG) rfl⟩
 have h:=Zej a s.length c back t.s0 t.s1 t.s2 t.s3 t.mn t.mx t.a t.subs.length t.c (wdN f 0:Nat) (wdN f 1:Nat) (wdN f 2:Nat) (wdN f 3:Nat) (wdN f 4:Nat) (wdN f 5:Nat) (wdN f 6:Nat) (wdN f 7:Nat) (wdN f 8:Nat) m _ key
 rw[T.v,hk]
 exact h
theorem Zvz(t:T)(a:Option Addr)(s:List Nat)(c:Nat)(back:Bool)(f:Nat)(m:Mem)(hr:Rep m t)(hb:Byt m a s)(hs:s.length≤512)(hf:f < Zcl)(hk:t.k=2):CX Try.prog 89 #[txV a s c back,t.v,plV f] m [] (Ret (plV (Zsr t back f s 0 0))):=by
 have key:ZbH a s.length c back t.s0 t.s1 t.s2 t.s3 t.mn t.mx t.a t.subs.length t.c (wdN f 0:Nat) (wdN f 1:Nat) (wdN f 2:Nat) (wdN f 3:Nat) (wdN f 4:Nat) (wdN f 5:Nat) (wdN f 6:Nat) (wdN f 7:Nat) (wdN f 8:Nat) m (Ret (plV (Zsr t back f s 0 0))):=by
  unfold ZbH
  intro b1 m1 bJ _ b2 m2 bT _ b3 m3 cH _ b4
  refine⟨fun i _ _=>if i=1 then KR a s c back else Ret (plV (Zsr t back f s 0 0)),KR a s c back,rfl,Zgm a s c back m3,Zi0,?_⟩
  rintro g0 i0 c0 g1 i1 c1 g2 i2 c2 g3 i3 c3 g4 i4 c4 g5 i5 c5 g6 i6 c6 m5 cW ⟨b,hv,cU⟩
  simp only[Value.agg.injEq,Array.mk.injEq,List.cons.injEq,Value.func.injEq,Fn.func.injEq,and_true]at hv
  obtain⟨⟨rfl,rfl,rfl⟩,⟨rfl,rfl,rfl⟩,⟨rfl,rfl,rfl⟩,⟨rfl,rfl,rfl⟩,⟨rfl,rfl,rfl⟩,⟨rfl,rfl,rfl⟩,⟨rfl,rfl,rfl⟩⟩:=hv
  have hM:m.le m5:=Mem.le_trans bJ (Mem.le_trans bT (Mem.le_trans cH cW))
  have cL:=Zvv t a s c back f m5 (hr.mono hM) (hb.mono hM) hs
  rw[T.v,hk]at cL
  exact⟨⟨by omega,by omega⟩,Ret (plV (Zsr t back f s 0 0)),rfl,cL,Zbi,ZnW fun m6 eV M dR dG gW=>Zac (Mem.le_trans hM dG) rfl⟩
 have h:=Zek a s.length c back t.s0 t.s1 t.s2 t.s3 t.mn t.mx t.a t.subs.length t.c (wdN f 0:Nat) (wdN f 1:Nat) (wdN f 2:Nat) (wdN f 3:Nat) (wdN f 4:Nat) (wdN f 5:Nat) (wdN f 6:Nat) (wdN f 7:Nat) (wdN f 8:Nat) m _ key
 rw[T.v,hk]
 exact h
theorem ZvA(t:T)(a:Option Addr)(s:List Nat)(c:Nat)(back:Bool)(f:Nat)(m:Mem)(hr:Rep m t)(hb:Byt m a s)(hs:s.length≤512)(hf:f < Zcl)(ih:IH a s c back t)(hk:t.k=3):CX Try.prog 89 #[txV a s c back,t.v,plV f] m [] (Ret (plV (if back then ZgG s back t.subs f else Zg6 s back t.subs f))):=by
 have key:ZbI a s.length c back t.s0 t.s1 t.s2 t.s3 t.mn t.mx t.a t.subs.length t.c (wdN f 0:Nat) (wdN f 1:Nat) (wdN f 2:Nat) (wdN f 3:Nat) (wdN f 4:Nat) (wdN f 5:Nat) (wdN f 6:Nat) (wdN f 7:Nat) (wdN f 8:Nat) m (Ret (plV (if back then ZgG s back t.subs f else Zg6 s back t.subs f))):=by
  unfold ZbI
  intro b1 m1 bJ _ b2 m2 bT _ b3 m3 cH _ b4
  refine⟨fun i _ _=>if i=1 then KR a s c back else Ret (plV (if back then ZgG s back t.subs f else Zg6 s back t.subs f)),KR a s c back,rfl,Zgm a s c back m3,Zi0,?_⟩
  rintro g0 i0 c0 g1 i1 c1 g2 i2 c2 g3 i3 c3 g4 i4 c4 g5 i5 c5 g6 i6 c6 m5 cW ⟨b,hv,cU⟩
  simp only[Value.agg.injEq,Array.mk.injEq,List.cons.injEq,Value.func.injEq,Fn.func.injEq,and_true]at hv
  obtain⟨⟨rfl,rfl,rfl⟩,⟨rfl,rfl,rfl⟩,⟨rfl,rfl,rfl⟩,⟨rfl,rfl,rfl⟩,⟨rfl,rfl,rfl⟩,⟨rfl,rfl,rfl⟩,⟨rfl,rfl,rfl⟩⟩:=hv
  have hM:m.le m5:=Mem.le_trans bJ (Mem.le_trans bT (Mem.le_trans cH cW))
  have cL:=Zx0 t a s c back f m5 (hr.mono hM) (hb.mono hM) hs ih hf b 0 cU
  rw[T.v,hk]at cL
  exact⟨⟨by omega,by omega⟩,Ret (plV (if back then ZgG s back t.subs f else Zg6 s back t.subs f)),rfl,cL,Zbi,ZnW fun m6 eV M dR dG gW=>Zac (Mem.le_trans hM dG) rfl⟩
 have h:=Zel a s.length c back t.s0 t.s1 t.s2 t.s3 t.mn t.mx t.a t.subs.length t.c (wdN f 0:Nat) (wdN f 1:Nat) (wdN f 2:Nat) (wdN f 3:Nat) (wdN f 4:Nat) (wdN f 5:Nat) (wdN f 6:Nat) (wdN f 7:Nat) (wdN f 8:Nat) m _ key
 rw[T.v,hk]
 exact h
theorem ZvB(t:T)(a:Option Addr)(s:List Nat)(c:Nat)(back:Bool)(f:Nat)(m:Mem)(hr:Rep m t)(hb:Byt m a s)(hs:s.length≤512)(hf:f < Zcl)(ih:IH a s c back t)(hk:t.k=4):CX Try.prog 89 #[txV a s c back,t.v,plV f] m [] (Ret (plV (ZqD s back t.subs f 0))):=by
 have key:ZbJ a s.length c back t.s0 t.s1 t.s2 t.s3 t.mn t.mx t.a t.subs.length t.c (wdN f 0:Nat) (wdN f 1:Nat) (wdN f 2:Nat) (wdN f 3:Nat) (wdN f 4:Nat) (wdN f 5:Nat) (wdN f 6:Nat) (wdN f 7:Nat) (wdN f 8:Nat) m (Ret (plV (ZqD s back t.subs f 0))):=by
  unfold ZbJ
  intro b1 m1 bJ _ b2 m2 bT _ b3 m3 cH _ b4
  refine⟨fun i _ _=>if i=1 then KR a s c back else Ret (plV (ZqD s back t.subs f 0)),KR a s c back,rfl,Zgm a s c back m3,Zi0,?_⟩
  rintro g0 i0 c0 g1 i1 c1 g2 i2 c2 g3 i3 c3 g4 i4 c4 g5 i5 c5 g6 i6 c6 m5 cW ⟨b,hv,cU⟩
  simp only[Value.agg.injEq,Array.mk.injEq,List.cons.injEq,Value.func.injEq,Fn.func.injEq,and_true]at hv
  obtain⟨⟨rfl,rfl,rfl⟩,⟨rfl,rfl,rfl⟩,⟨rfl,rfl,rfl⟩,⟨rfl,rfl,rfl⟩,⟨rfl,rfl,rfl⟩,⟨rfl,rfl,rfl⟩,⟨rfl,rfl,rfl⟩⟩:=hv
  have hM:m.le m5:=Mem.le_trans bJ (Mem.le_trans bT (Mem.le_trans cH cW))
  have cL:=Zx1 t a s c back f m5 (hr.mono hM) (hb.mono hM) hs ih hf b 0 cU
  rw[T.v,hk]at cL
  exact⟨⟨by omega,by omega⟩,Ret (plV (ZqD s back t.subs f 0)),rfl,cL,Zbi,ZnW fun m6 eV M dR dG gW=>Zac (Mem.le_trans hM dG) rfl⟩
 have h:=Zem a s.length c back t.s0 t.s1 t.s2 t.s3 t.mn t.mx t.a t.subs.length t.c (wdN f 0:Nat) (wdN f 1:Nat) (wdN f 2:Nat) (wdN f 3:Nat) (wdN f 4:Nat) (wdN f 5:Nat) (wdN f 6:Nat) (wdN f 7:Nat) (wdN f 8:Nat) m _ key
 rw[T.v,hk]
 exact h
theorem ZvC(t:T)(a:Option Addr)(s:List Nat)(c:Nat)(back:Bool)(f:Nat)(m:Mem)(hr:Rep m t)(hb:Byt m a s)(hs:s.length≤512)(hf:f < Zcl)(ih:IH a s c back t)(x:T)(hx:t.subs=[x])(kE:0≤t.mn)(hk:t.k=5):CX Try.prog 89 #[txV a s c back,t.v,plV f] m [] (Ret (plV (Zwy (Zgb s back t.subs) t.mn t.mx f))):=by
 have key:ZbK a s.length c back t.s0 t.s1 t.s2 t.s3 t.mn t.mx t.a t.subs.length t.c (wdN f 0:Nat) (wdN f 1:Nat) (wdN f 2:Nat) (wdN f 3:Nat) (wdN f 4:Nat) (wdN f 5:Nat) (wdN f 6:Nat) (wdN f 7:Nat) (wdN f 8:Nat) m (Ret (plV (Zwy (Zgb s back t.subs) t.mn t.mx f))):=by
  unfold ZbK
  intro b1 m1 bJ _ b2 m2 bT _ b3 m3 cH _ b4
  refine⟨fun i _ _=>if i=1 then KR a s c back else Ret (plV (Zwy (Zgb s back t.subs) t.mn t.mx f)),KR a s c back,rfl,Zgm a s c back m3,Zi0,?_⟩
  rintro g0 i0 c0 g1 i1 c1 g2 i2 c2 g3 i3 c3 g4 i4 c4 g5 i5 c5 g6 i6 c6 m5 cW ⟨b,hv,cU⟩
  simp only[Value.agg.injEq,Array.mk.injEq,List.cons.injEq,Value.func.injEq,Fn.func.injEq,and_true]at hv
  obtain⟨⟨rfl,rfl,rfl⟩,⟨rfl,rfl,rfl⟩,⟨rfl,rfl,rfl⟩,⟨rfl,rfl,rfl⟩,⟨rfl,rfl,rfl⟩,⟨rfl,rfl,rfl⟩,⟨rfl,rfl,rfl⟩⟩:=hv
  have hM:m.le m5:=Mem.le_trans bJ (Mem.le_trans bT (Mem.le_trans cH cW))
  have cL:=Ztv t a s c back f m5 (hr.mono hM) (hb.mono hM) hs ih hf x hx kE
  rw[T.v,hk]at cL
  exact⟨⟨by omega,by omega⟩,Ret (plV (Zwy (Zgb s back t.subs) t.mn t.mx f)),rfl,cL,Zbi,ZnW fun m6 eV M dR dG gW=>Zac (Mem.le_trans hM dG) rfl⟩
 have h:=Zen a s.length c back t.s0 t.s1 t.s2 t.s3 t.mn t.mx t.a t.subs.length t.c (wdN f 0:Nat) (wdN f 1:Nat) (wdN f 2:Nat) (wdN f 3:Nat) (wdN f 4:Nat) (wdN f 5:Nat) (wdN f 6:Nat) (wdN f 7:Nat) (wdN f 8:Nat) m _ key
 rw[T.v,hk]
 exact h
theorem ZvD(t:T)(a:Option Addr)(s:List Nat)(c:Nat)(back:Bool)(f:Nat)(m:Mem)(hr:Rep m t)(hb:Byt m a s)(hs:s.length≤512)(hf:f < Zcl)(ih:IH a s c back t)(x:T)(hx:t.subs=[x])(hk:t.k=6):CX Try.prog 89 #[txV a s c back,t.v,plV f] m [] (Ret (plV (Zgb s back t.subs f))):=by
 have key:ZbL a s.length c back t.s0 t.s1 t.s2 t.s3 t.mn t.mx t.a t.subs.length t.c (wdN f 0:Nat) (wdN f 1:Nat) (wdN f 2:Nat) (wdN f 3:Nat) (wdN f 4:Nat) (wdN f 5:Nat) (wdN f 6:Nat) (wdN f 7:Nat) (wdN f 8:Nat) m (Ret (plV (Zgb s back t.subs f))):=by
  unfold ZbL
  intro b1 m1 bJ _ b2 m2 bT _ b3 m3 cH _ b4
  refine⟨fun i _ _=>if i=1 then KR a s c back else Ret (plV (Zgb s back t.subs f)),KR a s c back,rfl,Zgm a s c back m3,Zi0,?_⟩
  rintro g0 i0 c0 g1 i1 c1 g2 i2 c2 g3 i3 c3 g4 i4 c4 g5 i5 c5 g6 i6 c6 m5 cW ⟨b,hv,cU⟩
  simp only[Value.agg.injEq,Array.mk.injEq,List.cons.injEq,Value.func.injEq,Fn.func.injEq,and_true]at hv
  obtain⟨⟨rfl,rfl,rfl⟩,⟨rfl,rfl,rfl⟩,⟨rfl,rfl,rfl⟩,⟨rfl,rfl,rfl⟩,⟨rfl,rfl,rfl⟩,⟨rfl,rfl,rfl⟩,⟨rfl,rfl,rfl⟩⟩:=hv
  have hM:m.le m5:=Mem.le_trans bJ (Mem.le_trans bT (Mem.le_trans cH cW))
  have cL:=Zx2 t a s c back f m5 (hr.mono hM) (hb.mono hM) hs ih hf x hx b 0 cU
  rw[T.v,hk]at cL
  exact⟨⟨by omega,by omega⟩,Ret (plV (Zgb s back t.subs f)),rfl,cL,Zbi,ZnW fun m6 eV M dR dG gW=>Zac (Mem.le_trans hM dG) rfl⟩
 have h:=Zeo a s.length c back t.s0 t.s1 t.s2 t.s3 t.mn t.mx t.a t.subs.length t.c (wdN f 0:Nat) (wdN f 1:Nat) (wdN f 2:Nat) (wdN f 3:Nat) (wdN f 4:Nat) (wdN f 5:Nat) (wdN f 6:Nat) (wdN f 7:Nat) (wdN f 8:Nat) m _ key
 rw[T.v,hk]
 exact h
theorem Zsj(a:Option Addr)(s:List Nat)(c:Nat)(back:Bool)(hs:s.length≤512)(t:T)(hw:t.walks)(f:Nat)(m:Mem)(hf:f < Zcl)(hr:Rep m t)(hb:Byt m a s):CX Try.prog 89 #[txV a s c back,t.v,plV f] m [] (Ret (plV (t.lead s back f))):=by
 have ih:t.k≠0→IH a s c back t:=fun h0 x hx f m hf hr hb=>by
  have cP:=ZjU hx
  exact Zsj a s c back hs x (Zs5 hw h0 hx) f m hf hr hb
 by_cases k0:t.k=0
 ·rw[ZxS k0];exact Zvx t a s c back f m hr hb hs hf k0
 have hR:t.right=true:=by
  rcases hw with h|h
  ·exact absurd h k0
  ·exact h t (by rw[ZaX];simp)
 have ih:=ih k0
 by_cases k1:t.k=1
 ·rw[Zwz k1];exact Zvy t a s c back f m hr hb hs hf k1
 by_cases k2:t.k=2
 ·rw[ZwA k2];exact Zvz t a s c back f m hr hb hs hf k2
 by_cases k3:t.k=3
 ·rw[Zve k3];exact ZvA t a s c back f m hr hb hs hf ih k3
 by_cases k4:t.k=4
 ·rw[ZwB k4];exact ZvB t a s c back f m hr hb hs hf ih k4
 unfold T.right at hR
 rw[Bool.and_eq_true]at hR
 replace hR:=hR.2
 rw[if_neg k1,if_neg k2,if_neg k3,if_neg k4]at hR
 by_cases k5:t.k=5
 ·rw[if_pos k5,Bool.and_eq_true,Bool.and_eq_true]at hR
  obtain⟨x,hx⟩:=Zuy hR.1
  have kE:0≤t.mn:=by
   have:=hR.2.1
   simp[Zdx]at this
   omega
  rw[ZwC k5];exact ZvC t a s c back f m hr hb hs hf ih x hx kE k5
 rw[if_neg k5,Bool.and_eq_true]at hR
 have k6:t.k=6:=by simpa using hR.1
 obtain⟨x,hx⟩:=Zuy hR.2
 rw[ZwD k6];exact ZvD t a s c back f m hr hb hs hf ih x hx k6
termination_by SizeOf.sizeOf t
decreasing_by exact cP
end Go.Proofs.Ytplacemlpkhmfaa

