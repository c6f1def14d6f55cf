/- Part of the proof: functions of the program. No condition. -/
import Derived.Test.YtojlhhphofhaoaaGreatDoorPVET
import Derived.Test.YtojlhhphofhaoaaGreatDoorPC25M
import Derived.Test.YtojlhhphofhaoaaGreatDoorPC25MD
import Derived.Test.YtojlhhphofhaoaaGreatDoorMr
import Derived.Test.YtojlhhphofhaoaaGreatDoorPEnv
import Derived.KernelRfl
set_option linter.unusedVariables false
set_option linter.unusedSimpArgs false
set_option linter.unusedSectionVars false
namespace Go.Proofs.YtojlhhphofhaoaaGreatDoor
open Go Go.Eng Go.Rx Go.Proofs Go.RowKit
set_option maxRecDepth 100000
def ZyR(o:Option Nat):Int:=match o with
 | none=>-1
 | some t=>(t:Nat)
def Zx4(o:Option Nat):Value:=.tuple #[.int .i64 (Zwz o),.bool o.isSome]
theorem Zvn(o:Option Nat):(if(0:Int) > ZyR o then(0:Int)else ZyR o)=Zwz o:=by
 cases o with
 | none=>rfl
 | some t=>show(if(0:Int) > (t:Nat)then _ else _)=((t:Nat):Int);rw[if_neg (by omega)];rfl
theorem Zw2(o:Option Nat):decide (ZyR o ≥ 0)=o.isSome:=by
 cases o with
 | none=>rfl
 | some t=>exact decide_eq_true (show((t:Nat):Int) ≥ 0 by omega)
set_option maxHeartbeats 1000000 in
theorem ZrJ(l:List Ru)(a:Option Addr)(c:Nat)(g1 g2:Nat)(cnt:Ru->Bool)(key:Ru->Int)(m:Mem)(hl:l.length<=1000000)(hr:rowRd m a (l.map Ru.cs).flatten)
  (h1:∀x∈l,∀m',m.le m'->CX Tryz.prog g1 #[.agg x.cs.toArray] m' [] (Ret (.bool (cnt x)))) (h2:∀x∈l,∀m',m.le m'->CX Tryz.prog g2 #[.agg x.cs.toArray] m' [] (Ret (.int .i64 (key x)))):
  CX Tryz.prog 83 #[.slice a l.length c,.func (.func g1) #[] #[],.func (.func g2) #[] #[]] m [] (Ret (Zx4 (Zzs l cnt key))):=by
 apply Zc7 a l.length c g1 [] [] g2 [] []
 refine⟨λxs _ _ m' q=>∃i:Nat,i<=l.length/\xs=[.int .i64 (ZyR (Zjz l cnt key i)),.int .i64 i]/\q=l.length - i,⟨l.length,0,by omega,rfl,rfl⟩,?_⟩
 rintro n n1 m1 q aV ⟨i,hi,hx,rfl⟩
 simp only[List.cons.injEq,Value.int.injEq,true_and,and_true]at hx
 obtain⟨rfl,rfl⟩:=hx
 have hw:IntKind.i64.wrap ((i:Int)+1)=((i+1:Nat):Int):=by rw[Zal (by omega) (by omega)];rfl
 refine Zau (λbB=>?_) (λdF=>Zac aV ?_)
 ·have bQ:i < l.length:=by omega
  obtain⟨x,hx⟩:=Zdb bQ
  have jB:=List.mem_of_getElem? hx
  have eC:=Zqu (cnt:=cnt) (key:=key) hx
  obtain⟨b,o,ha,eA⟩:=Zam Ru.len (hr.mono aV) hx (by omega)
  refine⟨b,o,ha,⟨by omega,bB⟩,_,_,_,_,_,_,_,_,_,_,_,_,_,_,_,_,eA,λb1=>Zaa rfl ?_⟩
  refine⟨λk _ _=>if k=2 then Ret (.bool (cnt x))else if k=9 then Ret (.int .i64 (key x))else Ret (.int .i64 (key ((l[(Zjz l cnt key i).getD 0]?).getD x))),_,rfl,h1 x jB m1 aV,λv _ _ e=>by rw[show v=_ from e];rfl,?_⟩
  intro bb m2 bA hb
  obtain rfl:bb=cnt x:=by simpa[Ret]using hb
  refine Zab (λhc=>?_) (λhc M hM _ _ _=>⟨l.length - (i+1),by omega,i+1,bQ,by rw[eC,hc,hw];rfl,rfl⟩)
  rw[hc,Bool.true_and]at eC
  cases ht:Zjz l cnt key i with
  | none=>
   rw[ht]at eC
   refine Zau (λ_ M _ _ _ _=>⟨l.length - (i+1),by omega,i+1,bQ,by rw[eC,hw];rfl,rfl⟩) (λh=>absurd (show ZyR none < 0 by decide) h)
  | some t=>
   rw[ht]at eC
   obtain⟨wE,y,hy,_⟩:=Zfn ht
   have vO:=List.mem_of_getElem? hy
   refine Zau (λh=>absurd (show((t:Nat):Int) < 0 from h) (by omega)) (λ_=>?_)
   refine⟨_,rfl,h2 x jB m2 (mLt aV bA),λv _ _ e=>by rw[show v=_ from e];rfl,?_⟩
   intro k1 m3 bS gk
   obtain rfl:k1=key x:=by simpa[Ret]using gk
   obtain⟨b2,o2,mV,gS⟩:=Zam Ru.len (hr.mono (mLt aV bA)) hy (by omega)
   have gR:((t:Nat):Int) < l.length:=by omega
   refine⟨b2,o2,mV,⟨by show(0:Int)<=(t:Nat);omega,gR⟩,_,_,_,_,_,_,_,_,_,_,_,_,_,_,_,_,by show Mem.reads _ _ (o2+Int.toNat ((t:Nat):Int)*16) _;rw[Int.toNat_natCast];exact gS,_,rfl,?_,λv _ _ e=>by rw[show v=_ from e];rfl,?_⟩
   ·show CX _ _ _ _ _ (Ret (.int .i64 (key ((l[t]?).getD x))))
    rw[hy];exact h2 y vO m3 (mLt aV (mLt bA bS))
   ·intro k2 m4 cR hU
    have hU:k2=key y:=by
     have:Value.int .i64 k2=.int .i64 (key ((l[t]?).getD x)):=hU
     rw[hy]at this;simpa using this
    subst hU
    intro M _ _ _ _
    have ku:ZxG l key (some t) x=decide (key x < key y):=by show(match l[t]? with|some y=>decide (key x < key y)|none=>false)=_;rw[hy]
    rw[ku]at eC
    refine Zau (λh=>⟨l.length - (i+1),by omega,i+1,bQ,?_,rfl⟩) (λh=>⟨l.length - (i+1),by omega,i+1,bQ,?_,rfl⟩)
    ·rw[eC,decide_eq_true h,hw];rfl
    ·rw[eC,decide_eq_false h,hw];rfl
 ·have:i=l.length:=by omega
  subst this
  show Value.tuple #[.int .i64 _,.bool _]=Value.tuple #[.int .i64 _,.bool _]
  rw[Zvn,Zw2];rfl
theorem Zgh{o}:∀(v:Value)(m':Mem) (css:List (List Value)),Ret (Zx4 o) v m' css->Shape.fits (.tup [.int .i64,.bool]) v=true:=λv _ _ e=>by rw[show v=_ from e];rfl
theorem Zzh{n:Int}{b:Bool}{o:Option Nat}{m':Mem}(h:Ret (Zx4 o) (.tuple #[.int .i64 n,.bool b]) m' []):n=Zwz o/\b=o.isSome:=by
 have h:Value.tuple #[.int .i64 n,.bool b]=Zx4 o:=h
 unfold Zx4 at h
 simpa using h
theorem Zw3(x:Sta)(m:Mem)(hx:RepS m x):CX Tryz.prog 49 #[.agg x.cs.toArray] m [] (Ret (Zx4 (toO x))):=by
 apply Zgm
 intro b m1 aV _
 refine Zaj (ZrJ x.rules x.ra x.rc 84 85 ZzA ZzC m1 (by have:=hx.len;unfold few at this;omega) (hx.row.mono aV) (λr hr m' hm'=>?_) (λr hr m' hm'=>?_)) Zgh λn b1 m2 bA hv=>?_
 ·apply ZeS
  exact λb m1 aV _=>Zac aV rfl
 ·apply ZeT
  exact λb m1 aV _=>Zac aV rfl
 ·exact Zac (mLt aV bA) hv
theorem Zw4(x:Sta)(m:Mem)(hx:RepS m x):CX Tryz.prog 50 #[.agg x.cs.toArray] m [] (Ret (Zx4 (eoO x))):=by
 apply ZmD
 intro b m1 aV _
 refine Zaj (ZrJ x.rules x.ra x.rc 86 87 ZzB ZzD m1 (by have:=hx.len;unfold few at this;omega) (hx.row.mono aV) (λr hr m' hm'=>?_) (λr hr m' hm'=>?_)) Zgh λn b1 m2 bA hv=>?_
 ·apply Zis
  exact λb m1 aV _=>Zac aV rfl
 ·apply Zit
  exact λb m1 aV _=>Zac aV rfl
 ·exact Zac (mLt aV bA) hv
def okS(s:Sc):Bool:=s.check.2 == 0
def ZdI(s:Sc)(i:Int):Int:=if okS s then(if i < 0\/i ≥ s.states.length then 250 else 0)else 400
theorem ZrK(s:Sc)(i:Int)(m:Mem)(hr:RepC m s):CX Tryz.prog 48 #[s.v,.int .i64 i] m [] (Ret (.int .i64 (ZdI s i))):=by
 apply Ziu
 intro b m1 aV _
 refine Zag (Zpk s m1 (hr.mono aV)) λm2 bA=>?_
 have eW:=mLt aV bA
 show br (!okS s) _ _
 refine Zab (λh=>Zac eW ?_) (λh=>⟨decide (i < 0\/i ≥ s.states.length),Zau (λh=>⟨rfl,Zae ?_⟩) (λh=>⟨rfl,Zae ?_⟩),Zau (λh1=>Zac eW ?_) (λh1=>Zac eW ?_)⟩)
 ·have:okS s=false:=by simpa using h
  unfold ZdI;rw[this];rfl
 ·exact(decide_eq_true (.inl h)).symm
 ·rw[decide_eq_decide];omega
 ·have:okS s=true:=by simpa using h
  unfold ZdI;rw[this,if_pos rfl,if_pos h1]
 ·have:okS s=true:=by simpa using h
  unfold ZdI;rw[this,if_pos rfl,if_neg h1]
theorem Zli{s:Sc}{i:Int}(h:ZdI s i=0):okS s=true/\∃(k:Nat)(x:Sta),i=k/\s.states[k]?=some x:=by
 unfold ZdI at h
 split at h
 ·rename_i hs
  split at h
  ·omega
  ·rename_i hi
   obtain⟨x,hx⟩:=Zdb (l:=s.states) (n:=i.toNat) (by omega)
   exact⟨hs,i.toNat,x,by omega,hx⟩
 ·omega
def ZeB(n:Int)(b:Bool)(e:Int):Value:=.tuple #[.int .i64 n,.bool b,.int .i64 e]
theorem ZfD{n b e}:∀(v:Value)(m':Mem) (css:List (List Value)),Ret (ZeB n b e) v m' css->Shape.fits (.tup [.int .i64,.bool,.int .i64]) v=true:=λv _ _ e=>by rw[show v=_ from e];rfl
theorem Zib{n n' e e':Int}{b b':Bool}{m':Mem}(h:Ret (ZeB n b e) (.tuple #[.int .i64 n',.bool b',.int .i64 e']) m' []):n'=n/\b'=b/\e'=e:=by
 have h:Value.tuple #[.int .i64 n',.bool b',.int .i64 e']=ZeB n b e:=h
 unfold ZeB at h
 simpa using h
def Zx5(f:Sta->Option Nat)(s:Sc)(i:Int):Option Nat:=match s.states[i.toNat]? with
 | some x=>f x
 | none=>none
def ZhO(f:Sta->Option Nat)(s:Sc)(i:Int):Value:=if ZdI s i=0 then ZeB (Zwz (Zx5 f s i)) (Zx5 f s i).isSome 0 else ZeB 0 false (ZdI s i)
theorem Zvo(f:Sta->Option Nat)(s:Sc)(i:Int):∃n b e,ZhO f s i=ZeB n b e:=by unfold ZhO;split <;> exact⟨_,_,_,rfl⟩
theorem Zmb(s:Sc)(i:Int)(m:Mem)(hr:RepC m s):CX Tryz.prog 18 #[s.v,.int .i64 i] m [] (Ret (ZhO toO s i)):=by
 apply Zgn
 intro b m1 aV _
 refine Zav (ZrK s i m1 (hr.mono aV)) λm2 bA=>Zab (λh=>Zac (mLt aV bA) ?_) (λh=>?_)
 ·have:¬ZdI s i=0:=by simpa using h
  unfold ZhO;rw[if_neg this];rfl
 ·have h:ZdI s i=0:=by simpa using h
  obtain⟨_,k,x,rfl,hx⟩:=Zli h
  have eW:=mLt aV bA
  obtain⟨b1,o1,ha,eA⟩:=Zam Sta.len (hr.mono eW).row hx (by omega)
  have hk:=(List.getElem?_eq_some_iff.1 hx).1
  refine⟨b1,o1,ha,⟨by omega,by omega⟩,_,_,by rw[Int.toNat_natCast];exact eA,Zaj (Zw3 x m2 ((hr.mono eW).all x (List.mem_of_getElem? hx))) Zgh λn b2 m3 bS hv=>?_⟩
  obtain⟨rfl,rfl⟩:=Zzh hv
  refine Zac (mLt eW bS) ?_
  show _=ZhO toO s k
  unfold ZhO Zx5
  rw[if_pos h,Int.toNat_natCast,hx];rfl
theorem Zx6(s:Sc)(i:Int)(m:Mem)(hr:RepC m s):CX Tryz.prog 19 #[s.v,.int .i64 i] m [] (Ret (ZhO eoO s i)):=by
 apply ZmE
 intro b m1 aV _
 refine Zav (ZrK s i m1 (hr.mono aV)) λm2 bA=>Zab (λh=>Zac (mLt aV bA) ?_) (λh=>?_)
 ·have:¬ZdI s i=0:=by simpa using h
  unfold ZhO;rw[if_neg this];rfl
 ·have h:ZdI s i=0:=by simpa using h
  obtain⟨_,k,x,rfl,hx⟩:=Zli h
  have eW:=mLt aV bA
  obtain⟨b1,o1,ha,eA⟩:=Zam Sta.len (hr.mono eW).row hx (by omega)
  have hk:=(List.getElem?_eq_some_iff.1 hx).1
  refine⟨b1,o1,ha,⟨by omega,by omega⟩,_,_,by rw[Int.toNat_natCast];exact eA,Zaj (Zw4 x m2 ((hr.mono eW).all x (List.mem_of_getElem? hx))) Zgh λn b2 m3 bS hv=>?_⟩
  obtain⟨rfl,rfl⟩:=Zzh hv
  refine Zac (mLt eW bS) ?_
  show _=ZhO eoO s k
  unfold ZhO Zx5
  rw[if_pos h,Int.toNat_natCast,hx];rfl
def Zx7(s:Sc)(i t:Int):Bool:=match s.states[i.toNat]? with
 | some x=>(match toO x with
  | some k=>(match x.rules[k]? with
   | some r=>r.n == t
   | none=>false)
  | none=>false)
 | none=>false
def ZvQ(s:Sc)(i t:Int):Value:=if ZdI s i=0 then(if Zx7 s i t then ZeB (Zwz (Zx5 toO s i)) true 0 else ZeB 0 false 0)else ZeB 0 false (ZdI s i)
theorem Zw5(s:Sc)(i t:Int)(m:Mem)(hr:RepC m s):CX Tryz.prog 20 #[s.v,.int .i64 i,.int .i64 t] m [] (Ret (ZvQ s i t)):=by
 apply ZmF
 intro b m1 aV _
 obtain⟨n0,b0,e0,hA⟩:=Zvo toO s i
 have hT:=Zmb s i m1 (hr.mono aV)
 rw[hA]at hT
 refine Zaj hT ZfD λn b1 e m2 bA hv=>?_
 obtain⟨rfl,rfl,rfl⟩:=Zib hv
 have eW:=mLt aV bA
 by_cases hp:ZdI s i=0
 ·obtain⟨_,k,x,rfl,hx⟩:=Zli hp
  unfold ZhO at hA
  rw[if_pos hp]at hA
  have hO:Zx5 toO s k=toO x:=by unfold Zx5;rw[Int.toNat_natCast,hx]
  rw[hO]at hA
  obtain⟨rfl,rfl,rfl⟩:n=Zwz (toO x)/\b1=(toO x).isSome/\e=0:=by
   unfold ZeB at hA;simp at hA;exact⟨hA.1.symm,hA.2.1.symm,hA.2.2.symm⟩
  have hk:=(List.getElem?_eq_some_iff.1 hx).1
  have hB:Zx7 s k t=(match toO x with
   | some k=>(match x.rules[k]? with
    | some r=>r.n == t
    | none=>false)
   | none=>false):=by unfold Zx7;rw[Int.toNat_natCast,hx]
  have hV:ZvQ s k t=if Zx7 s k t then ZeB (Zwz (toO x)) true 0 else ZeB 0 false 0:=by unfold ZvQ;rw[if_pos hp,hO]
  refine⟨!Zx7 s k t,Ze8 rfl (Zab (λh=>⟨rfl,Zae ?_⟩) (λh=>?_)),Zab (λh=>Zac eW ?_) (λh=>Zac eW ?_)⟩
  ·have:toO x=none:=by simpa using h
   rw[hB,this];rfl
  ·obtain⟨j,hj⟩:∃j,toO x=some j:=by
    cases hj:toO x with
    | none=>rw[hj]at h;cases h
    | some j=>exact⟨j,rfl⟩
   obtain⟨_,r,eF,_⟩:=Zfn hj
   have tx:=(List.getElem?_eq_some_iff.1 eF).1
   obtain⟨b2,o2,mV,eA⟩:=Zam Sta.len (hr.mono eW).row hx (by omega)
   obtain⟨b3,o3,f4,gi⟩:=Zam Ru.len ((hr.mono eW).all x (List.mem_of_getElem? hx)).row eF (by omega)
   rw[hB,hj,show Zwz (some j)=(j:Nat) from rfl]
   refine⟨b2,o2,mV,⟨by omega,by omega⟩,.slice x.ra x.rules.length x.rc,by rw[Int.toNat_natCast];exact eA 1 _ rfl,Zaa rfl ⟨b3,o3,f4,⟨by omega,by show((j:Nat):Int) < (x.rules.length:Nat);omega⟩,.int .i64 r.n,by rw[Int.toNat_natCast];exact gi 12 _ rfl,Zaa rfl ⟨rfl,Zae ?_⟩⟩⟩
   show(!(r.n == t))=!(match x.rules[j]? with|some r=>r.n == t|none=>false)
   rw[eF]
  ·have:Zx7 s k t=false:=by simpa using h
   show _=ZvQ s k t
   rw[hV,this];rfl
  ·have:Zx7 s k t=true:=by simpa using h
   show _=ZvQ s k t
   rw[hV,this];rfl
 ·unfold ZhO at hA
  rw[if_neg hp]at hA
  obtain⟨rfl,rfl,rfl⟩:n=0/\b1=false/\e=ZdI s i:=by
   unfold ZeB at hA;simp at hA;exact⟨hA.1.symm,hA.2.1,hA.2.2.symm⟩
  refine⟨true,ZpM (by simpa using hp) ⟨rfl,rfl⟩,ZpM rfl (Zac eW ?_)⟩
  show _=ZvQ s i t
  unfold ZvQ;rw[if_neg hp];rfl
theorem Zw6(s:Sc)(m:Mem):CX Tryz.prog 36 #[s.v] m [] (λv m' _=>∃b,v=.func (.func 68) #[] #[.pointer (some ⟨b,0,none⟩)]/\m'.reads b 0 s.cs):=by
 apply Zku
 intro b m' hm hb
 exact⟨m',hm,Mem.le_refl _,b,rfl,hb⟩
theorem Zts{m:Mem}{s:Sc}(hr:RepC m s)(n:Nat):(ZcY s n).length<=few*n:=by
 induction n with
 | zero=>simp[ZcY]
 | succ n ih=>
  rw[ZcY,List.length_append,Nat.mul_succ]
  refine Nat.add_le_add ih ?_
  split
  ·rename_i x hx
   exact Nat.le_trans (Zkq n x x.rules.length) (hr.all x (List.mem_of_getElem? hx)).len
  ·simp
theorem Zpu{m:Mem}{s:Sc}(hr:RepC m s):(ZbH s).length<=10000000000:=by
 refine Nat.le_trans (Zts hr s.states.length) (Nat.le_trans (Nat.mul_le_mul_left _ hr.len) ?_)
 unfold few;omega
theorem Zw7{s:Sc}{i:Nat}{x:Sta}{k:Nat}{r:Ru}(hx:s.states[i]?=some x)(hr:x.rules[k]?=some r)(hb:ZgI x k r=true):(ZbH s)[(ZcY s i).length+(Zde i x k).length]?=some ((i:Int),(k:Int)):=by
 have hi:=(List.getElem?_eq_some_iff.1 hx).1
 have hk:=(List.getElem?_eq_some_iff.1 hr).1
 obtain⟨r1,h1⟩:=ZsT (s:=s) (show i+1<=s.states.length by omega)
 obtain⟨r2,h2⟩:=ZsS (i:=i) (x:=x) (show k+1<=x.rules.length by omega)
 unfold ZbH
 rw[h1,Zl4 hx,h2,Zl3 hr,hb]
 rw[List.append_assoc,List.append_assoc,List.append_assoc,List.getElem?_append_right (by omega),Nat.add_sub_cancel_left,List.getElem?_append_right (Nat.le_refl _),Nat.sub_self]
 rfl
set_option maxHeartbeats 1000000 in
theorem Zvp(s:Sc)(m:Mem)(c0b:Nat)(hr:RepC m s)(hb:m.reads c0b 0 s.cs):IX Tryz.prog 68 [] [.pointer (some ⟨c0b,0,none⟩)] m ((ZbH s).map λd=>[dV d]):=by
 apply Zhe 0 [] [] c0b 0
 intro l
 have fT:=hr.len
 unfold few at fT
 refine⟨.slice s.sa s.states.length s.sc,hb 2 _ rfl,Zaa rfl ?_⟩
 refine⟨λxs _ _ m' q=>∃i:Nat,i<=s.states.length/\xs=[.int .i64 ((ZcY s i).length:Nat),.int .i64 i]/\q=s.states.length - i,⟨s.states.length,0,by omega,rfl,rfl⟩,?_⟩
 rintro y n m1 q aV ⟨i,hi,hx,rfl⟩
 simp only[List.cons.injEq,Value.int.injEq,true_and,and_true]at hx
 obtain⟨rfl,rfl⟩:=hx
 have hw:IntKind.i64.wrap ((i:Int)+1)=((i+1:Nat):Int):=by rw[Zal (by omega) (by omega)];rfl
 refine Zau (λbB=>?_) (λdF=>.inl ?_)
 ·have bB:(i:Int) < (s.states.length:Nat):=bB
  obtain⟨x,hx⟩:=Zdb (show i < s.states.length by omega)
  have jB:=List.mem_of_getElem? hx
  obtain⟨b1,o1,iO,eA⟩:=Zam Sta.len (hr.mono aV).row hx (by omega)
  have fB:=(hr.mono aV).all x jB
  have jC:=fB.len
  unfold few at jC
  refine Zaa rfl ⟨b1,o1,iO,⟨by omega,bB⟩,_,_,eA,λb2=>Zaa rfl (Zaj (Zw3 x m1 fB) Zgh λn2 b3 m2 bA pf=>Zaj (Zw4 x m2 (fB.mono bA)) Zgh λn3 b4 m3 bS lX=>?_)⟩
  obtain⟨rfl,rfl⟩:=Zzh pf
  obtain⟨rfl,rfl⟩:=Zzh lX
  have pB:=mLt bA bS
  have su:=fB.mono pB
  refine Zaa rfl ⟨λxs _ _ m' q=>∃k:Nat,k<=x.rules.length/\xs=[.int .i64 ((ZcY s i).length+(Zde i x k).length:Nat),.int .i64 k]/\q=x.rules.length - k,⟨x.rules.length,0,by omega,by simp[Zde],rfl⟩,?_⟩
  rintro y n4 m4 q2 cR ⟨k,hk,gO,rfl⟩
  simp only[List.cons.injEq,Value.int.injEq,true_and,and_true]at gO
  obtain⟨rfl,rfl⟩:=gO
  have qD:IntKind.i64.wrap ((k:Int)+1)=((k+1:Nat):Int):=by rw[Zal (by omega) (by omega)];rfl
  refine Zau (λeL=>?_) (λfM=>?_)
  ·have eL:(k:Int) < (x.rules.length:Nat):=eL
   obtain⟨r,gt⟩:=Zdb (show k < x.rules.length by omega)
   obtain⟨b5,o5,kV,gi⟩:=Zam Ru.len (su.mono cR).row gt (by omega)
   have eC:=Zl3 (i:=i) gt
   have y1:ZgI x k r=true->List.get?Internal (List.map (λd=>[dV d]) (ZbH s)) (Int.toNat (((ZcY s i).length+(Zde i x k).length:Nat):Int))=some [Value.agg #[.int .i64 i,.int .i64 k]]:=λh=>by
    show(List.map (λd=>[dV d]) (ZbH s))[((((ZcY s i).length+(Zde i x k).length:Nat):Int)).toNat]?=some [Value.agg #[.int .i64 i,.int .i64 k]]
    rw[Int.toNat_natCast,List.getElem?_map,Zw7 hx gt h];rfl
   have y2:ZgI x k r=true->(∃n':Nat,n' < x.rules.length - k/\∃k':Nat,k'<=x.rules.length/\[Value.int .i64 ((((ZcY s i).length+(Zde i x k).length:Nat):Int)+1),Value.int .i64 (IntKind.i64.wrap ((k:Int)+1))]=[.int .i64 ((ZcY s i).length+(Zde i x k').length:Nat),.int .i64 k']/\n'=x.rules.length - k'):=λh=>⟨x.rules.length - (k+1),by omega,k+1,by omega,by rw[eC,h,qD];simp;omega,rfl⟩
   have no:ZgI x k r=false->(∃n':Nat,n' < x.rules.length - k/\∃k':Nat,k'<=x.rules.length/\[Value.int .i64 (((ZcY s i).length+(Zde i x k).length:Nat):Int),Value.int .i64 (IntKind.i64.wrap ((k:Int)+1))]=[.int .i64 ((ZcY s i).length+(Zde i x k').length:Nat),.int .i64 k']/\n'=x.rules.length - k'):=λh=>⟨x.rules.length - (k+1),by omega,k+1,by omega,by rw[eC,h,qD];simp,rfl⟩
   refine Zaa rfl ⟨b5,o5,kV,⟨by omega,eL⟩,_,_,_,_,_,_,_,_,_,_,_,_,_,_,_,_,gi,λb6=>Zaa rfl (Zaa rfl (Zab (λh4=>?_) (λh4=>?_)))⟩
   ·have h4':(r.k == 4)=true:=h4
    refine Zab (λdS=>?_) (λdS=>Zaa rfl (Zab (λh3=>?_) (λh3=>?_)))
    ·have e:ZgI x k r=true:=by unfold ZgI;rw[h4',dS];rfl
     exact⟨⟨rfl,Int.natCast_nonneg _,y1 e⟩,⟨rfl,y2 e⟩,.inr rfl⟩
    ·have:r.k=4:=by simpa using h4'
     have h3':(r.k == 3)=true:=h3
     rw[this]at h3';cases h3'
    ·exact⟨rfl,no (by unfold ZgI;rw[dS,show(r.k == 3)=false from h3];simp)⟩
   ·have h4':(r.k == 4)=false:=h4
    refine Zaa rfl (Zab (λh3=>Zab (λdS=>?_) (λdS=>?_)) (λh3=>?_))
    ·have e:ZgI x k r=true:=by unfold ZgI;rw[h4',show(r.k == 3)=true from h3,dS];rfl
     exact⟨⟨rfl,Int.natCast_nonneg _,y1 e⟩,⟨rfl,y2 e⟩,.inr rfl⟩
    ·exact⟨rfl,no (by unfold ZgI;rw[h4',dS];simp)⟩
    ·exact⟨rfl,no (by unfold ZgI;rw[h4',show(r.k == 3)=false from h3];simp)⟩
  ·have fM:¬(k:Int) < (x.rules.length:Nat):=fM
   have:k=x.rules.length:=by omega
   subst this
   exact⟨s.states.length - (i+1),by omega,i+1,by omega,by rw[Zl4 hx,List.length_append,hw],rfl⟩
 ·have dF:¬(i:Int) < (s.states.length:Nat):=dF
  have:i=s.states.length:=by omega
  subst this
  rw[List.length_map];rfl
theorem Zlj(d:Dd):(dC d).length=2:=rfl
theorem Zw8(d:Dd):∀u∈dC d,u.oneCell'=true:=by
 intro u hu
 simp only[dC,List.mem_cons,List.not_mem_nil,or_false]at hu
 rcases hu with rfl|rfl <;> rfl
def Zvq(s:Sc):Value->Mem->List (List Value)->Prop:=λv m' _=>∃(a:Option Addr)(n c:Nat)(e:Int),v=.tuple #[.slice a n c,.int .i64 e]/\(if okS s then e=0/\n=(ZbH s).length/\n<=c/\rowRd m' a ((ZbH s).map dC).flatten else e=400/\a=none/\n=0/\c=0)
theorem Zic{s}:∀(v:Value)(m':Mem) (css:List (List Value)),Zvq s v m' css->Shape.fits (.tup [.slice,.int .i64]) v=true:=λv _ _ ⟨_,_,_,_,e,_⟩=>by rw[e];rfl
theorem Zlk{s:Sc}{a:Option Addr}{n c:Nat}{e:Int}{m':Mem}(h:Zvq s (.tuple #[.slice a n c,.int .i64 e]) m' []):if okS s then e=0/\n=(ZbH s).length/\n<=c/\rowRd m' a ((ZbH s).map dC).flatten else e=400/\a=none/\n=0/\c=0:=by
 obtain⟨a',n',c',e',hv,h⟩:=h
 simp only[Value.tuple.injEq,Array.mk.injEq,List.cons.injEq,Value.slice.injEq,Value.int.injEq,true_and,and_true]at hv
 obtain⟨⟨rfl,rfl,rfl⟩,rfl⟩:=hv
 exact h
theorem Zw9{α:Type}{cs:α->List Value}{L:List α}{q:Nat}{x:α}(h:L[q]?=some x):((L.take (q+1)).map cs).flatten=((L.take q).map cs).flatten++cs x:=by
 rw[List.take_add_one,h];simp
theorem ZnG(s:Sc)(m:Mem)(hr:RepC m s):CX Tryz.prog 10 #[s.v] m [] (Zvq s):=by
 apply Zkv
 intro b m1 aV _
 refine Zag (Zpk s m1 (hr.mono aV)) λm2 bA=>?_
 have eW:=mLt aV bA
 have bT:=Zpu hr
 show br (!okS s) _ _
 refine Zab (λh=>ZaQ eW ⟨_,_,_,_,rfl,?_⟩) (λh=>λb2=>?_)
 ·have:okS s=false:=by simpa using h
  rw[this];exact⟨rfl,rfl,rfl,rfl⟩
 have cW:okS s=true:=by simpa using h
 refine Zaj (Zw6 s m2) (λv m' css h=>by obtain⟨_,rfl,_⟩:=h;rfl) ?_
 rintro g fi ca m3 bS ⟨b3,hv,fA⟩
 obtain⟨rfl,rfl,rfl⟩:=Zcp hv
 have eX:=mLt eW bS
 refine⟨_,Zvp s m3 b3 (hr.mono eX) fA,λy hy=>?_,λxs css tvs m' q=>∃(a:Option Addr)(c:Nat),q<=(ZbH s).length/\xs=[]/\css=[[.slice a q c]]/\tvs=[.slice a q c]/\q<=c/\rowRd m' a (((ZbH s).take q).map dC).flatten,⟨none,0,by omega,rfl,rfl,rfl,by omega,.inl rfl⟩,?_,?_⟩
 ·obtain⟨z,_,rfl⟩:=List.mem_map.1 hy;rfl
 ·rintro n n1 cs a n2 c m4 q cR hq ⟨a',c',tf,_,dJ,fl,nF,bF⟩ b4
  simp only[List.cons.injEq,Value.slice.injEq,and_true]at fl
  obtain⟨rfl,rfl,rfl⟩:=fl
  obtain rfl:cs=[.slice a n2 c]:=by simpa using dJ
  have hq:(List.map (λd=>[dV d]) (ZbH s))[n2]?=some [Value.agg #[.int .i64 n,.int .i64 n1]]:=hq
  rw[List.getElem?_map]at hq
  obtain⟨d,hd,nD⟩:=Option.map_eq_some_iff.1 hq
  have nD:dV d=.agg #[.int .i64 n,.int .i64 n1]:=by simpa using nD
  have bB:=(List.getElem?_eq_some_iff.1 hd).1
  obtain⟨rfl,rfl⟩:d.1=n/\d.2=n1:=by unfold dV at nD;simpa using nD
  have lf:((ZbH s).take n2).length=n2:=by rw[List.length_take];omega
  refine Zao rfl λb5 iE=>Zaa rfl ⟨.inl rfl,_,dC d,?_,rfl,bF.mono (Mem.le_add iE _),Zbk,Zw8 d,?_,?_,λa6 c6 m6 gX iR mW=>⟨rfl,a6,c6,by omega,rfl,rfl,rfl,mW,?_⟩⟩
  ·rw[Zdw Zlj,lf];rfl
  ·show(n2+1)*16<=_;omega
  ·show n2+1<=_;omega
  ·rw[Zw9 hd];exact iR
 ·rintro cs a n c m4 cR ⟨a',c',_,_,dJ,fl,nF,bF⟩
  rw[List.length_map]at dJ fl nF bF
  simp only[List.cons.injEq,Value.slice.injEq,and_true]at fl
  obtain⟨rfl,rfl,rfl⟩:=fl
  obtain rfl:cs=[.slice a (ZbH s).length c]:=by simpa using dJ
  rw[List.take_length]at bF
  refine Zao rfl (ZaQ (mLt eX cR) ⟨a,_,c,0,rfl,?_⟩)
  rw[cW];exact⟨rfl,rfl,nF,bF⟩
theorem Zui(a b a' b':Int):EqIs Tryz.prog 37 (.agg #[.int .i64 a,.int .i64 b]) (.agg #[.int .i64 a',.int .i64 b']) (decide (((a,b):Dd)=(a',b'))):=by
 refine⟨λw=>?_,λop ox oy w=>ZhB (by kernel_rfl) op ox oy _ _ w⟩
 have u3:=Tryz.underlying3
 have a3:=Tryz.isAgg3
 have z3:=Tryz.sizeOf3
 rw[Op.equal,Op.maxDepth,show(10000:Nat)=9999+1 from rfl]
 rw[run_equalIn_agg _ _ _ _ _ (by kernel_rfl) (by kernel_rfl)]
 have hf:(Tryz.prog.fieldsOf 37).toList=[⟨ "State",3,0,false, "", "",0⟩,⟨ "Rule",3,1,false, "", "",8⟩]:=by kernel_rfl
 rw[hf]
 go_simp
 by_cases h1:a=a' <;> by_cases h2:b=b' <;> simp[h1,h2]
def ZxH(l:List Dd)(d:Dd):Int:=match l.findIdx? (· == d)with
 | some i=>(i:Nat)
 | none=>-1
theorem Zpv(l:List Dd)(a:Option Addr)(c:Nat)(d:Dd)(m:Mem)(hl:l.length<=1000000000000000)(hr:rowRd m a (l.map dC).flatten):
  CX Tryz.prog 37 #[.slice a l.length c,dV d] m [] (Ret (.int .i64 (ZxH l d))):=by
 apply Zbf
 intro b m1 aV _
 refine⟨λxs _ _ m' q=>∃i:Nat,i<=l.length/\xs=[.int .i64 i]/\(∀j x,j < i->l[j]?=some x->x≠d)/\q=l.length - i,⟨l.length,0,by omega,rfl,λj x hj=>by omega,rfl⟩,?_⟩
 rintro n m2 q bA ⟨i,hi,hx,fS,rfl⟩
 obtain rfl:n=i:=by simpa using hx
 have eW:=mLt aV bA
 refine Zau (λbB=>?_) (λdF=>Zac eW ?_)
 ·obtain⟨x,hx⟩:=Zdb (show i < l.length by omega)
  obtain⟨b1,o1,ha,eI⟩:=Zam Zlj (hr.mono eW) hx (by omega)
  refine⟨b1,o1,ha,⟨by omega,bB⟩,_,_,eI,_,Zui d.1 d.2 x.1 x.2,Zau (λh=>Zac eW ?_) (λh=>?_)⟩
  ·have h:d=x:=h
   subst h
   have hf:l.findIdx? (· == d)=some i:=List.findIdx?_eq_some_iff_getElem.2 ⟨(List.getElem?_eq_some_iff.1 hx).1,by rw[(List.getElem?_eq_some_iff.1 hx).2];simp,λj hj=>by
    have:=fS j (l[j]'(by omega)) hj (List.getElem?_eq_getElem (by omega))
    simpa using this⟩
   show Value.int .i64 i=Value.int .i64 (ZxH l d)
   unfold ZxH;rw[hf]
  ·have h:¬d=x:=h
   refine⟨rfl,l.length - (i+1),by omega,i+1,by omega,by rw[Zal (by omega) (by omega)];rfl,λj y hj hy=>?_,rfl⟩
   rcases Nat.lt_or_ge j i with h1|h1
   ·exact fS j y h1 hy
   ·obtain rfl:j=i:=by omega
    rw[hx]at hy;cases hy
    exact λe=>h e.symm
 ·have hi:i=l.length:=by omega
  subst hi
  have hf:l.findIdx? (· == d)=none:=by
   rw[List.findIdx?_eq_none_iff]
   intro x hx
   obtain⟨j,hj⟩:=List.getElem?_of_mem hx
   have:=fS j x (List.getElem?_eq_some_iff.1 hj).1 hj
   simpa using this
  show Value.int .i64 (-1)=Value.int .i64 (ZxH l d)
  unfold ZxH;rw[hf]
theorem Zxa(l:List Dd)(d:Dd):decide (ZxH l d ≥ 0)=decide (d∈l):=by
 unfold ZxH
 cases h:l.findIdx? (· == d)with
 | none=>
  rw[List.findIdx?_eq_none_iff]at h
  show decide ((-1:Int) ≥ 0)=_
  symm
  rw[show decide ((-1:Int) ≥ 0)=false by decide,decide_eq_false_iff_not]
  intro hd
  have:=h d hd
  simp at this
 | some i=>
  obtain⟨bB,he,_⟩:=List.findIdx?_eq_some_iff_getElem.1 h
  have he:l[i]=d:=by simpa using he
  show decide (((i:Nat):Int) ≥ 0)=_
  rw[decide_eq_true (show((i:Nat):Int) ≥ 0 by omega),decide_eq_true (show d∈l by rw[<-he];exact List.getElem_mem _)]
theorem Zvr(l:List Dd)(a:Option Addr)(c:Nat)(d:Dd)(m:Mem)(hl:l.length<=1000000000000000)(hr:rowRd m a (l.map dC).flatten):
  CX Tryz.prog 12 #[.slice a l.length c,dV d] m [] (Ret (.bool (decide (d∈l)))):=by
 apply Za3
 intro b m1 aV _
 refine Zav (Zpv l a c d m1 hl (hr.mono aV)) λm2 bA=>Zac (mLt aV bA) ?_
 show Value.bool _=Value.bool _
 rw[Zxa]
theorem Ztt{α:Type}{cs:α->List Value}{n:Nat}(hn:∀x,(cs x).length=n){m:Mem}{a:Option Addr}{L:List α}{c:Nat}(h:rowRd m a (L.map cs).flatten){i:Nat}(hi:i<=L.length)(hc:L.length<=c):rowRd m (ZaT a i c n) ((L.drop i).map cs).flatten:=by
 rcases Nat.lt_or_ge i L.length with bB|dF
 ·unfold ZaT
  cases h0:Nat.beq i 0 with
  | true=>
   have:i=0:=Nat.eq_of_beq_eq_true h0
   subst this;exact h
  | false=>
   have vP:Nat.beq c i=false:=by
    cases hb:Nat.beq c i with
    | false=>rfl
    | true=>have:=Nat.eq_of_beq_eq_true hb;omega
   rw[vP]
   rcases h with h|⟨b,o,ha,h⟩
   ·have h2:=congrArg List.length h
    rw[Zdw hn]at h2
    refine .inl (List.eq_nil_of_length_eq_zero ?_)
    rw[Zdw hn,List.length_drop]
    have h2:L.length*n=0:=by simpa using h2
    rcases Nat.mul_eq_zero.1 h2 with e|e
    ·omega
    ·rw[e,Nat.mul_zero]
   ·refine .inr ⟨b,o+i*n,by rw[ha];show some (Addr.add _ (i*n))=_;rw[ZbN],λj v hj=>?_⟩
    have e:(L.map cs).flatten=((L.take i).map cs).flatten++((L.drop i).map cs).flatten:=by rw[<-List.flatten_append,<-List.map_append,List.take_append_drop]
    have hl:((L.take i).map cs).flatten.length=i*n:=by rw[Zdw hn,List.length_take,Nat.min_eq_left (by omega)]
    rw[Nat.add_assoc]
    refine h (i*n+j) v ?_
    rw[e,List.getElem?_append_right (by omega),hl,Nat.add_sub_cancel_left];exact hj
 ·exact .inl (by rw[List.drop_of_length_le dF];rfl)
def ZrL(b:Bool)(e:Int):Value:=.tuple #[.bool b,.int .i64 e]
theorem ZdJ{b e}:∀(v:Value)(m':Mem) (css:List (List Value)),Ret (ZrL b e) v m' css->Shape.fits (.tup [.bool,.int .i64]) v=true:=λv _ _ e=>by rw[show v=_ from e];rfl
theorem Ze0{b b':Bool}{e e':Int}{m':Mem}(h:Ret (ZrL b e) (.tuple #[.bool b',.int .i64 e']) m' []):b'=b/\e'=e:=by
 have h:Value.tuple #[.bool b',.int .i64 e']=ZrL b e:=h
 unfold ZrL at h
 simpa using h
theorem Zpw(s:Sc)(l:List Dd)(a:Option Addr)(c:Nat)(m:Mem)(hr:RepC m s)(hl:l.length<=1000000000000000)(bF:rowRd m a (l.map dC).flatten):CX Tryz.prog 11 #[s.v,.slice a l.length c] m [] (Ret (if okS s then ZrL (ZpD (ZbH s) l) 0 else ZrL false 400)):=by
 apply Ziw
 intro b m1 aV _
 have bT:=Zpu hr
 refine Zaj (ZnG s m1 (hr.mono aV)) Zic λa1 n1 c1 e m2 bA hv=>?_
 have hv:=Zlk hv
 have eW:=mLt aV bA
 cases cW:okS s with
 | false=>
  rw[cW]at hv
  obtain⟨rfl,rfl,rfl,rfl⟩:=hv
  exact ZpM rfl (Zac eW rfl)
 | true=>
  rw[cW]at hv
  obtain⟨rfl,rfl,hc,pF⟩:=hv
  refine Ze8 rfl ⟨λxs _ _ m' q=>∃(i:Nat)(A:List Dd)(a':Option Addr)(c':Nat),i<=l.length/\xs=[.slice a' A.length c',.int .i64 i]/\A.length<=c'/\A.length<=10000000000/\rowRd m' a' (A.map dC).flatten/\ZpD (ZbH s) l=ZpD A (l.drop i)/\q=l.length - i,⟨l.length,0,ZbH s,a1,c1,by omega,rfl,hc,bT,pF,rfl,rfl⟩,?_⟩
  rintro a2 n2 c2 i0 m3 q bS ⟨i,A,a',c',hi,hx,vQ,wF,lY,dA,rfl⟩
  simp only[List.cons.injEq,Value.slice.injEq,Value.int.injEq,true_and,and_true]at hx
  obtain⟨⟨rfl,rfl,rfl⟩,rfl⟩:=hx
  have eX:=mLt eW bS
  refine Zau (λbB=>?_) (λdF=>Zac eX ?_)
  ·obtain⟨d,hd⟩:=Zdb (show i < l.length by omega)
   obtain⟨b3,o3,f4,oV⟩:=Zam Zlj (bF.mono eX) hd (by omega)
   have kq:l.drop i=d::l.drop (i+1):=Zow hd
   refine⟨b3,o3,f4,⟨by omega,bB⟩,_,_,oV,λb4=>Zaa rfl (Zav (Zpv A a2 c2 d m3 (by omega) lY) λm4 cR=>?_)⟩
   have eC:ZpD (ZbH s) l=(match A.findIdx? (· == d)with
    | none=>false
    | some j=>ZpD (A.drop (j+1)) (l.drop (i+1))):=by rw[dA,kq,ZpD];rfl
   unfold ZxH
   cases hf:A.findIdx? (· == d)with
   | none=>
    rw[hf]at eC
    refine ZpM (by decide) (Zac (mLt eX cR) ?_)
    show _=ZrL (ZpD (ZbH s) l) 0
    rw[eC];rfl
   | some j=>
    rw[hf]at eC
    obtain⟨tx,_,_⟩:=List.findIdx?_eq_some_iff_getElem.1 hf
    have pG:IntKind.i64.wrap ((j:Int)+1)=((j+1:Nat):Int):=by rw[Zal (by omega) (by omega)];rfl
    refine Zau (λh=>absurd (show((j:Nat):Int) < 0 from h) (by omega)) (λ_=>?_)
    show((0:Int)<=IntKind.i64.wrap ((j:Int)+1)/\IntKind.i64.wrap ((j:Int)+1)<=_)/\_
    rw[pG,Int.toNat_natCast]
    refine⟨⟨by omega,by omega⟩,rfl,l.length - (i+1),by omega,i+1,A.drop (j+1),_,_,by omega,by rw[List.length_drop,Zal (n:=(i:Int)+1) (by omega) (by omega)];rfl,by rw[List.length_drop];omega,by rw[List.length_drop];omega,(Ztt Zlj lY (by omega) vQ).mono cR,eC,rfl⟩
  ·have:i=l.length:=by omega
   subst this
   show _=ZrL (ZpD (ZbH s) l) 0
   rw[dA,List.drop_length]
   cases A <;> rfl
end Go.Proofs.YtojlhhphofhaoaaGreatDoor
namespace Go.Proofs.YtojlhhphofhaoaaGreatDoor
open Go Go.Eng Go.Proofs Go.RowKit
open Go.Value (int slice agg bool string tuple func)
open Go.IntKind (u8 u64 i64)
set_option maxRecDepth 100000
noncomputable def Zpx:Env:=EB
theorem Znj(p0a:Option Addr)(p0n p0c:Nat)(m:Mem)(R:RT)(h:
 ∀(b b:Nat),Mem.free m b->∃(m'':Mem),Mem.le m m''/\Mem.le m'' (Mem.add m b [string (ByteArray.mk (Array.mk [(97:UInt8)])),slice p0a p0n p0c])/\R (agg (Array.mk [int i64 4,slice none 0 0,slice (some
 (Addr.mk b 0 none)) 1 1])) m'' []):CX Tryz.prog 26 #[.slice p0a p0n p0c] m [] R:=
 Zad (E:=Zpx) Zak mix Tryz.func26 [.v (.slice p0a p0n p0c)] [] (by kernel_rfl) (Eq.mp (by kernel_rfl) h)
noncomputable def ZhP:Env:=EB
theorem ZgE(p0:Int)(m:Mem)(R:RT)(h:
 ∀(b:Nat),∃(m'':Mem),Mem.le m m''/\Mem.le m'' m/\R (agg (Array.mk [int u8 4,bool false,bool false,int u8 0,int u64 0,int u64 0,int u64 0,int u64 0,int i64 0,int i64 0,slice none 0 0,string
 (ByteArray.mk (Array.mk [])),int i64 p0,slice none 0 0,string (ByteArray.mk (Array.mk [])),int i64 0])) m'' []):CX Tryz.prog 27 #[.int .i64 p0] m [] R:=
 Zad (E:=ZhP) Zak mix Tryz.func27 [.v (.int .i64 p0)] [] (by kernel_rfl) (Eq.mp (by kernel_rfl) h)
noncomputable def Zll:Env:=EB
theorem Zi5  (m:Mem)(R:RT)(h:
 ∀(b:Nat),∃(m'':Mem),Mem.le m m''/\Mem.le m'' m/\R (agg (Array.mk [int u8 2,bool false,bool false,int u8 0,int u64 0,int u64 0,int u64 0,int u64 0,int i64 0,int i64 0,slice none 0 0,string
 (ByteArray.mk (Array.mk [(97:UInt8)])),int i64 0,slice none 0 0,string (ByteArray.mk (Array.mk [])),int i64 0])) m'' []):CX Tryz.prog 28 #[] m [] R:=
 Zad (E:=Zll) Zak mix Tryz.func28 [] [] (by kernel_rfl) (Eq.mp (by kernel_rfl) h)
noncomputable def Zpy:Env:=EB
theorem Znk  (m:Mem)(R:RT)(h:
 ∀(b:Nat),∃(m'':Mem),Mem.le m m''/\Mem.le m'' m/\R (agg (Array.mk [int u8 3,bool false,bool false,int u8 0,int u64 0,int u64 0,int u64 0,int u64 0,int i64 0,int i64 0,slice none 0 0,string
 (ByteArray.mk (Array.mk [])),int i64 0,slice none 0 0,string (ByteArray.mk (Array.mk [])),int i64 0])) m'' []):CX Tryz.prog 29 #[] m [] R:=
 Zad (E:=Zpy) Zak mix Tryz.func29 [] [] (by kernel_rfl) (Eq.mp (by kernel_rfl) h)
noncomputable def Zlm:Env:={ EB with
 joins:=(λi=>bif Nat.beq i 12 then some [(0,.bool)]else none) }
abbrev ZbI:List Shape:=[Shape.int u8,Shape.bool,Shape.bool,Shape.int u8,Shape.int u64,Shape.int u64,Shape.int u64,Shape.int u64,Shape.int i64,Shape.int i64,Shape.slice,Shape.str,Shape.int i64,
 Shape.slice,Shape.str,Shape.int i64]
abbrev ZbJ:Int->Bool->Bool->Int->Int->Int->Int->Int->Int->Int->Option Addr->Nat->Nat->ByteArray->Int->Option Addr->Nat->Nat->ByteArray->Int->List Value:=λ(n:Int)(b aa:Bool) (ab
 ac ad ae af ag ah:Int) (a:Option Addr) (ai c:Nat) (s:ByteArray) (aj:Int) (ak:Option Addr) (al am:Nat) (an:ByteArray) (ao:Int)=>[int u8 n,bool b,bool aa,int u8 ab,int u64 ac,int u64 ad,int u64
 ae,int u64 af,int i64 ag,int i64 ah,slice a ai c,string s,int i64 aj,slice ak al am,string an,int i64 ao]
abbrev Zdz(n:Int)(b aa:Bool)(ab ac ad ae af ag ah:Int)(a:Option Addr)(ai c:Nat)(s:ByteArray)(aj:Int)(ak:Option Addr)(al am:Nat)(an:ByteArray)(ao aw:Int)(ax ay:Bool)(az a0
 a1 a2 a3 a4 a5:Int) (en:Option Addr) (a7 a8:Nat) (a9:ByteArray) (ba:Int) (eo:Option Addr) (bc bd:Nat) (be:ByteArray) (bf bg:Int) (bh bi:Bool) (bj bk bl bm bn bo bp:Int) (a6:Option Addr) (bs bt:
 Nat) (bu:ByteArray) (bv:Int) (bb:Option Addr) (bx bz:Nat) (ca:ByteArray) (cb cc:Int) (cd ce:Bool) (cf cg ch ci cj ck cl:Int) (ep:Option Addr) (cm cn:Nat) (co:ByteArray) (cp:Int) (eq:Option
 Addr) (cq cr:Nat) (cs:ByteArray) (ct cu:Int) (cv cw:Bool) (cx cy cz da db dc dd:Int) (bq:Option Addr) (de df:Nat) (dg:ByteArray) (dh:Int) (bw:Option Addr) (di dj:Nat) (dk:ByteArray) (dl dm:Int)
 (dn dp:Bool) (dq dr ds dt du dv dw:Int) (er:Option Addr) (dx dy:Nat) (dz:ByteArray) (d0:Int) (es:Option Addr) (d1 d2:Nat) (d3:ByteArray) (d4:Int):List Value:=[int u8 n,bool b,bool aa,int u8
 ab,int u64 ac,int u64 ad,int u64 ae,int u64 af,int i64 ag,int i64 ah,slice a ai c,string s,int i64 aj,slice ak al am,string an,int i64 ao,int u8 aw,bool ax,bool ay,int u8 az,int u64 a0,int u64 a1,int
 u64 a2,int u64 a3,int i64 a4,int i64 a5,slice en a7 a8,string a9,int i64 ba,slice eo bc bd,string be,int i64 bf,int u8 bg,bool bh,bool bi,int u8 bj,int u64 bk,int u64 bl,int u64 bm,int u64 bn,int i64
 bo,int i64 bp,slice a6 bs bt,string bu,int i64 bv,slice bb bx bz,string ca,int i64 cb,int u8 cc,bool cd,bool ce,int u8 cf,int u64 cg,int u64 ch,int u64 ci,int u64 cj,int i64 ck,int i64 cl,slice ep cm
 cn,string co,int i64 cp,slice eq cq cr,string cs,int i64 ct,int u8 cu,bool cv,bool cw,int u8 cx,int u64 cy,int u64 cz,int u64 da,int u64 db,int i64 dc,int i64 dd,slice bq de df,string dg,int i64 dh,
 slice bw di dj,string dk,int i64 dl,int u8 dm,bool dn,bool dp,int u8 dq,int u64 dr,int u64 ds,int u64 dt,int u64 du,int i64 dv,int i64 dw,slice er dx dy,string dz,int i64 d0,slice es d1 d2,string d3,
 int i64 d4]
abbrev Zi6:Nat->Option Box:=λ(b:Nat)=>some (Box.mk b [int i64 0,int i64 5,int i64 0,int i64 0] 37 4 true true)
abbrev Zi7:Nat->Option Box:=λ(b:Nat)=>some (Box.mk b [int i64 0,int i64 0,int i64 0,int i64 5] 37 4 true true)
abbrev Zi8:Nat->Option Box:=λ(b:Nat)=>some (Box.mk b [int i64 0,int i64 0,int i64 0,int i64 4,int i64 0,int i64 5] 37 6 true true)
abbrev Zi9(n:Int)(b aa:Bool)(ab ac ad ae af ag ah:Int)(a:Option Addr)(ai c:Nat)(s:ByteArray)(aj:Int)(ak:Option Addr)(al am:Nat)(an:ByteArray)(ao aw:Int)(ax ay:Bool)(az a0
 a1 a2 a3 a4 a5:Int) (en:Option Addr) (a7 a8:Nat) (a9:ByteArray) (ba:Int) (eo:Option Addr) (bc bd:Nat) (be:ByteArray) (bf bg:Int) (bh bi:Bool) (bj bk bl bm bn bo bp:Int) (a6:Option Addr) (bs bt:
 Nat) (bu:ByteArray) (bv:Int) (bb:Option Addr) (bx bz:Nat) (ca:ByteArray) (cb cc:Int) (cd ce:Bool) (cf cg ch ci cj ck cl:Int) (ep:Option Addr) (cm cn:Nat) (co:ByteArray) (cp:Int) (eq:Option
 Addr) (cq cr:Nat) (cs:ByteArray) (ct cu:Int) (cv cw:Bool) (cx cy cz da db dc dd:Int) (bq:Option Addr) (de df:Nat) (dg:ByteArray) (dh:Int) (bw:Option Addr) (di dj:Nat) (dk:ByteArray) (dl dm:Int)
 (dn dp:Bool) (dq dr ds dt du dv dw:Int) (er:Option Addr) (dx dy:Nat) (dz:ByteArray) (d0:Int) (es:Option Addr) (d1 d2:Nat) (d3:ByteArray) (d4:Int) (d8:Nat):Option Box:=some (Box.mk d8
 (Zdz n b aa ab ac ad ae af ag ah a ai c s aj ak al am an ao aw ax ay az a0 a1 a2 a3 a4 a5 en a7 a8 a9 ba eo bc bd be bf bg bh bi bj bk bl bm bn bo bp a6 bs bt bu bv bb bx bz ca cb cc cd ce cf cg ch ci cj ck
 cl ep cm cn co cp eq cq cr cs ct cu cv cw cx cy cz da db dc dd bq de df dg dh bw di dj dk dl dm dn dp dq dr ds dt du dv dw er dx dy dz d0 es d1 d2 d3 d4) 57 96 true true)
abbrev ZcE(n:Int)(b aa:Bool)(ab ac ad ae af ag ah:Int)(a:Option Addr)(ai c:Nat)(s:ByteArray)(aj:Int)(ak:Option Addr)(al am:Nat)(an:ByteArray)(ao aw:Int)(ax ay:Bool)(az a0
 a1 a2 a3 a4 a5:Int) (en:Option Addr) (a7 a8:Nat) (a9:ByteArray) (ba:Int) (eo:Option Addr) (bc bd:Nat) (be:ByteArray) (bf bg:Int) (bh bi:Bool) (bj bk bl bm bn bo bp:Int) (a6:Option Addr) (bs bt:
 Nat) (bu:ByteArray) (bv:Int) (bb:Option Addr) (bx bz:Nat) (ca:ByteArray) (cb cc:Int) (cd ce:Bool) (cf cg ch ci cj ck cl:Int) (ep:Option Addr) (cm cn:Nat) (co:ByteArray) (cp:Int) (eq:Option
 Addr) (cq cr:Nat) (cs:ByteArray) (ct cu:Int) (cv cw:Bool) (cx cy cz da db dc dd:Int) (bq:Option Addr) (de df:Nat) (dg:ByteArray) (dh:Int) (bw:Option Addr) (di dj:Nat) (dk:ByteArray) (dl dm:Int)
 (dn dp:Bool) (dq dr ds dt du dv dw:Int) (er:Option Addr) (dx dy:Nat) (dz:ByteArray) (d0:Int) (es:Option Addr) (d1 d2:Nat) (d3:ByteArray) (d4:Int) (d8:Nat) (ap:Int) (d9:Option Addr) (aq ar:
 Nat) (ea:Option Addr) (au av ej ev ex ez e0:Nat):List (Option Box):=[some (Box.mk e0 [int i64 0,int i64 2] 37 2 true true),Zi6 ez,Zi7 ex,Zi8 ev,some (Box.mk ej [int i64 ap,
 slice d9 aq ar,slice ea au av] 30 3 false true),Zi9 n b aa ab ac ad ae af ag ah a ai c s aj ak al am an ao aw ax ay az a0 a1 a2 a3 a4 a5 en a7 a8 a9 ba eo bc bd be bf bg bh bi bj bk bl bm bn bo bp a6 bs bt
 bu bv bb bx bz ca cb cc cd ce cf cg ch ci cj ck cl ep cm cn co cp eq cq cr cs ct cu cv cw cx cy cz da db dc dd bq de df dg dh bw di dj dk dl dm dn dp dq dr ds dt du dv dw er dx dy dz d0 es d1 d2 d3 d4 d8]
theorem Zja  (m:Mem)(R:RT)(h:
 ∃(R_1:RT),True/\CX Tryz.prog 27 (Array.mk [int i64 5]) m [] R_1/\Zap (Shape.agg ZbI) R_1/\∀(n:Int)(b aa:Bool)(ab ac ad ae af ag ah:Int)(a:Option Addr)(ai c:Nat)(s:ByteArray) (aj:
 Int) (ak:Option Addr) (al am:Nat) (an:ByteArray) (ao:Int) (m':Mem),Mem.le m m'->R_1 (agg (Array.mk (ZbJ n b aa ab ac ad ae af ag ah a ai c s aj ak al am an ao))) m' []->∃(R_2:RT),True/\CX
 Tryz.prog 28 (Array.mk []) m' [] R_2/\Zap (Shape.agg ZbI) R_2/\∀(aw:Int)(ax ay:Bool)(az a0 a1 a2 a3 a4 a5:Int)(a6:Option Addr)(a7 a8:Nat)(a9:ByteArray)(ba:Int)(bb:Option Addr) (bc
 bd:Nat) (be:ByteArray) (bf:Int) (et:Mem),Mem.le m' et->R_2 (agg (Array.mk (ZbJ aw ax ay az a0 a1 a2 a3 a4 a5 a6 a7 a8 a9 ba bb bc bd be bf))) et []->∃(R_3:RT),True/\CX Tryz.prog 27 (Array.mk
 [int i64 3]) et [] R_3/\Zap (Shape.agg ZbI) R_3/\∀(bg:Int)(bh bi:Bool)(bj bk bl bm bn bo bp:Int)(bq:Option Addr)(bs bt:Nat)(bu:ByteArray)(bv:Int)(bw:Option Addr)(bx bz:Nat) (ca:
 ByteArray) (cb:Int) (m':Mem),Mem.le et m'->R_3 (agg (Array.mk (ZbJ bg bh bi bj bk bl bm bn bo bp bq bs bt bu bv bw bx bz ca cb))) m' []->∃(R_4:RT),True/\CX Tryz.prog 29 (Array.mk []) m' [] R_4/\
 Zap (Shape.agg ZbI) R_4/\∀(cc:Int)(cd ce:Bool)(cf cg ch ci cj ck cl:Int)(d9:Option Addr)(cm cn:Nat)(co:ByteArray)(cp:Int)(ea:Option Addr)(cq cr:Nat)(cs:ByteArray)(ct:Int)
 (eu:Mem),Mem.le m' eu->R_4 (agg (Array.mk (ZbJ cc cd ce cf cg ch ci cj ck cl d9 cm cn co cp ea cq cr cs ct))) eu []->∃(R_5:RT),True/\CX Tryz.prog 27 (Array.mk [int i64 3]) eu [] R_5/\Zap
 (Shape.agg ZbI) R_5/\∀(cu:Int)(cv cw:Bool)(cx cy cz da db dc dd:Int)(ef:Option Addr)(de df:Nat)(dg:ByteArray)(dh:Int)(eg:Option Addr)(di dj:Nat)(dk:ByteArray)(dl:Int) (m':
 Mem),Mem.le eu m'->R_5 (agg (Array.mk (ZbJ cu cv cw cx cy cz da db dc dd ef de df dg dh eg di dj dk dl))) m' []->∃(R_6:RT),True/\CX Tryz.prog 29 (Array.mk []) m' [] R_6/\Zap (Shape.agg
 ZbI) R_6/\∀(dm:Int)(dn dp:Bool)(dq dr ds dt du dv dw:Int)(eh:Option Addr)(dx dy:Nat)(dz:ByteArray)(d0:Int)(ei:Option Addr)(d1 d2:Nat)(d3:ByteArray)(d4:Int)(ek:Mem),Mem.le
 m' ek->R_6 (agg (Array.mk (ZbJ dm dn dp dq dr ds dt du dv dw eh dx dy dz d0 ei d1 d2 d3 d4))) ek []->∀(d8:Nat),Mem.free ek d8->∃(R_7:RT),True/\CX Tryz.prog 26 (Array.mk [slice (some (Addr.mk d8 0
 none)) 6 6]) (Mem.add ek d8 (Zdz n b aa ab ac ad ae af ag ah a ai c s aj ak al am an ao aw ax ay az a0 a1 a2 a3 a4 a5 a6 a7 a8 a9 ba bb bc bd be bf bg bh bi bj bk bl bm bn bo bp bq bs bt bu bv bw bx bz ca cb
 cc cd ce cf cg ch ci cj ck cl d9 cm cn co cp ea cq cr cs ct cu cv cw cx cy cz da db dc dd ef de df dg dh eg di dj dk dl dm dn dp dq dr ds dt du dv dw eh dx dy dz d0 ei d1 d2 d3 d4)) [] R_7/\Zap (Shape.agg [Shape.int
 i64,Shape.slice,Shape.slice]) R_7/\∀(ap:Int)(d5:Option Addr)(aq ar:Nat)(d6:Option Addr)(au av:Nat)(m':Mem),Mem.le (Mem.add ek d8 (Zdz n b aa ab ac ad ae af ag ah a ai c s aj ak al am an
 ao aw ax ay az a0 a1 a2 a3 a4 a5 a6 a7 a8 a9 ba bb bc bd be bf bg bh bi bj bk bl bm bn bo bp bq bs bt bu bv bw bx bz ca cb cc cd ce cf cg ch ci cj ck cl d9 cm cn co cp ea cq cr cs ct cu cv cw cx cy cz da db dc dd ef de
 df dg dh eg di dj dk dl dm dn dp dq dr ds dt du dv dw eh dx dy dz d0 ei d1 d2 d3 d4)) m'->R_7 (agg (Array.mk [int i64 ap,slice d5 aq ar,slice d6 au av])) m' []->∀(ej:Nat),∃(R_8:RT),True/\CX Tryz.prog 18
 (Array.mk [agg (Array.mk [int i64 ap,slice d5 aq ar,slice d6 au av]),int i64 0]) m' [] R_8/\Zap (Shape.tup [Shape.int i64,Shape.bool,Shape.int i64]) R_8/\∀(e2:Int)(ev:Bool)(e3:Int)(ew:Mem),Mem.le m'
 ew->R_8 (tuple (Array.mk [int i64 e2,bool ev,int i64 e3])) ew []->∃(R_9:RT),True/\CX Tryz.prog 19 (Array.mk [agg (Array.mk [int i64 ap,slice d5 aq ar,slice d6 au av]),int i64 0]) ew [] R_9/\Zap (Shape.tup
 [Shape.int i64,Shape.bool,Shape.int i64]) R_9/\∀(e4:Int)(ex:Bool)(e5:Int)(m':Mem),Mem.le ew m'->R_9 (tuple (Array.mk [int i64 e4,bool ex,int i64 e5])) m' []->∃(R_10:RT),True/\CX Tryz.prog 10
 (Array.mk [agg (Array.mk [int i64 ap,slice d5 aq ar,slice d6 au av])]) m' [] R_10/\Zap (Shape.tup [Shape.slice,Shape.int i64]) R_10/\∀(e6:Option Addr)(e7 e8:Nat)(e9:Int)(ey:Mem),Mem.le m' ey->R_10
 (tuple (Array.mk [slice e6 e7 e8,int i64 e9])) ey []->∃(R_11:RT),True/\CX Tryz.prog 20 (Array.mk [agg (Array.mk [int i64 ap,slice d5 aq ar,slice d6 au av]),int i64 0,int i64 3]) ey [] R_11/\Zap (Shape.tup
 [Shape.int i64,Shape.bool,Shape.int i64]) R_11/\∀(fa:Int)(ez:Bool)(fb:Int)(m':Mem),Mem.le ey m'->R_11 (tuple (Array.mk [int i64 fa,bool ez,int i64 fb])) m' []->∃(R_12:RT),True/\CX Tryz.prog 20
 (Array.mk [agg (Array.mk [int i64 ap,slice d5 aq ar,slice d6 au av]),int i64 0,int i64 5]) m' [] R_12/\Zap (Shape.tup [Shape.int i64,Shape.bool,Shape.int i64]) R_12/\∀(fk:Int)(e0:Bool)(fc:Int) (d7:
 Mem),Mem.le m' d7->R_12 (tuple (Array.mk [int i64 fk,bool e0,int i64 fc])) d7 []->br (!IntKind.wrap i64 (IntKind.wrap i64 (IntKind.wrap i64 (IntKind.wrap i64 (e3+e5)+e9)+fb)+fc) == (0:Int)) (∃(m'':
 Mem),Mem.le m m''/\Mem.le m'' d7/\R (bool false) m'' []) (br (!e2 == (2:Int)) (∃(m'':Mem),Mem.le m m''/\Mem.le m'' d7/\R (bool false) m'' []) (br (!ev) (∃(m'':Mem),Mem.le m m''/\Mem.le m'' d7/\R (bool
 false) m'' []) (br (!e4 == (3:Int)) (∃(m'':Mem),Mem.le m m''/\Mem.le m'' d7/\R (bool false) m'' []) (br (!ex) (∃(m'':Mem),Mem.le m m''/\Mem.le m'' d7/\R (bool false) m'' []) (br (!fa == (2:Int)) (∃(m''
 : Mem),Mem.le m m''/\Mem.le m'' d7/\R (bool false) m'' []) (br (!ez) (∃(m'':Mem),Mem.le m m''/\Mem.le m'' d7/\R (bool false) m'' []) (br e0 (∃(m'':Mem),Mem.le m m''/\Mem.le m'' d7/\R (bool false) m'' [])
 (∀(eb:Nat),Mem.free d7 eb->∃(R_13:RT),True/\CX Tryz.prog 30 (Array.mk [slice e6 e7 e8,slice (some (Addr.mk eb 0 none)) 3 3]) (Mem.add d7 eb [int i64 0,int i64 0,int i64 0,int i64 4,int i64 0,int i64 5])
 [] R_13/\Zap Shape.bool R_13/\∀(fd:Bool)(m':Mem),Mem.le (Mem.add d7 eb [int i64 0,int i64 0,int i64 0,int i64 4,int i64 0,int i64 5]) m'->R_13 (bool fd) m' []->br (!fd) (∃(m'':Mem),Mem.le m m''/\
 Mem.le m'' m'/\R (bool false) m'' []) (∀(ec:Nat),Mem.free m' ec->∃(R_14:RT),True/\CX Tryz.prog 11 (Array.mk [agg (Array.mk [int i64 ap,slice d5 aq ar,slice d6 au av]),slice (some (Addr.mk ec 0 none)) 2 2])
 (Mem.add m' ec [int i64 0,int i64 0,int i64 0,int i64 5]) [] R_14/\Zap (Shape.tup [Shape.bool,Shape.int i64]) R_14/\∀(fe:Bool)(ff:Int)(el:Mem),Mem.le (Mem.add m' ec [int i64 0,int i64 0,int i64 0,int
 i64 5]) el->R_14 (tuple (Array.mk [bool fe,int i64 ff])) el []->∀(ed:Nat),Mem.free el ed->∃(R_15:RT),True/\CX Tryz.prog 11 (Array.mk [agg (Array.mk [int i64 ap,slice d5 aq ar,slice d6 au av]),slice (some
 (Addr.mk ed 0 none)) 2 2]) (Mem.add el ed [int i64 0,int i64 5,int i64 0,int i64 0]) [] R_15/\Zap (Shape.tup [Shape.bool,Shape.int i64]) R_15/\∀(fg:Bool)(fh:Int)(m':Mem),Mem.le (Mem.add el ed [int i64
 0,int i64 5,int i64 0,int i64 0]) m'->R_15 (tuple (Array.mk [bool fg,int i64 fh])) m' []->∀(ee:Nat),Mem.free m' ee->∃(R_16:RT),True/\CX Tryz.prog 11 (Array.mk [agg (Array.mk [int i64 ap,slice d5 aq ar,
 slice d6 au av]),slice (some (Addr.mk ee 0 none)) 1 1]) (Mem.add m' ee [int i64 0,int i64 2]) [] R_16/\Zap (Shape.tup [Shape.bool,Shape.int i64]) R_16/\∀(fi:Bool)(fj:Int)(e1:Mem),Mem.le (Mem.add m' ee
 [int i64 0,int i64 2]) e1->R_16 (tuple (Array.mk [bool fi,int i64 fj])) e1 []->∃(em:Bool),br (IntKind.wrap i64 (IntKind.wrap i64 (ff+fh)+fj) == (0:Int)) (br fe (br (!fg) (Zax (ZcE n b aa ab
 ac ad ae af ag ah a ai c s aj ak al am an ao aw ax ay az a0 a1 a2 a3 a4 a5 a6 a7 a8 a9 ba bb bc bd be bf bg bh bi bj bk bl bm bn bo bp bq bs bt bu bv bw bx bz ca cb cc cd ce cf cg ch ci cj ck cl d9 cm cn co cp ea cq cr
 cs ct cu cv cw cx cy cz da db dc dd ef de df dg dh eg di dj dk dl dm dn dp dq dr ds dt du dv dw eh dx dy dz d0 ei d1 d2 d3 d4 d8 ap d5 aq ar d6 au av ej eb ec ed ee)/\[bool !fi]=[bool em]) (Zax (ZcE n b
 aa ab ac ad ae af ag ah a ai c s aj ak al am an ao aw ax ay az a0 a1 a2 a3 a4 a5 a6 a7 a8 a9 ba bb bc bd be bf bg bh bi bj bk bl bm bn bo bp bq bs bt bu bv bw bx bz ca cb cc cd ce cf cg ch ci cj ck cl d9 cm cn co cp ea
 cq cr cs ct cu cv cw cx cy cz da db dc dd ef de df dg dh eg di dj dk dl dm dn dp dq dr ds dt du dv dw eh dx dy dz d0 ei d1 d2 d3 d4 d8 ap d5 aq ar d6 au av ej eb ec ed ee)/\[bool false]=[bool em])) (Zax
 (ZcE n b aa ab ac ad ae af ag ah a ai c s aj ak al am an ao aw ax ay az a0 a1 a2 a3 a4 a5 a6 a7 a8 a9 ba bb bc bd be bf bg bh bi bj bk bl bm bn bo bp bq bs bt bu bv bw bx bz ca cb cc cd ce cf cg ch ci cj ck
 cl d9 cm cn co cp ea cq cr cs ct cu cv cw cx cy cz da db dc dd ef de df dg dh eg di dj dk dl dm dn dp dq dr ds dt du dv dw eh dx dy dz d0 ei d1 d2 d3 d4 d8 ap d5 aq ar d6 au av ej eb ec ed ee)/\[bool false]=[bool
 em])) (Zax (ZcE n b aa ab ac ad ae af ag ah a ai c s aj ak al am an ao aw ax ay az a0 a1 a2 a3 a4 a5 a6 a7 a8 a9 ba bb bc bd be bf bg bh bi bj bk bl bm bn bo bp bq bs bt bu bv bw bx bz ca cb cc cd ce cf cg
 ch ci cj ck cl d9 cm cn co cp ea cq cr cs ct cu cv cw cx cy cz da db dc dd ef de df dg dh eg di dj dk dl dm dn dp dq dr ds dt du dv dw eh dx dy dz d0 ei d1 d2 d3 d4 d8 ap d5 aq ar d6 au av ej eb ec ed ee)/\[bool false]
 = [bool em])/\∃(m'':Mem),Mem.le m m''/\Mem.le m'' e1/\R (bool em) m'' [])))))))))):CX Tryz.prog 8 #[] m [] R:=
 Zad (E:=Zlm) Zak mix Tryz.func8 [] [] (by kernel_rfl) (Eq.mp (by kernel_rfl) h)
noncomputable def Zbp:Env:={ EB with
 loops:=(λi=>bif Nat.beq i 4 then⟨[(13,.int .i64)],[],[],false⟩ else⟨[],[],[],false⟩)
 dr:=(λi=>bif Nat.beq i 6 then[⟨0,[],[],none,[],[]⟩,⟨1,[],[],none,[],[]⟩,⟨2,[],[],none,[0,1],[]⟩,⟨3,[],[],none,[0,1,2],[]⟩,⟨4,[],[],none,[],[]⟩,⟨5,[],[],none,[],[]⟩,⟨6,[],[],none,[4,5],[]⟩,⟨7,[],[],none,[4,5,6],[]⟩,⟨8,[],[],none,[0,1,2,3,4,5,6,7],[]⟩]else[]) }
theorem Zbi(p0a:Option Addr)(p0n p0c:Nat)(p1a:Option Addr)(p1n p1c:Nat)(m:Mem)(R:RT)(h:
 br (!(↑p0n:Int) == (↑p1n:Int)) (∃(m'':Mem),Mem.le m m''/\Mem.le m'' m/\R (bool false) m'' []) (∃(I:IT),(∃(n:Nat),I [int i64 0] [] [] m n)/\∀(n:Int)(m':Mem)(n_1:Nat),Mem.le m m'->I [int i64
 n] [] [] m' n_1->br (decide (n < (↑p0n:Int))) (∃(b:Nat),∃(o:Nat),p0a=some (Addr.mk b o none)/\Zaf n p0n/\∃(v:Value),∃(v_1:Value),Mem.reads m' b (o+Int.toNat n*2) [v,v_1]/\∃(b:Nat),∃
 (o:Nat),p1a=some (Addr.mk b o none)/\Zaf n p1n/\∃(v_2:Value),∃(v_3:Value),Mem.reads m' b (o+Int.toNat n*2) [v_2,v_3]/\∃(b:Bool),EqIs Tryz.prog 37 (agg (Array.mk [v,v_1])) (agg (Array.mk
 [v_2,v_3])) b/\br (!b) (∃(m'':Mem),Mem.le m m''/\Mem.le m'' m'/\R (bool false) m'' []) (∃(n':Nat),n' < n_1/\I [int i64 (IntKind.wrap i64 (n+(1:Int)))] [] [] m' n')) (∃(m'':Mem),Mem.le m m''/\Mem.le
 m'' m'/\R (bool true) m'' []))):CX Tryz.prog 30 #[.slice p0a p0n p0c,.slice p1a p1n p1c] m [] R:=
 Zad (E:=Zbp) Zak mix Tryz.func30 [.v (.slice p0a p0n p0c),.v (.slice p1a p1n p1c)] [] (by kernel_rfl) (Eq.mp (by kernel_rfl) h)
end Go.Proofs.YtojlhhphofhaoaaGreatDoor
namespace Go.Proofs.YtojlhhphofhaoaaGreatDoor
open Go Go.Eng Go.Rx Go.Proofs Go.RowKit
set_option maxRecDepth 100000
def ruK(k n:Int)(s:ByteArray):Ru:=⟨k,false,false,T0,s,n,none,0,[],⟨#[]⟩,0⟩
def ZxI:List Ru:=[ruK 4 5 ⟨#[]⟩,ruK 2 0 ⟨#[97]⟩,ruK 4 3 ⟨#[]⟩,ruK 3 0 ⟨#[]⟩,ruK 4 3 ⟨#[]⟩,ruK 3 0 ⟨#[]⟩]
def exS(sa ra:Option Addr):Sc:=⟨4,none,0,[],sa,1,[⟨⟨#[97]⟩,ra,6,ZxI⟩]⟩
theorem ZzR(sa ra:Option Addr):okS (exS sa ra)=true:=by kernel_rfl
theorem Zx8(sa ra:Option Addr):ZbH (exS sa ra)=[((0:Int),(0:Int)),(0,4),(0,5)]:=by kernel_rfl
theorem ZzS(sa ra:Option Addr):ZhO toO (exS sa ra) 0=ZeB 2 true 0:=by kernel_rfl
theorem ZzT(sa ra:Option Addr):ZhO eoO (exS sa ra) 0=ZeB 3 true 0:=by kernel_rfl
theorem Zx9(sa ra:Option Addr):ZvQ (exS sa ra) 0 3=ZeB 2 true 0:=by kernel_rfl
theorem Zya(sa ra:Option Addr):ZvQ (exS sa ra) 0 5=ZeB 0 false 0:=by kernel_rfl
theorem ZxJ:ZpD [((0:Int),(0:Int)),(0,4),(0,5)] [(0,0),(0,5)]=true/\ZpD [((0:Int),(0:Int)),(0,4),(0,5)] [(0,5),(0,0)]=false/\ZpD [((0:Int),(0:Int)),(0,4),(0,5)] [(0,2)]=false:=by decide
theorem ZxK(n:Int)(m:Mem):CX Tryz.prog 27 #[.int .i64 n] m [] (Ret (.agg (ruK 4 n ⟨#[]⟩).cs.toArray)):=by
 apply ZgE
 exact λb=>Zac (Mem.le_refl _) rfl
theorem Zzi(m:Mem):CX Tryz.prog 28 #[] m [] (Ret (.agg (ruK 2 0 ⟨#[97]⟩).cs.toArray)):=by
 apply Zi5
 exact λb=>Zac (Mem.le_refl _) rfl
theorem ZyK(m:Mem):CX Tryz.prog 29 #[] m [] (Ret (.agg (ruK 3 0 ⟨#[]⟩).cs.toArray)):=by
 apply Znk
 exact λb=>Zac (Mem.le_refl _) rfl
theorem Zgi{r:Ru}:∀(v:Value)(m':Mem) (css:List (List Value)),Ret (.agg r.cs.toArray) v m' css->Shape.fits (.agg [.int .u8,.bool,.bool,.int .u8,.int .u64,.int .u64,.int .u64,.int .u64,.int .i64,.int .i64,.slice,.str,.int .i64,.slice,.str,.int .i64]) v=true:=λv _ _ h=>by rw[show v=_ from h];rfl
theorem Zuj{r:Ru}{m:Mem}{K:Int->Bool->Bool->Int->Int->Int->Int->Int->Int->Int->Option Addr->Nat->Nat->ByteArray->Int->Option Addr->Nat->Nat->ByteArray->Int->Mem->Prop}(k:∀m',m.le m'->K r.k r.bg r.en r.t.k r.t.s0 r.t.s1 r.t.s2 r.t.s3 r.t.mn r.t.mx r.t.a r.t.subs.length r.t.c r.s r.n r.aa r.acts.length r.ac r.go r.code m'):
  ∀(k1:Int)(k2 k3:Bool)(k4 k5 k6 k7 k8 k9 k10:Int)(ka:Option Addr)(kb kc:Nat)(ks:ByteArray)(kd:Int)(ke:Option Addr)(kf kg:Nat)(kh:ByteArray)(ki:Int)(m':Mem),m.le m'->Ret (.agg r.cs.toArray) (.agg #[.int .u8 k1,.bool k2,.bool k3,.int .u8 k4,.int .u64 k5,.int .u64 k6,.int .u64 k7,.int .u64 k8,.int .i64 k9,.int .i64 k10,.slice ka kb kc,.string ks,.int .i64 kd,.slice ke kf kg,.string kh,.int .i64 ki]) m' []->K k1 k2 k3 k4 k5 k6 k7 k8 k9 k10 ka kb kc ks kd ke kf kg kh ki m':=by
 intro k1 k2 k3 k4 k5 k6 k7 k8 k9 k10 ka kb kc ks kd ke kf kg kh ki m' hm hv
 have hv:Value.agg _=Value.agg r.cs.toArray:=hv
 simp only[Ru.cs,Value.agg.injEq,Array.mk.injEq,List.cons.injEq,Value.int.injEq,Value.bool.injEq,Value.string.injEq,Value.slice.injEq,true_and,and_true]at hv
 obtain⟨rfl,rfl,rfl,rfl,rfl,rfl,rfl,rfl,rfl,rfl,⟨rfl,rfl,rfl⟩,rfl,rfl,⟨rfl,rfl,rfl⟩,rfl,rfl⟩:=hv
 exact k m' hm
theorem Zyb{m:Mem}{k n:Int}{s:ByteArray}(hk:0<=k/\k < 256)(hn:I64 n)(hs:s.size<=1000000000000000):RepR m (ruK k n s):=⟨hk,ZwW m,hs,hn,by show 0<=few;omega,.inl rfl,by simp[ruK],by show(ByteArray.mk #[]).size<=_;decide,by show I64 0;unfold I64;omega⟩
def ZzH(l:List Ru)(a:Option Addr)(c:Nat):Value->Mem->List (List Value)->Prop:=λv m' _=>∃sa,v=(⟨4,none,0,[],sa,1,[⟨⟨#[97]⟩,a,c,l⟩]⟩:Sc).v/\rowRd m' sa [.string ⟨#[97]⟩,.slice a l.length c]
theorem Zvs{l a c}:∀(v:Value)(m':Mem) (css:List (List Value)),ZzH l a c v m' css->Shape.fits (.agg [.int .i64,.slice,.slice]) v=true:=λv _ _ ⟨_,h,_⟩=>by rw[h];rfl
theorem Zxb(l:List Ru)(a:Option Addr)(c:Nat)(m:Mem):CX Tryz.prog 26 #[.slice a l.length c] m [] (ZzH l a c):=by
 apply Znj
 intro b b2 hf
 exact ZaQ (Mem.le_add hf _) ⟨_,rfl,Zbk⟩
theorem Ztu(l r:List Dd)(a a':Option Addr)(c c':Nat)(m:Mem)(hl:l.length<=1000000000000000)(h1:rowRd m a (l.map dC).flatten)(h2:rowRd m a' (r.map dC).flatten):
  CX Tryz.prog 30 #[.slice a l.length c,.slice a' r.length c'] m [] (Ret (.bool (decide (l=r)))):=by
 apply Zbi
 refine Zab (λh=>Zac (Mem.le_refl _) ?_) (λh=>?_)
 ·have dS:¬(l.length:Int)=r.length:=by simpa using h
  show Value.bool false=Value.bool _
  rw[decide_eq_false (λe=>dS (by rw[e]))]
 have bT:l.length=r.length:=by
  have:(l.length:Int)=r.length:=by simpa using h
  omega
 refine⟨λxs _ _ m' q=>∃i:Nat,i<=l.length/\xs=[.int .i64 i]/\l.take i=r.take i/\q=l.length - i,⟨l.length,0,by omega,rfl,rfl,rfl⟩,?_⟩
 rintro n m1 q aV ⟨i,hi,hx,heq,rfl⟩
 obtain rfl:n=i:=by simpa using hx
 refine Zau (λbB=>?_) (λdF=>Zac aV ?_)
 ·obtain⟨x,hx⟩:=Zdb (show i < l.length by omega)
  obtain⟨y,hy⟩:=Zdb (show i < r.length by omega)
  obtain⟨b1,o1,iO,eA⟩:=Zam Zlj (h1.mono aV) hx (by omega)
  obtain⟨b2,o2,mV,gS⟩:=Zam Zlj (h2.mono aV) hy (by omega)
  refine⟨b1,o1,iO,⟨by omega,bB⟩,_,_,eA,b2,o2,mV,⟨by omega,by omega⟩,_,_,gS,_,Zui x.1 x.2 y.1 y.2,Zab (λh=>Zac aV ?_) (λh=>?_)⟩
  ·have dS:¬x=y:=by
    intro e
    subst e;simp at h
   show Value.bool false=Value.bool _
   rw[decide_eq_false (λe=>dS (by subst e;rw[hx]at hy;exact Option.some.inj hy))]
  ·have e:x=y:=by
    have:(x.1,x.2)=(y.1,y.2):=by simpa using h
    exact this
   subst e
   exact⟨l.length - (i+1),by omega,i+1,by omega,by rw[Zal (by omega) (by omega)];rfl,by rw[List.take_add_one,List.take_add_one,hx,hy,heq],rfl⟩
 ·have hi:i=l.length:=by omega
  subst hi
  show Value.bool true=Value.bool _
  rw[List.take_length,bT,List.take_length]at heq
  rw[decide_eq_true heq]
set_option maxHeartbeats 2000000 in
theorem ZqQ(m:Mem):CX Tryz.prog 8 #[] m [] (Ret (.bool true)):=by
 apply Zja
 refine Zaj (ZxK 5 m) Zgi (Zuj λm1 aV=>Zaj (Zzi m1) Zgi (Zuj λm2 bA=>Zaj (ZxK 3 m2) Zgi (Zuj λm3 bS=>Zaj (ZyK m3) Zgi (Zuj λm4 cR=>Zaj (ZxK 3 m4) Zgi (Zuj λm5 dX=>Zaj (ZyK m5) Zgi (Zuj λm6 gX=>?_))))))
 intro b hf
 have jD:=mLt aV (mLt bA (mLt bS (mLt cR (mLt dX gX))))
 refine Zaj (Zxb ZxI (some ⟨b,0,none⟩) 6 _) Zvs ?_
 rintro n1 a1 n2 c2 a3 n3 c3 m7 iY ⟨sa,hv,bF⟩
 simp only[Sc.v,Value.agg.injEq,Array.mk.injEq,List.cons.injEq,Value.int.injEq,Value.slice.injEq,true_and,and_true]at hv
 obtain⟨rfl,⟨rfl,rfl,rfl⟩,rfl,rfl,rfl⟩:=hv
 have po:=mLt jD (mLt (Mem.le_add hf _) iY)
 have pH:rowRd m7 (some ⟨b,0,none⟩) (ZxI.map Ru.cs).flatten:=(show rowRd (m6.add b (ZxI.map Ru.cs).flatten) (some ⟨b,0,none⟩) (ZxI.map Ru.cs).flatten from Zbk).mono iY
 have hC:RepC m7 (exS a3 (some ⟨b,0,none⟩)):=by
  refine⟨by show I64 4;unfold I64;omega,by show 0<=few;omega,.inl rfl,by simp[exS],by show 1<=few;unfold few;omega,bF,?_,Nat.le_refl _,Nat.le_refl _⟩
  intro x hx
  have hx:x∈[(⟨⟨#[97]⟩,some ⟨b,0,none⟩,6,ZxI⟩:Sta)]:=hx
  rw[List.mem_singleton]at hx;subst hx
  refine⟨by show(ByteArray.mk #[97]).size<=_;decide,by show 6<=few;unfold few;omega,pH,?_⟩
  intro r hr
  have hr:r∈ZxI:=hr
  simp only[ZxI,List.mem_cons,List.not_mem_nil,or_false]at hr
  rcases hr with rfl|rfl|rfl|rfl|rfl|rfl <;> exact Zyb (by omega) (by unfold I64;omega) (by decide)
 have eT:ZhO toO (exS a3 (some ⟨b,0,none⟩)) 0=ZeB 2 true 0:=ZzS _ _
 have eE:ZhO eoO (exS a3 (some ⟨b,0,none⟩)) 0=ZeB 3 true 0:=ZzT _ _
 have e3:ZvQ (exS a3 (some ⟨b,0,none⟩)) 0 3=ZeB 2 true 0:=Zx9 _ _
 have e5:ZvQ (exS a3 (some ⟨b,0,none⟩)) 0 5=ZeB 0 false 0:=Zya _ _
 have eO:okS (exS a3 (some ⟨b,0,none⟩))=true:=ZzR _ _
 have eD:ZbH (exS a3 (some ⟨b,0,none⟩))=[((0:Int),(0:Int)),(0,4),(0,5)]:=Zx8 _ _
 have c1:=λM=>Zmb (exS a3 (some ⟨b,0,none⟩)) 0 M
 have c2:=λM=>Zx6 (exS a3 (some ⟨b,0,none⟩)) 0 M
 have c3:=λM=>Zw5 (exS a3 (some ⟨b,0,none⟩)) 0 3 M
 have c5:=λM=>Zw5 (exS a3 (some ⟨b,0,none⟩)) 0 5 M
 rw[eT]at c1;rw[eE]at c2;rw[e3]at c3;rw[e5]at c5
 intro b1
 refine Zaj (c1 m7 hC) ZfD λn4 b4 e4 m8 ge qu=>?_
 obtain⟨rfl,rfl,rfl⟩:=Zib qu
 refine Zaj (c2 m8 (hC.mono ge)) ZfD λn5 b5 e5' m9 kJ pf=>?_
 obtain⟨rfl,rfl,rfl⟩:=Zib pf
 have tO:=mLt ge kJ
 refine Zaj (ZnG (exS a3 (some ⟨b,0,none⟩)) m9 (hC.mono tO)) Zic λa6 n6 c6 e6 m10 mY lX=>?_
 have lX:=Zlk lX
 rw[eO]at lX
 obtain⟨rfl,rfl,_,js⟩:=lX
 have pI:=mLt tO mY
 refine Zaj (c3 m10 (hC.mono pI)) ZfD λn7 b7 e7 m11 nh vR=>?_
 obtain⟨rfl,rfl,rfl⟩:=Zib vR
 have pJ:=mLt pI nh
 refine Zaj (c5 m11 (hC.mono pJ)) ZfD λn8 b8 e8 m12 jz ir=>?_
 obtain⟨rfl,rfl,rfl⟩:=Zib ir
 have sw:=mLt pJ jz
 refine Ze8 rfl (Ze8 rfl (Ze8 rfl (Ze8 rfl (Ze8 rfl (Ze8 rfl (Ze8 rfl (Ze8 rfl λb9 tP=>?_)))))))
 have sx:=mLt sw (Mem.le_add tP (([((0:Int),(0:Int)),(0,4),(0,5)]:List Dd).map dC).flatten)
 have tQ:=Ztu (ZbH (exS a3 (some ⟨b,0,none⟩))) [((0:Int),(0:Int)),(0,4),(0,5)] a6 (some ⟨b9,0,none⟩) c6 3 (m12.add b9 (([((0:Int),(0:Int)),(0,4),(0,5)]:List Dd).map dC).flatten) (by rw[eD];decide) (js.mono (mLt (mLt nh jz) (Mem.le_add tP _))) Zbk
 rw[decide_eq_true eD]at tQ
 refine Zag tQ λm13 kC=>Ze8 rfl λb10 ng=>?_
 have hK:=λ(l:List Dd)(a:Option Addr)(c:Nat)(M:Mem)(h:m7.le M)(hl:l.length<=1000000000000000) (hr:rowRd M a (l.map dC).flatten)=>Zpw (exS a3 (some ⟨b,0,none⟩)) l a c M (hC.mono h) hl hr
 rw[eO,eD]at hK
 have pK:=mLt sx (mLt kC (Mem.le_add ng (([((0:Int),(0:Int)),(0,5)]:List Dd).map dC).flatten))
 refine Zaj (hK [(0,0),(0,5)] (some ⟨b10,0,none⟩) 2 _ pK (by decide) Zbk) ZdJ λb11 e11 m15 sy vS=>?_
 obtain⟨rfl,rfl⟩:=Ze0 vS
 intro b12 mZ
 have pL:=mLt pK (mLt sy (Mem.le_add mZ (([((0:Int),(5:Int)),(0,0)]:List Dd).map dC).flatten))
 refine Zaj (hK [(0,5),(0,0)] (some ⟨b12,0,none⟩) 2 _ pL (by decide) Zbk) ZdJ λb13 e13 m17 sA vT=>?_
 obtain⟨rfl,rfl⟩:=Ze0 vT
 intro b14 sB
 have pM:=mLt pL (mLt sA (Mem.le_add sB (([((0:Int),(2:Int))]:List Dd).map dC).flatten))
 refine Zaj (hK [(0,2)] (some ⟨b14,0,none⟩) 1 _ pM (by decide) Zbk) ZdJ λb15 e15 m19 sC vU=>?_
 obtain⟨rfl,rfl⟩:=Ze0 vU
 rw[ZxJ.1,ZxJ.2.1,ZxJ.2.2]
 exact⟨true,ZpM rfl (ZpM rfl (ZpM rfl ⟨rfl,rfl⟩)),Zac (mLt po (mLt pM sC)) rfl⟩
end Go.Proofs.YtojlhhphofhaoaaGreatDoor