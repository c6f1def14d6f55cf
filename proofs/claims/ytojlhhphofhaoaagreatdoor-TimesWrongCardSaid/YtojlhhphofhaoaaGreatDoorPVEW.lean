/- Part of the proof: functions of the program. No condition. -/
import Derived.Test.YtojlhhphofhaoaaGreatDoorPVET
import Derived.Test.YtojlhhphofhaoaaGreatDoorPC25M
import Derived.Test.YtojlhhphofhaoaaGreatDoorPC25MD
import Derived.Test.YtojlhhphofhaoaaGreatDoorMr
import Derived.Test.YtojlhhphofhaoaaGreatDoorPEnv
import Derived.KernelRfl
set_option linter.unusedVariables false
set_option linter.unusedSimpArgs false
set_option linter.unusedSectionVars false
namespace Go.Proofs.YtojlhhphofhaoaaGreatDoor
open Go Go.Eng Go.Rx Go.Proofs Go.RowKit
set_option maxRecDepth 100000
def ZyJ(o:Option Nat):Int:=match o with
 | none=>-1
 | some t=>(t:Nat)
def ZxX(o:Option Nat):Value:=.tuple #[.int .i64 (Zwr o),.bool o.isSome]
theorem Zvg(o:Option Nat):(if(0:Int) > ZyJ o then(0:Int)else ZyJ o)=Zwr o:=by
 cases o with
 | none=>rfl
 | some t=>show(if(0:Int) > (t:Nat)then _ else _)=((t:Nat):Int);rw[if_neg (by omega)];rfl
theorem ZwU(o:Option Nat):decide (ZyJ o ≥ 0)=o.isSome:=by
 cases o with
 | none=>rfl
 | some t=>exact decide_eq_true (show((t:Nat):Int) ≥ 0 by omega)
set_option maxHeartbeats 1000000 in
theorem ZrA(l:List Ru)(a:Option Addr)(c:Nat)(g1 g2:Nat)(cnt:Ru->Bool)(key:Ru->Int)(m:Mem)(hl:l.length<=1000000)(hr:rowRd m a (l.map Ru.cs).flatten)
  (h1:∀x∈l,∀m',m.le m'->CX Tryz.prog g1 #[.agg x.cs.toArray] m' [] (Ret (.bool (cnt x)))) (h2:∀x∈l,∀m',m.le m'->CX Tryz.prog g2 #[.agg x.cs.toArray] m' [] (Ret (.int .i64 (key x)))):
  CX Tryz.prog 83 #[.slice a l.length c,.func (.func g1) #[] #[],.func (.func g2) #[] #[]] m [] (Ret (ZxX (Zzk l cnt key))):=by
 apply Zc4 a l.length c g1 [] [] g2 [] []
 refine⟨λxs _ _ m' q=>∃i:Nat,i<=l.length/\xs=[.int .i64 (ZyJ (Zjq l cnt key i)),.int .i64 i]/\q=l.length - i,⟨l.length,0,by omega,rfl,rfl⟩,?_⟩
 rintro n n1 m1 q aV ⟨i,hi,hx,rfl⟩
 simp only[List.cons.injEq,Value.int.injEq,true_and,and_true]at hx
 obtain⟨rfl,rfl⟩:=hx
 have hw:IntKind.i64.wrap ((i:Int)+1)=((i+1:Nat):Int):=by rw[Zal (by omega) (by omega)];rfl
 refine Zaw (λbB=>?_) (λdB=>Zac aV ?_)
 ·have bQ:i < l.length:=by omega
  obtain⟨x,hx⟩:=Zc9 bQ
  have jB:=List.mem_of_getElem? hx
  have dN:=Zqj (cnt:=cnt) (key:=key) hx
  obtain⟨b,o,ha,dZ⟩:=Zam Ru.len (hr.mono aV) hx (by omega)
  refine⟨b,o,ha,⟨by omega,bB⟩,_,_,_,_,_,_,_,_,_,_,_,_,_,_,_,_,dZ,λb1=>Zaa rfl ?_⟩
  refine⟨λk _ _=>if k=2 then Ret (.bool (cnt x))else if k=9 then Ret (.int .i64 (key x))else Ret (.int .i64 (key ((l[(Zjq l cnt key i).getD 0]?).getD x))),_,rfl,h1 x jB m1 aV,λv _ _ e=>by rw[show v=_ from e];rfl,?_⟩
  intro bb m2 bA hb
  obtain rfl:bb=cnt x:=by simpa[Ret]using hb
  refine Zab (λhc=>?_) (λhc M hM _ _ _=>⟨l.length - (i+1),by omega,i+1,bQ,by rw[dN,hc,hw];rfl,rfl⟩)
  rw[hc,Bool.true_and]at dN
  cases ht:Zjq l cnt key i with
  | none=>
   rw[ht]at dN
   refine Zaw (λ_ M _ _ _ _=>⟨l.length - (i+1),by omega,i+1,bQ,by rw[dN,hw];rfl,rfl⟩) (λh=>absurd (show ZyJ none < 0 by decide) h)
  | some t=>
   rw[ht]at dN
   obtain⟨wF,y,hy,_⟩:=Zcr ht
   have vV:=List.mem_of_getElem? hy
   refine Zaw (λh=>absurd (show((t:Nat):Int) < 0 from h) (by omega)) (λ_=>?_)
   refine⟨_,rfl,h2 x jB m2 (mLt aV bA),λv _ _ e=>by rw[show v=_ from e];rfl,?_⟩
   intro k1 m3 bR gk
   obtain rfl:k1=key x:=by simpa[Ret]using gk
   obtain⟨b2,o2,mX,gU⟩:=Zam Ru.len (hr.mono (mLt aV bA)) hy (by omega)
   have gT:((t:Nat):Int) < l.length:=by omega
   refine⟨b2,o2,mX,⟨by show(0:Int)<=(t:Nat);omega,gT⟩,_,_,_,_,_,_,_,_,_,_,_,_,_,_,_,_,by show Mem.reads _ _ (o2+Int.toNat ((t:Nat):Int)*16) _;rw[Int.toNat_natCast];exact gU,_,rfl,?_,λv _ _ e=>by rw[show v=_ from e];rfl,?_⟩
   ·show CX _ _ _ _ _ (Ret (.int .i64 (key ((l[t]?).getD x))))
    rw[hy];exact h2 y vV m3 (mLt aV (mLt bA bR))
   ·intro k2 m4 cO ia
    have ia:k2=key y:=by
     have:Value.int .i64 k2=.int .i64 (key ((l[t]?).getD x)):=ia
     rw[hy]at this;simpa using this
    subst ia
    intro M _ _ _ _
    have kp:ZxA l key (some t) x=decide (key x < key y):=by show(match l[t]? with|some y=>decide (key x < key y)|none=>false)=_;rw[hy]
    rw[kp]at dN
    refine Zaw (λh=>⟨l.length - (i+1),by omega,i+1,bQ,?_,rfl⟩) (λh=>⟨l.length - (i+1),by omega,i+1,bQ,?_,rfl⟩)
    ·rw[dN,decide_eq_true h,hw];rfl
    ·rw[dN,decide_eq_false h,hw];rfl
 ·have:i=l.length:=by omega
  subst this
  show Value.tuple #[.int .i64 _,.bool _]=Value.tuple #[.int .i64 _,.bool _]
  rw[Zvg,ZwU];rfl
theorem ZeS{o}:∀(v:Value)(m':Mem) (css:List (List Value)),Ret (ZxX o) v m' css->Shape.fits (.tup [.int .i64,.bool]) v=true:=λv _ _ e=>by rw[show v=_ from e];rfl
theorem ZyK{n:Int}{b:Bool}{o:Option Nat}{m':Mem}(h:Ret (ZxX o) (.tuple #[.int .i64 n,.bool b]) m' []):n=Zwr o/\b=o.isSome:=by
 have h:Value.tuple #[.int .i64 n,.bool b]=ZxX o:=h
 unfold ZxX at h
 simpa using h
theorem Zvh(x:Sta)(m:Mem)(hx:RepS m x):CX Tryz.prog 49 #[.agg x.cs.toArray] m [] (Ret (ZxX (toO x))):=by
 apply Zgc
 intro b m1 aV _
 refine Zai (ZrA x.rules x.ra x.rc 84 85 Zzl Zzu m1 (by have:=hx.len;unfold few at this;omega) (hx.row.mono aV) (λr hr m' hm'=>?_) (λr hr m' hm'=>?_)) ZeS λn b1 m2 bA hv=>?_
 ·apply ZeK
  exact λb m1 aV _=>Zac aV rfl
 ·apply ZeL
  exact λb m1 aV _=>Zac aV rfl
 ·exact Zac (mLt aV bA) hv
theorem ZwV(x:Sta)(m:Mem)(hx:RepS m x):CX Tryz.prog 50 #[.agg x.cs.toArray] m [] (Ret (ZxX (eoO x))):=by
 apply Zmv
 intro b m1 aV _
 refine Zai (ZrA x.rules x.ra x.rc 86 87 Zzt Zzv m1 (by have:=hx.len;unfold few at this;omega) (hx.row.mono aV) (λr hr m' hm'=>?_) (λr hr m' hm'=>?_)) ZeS λn b1 m2 bA hv=>?_
 ·apply Zil
  exact λb m1 aV _=>Zac aV rfl
 ·apply Zim
  exact λb m1 aV _=>Zac aV rfl
 ·exact Zac (mLt aV bA) hv
def okS(s:Sc):Bool:=s.check.2 == 0
def Zck(s:Sc)(i:Int):Int:=if okS s then(if i < 0\/i ≥ s.states.length then 250 else 0)else 400
theorem ZrB(s:Sc)(i:Int)(m:Mem)(hr:RepC m s):CX Tryz.prog 48 #[s.v,.int .i64 i] m [] (Ret (.int .i64 (Zck s i))):=by
 apply Zin
 intro b m1 aV _
 refine Zag (ZkL s m1 (hr.mono aV)) λm2 bA=>?_
 have eI:=mLt aV bA
 show br (!okS s) _ _
 refine Zab (λh=>Zac eI ?_) (λh=>⟨decide (i < 0\/i ≥ s.states.length),Zaw (λh=>⟨rfl,Zae ?_⟩) (λh=>⟨rfl,Zae ?_⟩),Zaw (λh1=>Zac eI ?_) (λh1=>Zac eI ?_)⟩)
 ·have:okS s=false:=by simpa using h
  unfold Zck;rw[this];rfl
 ·exact(decide_eq_true (.inl h)).symm
 ·rw[decide_eq_decide];omega
 ·have:okS s=true:=by simpa using h
  unfold Zck;rw[this,if_pos rfl,if_pos h1]
 ·have:okS s=true:=by simpa using h
  unfold Zck;rw[this,if_pos rfl,if_neg h1]
theorem Zk8{s:Sc}{i:Int}(h:Zck s i=0):okS s=true/\∃(k:Nat)(x:Sta),i=k/\s.states[k]?=some x:=by
 unfold Zck at h
 split at h
 ·rename_i hs
  split at h
  ·omega
  ·rename_i hi
   obtain⟨x,hx⟩:=Zc9 (l:=s.states) (n:=i.toNat) (by omega)
   exact⟨hs,i.toNat,x,by omega,hx⟩
 ·omega
def Zes(n:Int)(b:Bool)(e:Int):Value:=.tuple #[.int .i64 n,.bool b,.int .i64 e]
theorem Zb2{n b e}:∀(v:Value)(m':Mem) (css:List (List Value)),Ret (Zes n b e) v m' css->Shape.fits (.tup [.int .i64,.bool,.int .i64]) v=true:=λv _ _ e=>by rw[show v=_ from e];rfl
theorem ZcD{n n' e e':Int}{b b':Bool}{m':Mem}(h:Ret (Zes n b e) (.tuple #[.int .i64 n',.bool b',.int .i64 e']) m' []):n'=n/\b'=b/\e'=e:=by
 have h:Value.tuple #[.int .i64 n',.bool b',.int .i64 e']=Zes n b e:=h
 unfold Zes at h
 simpa using h
def Zxd(f:Sta->Option Nat)(s:Sc)(i:Int):Option Nat:=match s.states[i.toNat]? with
 | some x=>f x
 | none=>none
def Ze2(f:Sta->Option Nat)(s:Sc)(i:Int):Value:=if Zck s i=0 then Zes (Zwr (Zxd f s i)) (Zxd f s i).isSome 0 else Zes 0 false (Zck s i)
theorem Zvi(f:Sta->Option Nat)(s:Sc)(i:Int):∃n b e,Ze2 f s i=Zes n b e:=by unfold Ze2;split <;> exact⟨_,_,_,rfl⟩
theorem Zd6(s:Sc)(i:Int)(m:Mem)(hr:RepC m s):CX Tryz.prog 18 #[s.v,.int .i64 i] m [] (Ret (Ze2 toO s i)):=by
 apply Zgd
 intro b m1 aV _
 refine Zax (ZrB s i m1 (hr.mono aV)) λm2 bA=>Zab (λh=>Zac (mLt aV bA) ?_) (λh=>?_)
 ·have:¬Zck s i=0:=by simpa using h
  unfold Ze2;rw[if_neg this];rfl
 ·have h:Zck s i=0:=by simpa using h
  obtain⟨_,k,x,rfl,hx⟩:=Zk8 h
  have eI:=mLt aV bA
  obtain⟨b1,o1,ha,dZ⟩:=Zam Sta.len (hr.mono eI).row hx (by omega)
  have hk:=(List.getElem?_eq_some_iff.1 hx).1
  refine⟨b1,o1,ha,⟨by omega,by omega⟩,_,_,by rw[Int.toNat_natCast];exact dZ,Zai (Zvh x m2 ((hr.mono eI).all x (List.mem_of_getElem? hx))) ZeS λn b2 m3 bR hv=>?_⟩
  obtain⟨rfl,rfl⟩:=ZyK hv
  refine Zac (mLt eI bR) ?_
  show _=Ze2 toO s k
  unfold Ze2 Zxd
  rw[if_pos h,Int.toNat_natCast,hx];rfl
theorem ZwW(s:Sc)(i:Int)(m:Mem)(hr:RepC m s):CX Tryz.prog 19 #[s.v,.int .i64 i] m [] (Ret (Ze2 eoO s i)):=by
 apply Zmw
 intro b m1 aV _
 refine Zax (ZrB s i m1 (hr.mono aV)) λm2 bA=>Zab (λh=>Zac (mLt aV bA) ?_) (λh=>?_)
 ·have:¬Zck s i=0:=by simpa using h
  unfold Ze2;rw[if_neg this];rfl
 ·have h:Zck s i=0:=by simpa using h
  obtain⟨_,k,x,rfl,hx⟩:=Zk8 h
  have eI:=mLt aV bA
  obtain⟨b1,o1,ha,dZ⟩:=Zam Sta.len (hr.mono eI).row hx (by omega)
  have hk:=(List.getElem?_eq_some_iff.1 hx).1
  refine⟨b1,o1,ha,⟨by omega,by omega⟩,_,_,by rw[Int.toNat_natCast];exact dZ,Zai (ZwV x m2 ((hr.mono eI).all x (List.mem_of_getElem? hx))) ZeS λn b2 m3 bR hv=>?_⟩
  obtain⟨rfl,rfl⟩:=ZyK hv
  refine Zac (mLt eI bR) ?_
  show _=Ze2 eoO s k
  unfold Ze2 Zxd
  rw[if_pos h,Int.toNat_natCast,hx];rfl
def Zxe(s:Sc)(i t:Int):Bool:=match s.states[i.toNat]? with
 | some x=>(match toO x with
  | some k=>(match x.rules[k]? with
   | some r=>r.n == t
   | none=>false)
  | none=>false)
 | none=>false
def Zvj(s:Sc)(i t:Int):Value:=if Zck s i=0 then(if Zxe s i t then Zes (Zwr (Zxd toO s i)) true 0 else Zes 0 false 0)else Zes 0 false (Zck s i)
theorem Ztj(s:Sc)(i t:Int)(m:Mem)(hr:RepC m s):CX Tryz.prog 20 #[s.v,.int .i64 i,.int .i64 t] m [] (Ret (Zvj s i t)):=by
 apply Zmx
 intro b m1 aV _
 obtain⟨n0,b0,e0,hA⟩:=Zvi toO s i
 have hT:=Zd6 s i m1 (hr.mono aV)
 rw[hA]at hT
 refine Zai hT Zb2 λn b1 e m2 bA hv=>?_
 obtain⟨rfl,rfl,rfl⟩:=ZcD hv
 have eI:=mLt aV bA
 by_cases hp:Zck s i=0
 ·obtain⟨_,k,x,rfl,hx⟩:=Zk8 hp
  unfold Ze2 at hA
  rw[if_pos hp]at hA
  have hO:Zxd toO s k=toO x:=by unfold Zxd;rw[Int.toNat_natCast,hx]
  rw[hO]at hA
  obtain⟨rfl,rfl,rfl⟩:n=Zwr (toO x)/\b1=(toO x).isSome/\e=0:=by
   unfold Zes at hA;simp at hA;exact⟨hA.1.symm,hA.2.1.symm,hA.2.2.symm⟩
  have hk:=(List.getElem?_eq_some_iff.1 hx).1
  have hB:Zxe s k t=(match toO x with
   | some k=>(match x.rules[k]? with
    | some r=>r.n == t
    | none=>false)
   | none=>false):=by unfold Zxe;rw[Int.toNat_natCast,hx]
  have hV:Zvj s k t=if Zxe s k t then Zes (Zwr (toO x)) true 0 else Zes 0 false 0:=by unfold Zvj;rw[if_pos hp,hO]
  refine⟨!Zxe s k t,ZdE rfl (Zab (λh=>⟨rfl,Zae ?_⟩) (λh=>?_)),Zab (λh=>Zac eI ?_) (λh=>Zac eI ?_)⟩
  ·have:toO x=none:=by simpa using h
   rw[hB,this];rfl
  ·obtain⟨j,hj⟩:∃j,toO x=some j:=by
    cases hj:toO x with
    | none=>rw[hj]at h;cases h
    | some j=>exact⟨j,rfl⟩
   obtain⟨_,r,dR,_⟩:=Zcr hj
   have tG:=(List.getElem?_eq_some_iff.1 dR).1
   obtain⟨b2,o2,mX,dZ⟩:=Zam Sta.len (hr.mono eI).row hx (by omega)
   obtain⟨b3,o3,f5,fU⟩:=Zam Ru.len ((hr.mono eI).all x (List.mem_of_getElem? hx)).row dR (by omega)
   rw[hB,hj,show Zwr (some j)=(j:Nat) from rfl]
   refine⟨b2,o2,mX,⟨by omega,by omega⟩,.slice x.ra x.rules.length x.rc,by rw[Int.toNat_natCast];exact dZ 1 _ rfl,Zaa rfl ⟨b3,o3,f5,⟨by omega,by show((j:Nat):Int) < (x.rules.length:Nat);omega⟩,.int .i64 r.n,by rw[Int.toNat_natCast];exact fU 12 _ rfl,Zaa rfl ⟨rfl,Zae ?_⟩⟩⟩
   show(!(r.n == t))=!(match x.rules[j]? with|some r=>r.n == t|none=>false)
   rw[dR]
  ·have:Zxe s k t=false:=by simpa using h
   show _=Zvj s k t
   rw[hV,this];rfl
  ·have:Zxe s k t=true:=by simpa using h
   show _=Zvj s k t
   rw[hV,this];rfl
 ·unfold Ze2 at hA
  rw[if_neg hp]at hA
  obtain⟨rfl,rfl,rfl⟩:n=0/\b1=false/\e=Zck s i:=by
   unfold Zes at hA;simp at hA;exact⟨hA.1.symm,hA.2.1,hA.2.2.symm⟩
  refine⟨true,Zjr (by simpa using hp) ⟨rfl,rfl⟩,Zjr rfl (Zac eI ?_)⟩
  show _=Zvj s i t
  unfold Zvj;rw[if_neg hp];rfl
theorem ZwX(s:Sc)(m:Mem):CX Tryz.prog 36 #[s.v] m [] (λv m' _=>∃b,v=.func (.func 68) #[] #[.pointer (some ⟨b,0,none⟩)]/\m'.reads b 0 s.cs):=by
 apply Zki
 intro b m' hm hb
 exact⟨m',hm,Mem.le_refl _,b,rfl,hb⟩
theorem Ztk{m:Mem}{s:Sc}(hr:RepC m s)(n:Nat):(Ze1 s n).length<=few*n:=by
 induction n with
 | zero=>simp[Ze1]
 | succ n ih=>
  rw[Ze1,List.length_append,Nat.mul_succ]
  refine Nat.add_le_add ih ?_
  split
  ·rename_i x hx
   exact Nat.le_trans (ZoB n x x.rules.length) (hr.all x (List.mem_of_getElem? hx)).len
  ·simp
theorem Zpm{m:Mem}{s:Sc}(hr:RepC m s):(ZdM s).length<=10000000000:=by
 refine Nat.le_trans (Ztk hr s.states.length) (Nat.le_trans (Nat.mul_le_mul_left _ hr.len) ?_)
 unfold few;omega
theorem ZwY{s:Sc}{i:Nat}{x:Sta}{k:Nat}{r:Ru}(hx:s.states[i]?=some x)(hr:x.rules[k]?=some r)(hb:Zke x k r=true):(ZdM s)[(Ze1 s i).length+(Zev i x k).length]?=some ((i:Int),(k:Int)):=by
 have hi:=(List.getElem?_eq_some_iff.1 hx).1
 have hk:=(List.getElem?_eq_some_iff.1 hr).1
 obtain⟨r1,h1⟩:=ZsK (s:=s) (show i+1<=s.states.length by omega)
 obtain⟨r2,h2⟩:=ZsJ (i:=i) (x:=x) (show k+1<=x.rules.length by omega)
 unfold ZdM
 rw[h1,ZlW hx,h2,ZlV hr,hb]
 rw[List.append_assoc,List.append_assoc,List.append_assoc,List.getElem?_append_right (by omega),Nat.add_sub_cancel_left,List.getElem?_append_right (Nat.le_refl _),Nat.sub_self]
 rfl
set_option maxHeartbeats 1000000 in
theorem Zvk(s:Sc)(m:Mem)(c0b:Nat)(hr:RepC m s)(hb:m.reads c0b 0 s.cs):IX Tryz.prog 68 [] [.pointer (some ⟨c0b,0,none⟩)] m ((ZdM s).map λd=>[dV d]):=by
 apply Zg4 0 [] [] c0b 0
 intro l
 have fP:=hr.len
 unfold few at fP
 refine⟨.slice s.sa s.states.length s.sc,hb 2 _ rfl,Zaa rfl ?_⟩
 refine⟨λxs _ _ m' q=>∃i:Nat,i<=s.states.length/\xs=[.int .i64 ((Ze1 s i).length:Nat),.int .i64 i]/\q=s.states.length - i,⟨s.states.length,0,by omega,rfl,rfl⟩,?_⟩
 rintro y n m1 q aV ⟨i,hi,hx,rfl⟩
 simp only[List.cons.injEq,Value.int.injEq,true_and,and_true]at hx
 obtain⟨rfl,rfl⟩:=hx
 have hw:IntKind.i64.wrap ((i:Int)+1)=((i+1:Nat):Int):=by rw[Zal (by omega) (by omega)];rfl
 refine Zaw (λbB=>?_) (λdB=>.inl ?_)
 ·have bB:(i:Int) < (s.states.length:Nat):=bB
  obtain⟨x,hx⟩:=Zc9 (show i < s.states.length by omega)
  have jB:=List.mem_of_getElem? hx
  obtain⟨b1,o1,iP,dZ⟩:=Zam Sta.len (hr.mono aV).row hx (by omega)
  have eZ:=(hr.mono aV).all x jB
  have jC:=eZ.len
  unfold few at jC
  refine Zaa rfl ⟨b1,o1,iP,⟨by omega,bB⟩,_,_,dZ,λb2=>Zaa rfl (Zai (Zvh x m1 eZ) ZeS λn2 b3 m2 bA oY=>Zai (ZwV x m2 (eZ.mono bA)) ZeS λn3 b4 m3 bR nH=>?_)⟩
  obtain⟨rfl,rfl⟩:=ZyK oY
  obtain⟨rfl,rfl⟩:=ZyK nH
  have py:=mLt bA bR
  have sA:=eZ.mono py
  refine Zaa rfl ⟨λxs _ _ m' q=>∃k:Nat,k<=x.rules.length/\xs=[.int .i64 ((Ze1 s i).length+(Zev i x k).length:Nat),.int .i64 k]/\q=x.rules.length - k,⟨x.rules.length,0,by omega,by simp[Zev],rfl⟩,?_⟩
  rintro y n4 m4 q2 cO ⟨k,hk,gQ,rfl⟩
  simp only[List.cons.injEq,Value.int.injEq,true_and,and_true]at gQ
  obtain⟨rfl,rfl⟩:=gQ
  have pC:IntKind.i64.wrap ((k:Int)+1)=((k+1:Nat):Int):=by rw[Zal (by omega) (by omega)];rfl
  refine Zaw (λfF=>?_) (λfM=>?_)
  ·have fF:(k:Int) < (x.rules.length:Nat):=fF
   obtain⟨r,gt⟩:=Zc9 (show k < x.rules.length by omega)
   obtain⟨b5,o5,lS,fU⟩:=Zam Ru.len (sA.mono cO).row gt (by omega)
   have dN:=ZlV (i:=i) gt
   have y1:Zke x k r=true->List.get?Internal (List.map (λd=>[dV d]) (ZdM s)) (Int.toNat (((Ze1 s i).length+(Zev i x k).length:Nat):Int))=some [Value.agg #[.int .i64 i,.int .i64 k]]:=λh=>by
    show(List.map (λd=>[dV d]) (ZdM s))[((((Ze1 s i).length+(Zev i x k).length:Nat):Int)).toNat]?=some [Value.agg #[.int .i64 i,.int .i64 k]]
    rw[Int.toNat_natCast,List.getElem?_map,ZwY hx gt h];rfl
   have y2:Zke x k r=true->(∃n':Nat,n' < x.rules.length - k/\∃k':Nat,k'<=x.rules.length/\[Value.int .i64 ((((Ze1 s i).length+(Zev i x k).length:Nat):Int)+1),Value.int .i64 (IntKind.i64.wrap ((k:Int)+1))]=[.int .i64 ((Ze1 s i).length+(Zev i x k').length:Nat),.int .i64 k']/\n'=x.rules.length - k'):=λh=>⟨x.rules.length - (k+1),by omega,k+1,by omega,by rw[dN,h,pC];simp;omega,rfl⟩
   have no:Zke x k r=false->(∃n':Nat,n' < x.rules.length - k/\∃k':Nat,k'<=x.rules.length/\[Value.int .i64 (((Ze1 s i).length+(Zev i x k).length:Nat):Int),Value.int .i64 (IntKind.i64.wrap ((k:Int)+1))]=[.int .i64 ((Ze1 s i).length+(Zev i x k').length:Nat),.int .i64 k']/\n'=x.rules.length - k'):=λh=>⟨x.rules.length - (k+1),by omega,k+1,by omega,by rw[dN,h,pC];simp,rfl⟩
   refine Zaa rfl ⟨b5,o5,lS,⟨by omega,fF⟩,_,_,_,_,_,_,_,_,_,_,_,_,_,_,_,_,fU,λb6=>Zaa rfl (Zaa rfl (Zab (λh4=>?_) (λh4=>?_)))⟩
   ·have h4':(r.k == 4)=true:=h4
    refine Zab (λdU=>?_) (λdU=>Zaa rfl (Zab (λh3=>?_) (λh3=>?_)))
    ·have e:Zke x k r=true:=by unfold Zke;rw[h4',dU];rfl
     exact⟨⟨rfl,Int.natCast_nonneg _,y1 e⟩,⟨rfl,y2 e⟩,.inr rfl⟩
    ·have:r.k=4:=by simpa using h4'
     have h3':(r.k == 3)=true:=h3
     rw[this]at h3';cases h3'
    ·exact⟨rfl,no (by unfold Zke;rw[dU,show(r.k == 3)=false from h3];simp)⟩
   ·have h4':(r.k == 4)=false:=h4
    refine Zaa rfl (Zab (λh3=>Zab (λdU=>?_) (λdU=>?_)) (λh3=>?_))
    ·have e:Zke x k r=true:=by unfold Zke;rw[h4',show(r.k == 3)=true from h3,dU];rfl
     exact⟨⟨rfl,Int.natCast_nonneg _,y1 e⟩,⟨rfl,y2 e⟩,.inr rfl⟩
    ·exact⟨rfl,no (by unfold Zke;rw[h4',dU];simp)⟩
    ·exact⟨rfl,no (by unfold Zke;rw[h4',show(r.k == 3)=false from h3];simp)⟩
  ·have fM:¬(k:Int) < (x.rules.length:Nat):=fM
   have:k=x.rules.length:=by omega
   subst this
   exact⟨s.states.length - (i+1),by omega,i+1,by omega,by rw[ZlW hx,List.length_append,hw],rfl⟩
 ·have dB:¬(i:Int) < (s.states.length:Nat):=dB
  have:i=s.states.length:=by omega
  subst this
  rw[List.length_map];rfl
theorem Zpn(d:Dd):(dC d).length=2:=rfl
theorem ZxY(d:Dd):∀u∈dC d,u.oneCell'=true:=by
 intro u hu
 simp only[dC,List.mem_cons,List.not_mem_nil,or_false]at hu
 rcases hu with rfl|rfl <;> rfl
def Zvl(s:Sc):Value->Mem->List (List Value)->Prop:=λv m' _=>∃(a:Option Addr)(n c:Nat)(e:Int),v=.tuple #[.slice a n c,.int .i64 e]/\(if okS s then e=0/\n=(ZdM s).length/\n<=c/\rowRd m' a ((ZdM s).map dC).flatten else e=400/\a=none/\n=0/\c=0)
theorem Zfv{s}:∀(v:Value)(m':Mem) (css:List (List Value)),Zvl s v m' css->Shape.fits (.tup [.slice,.int .i64]) v=true:=λv _ _ ⟨_,_,_,_,e,_⟩=>by rw[e];rfl
theorem ZhG{s:Sc}{a:Option Addr}{n c:Nat}{e:Int}{m':Mem}(h:Zvl s (.tuple #[.slice a n c,.int .i64 e]) m' []):if okS s then e=0/\n=(ZdM s).length/\n<=c/\rowRd m' a ((ZdM s).map dC).flatten else e=400/\a=none/\n=0/\c=0:=by
 obtain⟨a',n',c',e',hv,h⟩:=h
 simp only[Value.tuple.injEq,Array.mk.injEq,List.cons.injEq,Value.slice.injEq,Value.int.injEq,true_and,and_true]at hv
 obtain⟨⟨rfl,rfl,rfl⟩,rfl⟩:=hv
 exact h
theorem ZwZ{α:Type}{cs:α->List Value}{L:List α}{q:Nat}{x:α}(h:L[q]?=some x):((L.take (q+1)).map cs).flatten=((L.take q).map cs).flatten++cs x:=by
 rw[List.take_add_one,h];simp
theorem Zk9(s:Sc)(m:Mem)(hr:RepC m s):CX Tryz.prog 10 #[s.v] m [] (Zvl s):=by
 apply Zkj
 intro b m1 aV _
 refine Zag (ZkL s m1 (hr.mono aV)) λm2 bA=>?_
 have eI:=mLt aV bA
 have bT:=Zpm hr
 show br (!okS s) _ _
 refine Zab (λh=>ZaS eI ⟨_,_,_,_,rfl,?_⟩) (λh=>λb2=>?_)
 ·have:okS s=false:=by simpa using h
  rw[this];exact⟨rfl,rfl,rfl,rfl⟩
 have cV:okS s=true:=by simpa using h
 refine Zai (ZwX s m2) (λv m' css h=>by obtain⟨_,rfl,_⟩:=h;rfl) ?_
 rintro g fi ca m3 bR ⟨b3,hv,fB⟩
 obtain⟨rfl,rfl,rfl⟩:=Zcp hv
 have eG:=mLt eI bR
 refine⟨_,Zvk s m3 b3 (hr.mono eG) fB,λy hy=>?_,λxs css tvs m' q=>∃(a:Option Addr)(c:Nat),q<=(ZdM s).length/\xs=[]/\css=[[.slice a q c]]/\tvs=[.slice a q c]/\q<=c/\rowRd m' a (((ZdM s).take q).map dC).flatten,⟨none,0,by omega,rfl,rfl,rfl,by omega,.inl rfl⟩,?_,?_⟩
 ·obtain⟨z,_,rfl⟩:=List.mem_map.1 hy;rfl
 ·rintro n n1 cs a n2 c m4 q cO hq ⟨a',c',tu,_,dM,ft,nC,bF⟩ b4
  simp only[List.cons.injEq,Value.slice.injEq,and_true]at ft
  obtain⟨rfl,rfl,rfl⟩:=ft
  obtain rfl:cs=[.slice a n2 c]:=by simpa using dM
  have hq:(List.map (λd=>[dV d]) (ZdM s))[n2]?=some [Value.agg #[.int .i64 n,.int .i64 n1]]:=hq
  rw[List.getElem?_map]at hq
  obtain⟨d,hd,nB⟩:=Option.map_eq_some_iff.1 hq
  have nB:dV d=.agg #[.int .i64 n,.int .i64 n1]:=by simpa using nB
  have bB:=(List.getElem?_eq_some_iff.1 hd).1
  obtain⟨rfl,rfl⟩:d.1=n/\d.2=n1:=by unfold dV at nB;simpa using nB
  have lc:((ZdM s).take n2).length=n2:=by rw[List.length_take];omega
  refine Zao rfl λb5 jd=>Zaa rfl ⟨.inl rfl,_,dC d,?_,rfl,bF.mono (Mem.le_add jd _),ZbM,ZxY d,?_,?_,λa6 c6 m6 gZ iU mY=>⟨rfl,a6,c6,by omega,rfl,rfl,rfl,mY,?_⟩⟩
  ·rw[Zdr Zpn,lc];rfl
  ·show(n2+1)*16<=_;omega
  ·show n2+1<=_;omega
  ·rw[ZwZ hd];exact iU
 ·rintro cs a n c m4 cO ⟨a',c',_,_,dM,ft,nC,bF⟩
  rw[List.length_map]at dM ft nC bF
  simp only[List.cons.injEq,Value.slice.injEq,and_true]at ft
  obtain⟨rfl,rfl,rfl⟩:=ft
  obtain rfl:cs=[.slice a (ZdM s).length c]:=by simpa using dM
  rw[List.take_length]at bF
  refine Zao rfl (ZaS (mLt eG cO) ⟨a,_,c,0,rfl,?_⟩)
  rw[cV];exact⟨rfl,rfl,nC,bF⟩
theorem Zub(a b a' b':Int):EqIs Tryz.prog 37 (.agg #[.int .i64 a,.int .i64 b]) (.agg #[.int .i64 a',.int .i64 b']) (decide (((a,b):Dd)=(a',b'))):=by
 refine⟨λw=>?_,λop ox oy w=>Zhs (by kernel_rfl) op ox oy _ _ w⟩
 have u3:=Tryz.underlying3
 have a3:=Tryz.isAgg3
 have z3:=Tryz.sizeOf3
 rw[Op.equal,Op.maxDepth,show(10000:Nat)=9999+1 from rfl]
 rw[run_equalIn_agg _ _ _ _ _ (by kernel_rfl) (by kernel_rfl)]
 have hf:(Tryz.prog.fieldsOf 37).toList=[⟨ "State",3,0,false, "", "",0⟩,⟨ "Rule",3,1,false, "", "",8⟩]:=by kernel_rfl
 rw[hf]
 go_simp
 by_cases h1:a=a' <;> by_cases h2:b=b' <;> simp[h1,h2]
def ZyA(l:List Dd)(d:Dd):Int:=match l.findIdx? (· == d)with
 | some i=>(i:Nat)
 | none=>-1
theorem Ztl(l:List Dd)(a:Option Addr)(c:Nat)(d:Dd)(m:Mem)(hl:l.length<=1000000000000000)(hr:rowRd m a (l.map dC).flatten):
  CX Tryz.prog 37 #[.slice a l.length c,dV d] m [] (Ret (.int .i64 (ZyA l d))):=by
 apply Zbe
 intro b m1 aV _
 refine⟨λxs _ _ m' q=>∃i:Nat,i<=l.length/\xs=[.int .i64 i]/\(∀j x,j < i->l[j]?=some x->x≠d)/\q=l.length - i,⟨l.length,0,by omega,rfl,λj x hj=>by omega,rfl⟩,?_⟩
 rintro n m2 q bA ⟨i,hi,hx,fT,rfl⟩
 obtain rfl:n=i:=by simpa using hx
 have eI:=mLt aV bA
 refine Zaw (λbB=>?_) (λdB=>Zac eI ?_)
 ·obtain⟨x,hx⟩:=Zc9 (show i < l.length by omega)
  obtain⟨b1,o1,ha,eW⟩:=Zam Zpn (hr.mono eI) hx (by omega)
  refine⟨b1,o1,ha,⟨by omega,bB⟩,_,_,eW,_,Zub d.1 d.2 x.1 x.2,Zaw (λh=>Zac eI ?_) (λh=>?_)⟩
  ·have h:d=x:=h
   subst h
   have hf:l.findIdx? (· == d)=some i:=List.findIdx?_eq_some_iff_getElem.2 ⟨(List.getElem?_eq_some_iff.1 hx).1,by rw[(List.getElem?_eq_some_iff.1 hx).2];simp,λj hj=>by
    have:=fT j (l[j]'(by omega)) hj (List.getElem?_eq_getElem (by omega))
    simpa using this⟩
   show Value.int .i64 i=Value.int .i64 (ZyA l d)
   unfold ZyA;rw[hf]
  ·have h:¬d=x:=h
   refine⟨rfl,l.length - (i+1),by omega,i+1,by omega,by rw[Zal (by omega) (by omega)];rfl,λj y hj hy=>?_,rfl⟩
   rcases Nat.lt_or_ge j i with h1|h1
   ·exact fT j y h1 hy
   ·obtain rfl:j=i:=by omega
    rw[hx]at hy;cases hy
    exact λe=>h e.symm
 ·have hi:i=l.length:=by omega
  subst hi
  have hf:l.findIdx? (· == d)=none:=by
   rw[List.findIdx?_eq_none_iff]
   intro x hx
   obtain⟨j,hj⟩:=List.getElem?_of_mem hx
   have:=fT j x (List.getElem?_eq_some_iff.1 hj).1 hj
   simpa using this
  show Value.int .i64 (-1)=Value.int .i64 (ZyA l d)
  unfold ZyA;rw[hf]
theorem Ztm{α:Type}{cs:α->List Value}{n:Nat}(hn:∀x,(cs x).length=n){m:Mem}{a:Option Addr}{L:List α}{c:Nat}(h:rowRd m a (L.map cs).flatten){i:Nat}(hi:i<=L.length)(hc:L.length<=c):rowRd m (ZaU a i c n) ((L.drop i).map cs).flatten:=by
 rcases Nat.lt_or_ge i L.length with bB|dB
 ·unfold ZaU
  cases h0:Nat.beq i 0 with
  | true=>
   have:i=0:=Nat.eq_of_beq_eq_true h0
   subst this;exact h
  | false=>
   have vW:Nat.beq c i=false:=by
    cases hb:Nat.beq c i with
    | false=>rfl
    | true=>have:=Nat.eq_of_beq_eq_true hb;omega
   rw[vW]
   rcases h with h|⟨b,o,ha,h⟩
   ·have h2:=congrArg List.length h
    rw[Zdr hn]at h2
    refine .inl (List.eq_nil_of_length_eq_zero ?_)
    rw[Zdr hn,List.length_drop]
    have h2:L.length*n=0:=by simpa using h2
    rcases Nat.mul_eq_zero.1 h2 with e|e
    ·omega
    ·rw[e,Nat.mul_zero]
   ·refine .inr ⟨b,o+i*n,by rw[ha];show some (Addr.add _ (i*n))=_;rw[ZbK],λj v hj=>?_⟩
    have e:(L.map cs).flatten=((L.take i).map cs).flatten++((L.drop i).map cs).flatten:=by rw[<-List.flatten_append,<-List.map_append,List.take_append_drop]
    have hl:((L.take i).map cs).flatten.length=i*n:=by rw[Zdr hn,List.length_take,Nat.min_eq_left (by omega)]
    rw[Nat.add_assoc]
    refine h (i*n+j) v ?_
    rw[e,List.getElem?_append_right (by omega),hl,Nat.add_sub_cancel_left];exact hj
 ·exact .inl (by rw[List.drop_of_length_le dB];rfl)
def ZrC(b:Bool)(e:Int):Value:=.tuple #[.bool b,.int .i64 e]
theorem ZhH{b e}:∀(v:Value)(m':Mem) (css:List (List Value)),Ret (ZrC b e) v m' css->Shape.fits (.tup [.bool,.int .i64]) v=true:=λv _ _ e=>by rw[show v=_ from e];rfl
theorem Zla{b b':Bool}{e e':Int}{m':Mem}(h:Ret (ZrC b e) (.tuple #[.bool b',.int .i64 e']) m' []):b'=b/\e'=e:=by
 have h:Value.tuple #[.bool b',.int .i64 e']=ZrC b e:=h
 unfold ZrC at h
 simpa using h
theorem Zpo(s:Sc)(l:List Dd)(a:Option Addr)(c:Nat)(m:Mem)(hr:RepC m s)(hl:l.length<=1000000000000000)(bF:rowRd m a (l.map dC).flatten):CX Tryz.prog 11 #[s.v,.slice a l.length c] m [] (Ret (if okS s then ZrC (ZvE (ZdM s) l) 0 else ZrC false 400)):=by
 apply Zip
 intro b m1 aV _
 have bT:=Zpm hr
 refine Zai (Zk9 s m1 (hr.mono aV)) Zfv λa1 n1 c1 e m2 bA hv=>?_
 have hv:=ZhG hv
 have eI:=mLt aV bA
 cases cV:okS s with
 | false=>
  rw[cV]at hv
  obtain⟨rfl,rfl,rfl,rfl⟩:=hv
  exact Zjr rfl (Zac eI rfl)
 | true=>
  rw[cV]at hv
  obtain⟨rfl,rfl,hc,pD⟩:=hv
  refine ZdE rfl ⟨λxs _ _ m' q=>∃(i:Nat)(A:List Dd)(a':Option Addr)(c':Nat),i<=l.length/\xs=[.slice a' A.length c',.int .i64 i]/\A.length<=c'/\A.length<=10000000000/\rowRd m' a' (A.map dC).flatten/\ZvE (ZdM s) l=ZvE A (l.drop i)/\q=l.length - i,⟨l.length,0,ZdM s,a1,c1,by omega,rfl,hc,bT,pD,rfl,rfl⟩,?_⟩
  rintro a2 n2 c2 i0 m3 q bR ⟨i,A,a',c',hi,hx,vX,wG,lZ,dO,rfl⟩
  simp only[List.cons.injEq,Value.slice.injEq,Value.int.injEq,true_and,and_true]at hx
  obtain⟨⟨rfl,rfl,rfl⟩,rfl⟩:=hx
  have eG:=mLt eI bR
  refine Zaw (λbB=>?_) (λdB=>Zac eG ?_)
  ·obtain⟨d,hd⟩:=Zc9 (show i < l.length by omega)
   obtain⟨b3,o3,f5,rL⟩:=Zam Zpn (bF.mono eG) hd (by omega)
   have kj:l.drop i=d::l.drop (i+1):=Zon hd
   refine⟨b3,o3,f5,⟨by omega,bB⟩,_,_,rL,λb4=>Zaa rfl (Zax (Ztl A a2 c2 d m3 (by omega) lZ) λm4 cO=>?_)⟩
   have dN:ZvE (ZdM s) l=(match A.findIdx? (· == d)with
    | none=>false
    | some j=>ZvE (A.drop (j+1)) (l.drop (i+1))):=by rw[dO,kj,ZvE];rfl
   unfold ZyA
   cases hf:A.findIdx? (· == d)with
   | none=>
    rw[hf]at dN
    refine Zjr (by decide) (Zac (mLt eG cO) ?_)
    show _=ZrC (ZvE (ZdM s) l) 0
    rw[dN];rfl
   | some j=>
    rw[hf]at dN
    obtain⟨tG,_,_⟩:=List.findIdx?_eq_some_iff_getElem.1 hf
    have sB:IntKind.i64.wrap ((j:Int)+1)=((j+1:Nat):Int):=by rw[Zal (by omega) (by omega)];rfl
    refine Zaw (λh=>absurd (show((j:Nat):Int) < 0 from h) (by omega)) (λ_=>?_)
    show((0:Int)<=IntKind.i64.wrap ((j:Int)+1)/\IntKind.i64.wrap ((j:Int)+1)<=_)/\_
    rw[sB,Int.toNat_natCast]
    refine⟨⟨by omega,by omega⟩,rfl,l.length - (i+1),by omega,i+1,A.drop (j+1),_,_,by omega,by rw[List.length_drop,Zal (n:=(i:Int)+1) (by omega) (by omega)];rfl,by rw[List.length_drop];omega,by rw[List.length_drop];omega,(Ztm Zpn lZ (by omega) vX).mono cO,dN,rfl⟩
  ·have:i=l.length:=by omega
   subst this
   show _=ZrC (ZvE (ZdM s) l) 0
   rw[dO,List.drop_length]
   cases A <;> rfl
def Zuc(n e:Int):Value:=.tuple #[.int .i64 n,.int .i64 e]
theorem Zpp{n e}:∀(v:Value)(m':Mem) (css:List (List Value)),Ret (Zuc n e) v m' css->Shape.fits (.tup [.int .i64,.int .i64]) v=true:=λv _ _ e=>by rw[show v=_ from e];rfl
theorem ZrD{n n' e e':Int}{m':Mem}(h:Ret (Zuc n e) (.tuple #[.int .i64 n',.int .i64 e']) m' []):n'=n/\e'=e:=by
 have h:Value.tuple #[.int .i64 n',.int .i64 e']=Zuc n e:=h
 unfold Zuc at h
 simpa using h
theorem Zh5{s:Sc}{i:Nat}{x:Sta}(h:s.states[i]?=some x):Zcs s (i+1)=match toO x with
  | none=>Zcs s i
  | some k=>match x.rules[k]? with
   | none=>Zcs s i
   | some r=>if r.n > Zcs s i then r.n else Zcs s i:=by rw[Zcs,h];rfl
theorem Zl3(s:Sc)(m:Mem)(hr:RepC m s):CX Tryz.prog 21 #[s.v] m [] (Ret (if okS s then Zuc (ZoC s) 0 else Zuc 0 400)):=by
 apply Zge
 intro b m1 aV _
 have fP:=hr.len
 unfold few at fP
 refine Zag (ZkL s m1 (hr.mono aV)) λm2 bA=>?_
 have eI:=mLt aV bA
 show br (!okS s) _ _
 cases cV:okS s with
 | false=>exact Zjr rfl (Zac eI rfl)
 | true=>
  refine ZdE rfl ⟨λxs _ _ m' q=>∃i:Nat,i<=s.states.length/\xs=[.int .i64 (Zcs s i),.int .i64 i]/\q=s.states.length - i,⟨s.states.length,0,by omega,rfl,rfl⟩,?_⟩
  rintro n n1 m3 q bR ⟨i,hi,hx,rfl⟩
  simp only[List.cons.injEq,Value.int.injEq,true_and,and_true]at hx
  obtain⟨rfl,rfl⟩:=hx
  have eG:=mLt eI bR
  have hw:IntKind.i64.wrap ((i:Int)+1)=((i+1:Nat):Int):=by rw[Zal (by omega) (by omega)];rfl
  refine Zaw (λbB=>?_) (λdB=>Zac eG ?_)
  ·obtain⟨x,hx⟩:=Zc9 (show i < s.states.length by omega)
   have dN:=Zh5 hx
   obtain⟨b3,o3,f5,dZ⟩:=Zam Sta.len (hr.mono eG).row hx (by omega)
   have eZ:=(hr.mono eG).all x (List.mem_of_getElem? hx)
   refine⟨b3,o3,f5,⟨by omega,bB⟩,_,_,dZ,λb4=>Zaa rfl (Zai (Zvh x m3 eZ) ZeS λn3 b5 m4 cO hv=>?_)⟩
   obtain⟨rfl,rfl⟩:=ZyK hv
   cases ht:toO x with
   | none=>
    rw[ht]at dN
    exact ZdE rfl ⟨rfl,s.states.length - (i+1),by omega,i+1,by omega,by rw[dN,hw],rfl⟩
   | some k=>
    rw[ht]at dN
    obtain⟨_,r,dR,_⟩:=Zcr ht
    have jV:=(List.getElem?_eq_some_iff.1 dR).1
    obtain⟨b6,o6,iu,fU⟩:=Zam Ru.len (eZ.mono cO).row dR (by omega)
    have dN:Zcs s (i+1)=if r.n > Zcs s i then r.n else Zcs s i:=by
     rw[dN];show(match x.rules[k]? with|none=>_|some r=>_)=_;rw[dR]
    refine Zjr rfl (Zaa rfl ⟨b6,o6,iu,⟨by show(0:Int)<=(k:Nat);omega,by show((k:Nat):Int) < (x.rules.length:Nat);omega⟩,.int .i64 r.n,by show m4 _ (o6+Int.toNat ((k:Nat):Int)*16+12)=_;rw[Int.toNat_natCast];exact fU 12 _ rfl,Zaa rfl ⟨rfl,s.states.length - (i+1),by omega,i+1,by omega,by rw[dN,hw];rfl,rfl⟩⟩)
  ·have:i=s.states.length:=by omega
   subst this;rfl
end Go.Proofs.YtojlhhphofhaoaaGreatDoor
namespace Go.Proofs.YtojlhhphofhaoaaGreatDoor
open Go Go.Eng Go.Proofs Go.RowKit
open Go.Value (int slice agg bool string tuple func)
open Go.IntKind (u8 u64 i64)
set_option maxRecDepth 100000
noncomputable def Zpq:Env:=EB
theorem Znc(p0a:Option Addr)(p0n p0c:Nat)(m:Mem)(R:RT)(h:
 ∀(b b:Nat),m.free b->∃(m'':Mem),m.le m''/\Mem.le m'' (m.add b [string (ByteArray.mk (Array.mk [97])),slice p0a p0n p0c])/\R (agg (Array.mk [int i64 4,slice none 0 0,slice (some
 (Addr.mk b 0 none)) 1 1])) m'' []):CX Tryz.prog 26 #[.slice p0a p0n p0c] m [] R:=
 Zad (E:=Zpq) Zak mix Tryz.func26 [.v (.slice p0a p0n p0c)] [] (by kernel_rfl) (Eq.mp (by kernel_rfl) h)
noncomputable def ZhI:Env:=EB
theorem Zgv(p0:Int)(m:Mem)(R:RT)(h:
 ∀(b:Nat),∃(m'':Mem),m.le m''/\m''.le m/\R (agg (Array.mk [int u8 4,bool false,bool false,int u8 0,int u64 0,int u64 0,int u64 0,int u64 0,int i64 0,int i64 0,slice none 0 0,string
 bE0,int i64 p0,slice none 0 0,string bE0,int i64 0])) m'' []):CX Tryz.prog 27 #[.int .i64 p0] m [] R:=
 Zad (E:=ZhI) Zak mix Tryz.func27 [.v (.int .i64 p0)] [] (by kernel_rfl) (Eq.mp (by kernel_rfl) h)
noncomputable def Zlb:Env:=EB
theorem ZiY  (m:Mem)(R:RT)(h:
 ∀(b:Nat),∃(m'':Mem),m.le m''/\m''.le m/\R (agg (Array.mk [int u8 2,bool false,bool false,int u8 0,int u64 0,int u64 0,int u64 0,int u64 0,int i64 0,int i64 0,slice none 0 0,string
 (ByteArray.mk (Array.mk [97])),int i64 0,slice none 0 0,string bE0,int i64 0])) m'' []):CX Tryz.prog 28 #[] m [] R:=
 Zad (E:=Zlb) Zak mix Tryz.func28 [] [] (by kernel_rfl) (Eq.mp (by kernel_rfl) h)
noncomputable def Zpr:Env:=EB
theorem Znd  (m:Mem)(R:RT)(h:
 ∀(b:Nat),∃(m'':Mem),m.le m''/\m''.le m/\R (agg (Array.mk [int u8 3,bool false,bool false,int u8 0,int u64 0,int u64 0,int u64 0,int u64 0,int i64 0,int i64 0,slice none 0 0,string
 bE0,int i64 0,slice none 0 0,string bE0,int i64 0])) m'' []):CX Tryz.prog 29 #[] m [] R:=
 Zad (E:=Zpr) Zak mix Tryz.func29 [] [] (by kernel_rfl) (Eq.mp (by kernel_rfl) h)
noncomputable def Zlc:Env:={ EB with
 joins:=(λi=>bif Nat.beq i 12 then some [(0,.bool)]else none) }
abbrev ZbF:List Shape:=[Shape.int u8,Shape.bool,Shape.bool,Shape.int u8,Shape.int u64,Shape.int u64,Shape.int u64,Shape.int u64,Shape.int i64,Shape.int i64,Shape.slice,Shape.str,Shape.int i64,
 Shape.slice,Shape.str,Shape.int i64]
abbrev ZbG:Int->Bool->Bool->Int->Int->Int->Int->Int->Int->Int->Option Addr->Nat->Nat->ByteArray->Int->Option Addr->Nat->Nat->ByteArray->Int->List Value:=λ(n:Int)(b aa:Bool) (ab
 ac ad ae af ag ah:Int) (a:Option Addr) (ai c:Nat) (s:ByteArray) (aj:Int) (ak:Option Addr) (al am:Nat) (an:ByteArray) (ao:Int)=>[int u8 n,bool b,bool aa,int u8 ab,int u64 ac,int u64 ad,int u64
 ae,int u64 af,int i64 ag,int i64 ah,slice a ai c,string s,int i64 aj,slice ak al am,string an,int i64 ao]
abbrev Zdu(n:Int)(b aa:Bool)(ab ac ad ae af ag ah:Int)(a:Option Addr)(ai c:Nat)(s:ByteArray)(aj:Int)(ak:Option Addr)(al am:Nat)(an:ByteArray)(ao aw:Int)(ax ay:Bool)(az a0
 a1 a2 a3 a4 a5:Int) (en:Option Addr) (a7 a8:Nat) (a9:ByteArray) (ba:Int) (eo:Option Addr) (bc bd:Nat) (be:ByteArray) (bf bg:Int) (bh bi:Bool) (bj bk bl bm bn bo bp:Int) (a6:Option Addr) (bs bt:
 Nat) (bu:ByteArray) (bv:Int) (bb:Option Addr) (bx bz:Nat) (ca:ByteArray) (cb cc:Int) (cd ce:Bool) (cf cg ch ci cj ck cl:Int) (ep:Option Addr) (cm cn:Nat) (co:ByteArray) (cp:Int) (eq:Option
 Addr) (cq cr:Nat) (cs:ByteArray) (ct cu:Int) (cv cw:Bool) (cx cy cz da db dc dd:Int) (bq:Option Addr) (de df:Nat) (dg:ByteArray) (dh:Int) (bw:Option Addr) (di dj:Nat) (dk:ByteArray) (dl dm:Int)
 (dn dp:Bool) (dq dr ds dt du dv dw:Int) (er:Option Addr) (dx dy:Nat) (dz:ByteArray) (d0:Int) (es:Option Addr) (d1 d2:Nat) (d3:ByteArray) (d4:Int):List Value:=[int u8 n,bool b,bool aa,int u8
 ab,int u64 ac,int u64 ad,int u64 ae,int u64 af,int i64 ag,int i64 ah,slice a ai c,string s,int i64 aj,slice ak al am,string an,int i64 ao,int u8 aw,bool ax,bool ay,int u8 az,int u64 a0,int u64 a1,int
 u64 a2,int u64 a3,int i64 a4,int i64 a5,slice en a7 a8,string a9,int i64 ba,slice eo bc bd,string be,int i64 bf,int u8 bg,bool bh,bool bi,int u8 bj,int u64 bk,int u64 bl,int u64 bm,int u64 bn,int i64
 bo,int i64 bp,slice a6 bs bt,string bu,int i64 bv,slice bb bx bz,string ca,int i64 cb,int u8 cc,bool cd,bool ce,int u8 cf,int u64 cg,int u64 ch,int u64 ci,int u64 cj,int i64 ck,int i64 cl,slice ep cm
 cn,string co,int i64 cp,slice eq cq cr,string cs,int i64 ct,int u8 cu,bool cv,bool cw,int u8 cx,int u64 cy,int u64 cz,int u64 da,int u64 db,int i64 dc,int i64 dd,slice bq de df,string dg,int i64 dh,
 slice bw di dj,string dk,int i64 dl,int u8 dm,bool dn,bool dp,int u8 dq,int u64 dr,int u64 ds,int u64 dt,int u64 du,int i64 dv,int i64 dw,slice er dx dy,string dz,int i64 d0,slice es d1 d2,string d3,
 int i64 d4]
abbrev ZiZ:Nat->Option Box:=λ(b:Nat)=>some (Box.mk b [int i64 0,int i64 5,int i64 0,int i64 0] 37 4 true true)
abbrev Zi0:Nat->Option Box:=λ(b:Nat)=>some (Box.mk b [int i64 0,int i64 0,int i64 0,int i64 5] 37 4 true true)
abbrev Zi1:Nat->Option Box:=λ(b:Nat)=>some (Box.mk b [int i64 0,int i64 0,int i64 0,int i64 4,int i64 0,int i64 5] 37 6 true true)
abbrev Zi2(n:Int)(b aa:Bool)(ab ac ad ae af ag ah:Int)(a:Option Addr)(ai c:Nat)(s:ByteArray)(aj:Int)(ak:Option Addr)(al am:Nat)(an:ByteArray)(ao aw:Int)(ax ay:Bool)(az a0
 a1 a2 a3 a4 a5:Int) (en:Option Addr) (a7 a8:Nat) (a9:ByteArray) (ba:Int) (eo:Option Addr) (bc bd:Nat) (be:ByteArray) (bf bg:Int) (bh bi:Bool) (bj bk bl bm bn bo bp:Int) (a6:Option Addr) (bs bt:
 Nat) (bu:ByteArray) (bv:Int) (bb:Option Addr) (bx bz:Nat) (ca:ByteArray) (cb cc:Int) (cd ce:Bool) (cf cg ch ci cj ck cl:Int) (ep:Option Addr) (cm cn:Nat) (co:ByteArray) (cp:Int) (eq:Option
 Addr) (cq cr:Nat) (cs:ByteArray) (ct cu:Int) (cv cw:Bool) (cx cy cz da db dc dd:Int) (bq:Option Addr) (de df:Nat) (dg:ByteArray) (dh:Int) (bw:Option Addr) (di dj:Nat) (dk:ByteArray) (dl dm:Int)
 (dn dp:Bool) (dq dr ds dt du dv dw:Int) (er:Option Addr) (dx dy:Nat) (dz:ByteArray) (d0:Int) (es:Option Addr) (d1 d2:Nat) (d3:ByteArray) (d4:Int) (d8:Nat):Option Box:=some (Box.mk d8
 (Zdu n b aa ab ac ad ae af ag ah a ai c s aj ak al am an ao aw ax ay az a0 a1 a2 a3 a4 a5 en a7 a8 a9 ba eo bc bd be bf bg bh bi bj bk bl bm bn bo bp a6 bs bt bu bv bb bx bz ca cb cc cd ce cf cg ch ci cj ck
 cl ep cm cn co cp eq cq cr cs ct cu cv cw cx cy cz da db dc dd bq de df dg dh bw di dj dk dl dm dn dp dq dr ds dt du dv dw er dx dy dz d0 es d1 d2 d3 d4) 57 96 true true)
abbrev ZcB(n:Int)(b aa:Bool)(ab ac ad ae af ag ah:Int)(a:Option Addr)(ai c:Nat)(s:ByteArray)(aj:Int)(ak:Option Addr)(al am:Nat)(an:ByteArray)(ao aw:Int)(ax ay:Bool)(az a0
 a1 a2 a3 a4 a5:Int) (en:Option Addr) (a7 a8:Nat) (a9:ByteArray) (ba:Int) (eo:Option Addr) (bc bd:Nat) (be:ByteArray) (bf bg:Int) (bh bi:Bool) (bj bk bl bm bn bo bp:Int) (a6:Option Addr) (bs bt:
 Nat) (bu:ByteArray) (bv:Int) (bb:Option Addr) (bx bz:Nat) (ca:ByteArray) (cb cc:Int) (cd ce:Bool) (cf cg ch ci cj ck cl:Int) (ep:Option Addr) (cm cn:Nat) (co:ByteArray) (cp:Int) (eq:Option
 Addr) (cq cr:Nat) (cs:ByteArray) (ct cu:Int) (cv cw:Bool) (cx cy cz da db dc dd:Int) (bq:Option Addr) (de df:Nat) (dg:ByteArray) (dh:Int) (bw:Option Addr) (di dj:Nat) (dk:ByteArray) (dl dm:Int)
 (dn dp:Bool) (dq dr ds dt du dv dw:Int) (er:Option Addr) (dx dy:Nat) (dz:ByteArray) (d0:Int) (es:Option Addr) (d1 d2:Nat) (d3:ByteArray) (d4:Int) (d8:Nat) (ap:Int) (d9:Option Addr) (aq ar:
 Nat) (ea:Option Addr) (au av ej ev ex ez e0:Nat):List (Option Box):=[some (Box.mk e0 [int i64 0,int i64 2] 37 2 true true),ZiZ ez,Zi0 ex,Zi1 ev,some (Box.mk ej [int i64 ap,
 slice d9 aq ar,slice ea au av] 30 3 false true),Zi2 n b aa ab ac ad ae af ag ah a ai c s aj ak al am an ao aw ax ay az a0 a1 a2 a3 a4 a5 en a7 a8 a9 ba eo bc bd be bf bg bh bi bj bk bl bm bn bo bp a6 bs bt
 bu bv bb bx bz ca cb cc cd ce cf cg ch ci cj ck cl ep cm cn co cp eq cq cr cs ct cu cv cw cx cy cz da db dc dd bq de df dg dh bw di dj dk dl dm dn dp dq dr ds dt du dv dw er dx dy dz d0 es d1 d2 d3 d4 d8]
theorem Zi3  (m:Mem)(R:RT)(h:
 ∃(R_1:RT),True/\CX Tryz.prog 27 (Array.mk [int i64 5]) m [] R_1/\Zap (Shape.agg ZbF) R_1/\∀(n:Int)(b aa:Bool)(ab ac ad ae af ag ah:Int)(a:Option Addr)(ai c:Nat)(s:ByteArray) (aj:
 Int) (ak:Option Addr) (al am:Nat) (an:ByteArray) (ao:Int) (m':Mem),m.le m'->R_1 (agg (Array.mk (ZbG n b aa ab ac ad ae af ag ah a ai c s aj ak al am an ao))) m' []->∃(R_2:RT),True/\CX
 Tryz.prog 28 (Array.mk []) m' [] R_2/\Zap (Shape.agg ZbF) R_2/\∀(aw:Int)(ax ay:Bool)(az a0 a1 a2 a3 a4 a5:Int)(a6:Option Addr)(a7 a8:Nat)(a9:ByteArray)(ba:Int)(bb:Option Addr) (bc
 bd:Nat) (be:ByteArray) (bf:Int) (et:Mem),m'.le et->R_2 (agg (Array.mk (ZbG aw ax ay az a0 a1 a2 a3 a4 a5 a6 a7 a8 a9 ba bb bc bd be bf))) et []->∃(R_3:RT),True/\CX Tryz.prog 27 (Array.mk
 [int i64 3]) et [] R_3/\Zap (Shape.agg ZbF) R_3/\∀(bg:Int)(bh bi:Bool)(bj bk bl bm bn bo bp:Int)(bq:Option Addr)(bs bt:Nat)(bu:ByteArray)(bv:Int)(bw:Option Addr)(bx bz:Nat) (ca:
 ByteArray) (cb:Int) (m':Mem),et.le m'->R_3 (agg (Array.mk (ZbG bg bh bi bj bk bl bm bn bo bp bq bs bt bu bv bw bx bz ca cb))) m' []->∃(R_4:RT),True/\CX Tryz.prog 29 (Array.mk []) m' [] R_4/\
 Zap (Shape.agg ZbF) R_4/\∀(cc:Int)(cd ce:Bool)(cf cg ch ci cj ck cl:Int)(d9:Option Addr)(cm cn:Nat)(co:ByteArray)(cp:Int)(ea:Option Addr)(cq cr:Nat)(cs:ByteArray)(ct:Int)
 (eu:Mem),m'.le eu->R_4 (agg (Array.mk (ZbG cc cd ce cf cg ch ci cj ck cl d9 cm cn co cp ea cq cr cs ct))) eu []->∃(R_5:RT),True/\CX Tryz.prog 27 (Array.mk [int i64 3]) eu [] R_5/\Zap
 (Shape.agg ZbF) R_5/\∀(cu:Int)(cv cw:Bool)(cx cy cz da db dc dd:Int)(ef:Option Addr)(de df:Nat)(dg:ByteArray)(dh:Int)(eg:Option Addr)(di dj:Nat)(dk:ByteArray)(dl:Int) (m':
 Mem),eu.le m'->R_5 (agg (Array.mk (ZbG cu cv cw cx cy cz da db dc dd ef de df dg dh eg di dj dk dl))) m' []->∃(R_6:RT),True/\CX Tryz.prog 29 (Array.mk []) m' [] R_6/\Zap (Shape.agg
 ZbF) R_6/\∀(dm:Int)(dn dp:Bool)(dq dr ds dt du dv dw:Int)(eh:Option Addr)(dx dy:Nat)(dz:ByteArray)(d0:Int)(ei:Option Addr)(d1 d2:Nat)(d3:ByteArray)(d4:Int)(ek:Mem),m'.le ek->R_6 (agg (Array.mk (ZbG dm dn dp dq dr ds dt du dv dw eh dx dy dz d0 ei d1 d2 d3 d4))) ek []->∀(d8:Nat),ek.free d8->∃(R_7:RT),True/\CX Tryz.prog 26 (Array.mk [slice (some (Addr.mk d8 0
 none)) 6 6]) (ek.add d8 (Zdu n b aa ab ac ad ae af ag ah a ai c s aj ak al am an ao aw ax ay az a0 a1 a2 a3 a4 a5 a6 a7 a8 a9 ba bb bc bd be bf bg bh bi bj bk bl bm bn bo bp bq bs bt bu bv bw bx bz ca cb
 cc cd ce cf cg ch ci cj ck cl d9 cm cn co cp ea cq cr cs ct cu cv cw cx cy cz da db dc dd ef de df dg dh eg di dj dk dl dm dn dp dq dr ds dt du dv dw eh dx dy dz d0 ei d1 d2 d3 d4)) [] R_7/\Zap (Shape.agg [Shape.int
 i64,Shape.slice,Shape.slice]) R_7/\∀(ap:Int)(d5:Option Addr)(aq ar:Nat)(d6:Option Addr)(au av:Nat)(m':Mem),Mem.le (ek.add d8 (Zdu n b aa ab ac ad ae af ag ah a ai c s aj ak al am an
 ao aw ax ay az a0 a1 a2 a3 a4 a5 a6 a7 a8 a9 ba bb bc bd be bf bg bh bi bj bk bl bm bn bo bp bq bs bt bu bv bw bx bz ca cb cc cd ce cf cg ch ci cj ck cl d9 cm cn co cp ea cq cr cs ct cu cv cw cx cy cz da db dc dd ef de
 df dg dh eg di dj dk dl dm dn dp dq dr ds dt du dv dw eh dx dy dz d0 ei d1 d2 d3 d4)) m'->R_7 (agg (Array.mk [int i64 ap,slice d5 aq ar,slice d6 au av])) m' []->∀(ej:Nat),∃(R_8:RT),True/\CX Tryz.prog 18
 (Array.mk [agg (Array.mk [int i64 ap,slice d5 aq ar,slice d6 au av]),int i64 0]) m' [] R_8/\Zap (Shape.tup [Shape.int i64,Shape.bool,Shape.int i64]) R_8/\∀(e2:Int)(ev:Bool)(e3:Int)(ew:Mem),m'.le ew->R_8 (tuple (Array.mk [int i64 e2,bool ev,int i64 e3])) ew []->∃(R_9:RT),True/\CX Tryz.prog 19 (Array.mk [agg (Array.mk [int i64 ap,slice d5 aq ar,slice d6 au av]),int i64 0]) ew [] R_9/\Zap (Shape.tup
 [Shape.int i64,Shape.bool,Shape.int i64]) R_9/\∀(e4:Int)(ex:Bool)(e5:Int)(m':Mem),ew.le m'->R_9 (tuple (Array.mk [int i64 e4,bool ex,int i64 e5])) m' []->∃(R_10:RT),True/\CX Tryz.prog 10
 (Array.mk [agg (Array.mk [int i64 ap,slice d5 aq ar,slice d6 au av])]) m' [] R_10/\Zap (Shape.tup [Shape.slice,Shape.int i64]) R_10/\∀(e6:Option Addr)(e7 e8:Nat)(e9:Int)(ey:Mem),m'.le ey->R_10
 (tuple (Array.mk [slice e6 e7 e8,int i64 e9])) ey []->∃(R_11:RT),True/\CX Tryz.prog 20 (Array.mk [agg (Array.mk [int i64 ap,slice d5 aq ar,slice d6 au av]),int i64 0,int i64 3]) ey [] R_11/\Zap (Shape.tup
 [Shape.int i64,Shape.bool,Shape.int i64]) R_11/\∀(fa:Int)(ez:Bool)(fb:Int)(m':Mem),ey.le m'->R_11 (tuple (Array.mk [int i64 fa,bool ez,int i64 fb])) m' []->∃(R_12:RT),True/\CX Tryz.prog 20
 (Array.mk [agg (Array.mk [int i64 ap,slice d5 aq ar,slice d6 au av]),int i64 0,int i64 5]) m' [] R_12/\Zap (Shape.tup [Shape.int i64,Shape.bool,Shape.int i64]) R_12/\∀(fk:Int)(e0:Bool)(fc:Int) (d7:
 Mem),m'.le d7->R_12 (tuple (Array.mk [int i64 fk,bool e0,int i64 fc])) d7 []->br (!i64.wrap (i64.wrap (i64.wrap (i64.wrap (e3+e5)+e9)+fb)+fc) == (0:Int)) (∃(m'':
 Mem),m.le m''/\m''.le d7/\R (bool false) m'' []) (br (!e2 == (2:Int)) (∃(m'':Mem),m.le m''/\m''.le d7/\R (bool false) m'' []) (br (!ev) (∃(m'':Mem),m.le m''/\m''.le d7/\R (bool
 false) m'' []) (br (!e4 == (3:Int)) (∃(m'':Mem),m.le m''/\m''.le d7/\R (bool false) m'' []) (br (!ex) (∃(m'':Mem),m.le m''/\m''.le d7/\R (bool false) m'' []) (br (!fa == (2:Int)) (∃(m''
 : Mem),m.le m''/\m''.le d7/\R (bool false) m'' []) (br (!ez) (∃(m'':Mem),m.le m''/\m''.le d7/\R (bool false) m'' []) (br e0 (∃(m'':Mem),m.le m''/\m''.le d7/\R (bool false) m'' [])
 (∀(eb:Nat),d7.free eb->∃(R_13:RT),True/\CX Tryz.prog 30 (Array.mk [slice e6 e7 e8,slice (some (Addr.mk eb 0 none)) 3 3]) (d7.add eb [int i64 0,int i64 0,int i64 0,int i64 4,int i64 0,int i64 5])
 [] R_13/\Zap Shape.bool R_13/\∀(fd:Bool)(m':Mem),Mem.le (d7.add eb [int i64 0,int i64 0,int i64 0,int i64 4,int i64 0,int i64 5]) m'->R_13 (bool fd) m' []->br (!fd) (∃(m'':Mem),m.le m''/\
 m''.le m'/\R (bool false) m'' []) (∀(ec:Nat),m'.free ec->∃(R_14:RT),True/\CX Tryz.prog 11 (Array.mk [agg (Array.mk [int i64 ap,slice d5 aq ar,slice d6 au av]),slice (some (Addr.mk ec 0 none)) 2 2])
 (m'.add ec [int i64 0,int i64 0,int i64 0,int i64 5]) [] R_14/\Zap (Shape.tup [Shape.bool,Shape.int i64]) R_14/\∀(fe:Bool)(ff:Int)(el:Mem),Mem.le (m'.add ec [int i64 0,int i64 0,int i64 0,int
 i64 5]) el->R_14 (tuple (Array.mk [bool fe,int i64 ff])) el []->∀(ed:Nat),el.free ed->∃(R_15:RT),True/\CX Tryz.prog 11 (Array.mk [agg (Array.mk [int i64 ap,slice d5 aq ar,slice d6 au av]),slice (some
 (Addr.mk ed 0 none)) 2 2]) (el.add ed [int i64 0,int i64 5,int i64 0,int i64 0]) [] R_15/\Zap (Shape.tup [Shape.bool,Shape.int i64]) R_15/\∀(fg:Bool)(fh:Int)(m':Mem),Mem.le (el.add ed [int i64
 0,int i64 5,int i64 0,int i64 0]) m'->R_15 (tuple (Array.mk [bool fg,int i64 fh])) m' []->∀(ee:Nat),m'.free ee->∃(R_16:RT),True/\CX Tryz.prog 11 (Array.mk [agg (Array.mk [int i64 ap,slice d5 aq ar,
 slice d6 au av]),slice (some (Addr.mk ee 0 none)) 1 1]) (m'.add ee [int i64 0,int i64 2]) [] R_16/\Zap (Shape.tup [Shape.bool,Shape.int i64]) R_16/\∀(fi:Bool)(fj:Int)(e1:Mem),Mem.le (m'.add ee
 [int i64 0,int i64 2]) e1->R_16 (tuple (Array.mk [bool fi,int i64 fj])) e1 []->∃(em:Bool),br (i64.wrap (i64.wrap (ff+fh)+fj) == (0:Int)) (br fe (br (!fg) (Zat (ZcB n b aa ab
 ac ad ae af ag ah a ai c s aj ak al am an ao aw ax ay az a0 a1 a2 a3 a4 a5 a6 a7 a8 a9 ba bb bc bd be bf bg bh bi bj bk bl bm bn bo bp bq bs bt bu bv bw bx bz ca cb cc cd ce cf cg ch ci cj ck cl d9 cm cn co cp ea cq cr
 cs ct cu cv cw cx cy cz da db dc dd ef de df dg dh eg di dj dk dl dm dn dp dq dr ds dt du dv dw eh dx dy dz d0 ei d1 d2 d3 d4 d8 ap d5 aq ar d6 au av ej eb ec ed ee)/\[bool !fi]=[bool em]) (Zat (ZcB n b
 aa ab ac ad ae af ag ah a ai c s aj ak al am an ao aw ax ay az a0 a1 a2 a3 a4 a5 a6 a7 a8 a9 ba bb bc bd be bf bg bh bi bj bk bl bm bn bo bp bq bs bt bu bv bw bx bz ca cb cc cd ce cf cg ch ci cj ck cl d9 cm cn co cp ea
 cq cr cs ct cu cv cw cx cy cz da db dc dd ef de df dg dh eg di dj dk dl dm dn dp dq dr ds dt du dv dw eh dx dy dz d0 ei d1 d2 d3 d4 d8 ap d5 aq ar d6 au av ej eb ec ed ee)/\[bool false]=[bool em])) (Zat
 (ZcB n b aa ab ac ad ae af ag ah a ai c s aj ak al am an ao aw ax ay az a0 a1 a2 a3 a4 a5 a6 a7 a8 a9 ba bb bc bd be bf bg bh bi bj bk bl bm bn bo bp bq bs bt bu bv bw bx bz ca cb cc cd ce cf cg ch ci cj ck
 cl d9 cm cn co cp ea cq cr cs ct cu cv cw cx cy cz da db dc dd ef de df dg dh eg di dj dk dl dm dn dp dq dr ds dt du dv dw eh dx dy dz d0 ei d1 d2 d3 d4 d8 ap d5 aq ar d6 au av ej eb ec ed ee)/\[bool false]=[bool
 em])) (Zat (ZcB n b aa ab ac ad ae af ag ah a ai c s aj ak al am an ao aw ax ay az a0 a1 a2 a3 a4 a5 a6 a7 a8 a9 ba bb bc bd be bf bg bh bi bj bk bl bm bn bo bp bq bs bt bu bv bw bx bz ca cb cc cd ce cf cg
 ch ci cj ck cl d9 cm cn co cp ea cq cr cs ct cu cv cw cx cy cz da db dc dd ef de df dg dh eg di dj dk dl dm dn dp dq dr ds dt du dv dw eh dx dy dz d0 ei d1 d2 d3 d4 d8 ap d5 aq ar d6 au av ej eb ec ed ee)/\[bool false]
 = [bool em])/\∃(m'':Mem),m.le m''/\m''.le e1/\R (bool em) m'' [])))))))))):CX Tryz.prog 8 #[] m [] R:=
 Zad (E:=Zlc) Zak mix Tryz.func8 [] [] (by kernel_rfl) (Eq.mp (by kernel_rfl) h)
noncomputable def Zbo:Env:={ EB with
 loops:=(λi=>bif Nat.beq i 4 then⟨[(13,.int .i64)],[],[],false⟩ else⟨[],[],[],false⟩)
 dr:=(λi=>bif Nat.beq i 6 then[⟨0,[],[],none,[],[]⟩,⟨1,[],[],none,[],[]⟩,⟨2,[],[],none,[0,1],[]⟩,⟨3,[],[],none,[0,1,2],[]⟩,⟨4,[],[],none,[],[]⟩,⟨5,[],[],none,[],[]⟩,⟨6,[],[],none,[4,5],[]⟩,⟨7,[],[],none,[4,5,6],[]⟩,⟨8,[],[],none,[0,1,2,3,4,5,6,7],[]⟩]else[]) }
theorem Zbh(p0a:Option Addr)(p0n p0c:Nat)(p1a:Option Addr)(p1n p1c:Nat)(m:Mem)(R:RT)(h:
 br (!(↑p0n:Int) == (↑p1n:Int)) (∃(m'':Mem),m.le m''/\m''.le m/\R (bool false) m'' []) (∃(I:IT),(∃(n:Nat),I [int i64 0] [] [] m n)/\∀(n:Int)(m':Mem)(n_1:Nat),m.le m'->I [int i64
 n] [] [] m' n_1->br (decide (n < (↑p0n:Int))) (∃(b:Nat),∃(o:Nat),p0a=some (Addr.mk b o none)/\Zaf n p0n/\∃v v_1:Value,m'.reads b (o+Int.toNat n*2) [v,v_1]/\∃(b:Nat),∃
 (o:Nat),p1a=some (Addr.mk b o none)/\Zaf n p1n/\∃v_2 v_3:Value,m'.reads b (o+Int.toNat n*2) [v_2,v_3]/\∃(b:Bool),EqIs Tryz.prog 37 (agg (Array.mk [v,v_1])) (agg (Array.mk
 [v_2,v_3])) b/\br (!b) (∃(m'':Mem),m.le m''/\m''.le m'/\R (bool false) m'' []) (∃(n':Nat),n' < n_1/\I [int i64 (i64.wrap (n+(1:Int)))] [] [] m' n')) (∃(m'':Mem),m.le m''/\m''.le m'/\R (bool true) m'' []))):CX Tryz.prog 30 #[.slice p0a p0n p0c,.slice p1a p1n p1c] m [] R:=
 Zad (E:=Zbo) Zak mix Tryz.func30 [.v (.slice p0a p0n p0c),.v (.slice p1a p1n p1c)] [] (by kernel_rfl) (Eq.mp (by kernel_rfl) h)
end Go.Proofs.YtojlhhphofhaoaaGreatDoor
namespace Go.Proofs.YtojlhhphofhaoaaGreatDoor
open Go Go.Eng Go.Rx Go.Proofs Go.RowKit
set_option maxRecDepth 100000
def ruK(k n:Int)(s:ByteArray):Ru:=⟨k,false,false,T0,s,n,none,0,[],⟨#[]⟩,0⟩
def ZxB:List Ru:=[ruK 4 5 ⟨#[]⟩,ruK 2 0 ⟨#[97]⟩,ruK 4 3 ⟨#[]⟩,ruK 3 0 ⟨#[]⟩,ruK 4 3 ⟨#[]⟩,ruK 3 0 ⟨#[]⟩]
def exS(sa ra:Option Addr):Sc:=⟨4,none,0,[],sa,1,[⟨⟨#[97]⟩,ra,6,ZxB⟩]⟩
theorem ZzJ(sa ra:Option Addr):okS (exS sa ra)=true:=by kernel_rfl
theorem ZxZ(sa ra:Option Addr):ZdM (exS sa ra)=[((0:Int),(0:Int)),(0,4),(0,5)]:=by kernel_rfl
theorem ZzK(sa ra:Option Addr):Ze2 toO (exS sa ra) 0=Zes 2 true 0:=by kernel_rfl
theorem ZzL(sa ra:Option Addr):Ze2 eoO (exS sa ra) 0=Zes 3 true 0:=by kernel_rfl
theorem Zx0(sa ra:Option Addr):Zvj (exS sa ra) 0 3=Zes 2 true 0:=by kernel_rfl
theorem Zx1(sa ra:Option Addr):Zvj (exS sa ra) 0 5=Zes 0 false 0:=by kernel_rfl
theorem ZxC:ZvE [((0:Int),(0:Int)),(0,4),(0,5)] [(0,0),(0,5)]=true/\ZvE [((0:Int),(0:Int)),(0,4),(0,5)] [(0,5),(0,0)]=false/\ZvE [((0:Int),(0:Int)),(0,4),(0,5)] [(0,2)]=false:=by decide
theorem ZxD(n:Int)(m:Mem):CX Tryz.prog 27 #[.int .i64 n] m [] (Ret (.agg (ruK 4 n ⟨#[]⟩).cs.toArray)):=by
 apply Zgv
 exact λb=>Zac (Mem.le_refl _) rfl
theorem Zza(m:Mem):CX Tryz.prog 28 #[] m [] (Ret (.agg (ruK 2 0 ⟨#[97]⟩).cs.toArray)):=by
 apply ZiY
 exact λb=>Zac (Mem.le_refl _) rfl
theorem ZyB(m:Mem):CX Tryz.prog 29 #[] m [] (Ret (.agg (ruK 3 0 ⟨#[]⟩).cs.toArray)):=by
 apply Znd
 exact λb=>Zac (Mem.le_refl _) rfl
theorem Zf8{r:Ru}:∀(v:Value)(m':Mem) (css:List (List Value)),Ret (.agg r.cs.toArray) v m' css->Shape.fits (.agg [.int .u8,.bool,.bool,.int .u8,.int .u64,.int .u64,.int .u64,.int .u64,.int .i64,.int .i64,.slice,.str,.int .i64,.slice,.str,.int .i64]) v=true:=λv _ _ h=>by rw[show v=_ from h];rfl
theorem Zud{r:Ru}{m:Mem}{K:Int->Bool->Bool->Int->Int->Int->Int->Int->Int->Int->Option Addr->Nat->Nat->ByteArray->Int->Option Addr->Nat->Nat->ByteArray->Int->Mem->Prop}(k:∀m',m.le m'->K r.k r.bg r.en r.t.k r.t.s0 r.t.s1 r.t.s2 r.t.s3 r.t.mn r.t.mx r.t.a r.t.subs.length r.t.c r.s r.n r.aa r.acts.length r.ac r.go r.code m'):
  ∀(k1:Int)(k2 k3:Bool)(k4 k5 k6 k7 k8 k9 k10:Int)(ka:Option Addr)(kb kc:Nat)(ks:ByteArray)(kd:Int)(ke:Option Addr)(kf kg:Nat)(kh:ByteArray)(ki:Int)(m':Mem),m.le m'->Ret (.agg r.cs.toArray) (.agg #[.int .u8 k1,.bool k2,.bool k3,.int .u8 k4,.int .u64 k5,.int .u64 k6,.int .u64 k7,.int .u64 k8,.int .i64 k9,.int .i64 k10,.slice ka kb kc,.string ks,.int .i64 kd,.slice ke kf kg,.string kh,.int .i64 ki]) m' []->K k1 k2 k3 k4 k5 k6 k7 k8 k9 k10 ka kb kc ks kd ke kf kg kh ki m':=by
 intro k1 k2 k3 k4 k5 k6 k7 k8 k9 k10 ka kb kc ks kd ke kf kg kh ki m' hm hv
 have hv:Value.agg _=Value.agg r.cs.toArray:=hv
 simp only[Ru.cs,Value.agg.injEq,Array.mk.injEq,List.cons.injEq,Value.int.injEq,Value.bool.injEq,Value.string.injEq,Value.slice.injEq,true_and,and_true]at hv
 obtain⟨rfl,rfl,rfl,rfl,rfl,rfl,rfl,rfl,rfl,rfl,⟨rfl,rfl,rfl⟩,rfl,rfl,⟨rfl,rfl,rfl⟩,rfl,rfl⟩:=hv
 exact k m' hm
theorem Zx2{m:Mem}{k n:Int}{s:ByteArray}(hk:0<=k/\k < 256)(hn:I64 n)(hs:s.size<=1000000000000000):RepR m (ruK k n s):=⟨hk,ZwO m,hs,hn,by show 0<=few;omega,.inl rfl,by simp[ruK],by show(ByteArray.mk #[]).size<=_;decide,by show I64 0;unfold I64;omega⟩
def Zzz(l:List Ru)(a:Option Addr)(c:Nat):Value->Mem->List (List Value)->Prop:=λv m' _=>∃sa,v=(⟨4,none,0,[],sa,1,[⟨⟨#[97]⟩,a,c,l⟩]⟩:Sc).v/\rowRd m' sa [.string ⟨#[97]⟩,.slice a l.length c]
theorem Zvm{l a c}:∀(v:Value)(m':Mem) (css:List (List Value)),Zzz l a c v m' css->Shape.fits (.agg [.int .i64,.slice,.slice]) v=true:=λv _ _ ⟨_,h,_⟩=>by rw[h];rfl
theorem Zw0(l:List Ru)(a:Option Addr)(c:Nat)(m:Mem):CX Tryz.prog 26 #[.slice a l.length c] m [] (Zzz l a c):=by
 apply Znc
 intro b b2 hf
 exact ZaS (Mem.le_add hf _) ⟨_,rfl,ZbM⟩
theorem Ztn(l r:List Dd)(a a':Option Addr)(c c':Nat)(m:Mem)(hl:l.length<=1000000000000000)(h1:rowRd m a (l.map dC).flatten)(h2:rowRd m a' (r.map dC).flatten):
  CX Tryz.prog 30 #[.slice a l.length c,.slice a' r.length c'] m [] (Ret (.bool (decide (l=r)))):=by
 apply Zbh
 refine Zab (λh=>Zac (Mem.le_refl _) ?_) (λh=>?_)
 ·have dU:¬(l.length:Int)=r.length:=by simpa using h
  show Value.bool false=Value.bool _
  rw[decide_eq_false (λe=>dU (by rw[e]))]
 have bT:l.length=r.length:=by
  have:(l.length:Int)=r.length:=by simpa using h
  omega
 refine⟨λxs _ _ m' q=>∃i:Nat,i<=l.length/\xs=[.int .i64 i]/\l.take i=r.take i/\q=l.length - i,⟨l.length,0,by omega,rfl,rfl,rfl⟩,?_⟩
 rintro n m1 q aV ⟨i,hi,hx,heq,rfl⟩
 obtain rfl:n=i:=by simpa using hx
 refine Zaw (λbB=>?_) (λdB=>Zac aV ?_)
 ·obtain⟨x,hx⟩:=Zc9 (show i < l.length by omega)
  obtain⟨y,hy⟩:=Zc9 (show i < r.length by omega)
  obtain⟨b1,o1,iP,dZ⟩:=Zam Zpn (h1.mono aV) hx (by omega)
  obtain⟨b2,o2,mX,gU⟩:=Zam Zpn (h2.mono aV) hy (by omega)
  refine⟨b1,o1,iP,⟨by omega,bB⟩,_,_,dZ,b2,o2,mX,⟨by omega,by omega⟩,_,_,gU,_,Zub x.1 x.2 y.1 y.2,Zab (λh=>Zac aV ?_) (λh=>?_)⟩
  ·have dU:¬x=y:=by
    intro e
    subst e;simp at h
   show Value.bool false=Value.bool _
   rw[decide_eq_false (λe=>dU (by subst e;rw[hx]at hy;exact Option.some.inj hy))]
  ·have e:x=y:=by
    have:(x.1,x.2)=(y.1,y.2):=by simpa using h
    exact this
   subst e
   exact⟨l.length - (i+1),by omega,i+1,by omega,by rw[Zal (by omega) (by omega)];rfl,by rw[List.take_add_one,List.take_add_one,hx,hy,heq],rfl⟩
 ·have hi:i=l.length:=by omega
  subst hi
  show Value.bool true=Value.bool _
  rw[List.take_length,bT,List.take_length]at heq
  rw[decide_eq_true heq]
set_option maxHeartbeats 2000000 in
theorem ZqE(m:Mem):CX Tryz.prog 8 #[] m [] (Ret (.bool true)):=by
 apply Zi3
 refine Zai (ZxD 5 m) Zf8 (Zud λm1 aV=>Zai (Zza m1) Zf8 (Zud λm2 bA=>Zai (ZxD 3 m2) Zf8 (Zud λm3 bR=>Zai (ZyB m3) Zf8 (Zud λm4 cO=>Zai (ZxD 3 m4) Zf8 (Zud λm5 dY=>Zai (ZyB m5) Zf8 (Zud λm6 gZ=>?_))))))
 intro b hf
 have kC:=mLt aV (mLt bA (mLt bR (mLt cO (mLt dY gZ))))
 refine Zai (Zw0 ZxB (some ⟨b,0,none⟩) 6 _) Zvm ?_
 rintro n1 a1 n2 c2 a3 n3 c3 m7 iS ⟨sa,hv,bF⟩
 simp only[Sc.v,Value.agg.injEq,Array.mk.injEq,List.cons.injEq,Value.int.injEq,Value.slice.injEq,true_and,and_true]at hv
 obtain⟨rfl,⟨rfl,rfl,rfl⟩,rfl,rfl,rfl⟩:=hv
 have r9:=mLt kC (mLt (Mem.le_add hf _) iS)
 have pE:rowRd m7 (some ⟨b,0,none⟩) (ZxB.map Ru.cs).flatten:=(show rowRd (m6.add b (ZxB.map Ru.cs).flatten) (some ⟨b,0,none⟩) (ZxB.map Ru.cs).flatten from ZbM).mono iS
 have hC:RepC m7 (exS a3 (some ⟨b,0,none⟩)):=by
  refine⟨by show I64 4;unfold I64;omega,by show 0<=few;omega,.inl rfl,by simp[exS],by show 1<=few;unfold few;omega,bF,?_,Nat.le_refl _,Nat.le_refl _⟩
  intro x hx
  have hx:x∈[(⟨⟨#[97]⟩,some ⟨b,0,none⟩,6,ZxB⟩:Sta)]:=hx
  rw[List.mem_singleton]at hx;subst hx
  refine⟨by show(ByteArray.mk #[97]).size<=_;decide,by show 6<=few;unfold few;omega,pE,?_⟩
  intro r hr
  have hr:r∈ZxB:=hr
  simp only[ZxB,List.mem_cons,List.not_mem_nil,or_false]at hr
  rcases hr with rfl|rfl|rfl|rfl|rfl|rfl <;> exact Zx2 (by omega) (by unfold I64;omega) (by decide)
 have eT:Ze2 toO (exS a3 (some ⟨b,0,none⟩)) 0=Zes 2 true 0:=ZzK _ _
 have eE:Ze2 eoO (exS a3 (some ⟨b,0,none⟩)) 0=Zes 3 true 0:=ZzL _ _
 have e3:Zvj (exS a3 (some ⟨b,0,none⟩)) 0 3=Zes 2 true 0:=Zx0 _ _
 have e5:Zvj (exS a3 (some ⟨b,0,none⟩)) 0 5=Zes 0 false 0:=Zx1 _ _
 have eO:okS (exS a3 (some ⟨b,0,none⟩))=true:=ZzJ _ _
 have eD:ZdM (exS a3 (some ⟨b,0,none⟩))=[((0:Int),(0:Int)),(0,4),(0,5)]:=ZxZ _ _
 have c1:=λM=>Zd6 (exS a3 (some ⟨b,0,none⟩)) 0 M
 have c2:=λM=>ZwW (exS a3 (some ⟨b,0,none⟩)) 0 M
 have c3:=λM=>Ztj (exS a3 (some ⟨b,0,none⟩)) 0 3 M
 have c5:=λM=>Ztj (exS a3 (some ⟨b,0,none⟩)) 0 5 M
 rw[eT]at c1;rw[eE]at c2;rw[e3]at c3;rw[e5]at c5
 intro b1
 refine Zai (c1 m7 hC) Zb2 λn4 b4 e4 m8 gu qq=>?_
 obtain⟨rfl,rfl,rfl⟩:=ZcD qq
 refine Zai (c2 m8 (hC.mono gu)) Zb2 λn5 b5 e5' m9 lT oY=>?_
 obtain⟨rfl,rfl,rfl⟩:=ZcD oY
 have tW:=mLt gu lT
 refine Zai (Zk9 (exS a3 (some ⟨b,0,none⟩)) m9 (hC.mono tW)) Zfv λa6 n6 c6 e6 m10 lr nH=>?_
 have nH:=ZhG nH
 rw[eO]at nH
 obtain⟨rfl,rfl,_,pF⟩:=nH
 have pG:=mLt tW lr
 refine Zai (c3 m10 (hC.mono pG)) Zb2 λn7 b7 e7 m11 lw vY=>?_
 obtain⟨rfl,rfl,rfl⟩:=ZcD vY
 have pH:=mLt pG lw
 refine Zai (c5 m11 (hC.mono pH)) Zb2 λn8 b8 e8 m12 jz gP=>?_
 obtain⟨rfl,rfl,rfl⟩:=ZcD gP
 have sC:=mLt pH jz
 refine ZdE rfl (ZdE rfl (ZdE rfl (ZdE rfl (ZdE rfl (ZdE rfl (ZdE rfl (ZdE rfl λb9 tX=>?_)))))))
 have sD:=mLt sC (Mem.le_add tX (([((0:Int),(0:Int)),(0,4),(0,5)]:List Dd).map dC).flatten)
 have tY:=Ztn (ZdM (exS a3 (some ⟨b,0,none⟩))) [((0:Int),(0:Int)),(0,4),(0,5)] a6 (some ⟨b9,0,none⟩) c6 3 (m12.add b9 (([((0:Int),(0:Int)),(0,4),(0,5)]:List Dd).map dC).flatten) (by rw[eD];decide) (pF.mono (mLt (mLt lw jz) (Mem.le_add tX _))) ZbM
 rw[decide_eq_true eD]at tY
 refine Zag tY λm13 kx=>ZdE rfl λb10 nf=>?_
 have hK:=λ(l:List Dd)(a:Option Addr)(c:Nat)(M:Mem)(h:m7.le M)(hl:l.length<=1000000000000000) (hr:rowRd M a (l.map dC).flatten)=>Zpo (exS a3 (some ⟨b,0,none⟩)) l a c M (hC.mono h) hl hr
 rw[eO,eD]at hK
 have pI:=mLt sD (mLt kx (Mem.le_add nf (([((0:Int),(0:Int)),(0,5)]:List Dd).map dC).flatten))
 refine Zai (hK [(0,0),(0,5)] (some ⟨b10,0,none⟩) 2 _ pI (by decide) ZbM) ZhH λb11 e11 m15 sE sF=>?_
 obtain⟨rfl,rfl⟩:=Zla sF
 intro b12 mZ
 have pJ:=mLt pI (mLt sE (Mem.le_add mZ (([((0:Int),(5:Int)),(0,0)]:List Dd).map dC).flatten))
 refine Zai (hK [(0,5),(0,0)] (some ⟨b12,0,none⟩) 2 _ pJ (by decide) ZbM) ZhH λb13 e13 m17 sG kV=>?_
 obtain⟨rfl,rfl⟩:=Zla kV
 intro b14 sH
 have pK:=mLt pJ (mLt sG (Mem.le_add sH (([((0:Int),(2:Int))]:List Dd).map dC).flatten))
 refine Zai (hK [(0,2)] (some ⟨b14,0,none⟩) 1 _ pK (by decide) ZbM) ZhH λb15 e15 m19 sI l3=>?_
 obtain⟨rfl,rfl⟩:=Zla l3
 rw[ZxC.1,ZxC.2.1,ZxC.2.2]
 exact⟨true,Zjr rfl (Zjr rfl (Zjr rfl ⟨rfl,rfl⟩)),Zac (mLt r9 (mLt pK sI)) rfl⟩
end Go.Proofs.YtojlhhphofhaoaaGreatDoor
namespace Go.Proofs.YtojlhhphofhaoaaGreatDoor
open Go Go.Eng Go.Proofs Go.RowKit
open Go.Value (int slice agg bool string tuple func)
open Go.IntKind (u8 u64 i64)
set_option maxRecDepth 100000
noncomputable def ZeT:Env:={ EB with
 loops:=(λi=>bif Nat.beq i 5 then⟨[(52,.int .i64)],[],[],false⟩ else bif Nat.beq i 18 then⟨[(19,.int .i64),(107,.int .i64)],[],[],false⟩ else⟨[],[],[],false⟩)
 joins:=(λi=>bif Nat.beq i 10 then some [(95,.bool)]else bif Nat.beq i 22 then some [(146,.bool)]else bif Nat.beq i 33 then some [(4,.bool)]else none)
 frzNew:=[2] }
abbrev Zan:Int->Option Addr->Nat->Nat->Option Addr->Nat->Nat->Int->Nat->Int->Option Addr->Nat->Nat->Option Addr->Nat->Nat->Nat->Nat->List (Option Box):=λ(aA:Int) (aH:
 Option Addr) (aG aI:Nat) (aJ:Option Addr) (aE aK:Nat) (p1:Int) (b:Nat) (n:Int) (a:Option Addr) (ab c:Nat) (ac:Option Addr) (aa ad ay af:Nat)=>[some (Box.mk af [int i64 (if(-1:Int)
 < p1 then(-1:Int)else p1),int i64 (if(↑aa:Int) > p1 then(↑aa:Int)else p1)] 3 2 true true),some (Box.mk ay [int i64 n,slice a ab c,slice ac aa ad] 30 3 false true),some (Box.mk b [int u8 aA,slice aH
 aG aI,slice aJ aE aK] 25 3 true true)]
abbrev ZaV:Int->Option Addr->Nat->Nat->Option Addr->Nat->Nat->Int->Nat->Option Addr->Nat->Nat->Option Addr->Nat->Nat->Nat->Nat->Int->Option Addr->Nat->Nat->Option Addr->Nat->Nat
 -> Nat->List (Option Box):=λ(aA:Int)(aH:Option Addr)(aG aI:Nat)(aJ:Option Addr)(aE aK:Nat)(p1:Int)(b:Nat)(a:Option Addr)(n c:Nat)(ac:Option Addr)(ab ad ay af:Nat)
 (aa:Int) (bi:Option Addr) (aq a7:Nat) (bj:Option Addr) (a4 ap ae:Nat)=>[some (Box.mk ae [int i64 aa,slice bi aq a7,slice bj a4 ap] 30 3 false true),some (Box.mk af [int i64 (if(-1:Int) < p1 then(-1:
 Int)else p1),int i64 (if(↑ab:Int) > p1 then(↑ab:Int)else p1)] 3 2 true true),some (Box.mk ay [int i64 (if(1:Int) < p1 then(1:Int)else p1),slice a n c,slice ac ab ad] 30 3 false true),some (Box.mk b
 [int u8 aA,slice aH aG aI,slice aJ aE aK] 25 3 true true)]
theorem Zet(aA:Int)(aH:Option Addr)(aG aI:Nat)(aJ:Option Addr)(aE aK:Nat)(p1:Int)(m:Mem)(R:RT)(h:
 ∀(b:Nat)(m':Mem),m.le m'->m'.reads b 0 [int u8 aA,slice aH aG aI,slice aJ aE aK]->∃(R_1:RT),True/\CX Tryz.prog 8 (Array.mk []) m' [] R_1/\Zap Shape.bool R_1/\∀(ay:Bool)
 (a1:Mem),m'.le a1->R_1 (bool ay) a1 []->br (!ay) (∃(m'':Mem),m.le m''/\m''.le a1/\R (bool false) m'' []) (∃(R_2:RT),True/\CX Tryz.prog 9 (Array.mk [agg (Array.mk [int u8 aA,slice aH
 aG aI,slice aJ aE aK])]) a1 [] R_2/\Zap (Shape.agg [Shape.int i64,Shape.slice,Shape.slice]) R_2/\∀(n:Int)(a:Option Addr)(ab c:Nat)(ac:Option Addr)(aa ad:Nat)(m':Mem),a1.le m'
 -> R_2 (agg (Array.mk [int i64 n,slice a ab c,slice ac aa ad])) m' []->∀(af ae:Nat),m'.free ae->∃(I:IT),(∃(n:Nat),I [int i64 0] [] [] (m'.add ae [int i64 (if(-1:Int) < p1 then(-1:Int)else
 p1),int i64 (if(↑aa:Int) > p1 then(↑aa:Int)else p1)]) n)/\∀(aq:Int)(az:Mem)(a4:Nat),Mem.le (m'.add ae [int i64 (if(-1:Int) < p1 then(-1:Int)else p1),int i64 (if(↑aa:Int) > p1 then(↑aa
 : Int)else p1)]) az->I [int i64 aq] [] [] az a4->br (decide (aq < (↑(2:Nat):Int))) (Zaf aq 2/\Eng.Ztt [int i64 (if(-1:Int) < p1 then(-1:Int)else p1),int i64 (if(↑aa:Int) > p1 then(↑aa:Int)
 else p1)] (Int.toNat aq*1) λ(v:Value)=>∃(R_3:RT),True/\CX Tryz.prog 18 (Array.mk [agg (Array.mk [int i64 n,slice a ab c,slice ac aa ad]),v]) az [] R_3/\Zap (Shape.tup [Shape.int i64,Shape.bool,
 Shape.int i64]) R_3/\∀(a0:Int)(ah:Bool)(a2:Int)(m':Mem),az.le m'->R_3 (tuple (Array.mk [int i64 a0,bool ah,int i64 a2])) m' []->∃(R_4:RT),True/\CX Tryz.prog 19 (Array.mk [agg (Array.mk [int
 i64 n,slice a ab c,slice ac aa ad]),v]) m' [] R_4/\Zap (Shape.tup [Shape.int i64,Shape.bool,Shape.int i64]) R_4/\∀(ar:Int)(au:Bool)(aj:Int)(ak:Mem),m'.le ak->R_4 (tuple (Array.mk [int i64 ar,
 bool au,int i64 aj])) ak []->∃(R_5:RT),True/\CX Tryz.prog 20 (Array.mk [agg (Array.mk [int i64 n,slice a ab c,slice ac aa ad]),v,int i64 1]) ak [] R_5/\Zap (Shape.tup [Shape.int i64,Shape.bool,Shape.int
 i64]) R_5/\∀(a3:Int)(al:Bool)(am:Int)(m':Mem),ak.le m'->R_5 (tuple (Array.mk [int i64 a3,bool al,int i64 am])) m' []->∃(ag:Bool),br (!a2 == (250:Int)) (Zat (Zan aA aH
 aG aI aJ aE aK p1 b n a ab c ac aa ad af ae)/\[bool true]=[bool ag]) (br (!aj == (250:Int)) (Zat (Zan aA aH aG aI aJ aE aK p1 b n a ab c ac aa ad af ae)/\[bool
 true]=[bool ag]) (br (!am == (250:Int)) (Zat (Zan aA aH aG aI aJ aE aK p1 b n a ab c ac aa ad af ae)/\[bool true]=[bool ag]) (br ah (Zat (Zan aA aH
 aG aI aJ aE aK p1 b n a ab c ac aa ad af ae)/\[bool true]=[bool ag]) (br au (Zat (Zan aA aH aG aI aJ aE aK p1 b n a ab c ac aa ad af ae)/\[bool true]=[bool
 ag]) (Zat (Zan aA aH aG aI aJ aE aK p1 b n a ab c ac aa ad af ae)/\[bool al]=[bool ag])))))/\br ag (∃(m'':Mem),m.le m''/\m''.le m'/\R (bool false) m'' []) (Zat
 (Zan aA aH aG aI aJ aE aK p1 b n a ab c ac aa ad af ae)/\∃(n':Nat),n' < a4/\I [int i64 (i64.wrap (aq+(1:Int)))] [] [] m' n')) (∃(R_3:RT),True/\CX Tryz.prog 21
 (Array.mk [agg (Array.mk [int i64 n,slice a ab c,slice ac aa ad])]) az [] R_3/\Zap (Shape.tup [Shape.int i64,Shape.int i64]) R_3/\∀(a0 a2:Int)(m':Mem),az.le m'->R_3 (tuple (Array.mk [int i64 a0,int
 i64 a2])) m' []->br (!a2 == (0:Int)) (∃(m'':Mem),m.le m''/\m''.le m'/\R (bool false) m'' []) (∃(I:IT),(∃(n:Nat),I [int i64 0,int i64 0] [] [] m' n)/\∀(ar aj:Int)(ak:Mem)(a3:Nat),
 m'.le ak->I [int i64 ar,int i64 aj] [] [] ak a3->br (decide (aj < (↑aa:Int))) (∃(R_4:RT),True/\CX Tryz.prog 18 (Array.mk [agg (Array.mk [int i64 n,slice a ab c,slice ac aa ad]),int i64 aj]) ak [] R_4/\
 Zap (Shape.tup [Shape.int i64,Shape.bool,Shape.int i64]) R_4/\∀(am:Int)(ah:Bool)(an:Int)(m':Mem),ak.le m'->R_4 (tuple (Array.mk [int i64 am,bool ah,int i64 an])) m' []->∃(R_5:RT),True/\CX
 Tryz.prog 20 (Array.mk [agg (Array.mk [int i64 n,slice a ab c,slice ac aa ad]),int i64 aj,int i64 (if i64.wrap (a0+(1:Int)) > p1 then i64.wrap (a0+(1:Int))else p1)]) m' [] R_5/\Zap
 (Shape.tup [Shape.int i64,Shape.bool,Shape.int i64]) R_5/\∀(ao:Int)(au:Bool)(a5:Int)(ai:Mem),m'.le ai->R_5 (tuple (Array.mk [int i64 ao,bool au,int i64 a5])) ai []->∃(al:Bool),br
 (!i64.wrap (an+a5) == (0:Int)) (Zat (Zan aA aH aG aI aJ aE aK p1 b n a ab c ac aa ad af ae)/\[bool true]=[bool al]) (br au (Zat (Zan aA aH
 aG aI aJ aE aK p1 b n a ab c ac aa ad af ae)/\[bool true]=[bool al]) (br (!ao == (0:Int)) (Zat (Zan aA aH aG aI aJ aE aK p1 b n a ab c ac aa ad af ae)/\[bool
 true]=[bool al]) (br (!ah) (Zat (Zan aA aH aG aI aJ aE aK p1 b n a ab c ac aa ad af ae)/\[bool !am == (0:Int)]=[bool al]) (Zat (Zan aA aH aG aI
 aJ aE aK p1 b n a ab c ac aa ad af ae)/\[bool false]=[bool al]))))/\br al (∃(m'':Mem),m.le m''/\m''.le ai/\R (bool false) m'' []) (br ah (∃(ag:Nat),∃(o:Nat),ac=some (Addr.mk ag o
 none)/\Zaf aj aa/\∃(v:Value),ai ag (o+Int.toNat aj*2+1)=some v/\chk (Zbi v) (∃(a8:Nat),∃(o:Nat),slA v=some (Addr.mk a8 o none)/\Zaf am (slN v)/\∃(v:Value),ai a8 (o+Int.toNat am
 * 16+12)=some v/\chk (ZaP i64 v) (Zat (Zan aA aH aG aI aJ aE aK p1 b n a ab c ac aa ad af ae)/\∃(n':Nat),n' < a3/\I [int i64 (if intOf v > ar then intOf
 v else ar),int i64 (i64.wrap (aj+(1:Int)))] [] [] ai n'))) (Zat (Zan aA aH aG aI aJ aE aK p1 b n a ab c ac aa ad af ae)/\∃(n':Nat),n' < a3/\I [int i64 ar,int
 i64 (i64.wrap (aj+(1:Int)))] [] [] ai n'))) (∃(R_4:RT),True/\CX Tryz.prog 10 (Array.mk [agg (Array.mk [int i64 (if(1:Int) < p1 then(1:Int)else p1),slice a ab c,slice ac aa ad])]) ak [] R_4/\
 Zap (Shape.tup [Shape.slice,Shape.int i64]) R_4/\∀(bd:Option Addr)(n a7:Nat)(am:Int)(m':Mem),ak.le m'->R_4 (tuple (Array.mk [slice bd n a7,int i64 am])) m' []->∃(R_5:RT),True/\CX Tryz.prog 15
 (Array.mk [agg (Array.mk [int i64 (if(1:Int) < p1 then(1:Int)else p1),slice a ab c,slice ac aa ad])]) m' [] R_5/\Zap (Shape.tup [Shape.agg [Shape.int i64,Shape.slice,Shape.slice],Shape.slice,Shape.int
 i64]) R_5/\∀(n:Int)(av:Option Addr)(an ap:Nat)(aw:Option Addr)(ao ax:Nat)(be:Option Addr)(a5 bf:Nat)(a9:Int)(ai:Mem),m'.le ai->R_5 (tuple (Array.mk [agg (Array.mk [int i64 n,slice av
 an ap,slice aw ao ax]),slice be a5 bf,int i64 a9])) ai []->∀(ah:Nat),∃(R_6:RT),True/\CX Tryz.prog 11 (Array.mk [agg (Array.mk [int i64 (if(1:Int) < p1 then(1:Int)else p1),slice a ab c,slice ac aa
 ad]),slice none 0 0]) ai [] R_6/\Zap (Shape.tup [Shape.bool,Shape.int i64]) R_6/\∀(au:Bool)(ba:Int)(m':Mem),ai.le m'->R_6 (tuple (Array.mk [bool au,int i64 ba])) m' []->∃(R_7:RT),True/\CX
 Tryz.prog 21 (Array.mk [agg (Array.mk [int i64 (if(1:Int) < p1 then(1:Int)else p1),slice a ab c,slice ac aa ad])]) m' [] R_7/\Zap (Shape.tup [Shape.int i64,Shape.int i64]) R_7/\∀(bg bb:Int)(a6:Mem),
 m'.le a6->R_7 (tuple (Array.mk [int i64 bg,int i64 bb])) a6 []->∃(R_8:RT),True/\CX Tryz.prog 18 (Array.mk [agg (Array.mk [int i64 (if(1:Int) < p1 then(1:Int)else p1),slice a ab c,slice ac aa ad]),
 int i64 0]) a6 [] R_8/\Zap (Shape.tup [Shape.int i64,Shape.bool,Shape.int i64]) R_8/\∀(bh:Int)(al:Bool)(bc:Int)(m':Mem),a6.le m'->R_8 (tuple (Array.mk [int i64 bh,bool al,int i64 bc])) m' []->∃
 (ag:Bool),br (ar == a0) (br (am == (400:Int)) (br (a9 == (400:Int)) (br (ba == (400:Int)) (br (bb == (400:Int)) (Zat (ZaV aA aH aG aI aJ aE aK p1 b a ab c ac aa ad af ae
 n av an ap aw ao ax ah)/\[bool (bc == (400:Int))]=[bool ag]) (Zat (ZaV aA aH aG aI aJ aE aK p1 b a ab c ac aa ad af ae n av an ap aw ao ax ah)/\[bool false]=[bool ag]))
 (Zat (ZaV aA aH aG aI aJ aE aK p1 b a ab c ac aa ad af ae n av an ap aw ao ax ah)/\[bool false]=[bool ag])) (Zat (ZaV aA aH aG aI aJ aE aK
 p1 b a ab c ac aa ad af ae n av an ap aw ao ax ah)/\[bool false]=[bool ag])) (Zat (ZaV aA aH aG aI aJ aE aK p1 b a ab c ac aa ad af ae n av an ap aw ao ax ah)/\[bool false] =
 [bool ag])) (Zat (ZaV aA aH aG aI aJ aE aK p1 b a ab c ac aa ad af ae n av an ap aw ao ax ah)/\[bool false]=[bool ag])/\∃(m'':Mem),m.le m''/\m''.le m'/\R (bool
 ag) m'' []))))):CX Tryz.prog 6 #[.agg #[.int .u8 aA,.slice aH aG aI,.slice aJ aE aK],.int .i64 p1] m [] R:=
 Zad (E:=ZeT) Zak mix Tryz.func6 [.v (.agg #[.int .u8 aA,.slice aH aG aI,.slice aJ aE aK]),.v (.int .i64 p1)] [] (by kernel_rfl) (Eq.mp (by kernel_rfl) h)
end Go.Proofs.YtojlhhphofhaoaaGreatDoor