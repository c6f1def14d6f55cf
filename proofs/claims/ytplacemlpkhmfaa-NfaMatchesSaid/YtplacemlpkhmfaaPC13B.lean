/- Part of the proof: conditions and contracts of functions of this program. No condition of its own. -/
import Derived.Test.YtplacemlpkhmfaaPC13A
import Derived.Test.YtplacemlpkhmfaaPC13Q
set_option linter.unusedVariables false
set_option linter.unusedSimpArgs false
namespace Go.Proofs.Ytplacemlpkhmfaa
open Go Go.Eng Go.Rx Go.Proofs Go.RowKit
set_option maxRecDepth 100000
theorem Zvt(t:T)(m:Mem)(hr:Rep m t):CX Try.prog 108 #[t.v] m [] (Ret (.bool t.right)):=by
 apply Zpx
 unfold ZkU
 intro b m1 bJ _
 have eO:=hr.mono bJ
 refine⟨t.k != 2&&!t.setZ||(t.k != 5&&(t.mn != 0||t.mx != 0)||(decide (t.k < 3)&&decide (0 < t.subs.length))),?_,Zab (fun h=>Zac bJ ?_) (fun h=>?_)⟩
 ·refine Zab (fun h1=>?_) (fun h1=>?_)
  ·refine⟨t.setZ,Zq4 _ _ _ _ _ _ _ _,?_⟩
   simp only[ZsZ]
   (repeat' split) <;> simp_all <;> omega
  ·simp only[ZsZ]
   (repeat' split) <;> simp_all <;> omega
 ·simp[Ret,T.right,h]
 ·refine Zab (fun h1=>Zac bJ ?_) (fun h1=>Zab (fun h2=>⟨t.setZ,Zq4 _ _ _ _ _ _ _ _,Zac bJ ?_⟩) (fun h2=>Zab (fun h3=>?_) (fun h3=>Zab (fun h4=>?_) (fun h4=>Zab (fun h5=>?_) (fun h5=>?_)))))
  ·have:t.k=1:=by simpa using h1
   show Value.bool _=Value.bool t.right;rw[T.right,h];simp[this]
  ·have:t.k=2:=by simpa using h2
   show Value.bool _=Value.bool t.right;rw[T.right,h];simp[this]
  ·have:t.k=3:=by simpa using h3
   refine⟨decide (1 < t.subs.length)&&(!t.has 1&&!t.has 3),Zab (fun h4=>?_) (fun h4=>?_),Zac bJ ?_⟩
   ·refine Zak (Zts t 1 m1 eO) fun m2 bT=>Zab (fun h5=>?_) (fun h5=>?_)
    ·refine Zak (Zts t 3 m2 (eO.mono bT)) fun m3 cH=>⟨rfl,Zav ?_⟩
     simp_all <;> (intros;omega)
    ·refine⟨rfl,Zav ?_⟩
     simp_all <;> (intros;omega)
   ·refine⟨rfl,Zav ?_⟩
    simp_all <;> (intros;omega)
   ·show Value.bool _=Value.bool t.right;rw[T.right,h];simp[this]
  ·have:t.k=4:=by simpa using h4
   refine⟨decide (1 < t.subs.length)&&!t.has 4,Zab (fun h4=>?_) (fun h4=>?_),Zac bJ ?_⟩
   ·refine Zak (Zts t 4 m1 eO) fun m2 bT=>⟨rfl,Zav ?_⟩
    simp_all <;> (intros;omega)
   ·refine⟨rfl,Zav ?_⟩
    simp_all <;> (intros;omega)
   ·show Value.bool _=Value.bool t.right;rw[T.right,h];simp[this]
  ·have:t.k=5:=by simpa using h5
   refine⟨t.subs.length == 1&&(Zdx t.mn t.mx&&!t.has 1),Zab (fun h4=>?_) (fun h4=>?_),Zac bJ ?_⟩
   ·refine Zak (Ztr t.mn t.mx m1) fun m2 bT=>Zab (fun h5=>?_) (fun h5=>?_)
    ·refine Zak (Zts t 1 m2 (eO.mono bT)) fun m3 cH=>⟨rfl,Zav ?_⟩
     have h4':((t.subs.length:Int) == 1)=true:=h4
     have:t.subs.length=1:=by have:=of_decide_eq_true h4';omega
     simp_all <;> (intros;omega)
    ·refine⟨rfl,Zav ?_⟩
     simp_all <;> (intros;omega)
   ·refine⟨rfl,Zav ?_⟩
    have h4':((t.subs.length:Int) == 1)=false:=h4
    have:¬t.subs.length=1:=by have:=of_decide_eq_false h4';omega
    simp_all <;> (intros;omega)
   ·show Value.bool _=Value.bool t.right;rw[T.right,h];simp[this]
  ·refine⟨t.k == 6&&t.subs.length == 1,Zab (fun h4=>⟨rfl,Zav ?_⟩) (fun h4=>⟨rfl,Zav ?_⟩),Zac bJ ?_⟩
   ·have:(t.k == 6)=true:=h4
    rw[this,Bool.true_and]
    show(decide ((t.subs.length:Int)=1))=decide (t.subs.length=1)
    rw[decide_eq_decide];omega
   ·have:(t.k == 6)=false:=h4
    simp[this]
   ·show Value.bool _=Value.bool t.right;rw[T.right,h]
    have e1:¬t.k=1:=by simpa using h1
    have e2:¬t.k=2:=by simpa using h2
    have e3:¬t.k=3:=by simpa using h3
    have e4:¬t.k=4:=by simpa using h4
    have e5:¬t.k=5:=by simpa using h5
    simp[e1,e2,e3,e4,e5]
theorem Zse(t:T)(m:Mem)(hr:Rep m t):CX Try.prog 59 #[t.v] m [] (Ret (.bool t.clean)):=by
 apply Zpy
 unfold ZkV
 intro b m1 bJ _ b2
 refine Zak (ZhL t m1 (hr.mono bJ)) fun m2 bT=>Zab (fun h=>Zac (Mem.le_trans bJ bT) ?_) (fun h=>?_)
 ·have:t.light=false:=by simpa using h
  simp[Ret,T.clean,this]
 have hl:t.light=true:=by simpa using h
 refine Zap (ZjD t m2) (fun v m' css h=>by obtain⟨_,rfl,_⟩:=h;rfl) ?_
 rintro g fi ca m3 cH ⟨b3,hv,gv⟩
 obtain⟨rfl,rfl,rfl⟩:=Zjv hv
 have cS:=Mem.le_trans bJ (Mem.le_trans bT cH)
 refine⟨_,Zhd t m3 b3 gv (hr.mono cS),fun y hy=>?_,fun _ css _ m' q=>m3.le m'∧∀x∈t.nodes.take q,x.right=true,⟨Mem.le_refl _,by simp⟩,?_,?_⟩
 ·obtain⟨z,_,rfl⟩:=List.mem_map.1 hy;exact ZqB z
 ·rintro n0 n1 n2 n3 n4 n5 n6 a n7 c cs m4 q cQ hq ⟨_,gK⟩ b4
  have hq':(List.map (fun z:T=>[z.v]) t.nodes)[(q:Nat)]?=some [Value.agg #[.int .u8 n0,.int .u64 n1,.int .u64 n2,.int .u64 n3,.int .u64 n4,.int .i64 n5,.int .i64 n6,.slice a n7 c]]:=hq
  rw[List.getElem?_map]at hq'
  obtain⟨z,hz,oI⟩:=Option.map_eq_some_iff.1 hq'
  have rN:z.v=Value.agg #[.int .u8 n0,.int .u64 n1,.int .u64 n2,.int .u64 n3,.int .u64 n4,.int .i64 n5,.int .i64 n6,.slice a n7 c]:=by simpa using oI
  have vk:Rep m4 z:=(ZoS (hr.mono cS) (List.mem_of_getElem? hz)).mono cQ
  have iH:=Zvt z m4 vk
  rw[rN]at iH
  refine Zak iH fun m5 cW=>Zab (fun h=>⟨rfl,Zac (Mem.le_trans cS (Mem.le_trans cQ cW)) ?_⟩) (fun h=>⟨rfl,Mem.le_trans cQ cW,fun x hx=>?_⟩)
  ·have qK:z.right=false:=by simpa using h
   have:t.nodes.all T.right=false:=by
    rw[List.all_eq_false];exact⟨z,List.mem_of_getElem? hz,by simp[qK]⟩
   simp[Ret,T.clean,this]
  ·rw[List.take_add_one,hz]at hx
   rcases List.mem_append.1 hx with hx|hx
   ·exact gK x hx
   ·simp at hx;rw[hx];simpa using h
 ·rintro cs m4 cQ ⟨_,gK⟩
  refine Zac (Mem.le_trans cS cQ) ?_
  rw[List.length_map,List.take_length]at gK
  have:t.nodes.all T.right=true:=List.all_eq_true.2 gK
  simp[Ret,T.clean,this,hl]
theorem Zuu(t:T)(m:Mem)(hr:Rep m t):CX Try.prog 60 #[t.v] m [] (Ret (.int .i64 t.size)):=by
 apply Zq0
 unfold ZmW
 intro b m1 bJ _
 refine Zak (ZhL t m1 (hr.mono bJ)) fun m2 bT=>Zab (fun h=>Zac (Mem.le_trans bJ bT) ?_) (fun h=>?_)
 ·have:t.light=false:=by simpa using h
  simp[Ret,T.size,this]
 have hl:t.light=true:=by simpa using h
 have p7:t.nodes.length≤10000:=of_decide_eq_true hl
 intro b2
 refine Zap (ZjD t m2) (fun v m' css h=>by obtain⟨_,rfl,_⟩:=h;rfl) ?_
 rintro g fi ca m3 cH ⟨b3,hv,gv⟩
 obtain⟨rfl,rfl,rfl⟩:=Zjv hv
 have cS:=Mem.le_trans bJ (Mem.le_trans bT cH)
 refine⟨_,Zhd t m3 b3 gv (hr.mono cS),fun y hy=>?_,fun _ css _ m' q=>css=[[.int .i64 q]]∧q≤t.nodes.length,⟨rfl,by omega⟩,?_,?_⟩
 ·obtain⟨z,_,rfl⟩:=List.mem_map.1 hy;exact ZqB z
 ·rintro n0 n1 n2 n3 n4 n5 n6 a n7 c cs m4 q cQ hq ⟨cK,_⟩
  obtain rfl:cs=[.int .i64 q]:=by simpa using cK
  have bS:q < t.nodes.length:=by
   have:=(List.getElem?_eq_some_iff.1 (show(List.map (fun z:T=>[z.v]) t.nodes)[(q:Nat)]?=some _ from hq)).1
   simpa using this
  have hw:IntKind.i64.wrap (intOf (Value.int .i64 (q:Int))+1)=(q:Int)+1:=Zat (n:=(q:Int)+1) (by omega) (by omega)
  refine Zam rfl (Zaa rfl ?_)
  simp only[hw]
  exact⟨by trivial,by simp,by omega⟩
 ·rintro cs m4 cQ ⟨cK,gK⟩
  obtain rfl:cs=[.int .i64 t.nodes.length]:=by simpa using cK
  refine Zam rfl (Zac (Mem.le_trans cS cQ) ?_)
  simp[Ret,T.size,hl]
theorem Ztt(t:T)(m:Mem)(hr:Rep m t):CX Try.prog 87 #[t.v] m [] (Ret (.int .i64 t.groups)):=by
 apply ZnA
 unfold ZiS
 intro b m1 bJ _
 refine Zak (ZhL t m1 (hr.mono bJ)) fun m2 bT=>Zab (fun h=>Zac (Mem.le_trans bJ bT) ?_) (fun h=>?_)
 ·have:t.light=false:=by simpa using h
  simp[Ret,T.groups,this]
 have hl:t.light=true:=by simpa using h
 have p7:t.nodes.length≤10000:=of_decide_eq_true hl
 intro b2
 refine Zap (ZjD t m2) (fun v m' css h=>by obtain⟨_,rfl,_⟩:=h;rfl) ?_
 rintro g fi ca m3 cH ⟨b3,hv,gv⟩
 obtain⟨rfl,rfl,rfl⟩:=Zjv hv
 have cS:=Mem.le_trans bJ (Mem.le_trans bT cH)
 have fT:∀q,(t.nodes.take q).countP (fun x=>x.k == 6)≤10000:=fun q=>by
  have h1:=List.countP_le_length (p:=fun x:T=>x.k == 6) (l:=t.nodes.take q)
  have h2:(t.nodes.take q).length≤t.nodes.length:=List.length_take_le' _ _
  omega
 refine⟨_,Zhd t m3 b3 gv (hr.mono cS),fun y hy=>?_,fun _ css _ m' q=>css=[[.int .i64 ((t.nodes.take q).countP fun x=>x.k == 6:Nat)]]∧q≤t.nodes.length,⟨rfl,by omega⟩,?_,?_⟩
 ·obtain⟨z,_,rfl⟩:=List.mem_map.1 hy;exact ZqB z
 ·rintro n0 n1 n2 n3 n4 n5 n6 a n7 c cs m4 q cQ hq ⟨cK,_⟩ b4
  obtain rfl:cs=_:=by simpa using cK
  have hq':(List.map (fun z:T=>[z.v]) t.nodes)[(q:Nat)]?=some [Value.agg #[.int .u8 n0,.int .u64 n1,.int .u64 n2,.int .u64 n3,.int .u64 n4,.int .i64 n5,.int .i64 n6,.slice a n7 c]]:=hq
  rw[List.getElem?_map]at hq'
  obtain⟨z,hz,oI⟩:=Option.map_eq_some_iff.1 hq'
  have hk:z.k=n0:=by
   have:z.v=Value.agg #[.int .u8 n0,.int .u64 n1,.int .u64 n2,.int .u64 n3,.int .u64 n4,.int .i64 n5,.int .i64 n6,.slice a n7 c]:=by simpa using oI
   simp[T.v]at this;exact this.1
  have bS:=(List.getElem?_eq_some_iff.1 hz).1
  have dD:(t.nodes.take (q+1)).countP (fun x=>x.k == 6)=(t.nodes.take q).countP (fun x=>x.k == 6)+(if z.k == 6 then 1 else 0):=by
   rw[List.take_add_one,hz,List.countP_append];simp[List.countP_cons]
  refine Zab (fun h=>?_) (fun h=>?_)
  ·have hw:IntKind.i64.wrap (intOf (Value.int .i64 ((t.nodes.take q).countP fun x=>x.k == 6:Nat))+1)=(((t.nodes.take q).countP fun x=>x.k == 6:Nat):Int)+1:=Zat (n:=(((t.nodes.take q).countP fun x=>x.k == 6:Nat):Int)+1) (by have:=fT q;omega) (by have:=fT q;omega)
   refine Zam rfl (Zaa rfl ?_)
   simp only[hw]
   refine⟨by trivial,?_,by omega⟩
   rw[dD,hk]
   have:(n0 == 6)=true:=h
   simp[this]
  ·refine⟨rfl,?_,by omega⟩
   rw[dD,hk]
   have:(n0 == 6)=false:=h
   simp[this]
 ·rintro cs m4 cQ ⟨cK,gK⟩
  obtain rfl:cs=_:=by simpa using cK
  refine Zam rfl (Zac (Mem.le_trans cS cQ) ?_)
  simp[Ret,T.groups,hl]
theorem ZiV(t:T)(m:Mem)(hr:Rep m t)(hl:t.nodes.length≤10000):CX Try.prog 93 #[t.v] m [] (Ret (.int .i64 t.pos)):=by
 apply ZiQ
 unfold ZfL
 intro b m1 bJ _
 have fB:=Zud t
 have fV:=ZqC t
 refine Zab (fun hk=>?_) (fun hk=>?_)
 all_goals
  have hk':(if t.k=2 then(1:Int)else 0)=1∧t.k=2∨(if t.k=2 then(1:Int)else 0)=0∧t.k≠2:=by split <;> simp_all
  refine⟨fun xs _ _ m'' q=>∃i:Nat,i≤t.subs.length∧xs=[.int .i64 ((if t.k=2 then 1 else 0)+Zdy (t.subs.take i)),.int .i64 i]∧m1.le m''∧q=t.subs.length - i,⟨t.subs.length,0,by omega,by simp_all [Zdy],Mem.le_refl _,by omega⟩,?_⟩
  rintro n n1 m2 q bT ⟨i,hi,gn,_,hq⟩
  have fU:=ZfE (t.subs.take i)
  have gu:=Zuc (t.subs.take i)
  have gv:(t.subs.take i).length≤i:=List.length_take_le _ _
  clear hk'
  generalize hc:(if t.k=2 then(1:Int)else 0)=c at *
  have wD:0≤c∧c≤1:=by rw[←hc];split <;> omega
  simp only[List.cons.injEq,Value.int.injEq,true_and,and_true]at gn
  obtain⟨rfl,rfl⟩:=gn
  refine Zab (fun bS=>?_) (fun cX=>?_)
  ·have bR:i < t.subs.length:=by simpa using bS
   obtain⟨x,hx⟩:∃x,t.subs[i]?=some x:=⟨_,List.getElem?_eq_getElem bR⟩
   have dA:x∈t.subs:=List.mem_of_getElem? hx
   have cP:=ZjU dA
   have iq:=Zs3 dA
   obtain⟨_,h0|⟨b1,o1,ha,gl⟩⟩:=Zcp hr
   ·rw[h0]at bR;simp at bR
   obtain⟨iP,gV⟩:=(gl.mono ((Mem.le_trans bJ bT))).get hx
   have nF:=Zg4 x
   refine⟨b1,o1,ha,⟨by omega,by omega⟩,_,_,_,_,_,_,_,_,iP,fun b2=>Zaa rfl ?_⟩
   refine ZcB (ZiV x m2 gV (by omega)) fun m3 cH=>⟨rfl,t.subs.length - (i+1),by omega,i+1,by omega,?_,Mem.le_trans bT cH,rfl⟩
   rw[Zat (by omega) (by omega),Zat (by omega) (by omega),Zs2 hx,Int.add_assoc]
   rfl
  ·have hi':i=t.subs.length:=by
    have:¬((i:Int) < (t.subs.length:Int)):=by simpa using cX
    omega
   subst hi'
   rw[List.take_length]at fU gu ⊢
   have hF:=Zub t.mn t.mx
   have oK:0≤(c+Zdy t.subs)*Zvb t.mn t.mx∧(c+Zdy t.subs)*Zvb t.mn t.mx≤100020001*10001:=by
    constructor
    ·exact Int.mul_nonneg (by omega) hF.1
    ·exact Int.mul_le_mul (by omega) hF.2 hF.1 (by omega)
   refine Zab (fun h5=>Zab (fun hx=>Zac (Mem.le_trans bJ bT) ?_) (fun hx=>Zac (Mem.le_trans bJ bT) ?_)) (fun h5=>Zac (Mem.le_trans bJ bT) ?_)
   ·have e1:t.k=5:=by simpa using h5
    have e2:t.mx=-1:=by simpa using hx
    have hF':Zvb t.mn t.mx=Zns (ZmE (ZmE t.mn 0) 1) 10001:=by simp[Zvb,e2]
    show Value.int .i64 (Zns (IntKind.i64.wrap ((c+Zdy t.subs)*Zns (ZmE (ZmE t.mn 0) 1) 10001)) 10001)=Value.int .i64 t.pos
    rw[←hF',Zat (by omega) (by omega),fV,Zva,if_pos e1];rfl
   ·have e1:t.k=5:=by simpa using h5
    have e2:¬t.mx=-1:=by simpa using hx
    have hF':Zvb t.mn t.mx=Zns (ZmE (ZmE t.mn 0) t.mx) 10001:=by simp[Zvb,e2]
    show Value.int .i64 (Zns (IntKind.i64.wrap ((c+Zdy t.subs)*Zns (ZmE (ZmE t.mn 0) t.mx) 10001)) 10001)=Value.int .i64 t.pos
    rw[←hF',Zat (by omega) (by omega),fV,Zva,if_pos e1];rfl
   ·have e1:¬t.k=5:=by simpa using h5
    show Value.int .i64 (Zns (c+Zdy t.subs) 10001)=Value.int .i64 t.pos
    rw[fV,Zva,if_neg e1]
termination_by SizeOf.sizeOf t
decreasing_by all_goals exact cP
theorem Zgk(t:T)(m:Mem)(hr:Rep m t):CX Try.prog 37 #[t.v] m [] (Ret (.int .i64 t.positions)):=by
 apply ZiR
 unfold ZfM
 intro b m1 bJ _
 refine Zak (ZhL t m1 (hr.mono bJ)) fun m2 bT=>Zab (fun h=>Zac (Mem.le_trans bJ bT) ?_) (fun h=>?_)
 ·have:t.light=false:=by simpa using h
  simp[Ret,T.positions,this]
 have hl:t.light=true:=by simpa using h
 refine ZcB (ZiV t m2 (hr.mono (Mem.le_trans bJ bT)) (of_decide_eq_true hl)) fun m3 cH=>Zac (Mem.le_trans bJ (Mem.le_trans bT cH)) ?_
 simp[Ret,T.positions,hl]
def Zzg(bg en:Bool)(t:T):Value:=.agg #[.bool bg,.bool en,.int .u8 t.k,.int .u64 t.s0,.int .u64 t.s1,.int .u64 t.s2,.int .u64 t.s3,.int .i64 t.mn,.int .i64 t.mx,.slice t.a t.subs.length t.c]
theorem Zvu(bg en:Bool)(t:T)(m:Mem)(hr:Rep m t):CX Try.prog 35 #[Zzg bg en t] m [] (Ret (.int .i64 t.check)):=by
 apply ZpA
 unfold ZkW
 intro b m1 bJ _
 refine Zak (Zse t m1 (hr.mono bJ)) fun m2 bT=>Zab (fun h=>Zac (Mem.le_trans bJ bT) ?_) (fun h=>?_)
 ·have:t.clean=false:=by simpa using h
  simp[Ret,T.check,this]
 have iV:=Mem.le_trans bJ bT
 have h1:¬t.clean=false:=by simpa using h
 refine ZcB (Zuu t m2 (hr.mono iV)) fun m3 cH=>Zab (fun h=>Zac (Mem.le_trans iV cH) ?_) (fun h=>?_)
 ·have h2:t.size > 120:=by simpa using h
  show Value.int .i64 81=Value.int .i64 t.check
  rw[T.check,if_neg h1,if_pos h2]
 have h2:¬t.size > 120:=by simpa using h
 have ji:=Mem.le_trans iV cH
 refine ZcB (Zgk t m3 (hr.mono ji)) fun m4 cQ=>Zab (fun h=>Zac (Mem.le_trans ji cQ) ?_) (fun h=>?_)
 ·have h3:t.positions > 400:=by simpa using h
  show Value.int .i64 82=Value.int .i64 t.check
  rw[T.check,if_neg h1,if_neg h2,if_pos h3]
 have h3:¬t.positions > 400:=by simpa using h
 have jG:=Mem.le_trans ji cQ
 refine ZcB (Ztt t m4 (hr.mono jG)) fun m5 cW=>Zab (fun h=>Zac (Mem.le_trans jG cW) ?_) (fun h=>Zac (Mem.le_trans jG cW) ?_)
 ·have h4:t.groups > 9:=by simpa using h
  show Value.int .i64 83=Value.int .i64 t.check
  rw[T.check,if_neg h1,if_neg h2,if_neg h3,if_pos h4]
 ·have h4:¬t.groups > 9:=by simpa using h
  show Value.int .i64 0=Value.int .i64 t.check
  rw[T.check,if_neg h1,if_neg h2,if_neg h3,if_neg h4]
theorem ZnC(l l':List T)(a a':Option Addr)(c c':Nat)(m:Mem)(hl:l.length≤1000000000000000)(hr:l=[]∨∃b o,a=some ⟨b,o,none⟩∧RepAt m b o l)(hr':l'=[]∨∃b o,a'=some ⟨b,o,none⟩∧RepAt m b o l')
  (hp:∀x∈l,∀y∈l',∀m',m.le m'→Rep m' x→Rep m' y→CX Try.prog 106 #[x.v,y.v] m' [] (Ret (.bool (x.same y)))):
  CX Try.prog 132 #[.slice a l.length c,.slice a' l'.length c',.func (.func 106) #[] #[]] m [] (Ret (.bool (Zh6 l l'))):=by
 apply ZaL a l.length c a' l'.length c' _ [] []
 unfold Zax
 refine Zab (fun h=>Zac (Mem.le_refl _) ?_) (fun h=>?_)
 ·have:¬l.length=l'.length:=by
   intro e;rw[e]at h;simp at h
  show Value.bool false=_
  rw[ZoT this]
 have fN:l.length=l'.length:=by
  have h2:((l.length:Int) == (l'.length:Int))=true:=by simpa using h
  have:=of_decide_eq_true h2;omega
 refine⟨fun xs _ _ m'' q=>∃i:Nat,i≤l.length∧xs=[.int .i64 i]∧Zh6 (l.take i) (l'.take i)=true∧m.le m''∧q=l.length - i,⟨l.length,0,by omega,rfl,by simp[Zh6],Mem.le_refl _,by omega⟩,?_⟩
 rintro n m' q hm ⟨i,hi,hn,gQ,cS,hq⟩
 obtain rfl:n=i:=by simpa using hn
 refine Zab (fun bS=>?_) (fun cX=>?_)
 ·have bR:i < l.length:=by simpa using bS
  obtain⟨x,hx⟩:∃x,l[i]?=some x:=⟨_,List.getElem?_eq_getElem bR⟩
  obtain⟨y,hy⟩:∃y,l'[i]?=some y:=⟨_,List.getElem?_eq_getElem (by omega)⟩
  have iu:x∈l:=List.mem_of_getElem? hx
  have vm:y∈l':=List.mem_of_getElem? hy
  rcases hr with h0|⟨b1,o1,ha,gl⟩
  ·rw[h0]at bR;simp at bR
  rcases hr' with h0|⟨b2,o2,ha',rO⟩
  ·rw[h0]at fN;simp at fN;rw[fN]at bR;simp at bR
  obtain⟨iP,gV⟩:=(gl.mono hm).get hx
  obtain⟨kM,oL⟩:=(rO.mono hm).get hy
  refine⟨b1,o1,ha,⟨by omega,by omega⟩,_,_,_,_,_,_,_,_,iP,fun b3=>Zaa rfl ⟨b2,o2,ha',⟨by omega,by omega⟩,_,_,_,_,_,_,_,_,kM,fun b4=>Zaa rfl ?_⟩⟩
  refine Zak (hp x iu y vm m' hm gV oL) fun m1 bJ=>Zab (fun lG=>?_) (fun lG=>?_)
  ·have hf:x.same y=false:=by simpa using lG
   refine Zac (Mem.le_trans hm bJ) ?_
   show Value.bool false=_
   rw[ZrN hx hy hf]
  ·have hf:x.same y=true:=by simpa using lG
   refine⟨l.length - (i+1),by omega,i+1,by omega,by rw[Zat (by omega) (by omega)];rfl,ZmF hx hy gQ hf trivial,Mem.le_trans hm bJ,rfl⟩
 ·have hi':i=l.length:=by
   have:¬((i:Int) < (l.length:Int)):=by simpa using cX
   omega
  subst hi'
  refine Zac hm ?_
  rw[List.take_length,fN,List.take_length]at gQ
  show Value.bool true=_
  rw[gQ]
theorem Zuv(t u:T)(m:Mem)(hr:Rep m t)(hu:Rep m u):CX Try.prog 106 #[t.v,u.v] m [] (Ret (.bool (t.same u))):=by
 apply Zq2
 unfold ZmX
 intro b m1 bJ _ b' m2 bT _
 have hm:=Mem.le_trans bJ bT
 refine⟨t.same u,?_,Zac hm rfl⟩
 rw[Zwv]
 refine Zab (fun h1=>⟨_,Zq4 _ _ _ _ _ _ _ _,Zab (fun h2=>Zab (fun h3=>Zab (fun h4=>?_) (fun h4=>⟨rfl,Zav ?_⟩)) (fun h3=>⟨rfl,Zav ?_⟩)) (fun h2=>⟨rfl,Zav ?_⟩)⟩) (fun h1=>⟨rfl,Zav ?_⟩)
 ·have hr':=Zcp (hr.mono hm)
  have hu':=Zcp (hu.mono hm)
  refine Zak (ZnC t.subs u.subs t.a u.a t.c u.c m2 hr'.1 hr'.2 hu'.2 fun x hx y hy m' _ iP kM=>?_) fun m3 cH=>⟨rfl,Zav ?_⟩
  ·have cP:=ZjU hx
   exact Zuv x y m' iP kM
  ·rw[h1,h2,h3,h4];rfl
 ·rw[h1,h2,h3,h4];rfl
 ·rw[h1,h2,h3];rfl
 ·rw[h1,h2];rfl
 ·rw[h1];rfl
termination_by SizeOf.sizeOf t
decreasing_by exact cP
theorem Zuw(t u:T)(m:Mem)(hr:Rep m t)(hu:Rep m u):CX Try.prog 58 #[t.v,u.v] m [] (Ret (.bool (t.light&&(u.light&&t.same u)))):=by
 apply Zq3
 unfold ZmY
 intro b m1 bJ _ b' m2 bT _
 have hm:=Mem.le_trans bJ bT
 refine⟨t.light&&(u.light&&t.same u),?_,Zac hm rfl⟩
 refine Zak (ZhL t m2 (hr.mono hm)) fun m3 cH=>Zab (fun h1=>?_) (fun h1=>⟨rfl,Zav ?_⟩)
 ·refine Zak (ZhL u m3 (hu.mono (Mem.le_trans hm cH))) fun m4 cQ=>Zab (fun h2=>?_) (fun h2=>?_)
  ·have cW:=Mem.le_trans (Mem.le_trans hm cH) cQ
   refine Zak (Zuv t u m4 (hr.mono cW) (hu.mono cW)) fun m6 eV=>⟨rfl,Zav ?_⟩
   rw[h1,h2];rfl
  ·refine⟨rfl,Zav ?_⟩
   rw[h1,h2];rfl
 ·rw[h1];rfl
end Go.Proofs.Ytplacemlpkhmfaa

