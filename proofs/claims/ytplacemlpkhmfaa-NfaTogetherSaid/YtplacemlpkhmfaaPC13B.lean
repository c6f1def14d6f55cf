/- Part of the proof: conditions and contracts of functions of this program. No condition of its own. -/
import Derived.Test.YtplacemlpkhmfaaPC13A
import Derived.Test.YtplacemlpkhmfaaPC13Q
set_option linter.unusedVariables false
set_option linter.unusedSimpArgs false
namespace Go.Proofs.Ytplacemlpkhmfaa
open Go Go.Eng Go.Rx Go.Proofs Go.RowKit
set_option maxRecDepth 100000
theorem Zt8(t:T)(m:Mem)(hr:Rep m t):CX Try.prog 108 #[t.v] m [] (Ret (.bool t.right)):=by
 apply ZoA
 unfold ZjU
 intro b m1 bJ _
 have eF:=hr.mono bJ
 refine⟨t.k != 2&&!t.setZ||(t.k != 5&&(t.mn != 0||t.mx != 0)||(decide (t.k < 3)&&decide (0 < t.subs.length))),?_,Zaa (fun h=>Zag bJ ?_) (fun h=>?_)⟩
 ·refine Zaa (fun h1=>?_) (fun h1=>?_)
  ·refine⟨t.setZ,Zp2 _ _ _ _ _ _ _ _,?_⟩
   simp only[ZrY]
   (repeat' split) <;> simp_all <;> omega
  ·simp only[ZrY]
   (repeat' split) <;> simp_all <;> omega
 ·simp[Ret,T.right,h]
 ·refine Zaa (fun h1=>Zag bJ ?_) (fun h1=>Zaa (fun h2=>⟨t.setZ,Zp2 _ _ _ _ _ _ _ _,Zag bJ ?_⟩) (fun h2=>Zaa (fun h3=>?_) (fun h3=>Zaa (fun h4=>?_) (fun h4=>Zaa (fun h5=>?_) (fun h5=>?_)))))
  ·have:t.k=1:=by simpa using h1
   show Value.bool _=Value.bool t.right;rw[T.right,h];simp[this]
  ·have:t.k=2:=by simpa using h2
   show Value.bool _=Value.bool t.right;rw[T.right,h];simp[this]
  ·have:t.k=3:=by simpa using h3
   refine⟨decide (1 < t.subs.length)&&(!t.has 1&&!t.has 3),Zaa (fun h4=>?_) (fun h4=>?_),Zag bJ ?_⟩
   ·refine Zai (Zso t 1 m1 eF) fun m2 bP=>Zaa (fun h5=>?_) (fun h5=>?_)
    ·refine Zai (Zso t 3 m2 (eF.mono bP)) fun m3 cJ=>⟨rfl,Zay ?_⟩
     simp_all <;> (intros;omega)
    ·refine⟨rfl,Zay ?_⟩
     simp_all <;> (intros;omega)
   ·refine⟨rfl,Zay ?_⟩
    simp_all <;> (intros;omega)
   ·show Value.bool _=Value.bool t.right;rw[T.right,h];simp[this]
  ·have:t.k=4:=by simpa using h4
   refine⟨decide (1 < t.subs.length)&&!t.has 4,Zaa (fun h4=>?_) (fun h4=>?_),Zag bJ ?_⟩
   ·refine Zai (Zso t 4 m1 eF) fun m2 bP=>⟨rfl,Zay ?_⟩
    simp_all <;> (intros;omega)
   ·refine⟨rfl,Zay ?_⟩
    simp_all <;> (intros;omega)
   ·show Value.bool _=Value.bool t.right;rw[T.right,h];simp[this]
  ·have:t.k=5:=by simpa using h5
   refine⟨t.subs.length == 1&&(Zcm t.mn t.mx&&!t.has 1),Zaa (fun h4=>?_) (fun h4=>?_),Zag bJ ?_⟩
   ·refine Zai (ZoE t.mn t.mx m1) fun m2 bP=>Zaa (fun h5=>?_) (fun h5=>?_)
    ·refine Zai (Zso t 1 m2 (eF.mono bP)) fun m3 cJ=>⟨rfl,Zay ?_⟩
     have h4':((t.subs.length:Int) == 1)=true:=h4
     have:t.subs.length=1:=by have:=of_decide_eq_true h4';omega
     simp_all <;> (intros;omega)
    ·refine⟨rfl,Zay ?_⟩
     simp_all <;> (intros;omega)
   ·refine⟨rfl,Zay ?_⟩
    have h4':((t.subs.length:Int) == 1)=false:=h4
    have:¬t.subs.length=1:=by have:=of_decide_eq_false h4';omega
    simp_all <;> (intros;omega)
   ·show Value.bool _=Value.bool t.right;rw[T.right,h];simp[this]
  ·refine⟨t.k == 6&&t.subs.length == 1,Zaa (fun h4=>⟨rfl,Zay ?_⟩) (fun h4=>⟨rfl,Zay ?_⟩),Zag bJ ?_⟩
   ·have:(t.k == 6)=true:=h4
    rw[this,Bool.true_and]
    show(decide ((t.subs.length:Int)=1))=decide (t.subs.length=1)
    rw[decide_eq_decide];omega
   ·have:(t.k == 6)=false:=h4
    simp[this]
   ·show Value.bool _=Value.bool t.right;rw[T.right,h]
    have e1:¬t.k=1:=by simpa using h1
    have e2:¬t.k=2:=by simpa using h2
    have e3:¬t.k=3:=by simpa using h3
    have e4:¬t.k=4:=by simpa using h4
    have e5:¬t.k=5:=by simpa using h5
    simp[e1,e2,e3,e4,e5]
theorem ZiT(t:T)(m:Mem)(hr:Rep m t):CX Try.prog 59 #[t.v] m [] (Ret (.bool t.clean)):=by
 apply ZoB
 unfold ZjV
 intro b m1 bJ _ b2
 refine Zai (Zg9 t m1 (hr.mono bJ)) fun m2 bP=>Zaa (fun h=>Zag (Mem.le_trans bJ bP) ?_) (fun h=>?_)
 ·have:t.light=false:=by simpa using h
  simp[Ret,T.clean,this]
 have hl:t.light=true:=by simpa using h
 refine Zam (ZiS t m2) (fun v m' css h=>by obtain⟨_,rfl,_⟩:=h;rfl) ?_
 rintro g fi ca m3 cJ ⟨b3,hv,gk⟩
 obtain⟨rfl,rfl,rfl⟩:=ZiK hv
 have cN:=Mem.le_trans bJ (Mem.le_trans bP cJ)
 refine⟨_,Zgx t m3 b3 gk (hr.mono cN),fun y hy=>?_,fun _ css _ m' q=>m3.le m'∧∀x∈t.nodes.take q,x.right=true,⟨Mem.le_refl _,by simp⟩,?_,?_⟩
 ·obtain⟨z,_,rfl⟩:=List.mem_map.1 hy;exact ZpF z
 ·rintro n0 n1 n2 n3 n4 n5 n6 a n7 c cs m4 q cY hq ⟨_,gB⟩ b4
  have hq':(List.map (fun z:T=>[z.v]) t.nodes)[(q:Nat)]?=some [Value.agg #[.int .u8 n0,.int .u64 n1,.int .u64 n2,.int .u64 n3,.int .u64 n4,.int .i64 n5,.int .i64 n6,.slice a n7 c]]:=hq
  rw[List.getElem?_map]at hq'
  obtain⟨z,hz,oK⟩:=Option.map_eq_some_iff.1 hq'
  have rS:z.v=Value.agg #[.int .u8 n0,.int .u64 n1,.int .u64 n2,.int .u64 n3,.int .u64 n4,.int .i64 n5,.int .i64 n6,.slice a n7 c]:=by simpa using oK
  have vu:Rep m4 z:=(ZnZ (hr.mono cN) (List.mem_of_getElem? hz)).mono cY
  have ic:=Zt8 z m4 vu
  rw[rS]at ic
  refine Zai ic fun m5 eA=>Zaa (fun h=>⟨rfl,Zag (Mem.le_trans cN (Mem.le_trans cY eA)) ?_⟩) (fun h=>⟨rfl,Mem.le_trans cY eA,fun x hx=>?_⟩)
  ·have qP:z.right=false:=by simpa using h
   have:t.nodes.all T.right=false:=by
    rw[List.all_eq_false];exact⟨z,List.mem_of_getElem? hz,by simp[qP]⟩
   simp[Ret,T.clean,this]
  ·rw[List.take_add_one,hz]at hx
   rcases List.mem_append.1 hx with hx|hx
   ·exact gB x hx
   ·simp at hx;rw[hx];simpa using h
 ·rintro cs m4 cY ⟨_,gB⟩
  refine Zag (Mem.le_trans cN cY) ?_
  rw[List.length_map,List.take_length]at gB
  have:t.nodes.all T.right=true:=List.all_eq_true.2 gB
  simp[Ret,T.clean,this,hl]
theorem Zte(t:T)(m:Mem)(hr:Rep m t):CX Try.prog 60 #[t.v] m [] (Ret (.int .i64 t.size)):=by
 apply ZpY
 unfold ZlV
 intro b m1 bJ _
 refine Zai (Zg9 t m1 (hr.mono bJ)) fun m2 bP=>Zaa (fun h=>Zag (Mem.le_trans bJ bP) ?_) (fun h=>?_)
 ·have:t.light=false:=by simpa using h
  simp[Ret,T.size,this]
 have hl:t.light=true:=by simpa using h
 have pY:t.nodes.length≤10000:=of_decide_eq_true hl
 intro b2
 refine Zam (ZiS t m2) (fun v m' css h=>by obtain⟨_,rfl,_⟩:=h;rfl) ?_
 rintro g fi ca m3 cJ ⟨b3,hv,gk⟩
 obtain⟨rfl,rfl,rfl⟩:=ZiK hv
 have cN:=Mem.le_trans bJ (Mem.le_trans bP cJ)
 refine⟨_,Zgx t m3 b3 gk (hr.mono cN),fun y hy=>?_,fun _ css _ m' q=>css=[[.int .i64 q]]∧q≤t.nodes.length,⟨rfl,by omega⟩,?_,?_⟩
 ·obtain⟨z,_,rfl⟩:=List.mem_map.1 hy;exact ZpF z
 ·rintro n0 n1 n2 n3 n4 n5 n6 a n7 c cs m4 q cY hq ⟨cG,_⟩
  obtain rfl:cs=[.int .i64 q]:=by simpa using cG
  have bM:q < t.nodes.length:=by
   have:=(List.getElem?_eq_some_iff.1 (show(List.map (fun z:T=>[z.v]) t.nodes)[(q:Nat)]?=some _ from hq)).1
   simpa using this
  have hw:IntKind.i64.wrap (intOf (Value.int .i64 (q:Int))+1)=(q:Int)+1:=ZaA (n:=(q:Int)+1) (by omega) (by omega)
  refine Zan rfl (Zab rfl ?_)
  simp only[hw]
  exact⟨by trivial,by simp,by omega⟩
 ·rintro cs m4 cY ⟨cG,gB⟩
  obtain rfl:cs=[.int .i64 t.nodes.length]:=by simpa using cG
  refine Zan rfl (Zag (Mem.le_trans cN cY) ?_)
  simp[Ret,T.size,hl]
theorem Zsp(t:T)(m:Mem)(hr:Rep m t):CX Try.prog 87 #[t.v] m [] (Ret (.int .i64 t.groups)):=by
 apply Zmz
 unfold Zia
 intro b m1 bJ _
 refine Zai (Zg9 t m1 (hr.mono bJ)) fun m2 bP=>Zaa (fun h=>Zag (Mem.le_trans bJ bP) ?_) (fun h=>?_)
 ·have:t.light=false:=by simpa using h
  simp[Ret,T.groups,this]
 have hl:t.light=true:=by simpa using h
 have pY:t.nodes.length≤10000:=of_decide_eq_true hl
 intro b2
 refine Zam (ZiS t m2) (fun v m' css h=>by obtain⟨_,rfl,_⟩:=h;rfl) ?_
 rintro g fi ca m3 cJ ⟨b3,hv,gk⟩
 obtain⟨rfl,rfl,rfl⟩:=ZiK hv
 have cN:=Mem.le_trans bJ (Mem.le_trans bP cJ)
 have eT:∀q,(t.nodes.take q).countP (fun x=>x.k == 6)≤10000:=fun q=>by
  have h1:=List.countP_le_length (p:=fun x:T=>x.k == 6) (l:=t.nodes.take q)
  have h2:(t.nodes.take q).length≤t.nodes.length:=List.length_take_le' _ _
  omega
 refine⟨_,Zgx t m3 b3 gk (hr.mono cN),fun y hy=>?_,fun _ css _ m' q=>css=[[.int .i64 ((t.nodes.take q).countP fun x=>x.k == 6:Nat)]]∧q≤t.nodes.length,⟨rfl,by omega⟩,?_,?_⟩
 ·obtain⟨z,_,rfl⟩:=List.mem_map.1 hy;exact ZpF z
 ·rintro n0 n1 n2 n3 n4 n5 n6 a n7 c cs m4 q cY hq ⟨cG,_⟩ b4
  obtain rfl:cs=_:=by simpa using cG
  have hq':(List.map (fun z:T=>[z.v]) t.nodes)[(q:Nat)]?=some [Value.agg #[.int .u8 n0,.int .u64 n1,.int .u64 n2,.int .u64 n3,.int .u64 n4,.int .i64 n5,.int .i64 n6,.slice a n7 c]]:=hq
  rw[List.getElem?_map]at hq'
  obtain⟨z,hz,oK⟩:=Option.map_eq_some_iff.1 hq'
  have hk:z.k=n0:=by
   have:z.v=Value.agg #[.int .u8 n0,.int .u64 n1,.int .u64 n2,.int .u64 n3,.int .u64 n4,.int .i64 n5,.int .i64 n6,.slice a n7 c]:=by simpa using oK
   simp[T.v]at this;exact this.1
  have bM:=(List.getElem?_eq_some_iff.1 hz).1
  have cO:(t.nodes.take (q+1)).countP (fun x=>x.k == 6)=(t.nodes.take q).countP (fun x=>x.k == 6)+(if z.k == 6 then 1 else 0):=by
   rw[List.take_add_one,hz,List.countP_append];simp[List.countP_cons]
  refine Zaa (fun h=>?_) (fun h=>?_)
  ·have hw:IntKind.i64.wrap (intOf (Value.int .i64 ((t.nodes.take q).countP fun x=>x.k == 6:Nat))+1)=(((t.nodes.take q).countP fun x=>x.k == 6:Nat):Int)+1:=ZaA (n:=(((t.nodes.take q).countP fun x=>x.k == 6:Nat):Int)+1) (by have:=eT q;omega) (by have:=eT q;omega)
   refine Zan rfl (Zab rfl ?_)
   simp only[hw]
   refine⟨by trivial,?_,by omega⟩
   rw[cO,hk]
   have:(n0 == 6)=true:=h
   simp[this]
  ·refine⟨rfl,?_,by omega⟩
   rw[cO,hk]
   have:(n0 == 6)=false:=h
   simp[this]
 ·rintro cs m4 cY ⟨cG,gB⟩
  obtain rfl:cs=_:=by simpa using cG
  refine Zan rfl (Zag (Mem.le_trans cN cY) ?_)
  simp[Ret,T.groups,hl]
theorem Zic(t:T)(m:Mem)(hr:Rep m t)(hl:t.nodes.length≤10000):CX Try.prog 93 #[t.v] m [] (Ret (.int .i64 t.pos)):=by
 apply Zh8
 unfold Zfo
 intro b m1 bJ _
 have fD:=Zs6 t
 have gU:=ZpG t
 refine Zaa (fun hk=>?_) (fun hk=>?_)
 all_goals
  have hk':(if t.k=2 then(1:Int)else 0)=1∧t.k=2∨(if t.k=2 then(1:Int)else 0)=0∧t.k≠2:=by split <;> simp_all
  refine⟨fun xs _ _ m'' q=>∃i:Nat,i≤t.subs.length∧xs=[.int .i64 ((if t.k=2 then 1 else 0)+Zdx (t.subs.take i)),.int .i64 i]∧m1.le m''∧q=t.subs.length - i,⟨t.subs.length,0,by omega,by simp_all [Zdx],Mem.le_refl _,by omega⟩,?_⟩
  rintro n n1 m2 q bP ⟨i,hi,eG,_,hq⟩
  have fS:=Zfe (t.subs.take i)
  have il:=Zs5 (t.subs.take i)
  have gk:(t.subs.take i).length≤i:=List.length_take_le _ _
  clear hk'
  generalize hc:(if t.k=2 then(1:Int)else 0)=c at *
  have wW:0≤c∧c≤1:=by rw[←hc];split <;> omega
  simp only[List.cons.injEq,Value.int.injEq,true_and,and_true]at eG
  obtain⟨rfl,rfl⟩:=eG
  refine Zaa (fun bM=>?_) (fun cR=>?_)
  ·have bL:i < t.subs.length:=by simpa using bM
   obtain⟨x,hx⟩:∃x,t.subs[i]?=some x:=⟨_,List.getElem?_eq_getElem bL⟩
   have cU:x∈t.subs:=List.mem_of_getElem? hx
   have cM:=ZkD cU
   have iG:=Zr1 cU
   obtain⟨_,h0|⟨b1,o1,ha,f9⟩⟩:=ZdO hr
   ·rw[h0]at bL;simp at bL
   obtain⟨fY,gL⟩:=(f9.mono ((Mem.le_trans bJ bP))).get hx
   have nG:=Zgn x
   refine⟨b1,o1,ha,⟨by omega,by omega⟩,_,_,_,_,_,_,_,_,fY,fun b2=>Zab rfl ?_⟩
   refine Zdv (Zic x m2 gL (by omega)) fun m3 cJ=>⟨rfl,t.subs.length - (i+1),by omega,i+1,by omega,?_,Mem.le_trans bP cJ,rfl⟩
   rw[ZaA (by omega) (by omega),ZaA (by omega) (by omega),Zr0 hx,Int.add_assoc]
   rfl
  ·have hi':i=t.subs.length:=by
    have:¬((i:Int) < (t.subs.length:Int)):=by simpa using cR
    omega
   subst hi'
   rw[List.take_length]at fS il ⊢
   have hF:=Zs4 t.mn t.mx
   have oM:0≤(c+Zdx t.subs)*ZtS t.mn t.mx∧(c+Zdx t.subs)*ZtS t.mn t.mx≤100020001*10001:=by
    constructor
    ·exact Int.mul_nonneg (by omega) hF.1
    ·exact Int.mul_le_mul (by omega) hF.2 hF.1 (by omega)
   refine Zaa (fun h5=>Zaa (fun hx=>Zag (Mem.le_trans bJ bP) ?_) (fun hx=>Zag (Mem.le_trans bJ bP) ?_)) (fun h5=>Zag (Mem.le_trans bJ bP) ?_)
   ·have e1:t.k=5:=by simpa using h5
    have e2:t.mx=-1:=by simpa using hx
    have hF':ZtS t.mn t.mx=Zmr (ZlF (ZlF t.mn 0) 1) 10001:=by simp[ZtS,e2]
    show Value.int .i64 (Zmr (IntKind.i64.wrap ((c+Zdx t.subs)*Zmr (ZlF (ZlF t.mn 0) 1) 10001)) 10001)=Value.int .i64 t.pos
    rw[←hF',ZaA (by omega) (by omega),gU,ZtR,if_pos e1];rfl
   ·have e1:t.k=5:=by simpa using h5
    have e2:¬t.mx=-1:=by simpa using hx
    have hF':ZtS t.mn t.mx=Zmr (ZlF (ZlF t.mn 0) t.mx) 10001:=by simp[ZtS,e2]
    show Value.int .i64 (Zmr (IntKind.i64.wrap ((c+Zdx t.subs)*Zmr (ZlF (ZlF t.mn 0) t.mx) 10001)) 10001)=Value.int .i64 t.pos
    rw[←hF',ZaA (by omega) (by omega),gU,ZtR,if_pos e1];rfl
   ·have e1:¬t.k=5:=by simpa using h5
    show Value.int .i64 (Zmr (c+Zdx t.subs) 10001)=Value.int .i64 t.pos
    rw[gU,ZtR,if_neg e1]
termination_by SizeOf.sizeOf t
decreasing_by all_goals exact cM
theorem Zid(t:T)(m:Mem)(hr:Rep m t):CX Try.prog 37 #[t.v] m [] (Ret (.int .i64 t.positions)):=by
 apply Zh9
 unfold Zfp
 intro b m1 bJ _
 refine Zai (Zg9 t m1 (hr.mono bJ)) fun m2 bP=>Zaa (fun h=>Zag (Mem.le_trans bJ bP) ?_) (fun h=>?_)
 ·have:t.light=false:=by simpa using h
  simp[Ret,T.positions,this]
 have hl:t.light=true:=by simpa using h
 refine Zdv (Zic t m2 (hr.mono (Mem.le_trans bJ bP)) (of_decide_eq_true hl)) fun m3 cJ=>Zag (Mem.le_trans bJ (Mem.le_trans bP cJ)) ?_
 simp[Ret,T.positions,hl]
def ZxY(bg en:Bool)(t:T):Value:=.agg #[.bool bg,.bool en,.int .u8 t.k,.int .u64 t.s0,.int .u64 t.s1,.int .u64 t.s2,.int .u64 t.s3,.int .i64 t.mn,.int .i64 t.mx,.slice t.a t.subs.length t.c]
theorem Zt9(bg en:Bool)(t:T)(m:Mem)(hr:Rep m t):CX Try.prog 35 #[ZxY bg en t] m [] (Ret (.int .i64 t.check)):=by
 apply ZoD
 unfold ZjW
 intro b m1 bJ _
 refine Zai (ZiT t m1 (hr.mono bJ)) fun m2 bP=>Zaa (fun h=>Zag (Mem.le_trans bJ bP) ?_) (fun h=>?_)
 ·have:t.clean=false:=by simpa using h
  simp[Ret,T.check,this]
 have iv:=Mem.le_trans bJ bP
 have h1:¬t.clean=false:=by simpa using h
 refine Zdv (Zte t m2 (hr.mono iv)) fun m3 cJ=>Zaa (fun h=>Zag (Mem.le_trans iv cJ) ?_) (fun h=>?_)
 ·have h2:t.size > 120:=by simpa using h
  show Value.int .i64 81=Value.int .i64 t.check
  rw[T.check,if_neg h1,if_pos h2]
 have h2:¬t.size > 120:=by simpa using h
 have iQ:=Mem.le_trans iv cJ
 refine Zdv (Zid t m3 (hr.mono iQ)) fun m4 cY=>Zaa (fun h=>Zag (Mem.le_trans iQ cY) ?_) (fun h=>?_)
 ·have h3:t.positions > 400:=by simpa using h
  show Value.int .i64 82=Value.int .i64 t.check
  rw[T.check,if_neg h1,if_neg h2,if_pos h3]
 have h3:¬t.positions > 400:=by simpa using h
 have gY:=Mem.le_trans iQ cY
 refine Zdv (Zsp t m4 (hr.mono gY)) fun m5 eA=>Zaa (fun h=>Zag (Mem.le_trans gY eA) ?_) (fun h=>Zag (Mem.le_trans gY eA) ?_)
 ·have h4:t.groups > 9:=by simpa using h
  show Value.int .i64 83=Value.int .i64 t.check
  rw[T.check,if_neg h1,if_neg h2,if_neg h3,if_pos h4]
 ·have h4:¬t.groups > 9:=by simpa using h
  show Value.int .i64 0=Value.int .i64 t.check
  rw[T.check,if_neg h1,if_neg h2,if_neg h3,if_neg h4]
theorem ZmC(l l':List T)(a a':Option Addr)(c c':Nat)(m:Mem)(hl:l.length≤1000000000000000)(hr:l=[]∨∃b o,a=some ⟨b,o,none⟩∧RepAt m b o l)(hr':l'=[]∨∃b o,a'=some ⟨b,o,none⟩∧RepAt m b o l')
  (hp:∀x∈l,∀y∈l',∀m',m.le m'→Rep m' x→Rep m' y→CX Try.prog 106 #[x.v,y.v] m' [] (Ret (.bool (x.same y)))):
  CX Try.prog 132 #[.slice a l.length c,.slice a' l'.length c',.func (.func 106) #[] #[]] m [] (Ret (.bool (Zhs l l'))):=by
 apply ZaR a l.length c a' l'.length c' _ [] []
 unfold ZaB
 refine Zaa (fun h=>Zag (Mem.le_refl _) ?_) (fun h=>?_)
 ·have:¬l.length=l'.length:=by
   intro e;rw[e]at h;simp at h
  show Value.bool false=_
  rw[Zn0 this]
 have fH:l.length=l'.length:=by
  have h2:((l.length:Int) == (l'.length:Int))=true:=by simpa using h
  have:=of_decide_eq_true h2;omega
 refine⟨fun xs _ _ m'' q=>∃i:Nat,i≤l.length∧xs=[.int .i64 i]∧Zhs (l.take i) (l'.take i)=true∧m.le m''∧q=l.length - i,⟨l.length,0,by omega,rfl,by simp[Zhs],Mem.le_refl _,by omega⟩,?_⟩
 rintro n m' q hm ⟨i,hi,hn,fK,cN,hq⟩
 obtain rfl:n=i:=by simpa using hn
 refine Zaa (fun bM=>?_) (fun cR=>?_)
 ·have bL:i < l.length:=by simpa using bM
  obtain⟨x,hx⟩:∃x,l[i]?=some x:=⟨_,List.getElem?_eq_getElem bL⟩
  obtain⟨y,hy⟩:∃y,l'[i]?=some y:=⟨_,List.getElem?_eq_getElem (by omega)⟩
  have jo:x∈l:=List.mem_of_getElem? hx
  have vv:y∈l':=List.mem_of_getElem? hy
  rcases hr with h0|⟨b1,o1,ha,f9⟩
  ·rw[h0]at bL;simp at bL
  rcases hr' with h0|⟨b2,o2,ha',rT⟩
  ·rw[h0]at fH;simp at fH;rw[fH]at bL;simp at bL
  obtain⟨fY,gL⟩:=(f9.mono hm).get hx
  obtain⟨kH,oN⟩:=(rT.mono hm).get hy
  refine⟨b1,o1,ha,⟨by omega,by omega⟩,_,_,_,_,_,_,_,_,fY,fun b3=>Zab rfl ⟨b2,o2,ha',⟨by omega,by omega⟩,_,_,_,_,_,_,_,_,kH,fun b4=>Zab rfl ?_⟩⟩
  refine Zai (hp x jo y vv m' hm gL oN) fun m1 bJ=>Zaa (fun lw=>?_) (fun lw=>?_)
  ·have hf:x.same y=false:=by simpa using lw
   refine Zag (Mem.le_trans hm bJ) ?_
   show Value.bool false=_
   rw[ZqK hx hy hf]
  ·have hf:x.same y=true:=by simpa using lw
   refine⟨l.length - (i+1),by omega,i+1,by omega,by rw[ZaA (by omega) (by omega)];rfl,ZlG hx hy fK hf trivial,Mem.le_trans hm bJ,rfl⟩
 ·have hi':i=l.length:=by
   have:¬((i:Int) < (l.length:Int)):=by simpa using cR
   omega
  subst hi'
  refine Zag hm ?_
  rw[List.take_length,fH,List.take_length]at fK
  show Value.bool true=_
  rw[fK]
theorem Zrc(t u:T)(m:Mem)(hr:Rep m t)(hu:Rep m u):CX Try.prog 106 #[t.v,u.v] m [] (Ret (.bool (t.same u))):=by
 apply Zp0
 unfold ZlW
 intro b m1 bJ _ b' m2 bP _
 have hm:=Mem.le_trans bJ bP
 refine⟨t.same u,?_,Zag hm rfl⟩
 rw[Zu1]
 refine Zaa (fun h1=>⟨_,Zp2 _ _ _ _ _ _ _ _,Zaa (fun h2=>Zaa (fun h3=>Zaa (fun h4=>?_) (fun h4=>⟨rfl,Zay ?_⟩)) (fun h3=>⟨rfl,Zay ?_⟩)) (fun h2=>⟨rfl,Zay ?_⟩)⟩) (fun h1=>⟨rfl,Zay ?_⟩)
 ·have hr':=ZdO (hr.mono hm)
  have hu':=ZdO (hu.mono hm)
  refine Zai (ZmC t.subs u.subs t.a u.a t.c u.c m2 hr'.1 hr'.2 hu'.2 fun x hx y hy m' _ fY kH=>?_) fun m3 cJ=>⟨rfl,Zay ?_⟩
  ·have cM:=ZkD hx
   exact Zrc x y m' fY kH
  ·rw[h1,h2,h3,h4];rfl
 ·rw[h1,h2,h3,h4];rfl
 ·rw[h1,h2,h3];rfl
 ·rw[h1,h2];rfl
 ·rw[h1];rfl
termination_by SizeOf.sizeOf t
decreasing_by exact cM
theorem Zvm(t u:T)(m:Mem)(hr:Rep m t)(hu:Rep m u):CX Try.prog 58 #[t.v,u.v] m [] (Ret (.bool (t.light&&(u.light&&t.same u)))):=by
 apply Zp1
 unfold ZlX
 intro b m1 bJ _ b' m2 bP _
 have hm:=Mem.le_trans bJ bP
 refine⟨t.light&&(u.light&&t.same u),?_,Zag hm rfl⟩
 refine Zai (Zg9 t m2 (hr.mono hm)) fun m3 cJ=>Zaa (fun h1=>?_) (fun h1=>⟨rfl,Zay ?_⟩)
 ·refine Zai (Zg9 u m3 (hu.mono (Mem.le_trans hm cJ))) fun m4 cY=>Zaa (fun h2=>?_) (fun h2=>?_)
  ·have eA:=Mem.le_trans (Mem.le_trans hm cJ) cY
   refine Zai (Zrc t u m4 (hr.mono eA) (hu.mono eA)) fun m6 i8=>⟨rfl,Zay ?_⟩
   rw[h1,h2];rfl
  ·refine⟨rfl,Zay ?_⟩
   rw[h1,h2];rfl
 ·rw[h1];rfl
end Go.Proofs.Ytplacemlpkhmfaa

