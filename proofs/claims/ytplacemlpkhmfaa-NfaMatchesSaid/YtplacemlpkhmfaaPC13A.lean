/- Part of the proof: conditions and contracts of functions of this program. No condition of its own. -/
import Derived.Test.YtplacemlpkhmfaaPVA
import Derived.Test.YtplacemlpkhmfaaMr
set_option linter.unusedVariables false
set_option linter.unusedSimpArgs false
namespace Go.Proofs.Ytplacemlpkhmfaa
open Go Go.Eng Go.Rx Go.Proofs Go.RowKit
set_option maxRecDepth 100000
theorem ZjD(t:T)(m:Mem):CX Try.prog 107 #[t.v] m [] (fun v m' _=>∃b,v=.func (.func 133) #[] #[.pointer (some ⟨b,0,none⟩)]∧m'.reads b 0 t.cs):=by
 apply Zps
 unfold ZkR
 intro b m' hm hb
 exact⟨m',hm,Mem.le_refl _,b,rfl,hb⟩
theorem Zhd(t:T)(m:Mem)(c0b:Nat)(cU:m.reads c0b 0 t.cs)(mG:Rep m t):IX Try.prog 133 [] [.pointer (some ⟨c0b,0,none⟩)] m (t.nodes.map fun x=>[x.v]):=by
 apply ZlZ 0 [] [] c0b 0
 unfold ZhK
 intro l b m' hm hb
 have oH:=cU.mono hm
 refine⟨_,_,_,_,_,_,_,_,oH,⟨rfl,by omega,?_⟩,?_,.inr rfl⟩
 ·rw[ZaX];rfl
 refine⟨t.sl,oH 7 _ rfl,Zaa rfl ?_⟩
 refine⟨fun xs _ _ m'' q=>∃i:Nat,i≤t.subs.length∧xs=[.int .i64 ((1+(Zau (t.subs.take i)).length:Nat):Int),.int .i64 i]∧m'.le m''∧q=t.subs.length - i,⟨t.subs.length,0,by omega,?_,Mem.le_refl _,by omega⟩,?_⟩
 ·simp[Zau]
 rintro y n m2 q bT ⟨i,hi,gn,j9,hq⟩
 simp only[List.cons.injEq,Value.int.injEq,true_and,and_true]at gn
 obtain⟨rfl,rfl⟩:=gn
 have bX:slN t.sl=t.subs.length:=rfl
 rw[bX]
 refine Zab (fun bS=>?_) (fun cX=>?_)
 ·have bR:i < t.subs.length:=by simpa using bS
  obtain⟨x,hx⟩:∃x,t.subs[i]?=some x:=⟨_,List.getElem?_eq_getElem bR⟩
  have dA:x∈t.subs:=List.mem_of_getElem? hx
  have cP:=ZjU dA
  obtain⟨vj,h0|⟨b1,o1,ha,gl⟩⟩:=Zcp mG
  ·rw[h0]at bR;simp at bR
  obtain⟨iP,gV⟩:=(gl.mono ((Mem.le_trans hm j9))).get hx
  refine Zaa rfl ⟨b1,o1,ha,⟨by omega,by omega⟩,_,_,_,_,_,_,_,_,iP,fun b2=>Zaa rfl ?_⟩
  refine⟨_,trivial,ZjD x m2,fun v m' css h=>?_,?_⟩
  ·obtain⟨b3,rfl,_⟩:=h;rfl
  rintro g fi ca m3 cH ⟨b3,hv,gv⟩
  obtain⟨rfl,rfl,rfl⟩:=Zjv hv
  refine⟨_,Zhd x m3 b3 gv (gV.mono cH),fun y hy=>?_,?_⟩
  ·obtain⟨z,_,rfl⟩:=List.mem_map.1 hy;exact ZqB z
  refine⟨fun xs _ _ m'' q=>q≤x.nodes.length∧xs=[.int .i64 ((1+(Zau (t.subs.take i)).length+q:Nat):Int)]∧m3.le m'',⟨Nat.zero_le _,rfl,Mem.le_refl _⟩,?_,?_⟩
  ·rintro y n0 n1 n2 n3 n4 n5 n6 a n7 c m4 q cQ hq ⟨gK,hy,_⟩ b4
   simp only[List.cons.injEq,Value.int.injEq,true_and,and_true]at hy
   subst hy
   have hq':(List.map (fun z:T=>[z.v]) x.nodes)[(q:Nat)]?=some [Value.agg #[.int .u8 n0,.int .u64 n1,.int .u64 n2,.int .u64 n3,.int .u64 n4,.int .i64 n5,.int .i64 n6,.slice a n7 c]]:=hq
   rw[List.getElem?_map]at hq'
   obtain⟨z,hz,oI⟩:=Option.map_eq_some_iff.1 hq'
   have rM:q < x.nodes.length:=(List.getElem?_eq_some_iff.1 hz).1
   refine⟨⟨rfl,by omega,?_⟩,⟨rfl,by omega,?_,cQ⟩,rfl,.inr rfl⟩
   ·rw[Int.toNat_natCast]
    show(t.nodes.map fun x=>[x.v])[1+(Zau (t.subs.take i)).length+q]?=_
    rw[List.getElem?_map,Zu9 hx hz,←oI];rfl
   ·congr 2
  ·rintro y m4 cQ ⟨gK,hy,_⟩
   simp only[List.cons.injEq,Value.int.injEq,true_and,and_true]at hy
   subst hy
   refine⟨rfl,t.subs.length - (i+1),by omega,i+1,by omega,?_,Mem.le_trans j9 (Mem.le_trans cH cQ),rfl⟩
   rw[Zat (by omega) (by omega),ZoQ hx,List.length_append]
   simp[T.v,Nat.add_assoc]
 ·have hi':i=t.subs.length:=by
   have:¬((i:Int) < (t.subs.length:Int)):=by simpa using cX
   omega
  subst hi'
  left
  rw[List.take_length,ZaX]
  simp
  omega
termination_by SizeOf.sizeOf t
decreasing_by exact cP
theorem Ztr(least most:Int)(m:Mem):CX Try.prog 84 #[.int .i64 least,.int .i64 most] m [] (Ret (.bool (Zdx least most))):=by
 apply Znz
 unfold ZiP
 refine⟨decide (least < 0)||decide (least > 16)||(least == 1&&most == 1),?_,Zab (fun h=>Zac (Mem.le_refl _) ?_) (fun h=>⟨most == -1||(decide (most ≥ 1)&&decide (most≤16)&&decide (most ≥ least)),?_,Zac (Mem.le_refl _) ?_⟩)⟩
 ·simp only[ZsZ];(repeat' split) <;> simp_all <;> omega
 ·simp[Ret,Zdx,h]
 ·simp only[ZsZ];(repeat' split) <;> simp_all <;> omega
 ·simp[Ret,Zdx,h]
theorem ZnB(l:List T)(a:Option Addr)(c:Nat)(g:Nat)(ca:List Value)(p:T→Bool)(m:Mem)(hl:l.length≤1000000000000000)(hr:l=[]∨∃b o,a=some ⟨b,o,none⟩∧RepAt m b o l)
  (hp:∀x∈l,∀m',m.le m'→Rep m' x→CX Try.prog g (x.v::ca).toArray m' [] (Ret (.bool (p x)))):
  CX Try.prog 166 #[.slice a l.length c,.func (.func g) #[] ca.toArray] m [] (Ret (.int .i64 (if l.any p then(l.findIdx p:Nat)else(-1:Int)))):=by
 apply Zbr a l.length c g [] ca
 unfold ZaV
 refine⟨fun xs _ _ m'' q=>∃i:Nat,i≤l.length∧xs=[.int .i64 i]∧(∀x∈l.take i,p x=false)∧m.le m''∧q=l.length - i,⟨l.length,0,by omega,rfl,by simp,Mem.le_refl _,by omega⟩,?_⟩
 rintro n m' q hm ⟨i,hi,hn,iJ,cS,hq⟩
 obtain rfl:n=i:=by simpa using hn
 refine Zab (fun bS=>?_) (fun cX=>?_)
 ·have bR:i < l.length:=by simpa using bS
  obtain⟨x,hx⟩:∃x,l[i]?=some x:=⟨_,List.getElem?_eq_getElem bR⟩
  have dA:x∈l:=List.mem_of_getElem? hx
  rcases hr with h0|⟨b1,o1,ha,gl⟩
  ·rw[h0]at bR;simp at bR
  obtain⟨iP,gV⟩:=(gl.mono hm).get hx
  refine⟨b1,o1,ha,⟨by omega,by omega⟩,_,_,_,_,_,_,_,_,iP,Zak (hp x dA m' hm gV) fun m1 bJ=>Zab (fun lG=>?_) (fun lG=>?_)⟩
  ·refine Zac (Mem.le_trans hm bJ) ?_
   have mH:l.any p=true:=List.any_eq_true.2 ⟨x,dA,lG⟩
   have oJ:l.findIdx p=i:=by
    rw[List.findIdx_eq bR]
    refine⟨by rw[(List.getElem?_eq_some_iff.1 hx).2];exact lG,fun j hj=>?_⟩
    exact iJ _ (List.mem_of_getElem? (i:=j) (by rw[List.getElem?_take_of_lt hj];exact List.getElem?_eq_getElem (by omega)))
   simp[Ret,mH,oJ]
  ·refine⟨l.length - (i+1),by omega,i+1,by omega,by rw[Zat (by omega) (by omega)];rfl,?_,Mem.le_trans hm bJ,rfl⟩
   intro y hy
   rw[List.take_add_one,hx]at hy
   rcases List.mem_append.1 hy with hy|hy
   ·exact iJ y hy
   ·simp at hy;rw[hy];exact lG
 ·have hi':i=l.length:=by
   have:¬((i:Int) < (l.length:Int)):=by simpa using cX
   omega
  subst hi'
  refine Zac hm ?_
  have mH:l.any p=false:=by
   rw[List.any_eq_false]
   rw[List.take_length]at iJ
   exact fun x hx=>by simp[iJ x hx]
  simp[Ret,mH]
theorem ZiT(l:List T)(a:Option Addr)(c:Nat)(g:Nat)(ca:List Value)(p:T→Bool)(m:Mem)(hl:l.length≤1000000000000000)(hr:l=[]∨∃b o,a=some ⟨b,o,none⟩∧RepAt m b o l)
  (hp:∀x∈l,∀m',m.le m'→Rep m' x→CX Try.prog g (x.v::ca).toArray m' [] (Ret (.bool (p x)))):
  CX Try.prog 162 #[.slice a l.length c,.func (.func g) #[] ca.toArray] m [] (Ret (.bool (l.any p))):=by
 apply Zba a l.length c g [] ca
 unfold ZaR
 refine ZcB (ZnB l a c g ca p m hl hr hp) fun m' hm=>Zac hm ?_
 cases h:l.any p <;> simp[Ret]
theorem ZwS(t:T)(k:Int)(b:Nat)(m:Mem)(hb:m.reads b 0 [.int .u8 k]):CX Try.prog 163 #[t.v,.pointer (some ⟨b,0,none⟩)] m [] (Ret (.bool (t.k == k))):=by
 apply Zpv (c0b:=b) (c0o:=0)
 unfold ZkT
 intro b' m' hm _
 exact⟨_,hm _ _ _ (hb 0 _ rfl),Zaa rfl (Zac hm rfl)⟩
theorem Zts(t:T)(k:Int)(m:Mem)(hr:Rep m t):CX Try.prog 134 #[t.v,.int .u8 k] m [] (Ret (.bool (t.has k))):=by
 apply Ztn
 unfold Zpw
 intro b m1 bJ _ b2 m2 bT gu
 have hr':=Zcp (hr.mono (Mem.le_trans bJ bT))
 exact Zak (ZiT t.subs t.a t.c _ [.pointer (some ⟨b2,0,none⟩)] (fun x=>x.k == k) m2 hr'.1 hr'.2 fun x _ m' hm' _=>ZwS x k b2 m' (gu.mono hm')) fun m3 cH=>Zac (Mem.le_trans bJ (Mem.le_trans bT cH)) rfl
theorem ZhL(t:T)(m:Mem)(hr:Rep m t):CX Try.prog 92 #[t.v] m [] (Ret (.bool t.light)):=by
 apply Zpt
 unfold ZkS
 intro b m1 bJ _ b2
 refine Zap (ZjD t m1) (fun v m' css h=>by obtain⟨_,rfl,_⟩:=h;rfl) ?_
 rintro g fi ca m2 bT ⟨b3,hv,gv⟩
 obtain⟨rfl,rfl,rfl⟩:=Zjv hv
 have cS:=Mem.le_trans bJ bT
 refine⟨_,Zhd t m2 b3 gv (hr.mono cS),fun y hy=>?_,fun _ css _ m' q=>css=[[.int .i64 q]]∧q≤10000∧q≤t.nodes.length,⟨rfl,by omega,by omega⟩,?_,?_⟩
 ·obtain⟨z,_,rfl⟩:=List.mem_map.1 hy;exact ZqB z
 ·rintro n0 n1 n2 n3 n4 n5 n6 a n7 c cs m3 q cH hq ⟨cK,gK,_⟩
  obtain rfl:cs=[.int .i64 q]:=by simpa using cK
  have bS:q < t.nodes.length:=by
   have:=(List.getElem?_eq_some_iff.1 (show(List.map (fun z:T=>[z.v]) t.nodes)[(q:Nat)]?=some _ from hq)).1
   simpa using this
  refine Zam rfl (Zaa rfl ?_)
  have hw:IntKind.i64.wrap (intOf (Value.int .i64 (q:Int))+1)=(q:Int)+1:=Zat (n:=(q:Int)+1) (by omega) (by omega)
  simp only[hw]
  refine Zab (fun h=>⟨by trivial,Zac (Mem.le_trans cS cH) ?_⟩) (fun h=>⟨by trivial,?_,?_,by omega⟩)
  ·have:((q:Int)+1 > 10000):=by simpa using h
   simp[Ret,T.light];omega
  ·simp
  ·have:¬((q:Int)+1 > 10000):=by simpa using h
   omega
 ·rintro cs m3 cH ⟨cK,gK,_⟩
  obtain rfl:cs=[.int .i64 t.nodes.length]:=by simpa using cK
  refine Zam rfl (Zaa rfl (Zac (Mem.le_trans cS cH) ?_))
  show Value.bool (decide ((t.nodes.length:Int)≤10000))=Value.bool t.light
  congr 1
  rw[T.light,decide_eq_decide];omega
end Go.Proofs.Ytplacemlpkhmfaa

