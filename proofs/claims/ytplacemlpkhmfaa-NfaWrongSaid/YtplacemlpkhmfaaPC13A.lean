/- Part of the proof: conditions and contracts of functions of this program. No condition of its own. -/
import Derived.Test.YtplacemlpkhmfaaPVA
import Derived.Test.YtplacemlpkhmfaaMr
set_option linter.unusedVariables false
set_option linter.unusedSimpArgs false
namespace Go.Proofs.Ytplacemlpkhmfaa
open Go Go.Eng Go.Rx Go.Proofs Go.RowKit
set_option maxRecDepth 100000
theorem Zkv(t:T)(m:Mem):CX Try.prog 107 #[t.v] m [] (fun v m' _=>∃b,v=.func (.func 133) #[] #[.pointer (some ⟨b,0,none⟩)]∧m'.reads b 0 t.cs):=by
 apply ZnQ
 unfold Zjs
 intro b m' hm hb
 exact⟨m',hm,Mem.le_refl _,b,rfl,hb⟩
theorem ZhN(t:T)(m:Mem)(c0b:Nat)(cM:m.reads c0b 0 t.cs)(l7:Rep m t):IX Try.prog 133 [] [.pointer (some ⟨c0b,0,none⟩)] m (t.nodes.map fun x=>[x.v]):=by
 apply Zku 0 [] [] c0b 0
 unfold ZgN
 intro l b m' hm hb
 have oe:=cM.mono hm
 refine⟨_,_,_,_,_,_,_,_,oe,⟨rfl,by omega,?_⟩,?_,.inr rfl⟩
 ·rw[Za5];rfl
 refine⟨t.sl,oe 7 _ rfl,Zaa rfl ?_⟩
 refine⟨fun xs _ _ m'' q=>∃i:Nat,i≤t.subs.length∧xs=[.int .i64 ((1+(Zar (t.subs.take i)).length:Nat):Int),.int .i64 i]∧m'.le m''∧q=t.subs.length - i,⟨t.subs.length,0,by omega,?_,Mem.le_refl _,by omega⟩,?_⟩
 ·simp[Zar]
 rintro y n m2 q bN ⟨i,hi,eM,jS,hq⟩
 simp only[List.cons.injEq,Value.int.injEq,true_and,and_true]at eM
 obtain⟨rfl,rfl⟩:=eM
 have bO:slN t.sl=t.subs.length:=rfl
 rw[bO]
 refine Zab (fun bK=>?_) (fun cS=>?_)
 ·have bJ:i < t.subs.length:=by simpa using bK
  obtain⟨x,hx⟩:∃x,t.subs[i]?=some x:=⟨_,List.getElem?_eq_getElem bJ⟩
  have cR:x∈t.subs:=List.mem_of_getElem? hx
  have cI:=ZoX cR
  obtain⟨uU,h0|⟨b1,o1,ha,gt⟩⟩:=ZdA l7
  ·rw[h0]at bJ;simp at bJ
  obtain⟨fV,gF⟩:=(gt.mono ((Mem.le_trans hm jS))).get hx
  refine Zaa rfl ⟨b1,o1,ha,⟨by omega,by omega⟩,_,_,_,_,_,_,_,_,fV,fun b2=>Zaa rfl ?_⟩
  refine⟨_,trivial,Zkv x m2,fun v m' css h=>?_,?_⟩
  ·obtain⟨b3,rfl,_⟩:=h;rfl
  rintro g fi ca m3 cG ⟨b3,hv,gm⟩
  obtain⟨rfl,rfl,rfl⟩:=Zkb hv
  refine⟨_,ZhN x m3 b3 gm (gF.mono cG),fun y hy=>?_,?_⟩
  ·obtain⟨z,_,rfl⟩:=List.mem_map.1 hy;exact Zrg z
  refine⟨fun xs _ _ m'' q=>q≤x.nodes.length∧xs=[.int .i64 ((1+(Zar (t.subs.take i)).length+q:Nat):Int)]∧m3.le m'',⟨Nat.zero_le _,rfl,Mem.le_refl _⟩,?_,?_⟩
  ·rintro y n0 n1 n2 n3 n4 n5 n6 a n7 c m4 q cY hq ⟨i7,hy,_⟩ b4
   simp only[List.cons.injEq,Value.int.injEq,true_and,and_true]at hy
   subst hy
   have hq':(List.map (fun z:T=>[z.v]) x.nodes)[(q:Nat)]?=some [Value.agg #[.int .u8 n0,.int .u64 n1,.int .u64 n2,.int .u64 n3,.int .u64 n4,.int .i64 n5,.int .i64 n6,.slice a n7 c]]:=hq
   rw[List.getElem?_map]at hq'
   obtain⟨z,hz,rm⟩:=Option.map_eq_some_iff.1 hq'
   have ro:q < x.nodes.length:=(List.getElem?_eq_some_iff.1 hz).1
   refine⟨⟨rfl,by omega,?_⟩,⟨rfl,by omega,?_,cY⟩,rfl,.inr rfl⟩
   ·rw[Int.toNat_natCast]
    show(t.nodes.map fun x=>[x.v])[1+(Zar (t.subs.take i)).length+q]?=_
    rw[List.getElem?_map,Zs6 hx hz,←rm];rfl
   ·congr 2
  ·rintro y m4 cY ⟨i7,hy,_⟩
   simp only[List.cons.injEq,Value.int.injEq,true_and,and_true]at hy
   subst hy
   refine⟨rfl,t.subs.length - (i+1),by omega,i+1,by omega,?_,Mem.le_trans jS (Mem.le_trans cG cY),rfl⟩
   rw[Zax (by omega) (by omega),Znm hx,List.length_append]
   simp[T.v,Nat.add_assoc]
 ·have hi':i=t.subs.length:=by
   have:¬((i:Int) < (t.subs.length:Int)):=by simpa using cS
   omega
  subst hi'
  left
  rw[List.take_length,Za5]
  simp
  omega
termination_by SizeOf.sizeOf t
decreasing_by exact cI
theorem Zrz(least most:Int)(m:Mem):CX Try.prog 84 #[.int .i64 least,.int .i64 most] m [] (Ret (.bool (Zd0 least most))):=by
 apply Zl3
 unfold ZhK
 refine⟨decide (least < 0)||decide (least > 16)||(least == 1&&most == 1),?_,Zab (fun h=>Zah (Mem.le_refl _) ?_) (fun h=>⟨most == -1||(decide (most ≥ 1)&&decide (most≤16)&&decide (most ≥ least)),?_,Zah (Mem.le_refl _) ?_⟩)⟩
 ·simp only[Zre];(repeat' split) <;> simp_all <;> omega
 ·simp[Ret,Zd0,h]
 ·simp only[Zre];(repeat' split) <;> simp_all <;> omega
 ·simp[Ret,Zd0,h]
theorem Zl4(l:List T)(a:Option Addr)(c:Nat)(g:Nat)(ca:List Value)(p:T→Bool)(m:Mem)(hl:l.length≤1000000000000000)(hr:l=[]∨∃b o,a=some ⟨b,o,none⟩∧RepAt m b o l)
  (hp:∀x∈l,∀m',m.le m'→Rep m' x→CX Try.prog g (x.v::ca).toArray m' [] (Ret (.bool (p x)))):
  CX Try.prog 166 #[.slice a l.length c,.func (.func g) #[] ca.toArray] m [] (Ret (.int .i64 (if l.any p then(l.findIdx p:Nat)else(-1:Int)))):=by
 apply Zbt a l.length c g [] ca
 unfold ZaX
 refine⟨fun xs _ _ m'' q=>∃i:Nat,i≤l.length∧xs=[.int .i64 i]∧(∀x∈l.take i,p x=false)∧m.le m''∧q=l.length - i,⟨l.length,0,by omega,rfl,by simp,Mem.le_refl _,by omega⟩,?_⟩
 rintro n m' q hm ⟨i,hi,hn,jj,cN,hq⟩
 obtain rfl:n=i:=by simpa using hn
 refine Zab (fun bK=>?_) (fun cS=>?_)
 ·have bJ:i < l.length:=by simpa using bK
  obtain⟨x,hx⟩:∃x,l[i]?=some x:=⟨_,List.getElem?_eq_getElem bJ⟩
  have cR:x∈l:=List.mem_of_getElem? hx
  rcases hr with h0|⟨b1,o1,ha,gt⟩
  ·rw[h0]at bJ;simp at bJ
  obtain⟨fV,gF⟩:=(gt.mono hm).get hx
  refine⟨b1,o1,ha,⟨by omega,by omega⟩,_,_,_,_,_,_,_,_,fV,Zaj (hp x cR m' hm gF) fun m1 bH=>Zab (fun ld=>?_) (fun ld=>?_)⟩
  ·refine Zah (Mem.le_trans hm bH) ?_
   have l8:l.any p=true:=List.any_eq_true.2 ⟨x,cR,ld⟩
   have og:l.findIdx p=i:=by
    rw[List.findIdx_eq bJ]
    refine⟨by rw[(List.getElem?_eq_some_iff.1 hx).2];exact ld,fun j hj=>?_⟩
    exact jj _ (List.mem_of_getElem? (i:=j) (by rw[List.getElem?_take_of_lt hj];exact List.getElem?_eq_getElem (by omega)))
   simp[Ret,l8,og]
  ·refine⟨l.length - (i+1),by omega,i+1,by omega,by rw[Zax (by omega) (by omega)];rfl,?_,Mem.le_trans hm bH,rfl⟩
   intro y hy
   rw[List.take_add_one,hx]at hy
   rcases List.mem_append.1 hy with hy|hy
   ·exact jj y hy
   ·simp at hy;rw[hy];exact ld
 ·have hi':i=l.length:=by
   have:¬((i:Int) < (l.length:Int)):=by simpa using cS
   omega
  subst hi'
  refine Zah hm ?_
  have l8:l.any p=false:=by
   rw[List.any_eq_false]
   rw[List.take_length]at jj
   exact fun x hx=>by simp[jj x hx]
  simp[Ret,l8]
theorem ZhO(l:List T)(a:Option Addr)(c:Nat)(g:Nat)(ca:List Value)(p:T→Bool)(m:Mem)(hl:l.length≤1000000000000000)(hr:l=[]∨∃b o,a=some ⟨b,o,none⟩∧RepAt m b o l)
  (hp:∀x∈l,∀m',m.le m'→Rep m' x→CX Try.prog g (x.v::ca).toArray m' [] (Ret (.bool (p x)))):
  CX Try.prog 162 #[.slice a l.length c,.func (.func g) #[] ca.toArray] m [] (Ret (.bool (l.any p))):=by
 apply Zbd a l.length c g [] ca
 unfold ZaR
 refine ZdM (Zl4 l a c g ca p m hl hr hp) fun m' hm=>Zah hm ?_
 cases h:l.any p <;> simp[Ret]
theorem Zux(t:T)(k:Int)(b:Nat)(m:Mem)(hb:m.reads b 0 [.int .u8 k]):CX Try.prog 163 #[t.v,.pointer (some ⟨b,0,none⟩)] m [] (Ret (.bool (t.k == k))):=by
 apply ZnT (c0b:=b) (c0o:=0)
 unfold Zju
 intro b' m' hm _
 exact⟨_,hm _ _ _ (hb 0 _ rfl),Zaa rfl (Zah hm rfl)⟩
theorem ZrA(t:T)(k:Int)(m:Mem)(hr:Rep m t):CX Try.prog 134 #[t.v,.int .u8 k] m [] (Ret (.bool (t.has k))):=by
 apply Zrv
 unfold ZnU
 intro b m1 bH _ b2 m2 bN ic
 have hr':=ZdA (hr.mono (Mem.le_trans bH bN))
 exact Zaj (ZhO t.subs t.a t.c _ [.pointer (some ⟨b2,0,none⟩)] (fun x=>x.k == k) m2 hr'.1 hr'.2 fun x _ m' hm' _=>Zux x k b2 m' (ic.mono hm')) fun m3 cG=>Zah (Mem.le_trans bH (Mem.le_trans bN cG)) rfl
theorem Zim(t:T)(m:Mem)(hr:Rep m t):CX Try.prog 92 #[t.v] m [] (Ret (.bool t.light)):=by
 apply ZnR
 unfold Zjt
 intro b m1 bH _ b2
 refine Zam (Zkv t m1) (fun v m' css h=>by obtain⟨_,rfl,_⟩:=h;rfl) ?_
 rintro g fi ca m2 bN ⟨b3,hv,gm⟩
 obtain⟨rfl,rfl,rfl⟩:=Zkb hv
 have cN:=Mem.le_trans bH bN
 refine⟨_,ZhN t m2 b3 gm (hr.mono cN),fun y hy=>?_,fun _ css _ m' q=>css=[[.int .i64 q]]∧q≤10000∧q≤t.nodes.length,⟨rfl,by omega,by omega⟩,?_,?_⟩
 ·obtain⟨z,_,rfl⟩:=List.mem_map.1 hy;exact Zrg z
 ·rintro n0 n1 n2 n3 n4 n5 n6 a n7 c cs m3 q cG hq ⟨cH,i7,_⟩
  obtain rfl:cs=[.int .i64 q]:=by simpa using cH
  have bK:q < t.nodes.length:=by
   have:=(List.getElem?_eq_some_iff.1 (show(List.map (fun z:T=>[z.v]) t.nodes)[(q:Nat)]?=some _ from hq)).1
   simpa using this
  refine Zap rfl (Zaa rfl ?_)
  have hw:IntKind.i64.wrap (intOf (Value.int .i64 (q:Int))+1)=(q:Int)+1:=Zax (n:=(q:Int)+1) (by omega) (by omega)
  simp only[hw]
  refine Zab (fun h=>⟨by trivial,Zah (Mem.le_trans cN cG) ?_⟩) (fun h=>⟨by trivial,?_,?_,by omega⟩)
  ·have:((q:Int)+1 > 10000):=by simpa using h
   simp[Ret,T.light];omega
  ·simp
  ·have:¬((q:Int)+1 > 10000):=by simpa using h
   omega
 ·rintro cs m3 cG ⟨cH,i7,_⟩
  obtain rfl:cs=[.int .i64 t.nodes.length]:=by simpa using cH
  refine Zap rfl (Zaa rfl (Zah (Mem.le_trans cN cG) ?_))
  show Value.bool (decide ((t.nodes.length:Int)≤10000))=Value.bool t.light
  congr 1
  rw[T.light,decide_eq_decide];omega
end Go.Proofs.Ytplacemlpkhmfaa

