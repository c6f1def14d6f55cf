/- Part of the proof: conditions and contracts of functions of this program. No condition of its own. -/
import Derived.Test.YtplacemlpkhmfaaPVA
import Derived.Test.YtplacemlpkhmfaaMr
set_option linter.unusedVariables false
set_option linter.unusedSimpArgs false
namespace Go.Proofs.Ytplacemlpkhmfaa
open Go Go.Eng Go.Rx Go.Proofs Go.RowKit
set_option maxRecDepth 100000
theorem ZiS(t:T)(m:Mem):CX Try.prog 107 #[t.v] m [] (fun v m' _=>∃b,v=.func (.func 133) #[] #[.pointer (some ⟨b,0,none⟩)]∧m'.reads b 0 t.cs):=by
 apply Zov
 unfold ZjR
 intro b m' hm hb
 exact⟨m',hm,Mem.le_refl _,b,rfl,hb⟩
theorem Zgx(t:T)(m:Mem)(c0b:Nat)(cQ:m.reads c0b 0 t.cs)(mD:Rep m t):IX Try.prog 133 [] [.pointer (some ⟨c0b,0,none⟩)] m (t.nodes.map fun x=>[x.v]):=by
 apply ZkZ 0 [] [] c0b 0
 unfold Zg8
 intro l b m' hm hb
 have oJ:=cQ.mono hm
 refine⟨_,_,_,_,_,_,_,_,oJ,⟨rfl,by omega,?_⟩,?_,.inr rfl⟩
 ·rw[Za4];rfl
 refine⟨t.sl,oJ 7 _ rfl,Zab rfl ?_⟩
 refine⟨fun xs _ _ m'' q=>∃i:Nat,i≤t.subs.length∧xs=[.int .i64 ((1+(Zax (t.subs.take i)).length:Nat):Int),.int .i64 i]∧m'.le m''∧q=t.subs.length - i,⟨t.subs.length,0,by omega,?_,Mem.le_refl _,by omega⟩,?_⟩
 ·simp[Zax]
 rintro y n m2 q bP ⟨i,hi,eG,j1,hq⟩
 simp only[List.cons.injEq,Value.int.injEq,true_and,and_true]at eG
 obtain⟨rfl,rfl⟩:=eG
 have bO:slN t.sl=t.subs.length:=rfl
 rw[bO]
 refine Zaa (fun bM=>?_) (fun cR=>?_)
 ·have bL:i < t.subs.length:=by simpa using bM
  obtain⟨x,hx⟩:∃x,t.subs[i]?=some x:=⟨_,List.getElem?_eq_getElem bL⟩
  have cU:x∈t.subs:=List.mem_of_getElem? hx
  have cM:=ZkD cU
  obtain⟨vt,h0|⟨b1,o1,ha,f9⟩⟩:=ZdO mD
  ·rw[h0]at bL;simp at bL
  obtain⟨fY,gL⟩:=(f9.mono ((Mem.le_trans hm j1))).get hx
  refine Zab rfl ⟨b1,o1,ha,⟨by omega,by omega⟩,_,_,_,_,_,_,_,_,fY,fun b2=>Zab rfl ?_⟩
  refine⟨_,trivial,ZiS x m2,fun v m' css h=>?_,?_⟩
  ·obtain⟨b3,rfl,_⟩:=h;rfl
  rintro g fi ca m3 cJ ⟨b3,hv,gk⟩
  obtain⟨rfl,rfl,rfl⟩:=ZiK hv
  refine⟨_,Zgx x m3 b3 gk (gL.mono cJ),fun y hy=>?_,?_⟩
  ·obtain⟨z,_,rfl⟩:=List.mem_map.1 hy;exact ZpF z
  refine⟨fun xs _ _ m'' q=>q≤x.nodes.length∧xs=[.int .i64 ((1+(Zax (t.subs.take i)).length+q:Nat):Int)]∧m3.le m'',⟨Nat.zero_le _,rfl,Mem.le_refl _⟩,?_,?_⟩
  ·rintro y n0 n1 n2 n3 n4 n5 n6 a n7 c m4 q cY hq ⟨gB,hy,_⟩ b4
   simp only[List.cons.injEq,Value.int.injEq,true_and,and_true]at hy
   subst hy
   have hq':(List.map (fun z:T=>[z.v]) x.nodes)[(q:Nat)]?=some [Value.agg #[.int .u8 n0,.int .u64 n1,.int .u64 n2,.int .u64 n3,.int .u64 n4,.int .i64 n5,.int .i64 n6,.slice a n7 c]]:=hq
   rw[List.getElem?_map]at hq'
   obtain⟨z,hz,oK⟩:=Option.map_eq_some_iff.1 hq'
   have rR:q < x.nodes.length:=(List.getElem?_eq_some_iff.1 hz).1
   refine⟨⟨rfl,by omega,?_⟩,⟨rfl,by omega,?_,cY⟩,rfl,.inr rfl⟩
   ·rw[Int.toNat_natCast]
    show(t.nodes.map fun x=>[x.v])[1+(Zax (t.subs.take i)).length+q]?=_
    rw[List.getElem?_map,ZtQ hx hz,←oK];rfl
   ·congr 2
  ·rintro y m4 cY ⟨gB,hy,_⟩
   simp only[List.cons.injEq,Value.int.injEq,true_and,and_true]at hy
   subst hy
   refine⟨rfl,t.subs.length - (i+1),by omega,i+1,by omega,?_,Mem.le_trans j1 (Mem.le_trans cJ cY),rfl⟩
   rw[ZaA (by omega) (by omega),ZnX hx,List.length_append]
   simp[T.v,Nat.add_assoc]
 ·have hi':i=t.subs.length:=by
   have:¬((i:Int) < (t.subs.length:Int)):=by simpa using cR
   omega
  subst hi'
  left
  rw[List.take_length,Za4]
  simp
  omega
termination_by SizeOf.sizeOf t
decreasing_by exact cM
theorem ZoE(least most:Int)(m:Mem):CX Try.prog 84 #[.int .i64 least,.int .i64 most] m [] (Ret (.bool (Zcm least most))):=by
 apply Zmy
 unfold Zh7
 refine⟨decide (least < 0)||decide (least > 16)||(least == 1&&most == 1),?_,Zaa (fun h=>Zag (Mem.le_refl _) ?_) (fun h=>⟨most == -1||(decide (most ≥ 1)&&decide (most≤16)&&decide (most ≥ least)),?_,Zag (Mem.le_refl _) ?_⟩)⟩
 ·simp only[ZrY];(repeat' split) <;> simp_all <;> omega
 ·simp[Ret,Zcm,h]
 ·simp only[ZrY];(repeat' split) <;> simp_all <;> omega
 ·simp[Ret,Zcm,h]
theorem ZmA(l:List T)(a:Option Addr)(c:Nat)(g:Nat)(ca:List Value)(p:T→Bool)(m:Mem)(hl:l.length≤1000000000000000)(hr:l=[]∨∃b o,a=some ⟨b,o,none⟩∧RepAt m b o l)
  (hp:∀x∈l,∀m',m.le m'→Rep m' x→CX Try.prog g (x.v::ca).toArray m' [] (Ret (.bool (p x)))):
  CX Try.prog 166 #[.slice a l.length c,.func (.func g) #[] ca.toArray] m [] (Ret (.int .i64 (if l.any p then(l.findIdx p:Nat)else(-1:Int)))):=by
 apply Zbx a l.length c g [] ca
 unfold Za0
 refine⟨fun xs _ _ m'' q=>∃i:Nat,i≤l.length∧xs=[.int .i64 i]∧(∀x∈l.take i,p x=false)∧m.le m''∧q=l.length - i,⟨l.length,0,by omega,rfl,by simp,Mem.le_refl _,by omega⟩,?_⟩
 rintro n m' q hm ⟨i,hi,hn,iq,cN,hq⟩
 obtain rfl:n=i:=by simpa using hn
 refine Zaa (fun bM=>?_) (fun cR=>?_)
 ·have bL:i < l.length:=by simpa using bM
  obtain⟨x,hx⟩:∃x,l[i]?=some x:=⟨_,List.getElem?_eq_getElem bL⟩
  have cU:x∈l:=List.mem_of_getElem? hx
  rcases hr with h0|⟨b1,o1,ha,f9⟩
  ·rw[h0]at bL;simp at bL
  obtain⟨fY,gL⟩:=(f9.mono hm).get hx
  refine⟨b1,o1,ha,⟨by omega,by omega⟩,_,_,_,_,_,_,_,_,fY,Zai (hp x cU m' hm gL) fun m1 bJ=>Zaa (fun lw=>?_) (fun lw=>?_)⟩
  ·refine Zag (Mem.le_trans hm bJ) ?_
   have mE:l.any p=true:=List.any_eq_true.2 ⟨x,cU,lw⟩
   have oL:l.findIdx p=i:=by
    rw[List.findIdx_eq bL]
    refine⟨by rw[(List.getElem?_eq_some_iff.1 hx).2];exact lw,fun j hj=>?_⟩
    exact iq _ (List.mem_of_getElem? (i:=j) (by rw[List.getElem?_take_of_lt hj];exact List.getElem?_eq_getElem (by omega)))
   simp[Ret,mE,oL]
  ·refine⟨l.length - (i+1),by omega,i+1,by omega,by rw[ZaA (by omega) (by omega)];rfl,?_,Mem.le_trans hm bJ,rfl⟩
   intro y hy
   rw[List.take_add_one,hx]at hy
   rcases List.mem_append.1 hy with hy|hy
   ·exact iq y hy
   ·simp at hy;rw[hy];exact lw
 ·have hi':i=l.length:=by
   have:¬((i:Int) < (l.length:Int)):=by simpa using cR
   omega
  subst hi'
  refine Zag hm ?_
  have mE:l.any p=false:=by
   rw[List.any_eq_false]
   rw[List.take_length]at iq
   exact fun x hx=>by simp[iq x hx]
  simp[Ret,mE]
theorem Zib(l:List T)(a:Option Addr)(c:Nat)(g:Nat)(ca:List Value)(p:T→Bool)(m:Mem)(hl:l.length≤1000000000000000)(hr:l=[]∨∃b o,a=some ⟨b,o,none⟩∧RepAt m b o l)
  (hp:∀x∈l,∀m',m.le m'→Rep m' x→CX Try.prog g (x.v::ca).toArray m' [] (Ret (.bool (p x)))):
  CX Try.prog 162 #[.slice a l.length c,.func (.func g) #[] ca.toArray] m [] (Ret (.bool (l.any p))):=by
 apply Zbi a l.length c g [] ca
 unfold ZaV
 refine Zdv (ZmA l a c g ca p m hl hr hp) fun m' hm=>Zag hm ?_
 cases h:l.any p <;> simp[Ret]
theorem Zvl(t:T)(k:Int)(b:Nat)(m:Mem)(hb:m.reads b 0 [.int .u8 k]):CX Try.prog 163 #[t.v,.pointer (some ⟨b,0,none⟩)] m [] (Ret (.bool (t.k == k))):=by
 apply Zoy (c0b:=b) (c0o:=0)
 unfold ZjT
 intro b' m' hm _
 exact⟨_,hm _ _ _ (hb 0 _ rfl),Zab rfl (Zag hm rfl)⟩
theorem Zso(t:T)(k:Int)(m:Mem)(hr:Rep m t):CX Try.prog 134 #[t.v,.int .u8 k] m [] (Ret (.bool (t.has k))):=by
 apply Zsk
 unfold Zoz
 intro b m1 bJ _ b2 m2 bP il
 have hr':=ZdO (hr.mono (Mem.le_trans bJ bP))
 exact Zai (Zib t.subs t.a t.c _ [.pointer (some ⟨b2,0,none⟩)] (fun x=>x.k == k) m2 hr'.1 hr'.2 fun x _ m' hm' _=>Zvl x k b2 m' (il.mono hm')) fun m3 cJ=>Zag (Mem.le_trans bJ (Mem.le_trans bP cJ)) rfl
theorem Zg9(t:T)(m:Mem)(hr:Rep m t):CX Try.prog 92 #[t.v] m [] (Ret (.bool t.light)):=by
 apply Zow
 unfold ZjS
 intro b m1 bJ _ b2
 refine Zam (ZiS t m1) (fun v m' css h=>by obtain⟨_,rfl,_⟩:=h;rfl) ?_
 rintro g fi ca m2 bP ⟨b3,hv,gk⟩
 obtain⟨rfl,rfl,rfl⟩:=ZiK hv
 have cN:=Mem.le_trans bJ bP
 refine⟨_,Zgx t m2 b3 gk (hr.mono cN),fun y hy=>?_,fun _ css _ m' q=>css=[[.int .i64 q]]∧q≤10000∧q≤t.nodes.length,⟨rfl,by omega,by omega⟩,?_,?_⟩
 ·obtain⟨z,_,rfl⟩:=List.mem_map.1 hy;exact ZpF z
 ·rintro n0 n1 n2 n3 n4 n5 n6 a n7 c cs m3 q cJ hq ⟨cG,gB,_⟩
  obtain rfl:cs=[.int .i64 q]:=by simpa using cG
  have bM:q < t.nodes.length:=by
   have:=(List.getElem?_eq_some_iff.1 (show(List.map (fun z:T=>[z.v]) t.nodes)[(q:Nat)]?=some _ from hq)).1
   simpa using this
  refine Zan rfl (Zab rfl ?_)
  have hw:IntKind.i64.wrap (intOf (Value.int .i64 (q:Int))+1)=(q:Int)+1:=ZaA (n:=(q:Int)+1) (by omega) (by omega)
  simp only[hw]
  refine Zaa (fun h=>⟨by trivial,Zag (Mem.le_trans cN cJ) ?_⟩) (fun h=>⟨by trivial,?_,?_,by omega⟩)
  ·have:((q:Int)+1 > 10000):=by simpa using h
   simp[Ret,T.light];omega
  ·simp
  ·have:¬((q:Int)+1 > 10000):=by simpa using h
   omega
 ·rintro cs m3 cJ ⟨cG,gB,_⟩
  obtain rfl:cs=[.int .i64 t.nodes.length]:=by simpa using cG
  refine Zan rfl (Zab rfl (Zag (Mem.le_trans cN cJ) ?_))
  show Value.bool (decide ((t.nodes.length:Int)≤10000))=Value.bool t.light
  congr 1
  rw[T.light,decide_eq_decide];omega
end Go.Proofs.Ytplacemlpkhmfaa

