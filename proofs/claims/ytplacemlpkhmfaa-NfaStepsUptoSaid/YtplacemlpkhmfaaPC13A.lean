/- Part of the proof: conditions and contracts of functions of this program. No condition of its own. -/
import Derived.Test.YtplacemlpkhmfaaPVA
import Derived.Test.YtplacemlpkhmfaaMr
set_option linter.unusedVariables false
set_option linter.unusedSimpArgs false
namespace Go.Proofs.Ytplacemlpkhmfaa
open Go Go.Eng Go.Rx Go.Proofs Go.RowKit
set_option maxRecDepth 100000
theorem Zj6(t:T)(m:Mem):CX Try.prog 107 #[t.v] m [] (fun v m' _=>∃b,v=.func (.func 133) #[] #[.pointer (some ⟨b,0,none⟩)]∧m'.reads b 0 t.cs):=by
 apply Znx
 unfold Zji
 intro b m' hm hb
 exact⟨m',hm,Mem.le_refl _,b,rfl,hb⟩
theorem Zhn(t:T)(m:Mem)(c0b:Nat)(cO:m.reads c0b 0 t.cs)(mr:Rep m t):IX Try.prog 133 [] [.pointer (some ⟨c0b,0,none⟩)] m (t.nodes.map fun x=>[x.v]):=by
 apply Zj5 0 [] [] c0b 0
 unfold Zgp
 intro l b m' hm hb
 have gL:=cO.mono hm
 refine⟨_,_,_,_,_,_,_,_,gL,⟨rfl,by omega,?_⟩,?_,.inr rfl⟩
 ·rw[Zcp];rfl
 refine⟨t.sl,gL 7 _ rfl,Zaa rfl ?_⟩
 refine⟨fun xs _ _ m'' q=>∃i:Nat,i≤t.subs.length∧xs=[.int .i64 ((1+(ZaG (t.subs.take i)).length:Nat):Int),.int .i64 i]∧m'.le m''∧q=t.subs.length - i,⟨t.subs.length,0,by omega,?_,Mem.le_refl _,by omega⟩,?_⟩
 ·simp[ZaG]
 rintro y n m2 q bZ ⟨i,hi,jf,j2,hq⟩
 simp only[List.cons.injEq,Value.int.injEq,true_and,and_true]at jf
 obtain⟨rfl,rfl⟩:=jf
 have bY:slN t.sl=t.subs.length:=rfl
 rw[bY]
 refine Zab (fun bV=>?_) (fun cK=>?_)
 ·have bF:i < t.subs.length:=by simpa using bV
  obtain⟨x,hx⟩:∃x,t.subs[i]?=some x:=⟨_,List.getElem?_eq_getElem bF⟩
  have cU:x∈t.subs:=List.mem_of_getElem? hx
  have cJ:=ZqM cU
  obtain⟨vh,h0|⟨b1,o1,ha,gm⟩⟩:=Zdd mr
  ·rw[h0]at bF;simp at bF
  obtain⟨iL,gM⟩:=(gm.mono ((Mem.le_trans hm j2))).get hx
  refine Zaa rfl ⟨b1,o1,ha,⟨by omega,by omega⟩,_,_,_,_,_,_,_,_,iL,fun b2=>Zaa rfl ?_⟩
  refine⟨_,trivial,Zj6 x m2,fun v m' css h=>?_,?_⟩
  ·obtain⟨b3,rfl,_⟩:=h;rfl
  rintro g fi ca m3 cD ⟨b3,hv,fP⟩
  obtain⟨rfl,rfl,rfl⟩:=ZjW hv
  refine⟨_,Zhn x m3 b3 fP (gM.mono cD),fun y hy=>?_,?_⟩
  ·obtain⟨z,_,rfl⟩:=List.mem_map.1 hy;exact ZqN z
  refine⟨fun xs _ _ m'' q=>q≤x.nodes.length∧xs=[.int .i64 ((1+(ZaG (t.subs.take i)).length+q:Nat):Int)]∧m3.le m'',⟨Nat.zero_le _,rfl,Mem.le_refl _⟩,?_,?_⟩
  ·rintro y n0 n1 n2 n3 n4 n5 n6 a n7 c m4 q dC hq ⟨jh,hy,_⟩ b4
   simp only[List.cons.injEq,Value.int.injEq,true_and,and_true]at hy
   subst hy
   have hq':(List.map (fun z:T=>[z.v]) x.nodes)[(q:Nat)]?=some [Value.agg #[.int .u8 n0,.int .u64 n1,.int .u64 n2,.int .u64 n3,.int .u64 n4,.int .i64 n5,.int .i64 n6,.slice a n7 c]]:=hq
   rw[List.getElem?_map]at hq'
   obtain⟨z,hz,rA⟩:=Option.map_eq_some_iff.1 hq'
   have rB:q < x.nodes.length:=(List.getElem?_eq_some_iff.1 hz).1
   refine⟨⟨rfl,by omega,?_⟩,⟨rfl,by omega,?_,dC⟩,rfl,.inr rfl⟩
   ·rw[Int.toNat_natCast]
    show(t.nodes.map fun x=>[x.v])[1+(ZaG (t.subs.take i)).length+q]?=_
    rw[List.getElem?_map,Zsz hx hz,←rA];rfl
   ·congr 2
  ·rintro y m4 dC ⟨jh,hy,_⟩
   simp only[List.cons.injEq,Value.int.injEq,true_and,and_true]at hy
   subst hy
   refine⟨rfl,t.subs.length - (i+1),by omega,i+1,by omega,?_,Mem.le_trans j2 (Mem.le_trans cD dC),rfl⟩
   rw[Zau (by omega) (by omega),Znc hx,List.length_append]
   simp[T.v,Nat.add_assoc]
 ·have hi':i=t.subs.length:=by
   have:¬((i:Int) < (t.subs.length:Int)):=by simpa using cK
   omega
  subst hi'
  left
  rw[List.take_length,Zcp]
  simp
  omega
termination_by SizeOf.sizeOf t
decreasing_by exact cJ
theorem Zra(least most:Int)(m:Mem):CX Try.prog 84 #[.int .i64 least,.int .i64 most] m [] (Ret (.bool (ZfE least most))):=by
 apply ZlM
 unfold Zhk
 refine⟨decide (least < 0)||decide (least > 16)||(least == 1&&most == 1),?_,Zab (fun h=>Zad (Mem.le_refl _) ?_) (fun h=>⟨most == -1||(decide (most ≥ 1)&&decide (most≤16)&&decide (most ≥ least)),?_,Zad (Mem.le_refl _) ?_⟩)⟩
 ·simp only[ZqK];(repeat' split) <;> simp_all <;> omega
 ·simp[Ret,ZfE,h]
 ·simp only[ZqK];(repeat' split) <;> simp_all <;> omega
 ·simp[Ret,ZfE,h]
theorem ZlN(l:List T)(a:Option Addr)(c:Nat)(g:Nat)(ca:List Value)(p:T→Bool)(m:Mem)(hl:l.length≤1000000000000000)(hr:l=[]∨∃b o,a=some ⟨b,o,none⟩∧RepAt m b o l)
  (hp:∀x∈l,∀m',m.le m'→Rep m' x→CX Try.prog g (x.v::ca).toArray m' [] (Ret (.bool (p x)))):
  CX Try.prog 166 #[.slice a l.length c,.func (.func g) #[] ca.toArray] m [] (Ret (.int .i64 (if l.any p then(l.findIdx p:Nat)else(-1:Int)))):=by
 apply Zbi a l.length c g [] ca
 unfold ZaP
 refine⟨fun xs _ _ m'' q=>∃i:Nat,i≤l.length∧xs=[.int .i64 i]∧(∀x∈l.take i,p x=false)∧m.le m''∧q=l.length - i,⟨l.length,0,by omega,rfl,by simp,Mem.le_refl _,by omega⟩,?_⟩
 rintro n m' q hm ⟨i,hi,hn,ju,cQ,hq⟩
 obtain rfl:n=i:=by simpa using hn
 refine Zab (fun bV=>?_) (fun cK=>?_)
 ·have bF:i < l.length:=by simpa using bV
  obtain⟨x,hx⟩:∃x,l[i]?=some x:=⟨_,List.getElem?_eq_getElem bF⟩
  have cU:x∈l:=List.mem_of_getElem? hx
  rcases hr with h0|⟨b1,o1,ha,gm⟩
  ·rw[h0]at bF;simp at bF
  obtain⟨iL,gM⟩:=(gm.mono hm).get hx
  refine⟨b1,o1,ha,⟨by omega,by omega⟩,_,_,_,_,_,_,_,_,iL,Zah (hp x cU m' hm gM) fun m1 bD=>Zab (fun ly=>?_) (fun ly=>?_)⟩
  ·refine Zad (Mem.le_trans hm bD) ?_
   have mt:l.any p=true:=List.any_eq_true.2 ⟨x,cU,ly⟩
   have oB:l.findIdx p=i:=by
    rw[List.findIdx_eq bF]
    refine⟨by rw[(List.getElem?_eq_some_iff.1 hx).2];exact ly,fun j hj=>?_⟩
    exact ju _ (List.mem_of_getElem? (i:=j) (by rw[List.getElem?_take_of_lt hj];exact List.getElem?_eq_getElem (by omega)))
   simp[Ret,mt,oB]
  ·refine⟨l.length - (i+1),by omega,i+1,by omega,by rw[Zau (by omega) (by omega)];rfl,?_,Mem.le_trans hm bD,rfl⟩
   intro y hy
   rw[List.take_add_one,hx]at hy
   rcases List.mem_append.1 hy with hy|hy
   ·exact ju y hy
   ·simp at hy;rw[hy];exact ly
 ·have hi':i=l.length:=by
   have:¬((i:Int) < (l.length:Int)):=by simpa using cK
   omega
  subst hi'
  refine Zad hm ?_
  have mt:l.any p=false:=by
   rw[List.any_eq_false]
   rw[List.take_length]at ju
   exact fun x hx=>by simp[ju x hx]
  simp[Ret,mt]
theorem Zho(l:List T)(a:Option Addr)(c:Nat)(g:Nat)(ca:List Value)(p:T→Bool)(m:Mem)(hl:l.length≤1000000000000000)(hr:l=[]∨∃b o,a=some ⟨b,o,none⟩∧RepAt m b o l)
  (hp:∀x∈l,∀m',m.le m'→Rep m' x→CX Try.prog g (x.v::ca).toArray m' [] (Ret (.bool (p x)))):
  CX Try.prog 162 #[.slice a l.length c,.func (.func g) #[] ca.toArray] m [] (Ret (.bool (l.any p))):=by
 apply Za3 a l.length c g [] ca
 unfold ZaM
 refine Zdo (ZlN l a c g ca p m hl hr hp) fun m' hm=>Zad hm ?_
 cases h:l.any p <;> simp[Ret]
theorem ZtZ(t:T)(k:Int)(b:Nat)(m:Mem)(hb:m.reads b 0 [.int .u8 k]):CX Try.prog 163 #[t.v,.pointer (some ⟨b,0,none⟩)] m [] (Ret (.bool (t.k == k))):=by
 apply ZnA (c0b:=b) (c0o:=0)
 unfold Zjk
 intro b' m' hm _
 exact⟨_,hm _ _ _ (hb 0 _ rfl),Zaa rfl (Zad hm rfl)⟩
theorem Zrb(t:T)(k:Int)(m:Mem)(hr:Rep m t):CX Try.prog 134 #[t.v,.int .u8 k] m [] (Ret (.bool (t.has k))):=by
 apply Zq6
 unfold ZnB
 intro b m1 bD _ b2 m2 bZ ir
 have hr':=Zdd (hr.mono (Mem.le_trans bD bZ))
 exact Zah (Zho t.subs t.a t.c _ [.pointer (some ⟨b2,0,none⟩)] (fun x=>x.k == k) m2 hr'.1 hr'.2 fun x _ m' hm' _=>ZtZ x k b2 m' (ir.mono hm')) fun m3 cD=>Zad (Mem.le_trans bD (Mem.le_trans bZ cD)) rfl
theorem Zh4(t:T)(m:Mem)(hr:Rep m t):CX Try.prog 92 #[t.v] m [] (Ret (.bool t.light)):=by
 apply Zny
 unfold Zjj
 intro b m1 bD _ b2
 refine Zat (Zj6 t m1) (fun v m' css h=>by obtain⟨_,rfl,_⟩:=h;rfl) ?_
 rintro g fi ca m2 bZ ⟨b3,hv,fP⟩
 obtain⟨rfl,rfl,rfl⟩:=ZjW hv
 have cQ:=Mem.le_trans bD bZ
 refine⟨_,Zhn t m2 b3 fP (hr.mono cQ),fun y hy=>?_,fun _ css _ m' q=>css=[[.int .i64 q]]∧q≤10000∧q≤t.nodes.length,⟨rfl,by omega,by omega⟩,?_,?_⟩
 ·obtain⟨z,_,rfl⟩:=List.mem_map.1 hy;exact ZqN z
 ·rintro n0 n1 n2 n3 n4 n5 n6 a n7 c cs m3 q cD hq ⟨cF,jh,_⟩
  obtain rfl:cs=[.int .i64 q]:=by simpa using cF
  have bV:q < t.nodes.length:=by
   have:=(List.getElem?_eq_some_iff.1 (show(List.map (fun z:T=>[z.v]) t.nodes)[(q:Nat)]?=some _ from hq)).1
   simpa using this
  refine Zas rfl (Zaa rfl ?_)
  have hw:IntKind.i64.wrap (intOf (Value.int .i64 (q:Int))+1)=(q:Int)+1:=Zau (n:=(q:Int)+1) (by omega) (by omega)
  simp only[hw]
  refine Zab (fun h=>⟨by trivial,Zad (Mem.le_trans cQ cD) ?_⟩) (fun h=>⟨by trivial,?_,?_,by omega⟩)
  ·have:((q:Int)+1 > 10000):=by simpa using h
   simp[Ret,T.light];omega
  ·simp
  ·have:¬((q:Int)+1 > 10000):=by simpa using h
   omega
 ·rintro cs m3 cD ⟨cF,jh,_⟩
  obtain rfl:cs=[.int .i64 t.nodes.length]:=by simpa using cF
  refine Zas rfl (Zaa rfl (Zad (Mem.le_trans cQ cD) ?_))
  show Value.bool (decide ((t.nodes.length:Int)≤10000))=Value.bool t.light
  congr 1
  rw[T.light,decide_eq_decide];omega
end Go.Proofs.Ytplacemlpkhmfaa

