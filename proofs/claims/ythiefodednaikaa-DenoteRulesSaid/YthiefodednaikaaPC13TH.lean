/- Part of the proof: conditions and contracts of functions of this program. No condition of its own. -/
import Derived.Test.YthiefodednaikaaPC08A
import Derived.Test.YthiefodednaikaaPVRT
import Derived.Test.YthiefodednaikaaMr
import Derived.Test.YthiefodednaikaaPVRU
import Derived.Test.YthiefodednaikaaPC13G
import Derived.Test.YthiefodednaikaaMc
set_option linter.unusedVariables false
set_option linter.unusedSimpArgs false
namespace Go.Proofs.Ythiefodednaikaa
open Go Go.Eng Go.Rx Go.Proofs Go.RowKit
set_option maxRecDepth 100000
theorem Zsy(k:Int)(q:QS):List.drop (1+(ZaP q).length) (Zas k)=[.int .i64 0,.int .i64 0,.slice none 0 0]:=by rw[Zau];rfl
theorem Zv1(k:Int)(q:QS):Zaj (Zas k) 1 (ZaP q)=rcs (IntKind.i64.wrap k) q 0 0 none 0 0:=by
 unfold Zaj
 rw[Zsy];rfl
theorem Zw1(k:Int)(q:QS)(mn mx x:Int)(a:Option Addr)(n c:Nat):Zaj (rcs k q mn mx a n c) 257 [.int .i64 x]=rcs k q x mx a n c:=by
 have e:rcs k q mn mx a n c=(.int .i64 k::ZaP q)++[.int .i64 mn,.int .i64 mx,.slice a n c]:=rfl
 have hl:(Value.int .i64 k::ZaP q).length=257:=by simp[Zau]
 unfold Zaj
 rw[e,List.take_left' hl,List.drop_append,hl,List.drop_eq_nil_of_le (by rw[hl];simp)]
 simp[rcs]
theorem Zw2(k:Int)(q:QS)(mn mx x:Int)(a:Option Addr)(n c:Nat):Zaj (rcs k q mn mx a n c) 258 [.int .i64 x]=rcs k q mn x a n c:=by
 have e:rcs k q mn mx a n c=(Value.int .i64 k::ZaP q++[Value.int .i64 mn])++[Value.int .i64 mx,Value.slice a n c]:=by simp[rcs]
 have hl:(Value.int .i64 k::ZaP q++[Value.int .i64 mn]).length=258:=by simp[Zau]
 unfold Zaj
 rw[e,List.take_left' hl,List.drop_append,hl,List.drop_eq_nil_of_le (by rw[hl];simp)]
 simp[rcs]
theorem Zw3(k:Int)(q:QS)(mn mx:Int)(a:Option Addr)(n c:Nat)(a':Option Addr)(n' c':Nat):Zaj (rcs k q mn mx a n c) 259 [.slice a' n' c']=rcs k q mn mx a' n' c':=by
 have e:rcs k q mn mx a n c=(Value.int .i64 k::ZaP q++[Value.int .i64 mn,Value.int .i64 mx])++[Value.slice a n c]:=by simp[rcs]
 have hl:(Value.int .i64 k::ZaP q++[Value.int .i64 mn,Value.int .i64 mx]).length=259:=by simp[Zau]
 unfold Zaj
 rw[e,List.take_left' hl,List.drop_eq_nil_of_le (by rw[List.length_append,hl];simp)]
 simp[rcs]
theorem Zqg{l:List Value}(h:∀u∈l,u.oneCell'=true):Zcb l=true:=by
 induction l with
 | nil=>rfl
 | cons u l ih=>simp only[Zcb,h u (by simp),Bool.true_and];exact ih fun x hx=>h x (by simp[hx])
theorem Zw4(q:QS)(x y z:Value):List.take 256 (List.append (ZaP q) [x,y,z])=ZaP q:=List.take_left' (Zau q)
theorem Zw5(q:QS)(x y z:Value):List.drop 257 (List.append (ZaP q) [x,y,z])=[y,z]:=by
 show List.drop 257 (ZaP q++[x,y,z])=_
 rw[List.drop_append,Zau,List.drop_eq_nil_of_le (by rw[Zau];omega)];rfl
theorem Zw6(q:QS)(x:Value)(l:List Value):List.append (List.append (ZaP q) [x]) l=ZaP q++(x::l):=by
 show(ZaP q++[x])++l=_
 simp
theorem Zw7(q:QS)(x y z:Value):List.take 257 (ZaP q++[x,y,z])=ZaP q++[x]:=by
 rw[List.take_append,Zau,List.take_of_length_le (by rw[Zau];omega)];rfl
theorem Zw8(q:QS)(x y z:Value):List.drop 258 (ZaP q++[x,y,z])=[z]:=by
 rw[List.drop_append,Zau,List.drop_eq_nil_of_le (by rw[Zau];omega)];rfl
set_option maxHeartbeats 1600000 in
theorem ZrG:∀(t:T)(m:Mem),Rep m t→t.nodes.length≤1000000→CX Try.prog 63 #[t.v] m [] (fun v m' _=>∃cs,v=.agg cs.toArray∧RefT m' t cs):=by
 intro t
 induction hn:SizeOf.sizeOf t using Nat.strongRecOn generalizing t with
 | ind n ih=>
 intro m hr bT
 have fR:=Zld t
 obtain⟨bQ,cC⟩:=ZdC hr
 have cB:=ZsV hr
 have hq:=ZuD cB
 apply ZhI
 unfold ZeC
 intro b m1 aW _ b1
 refine⟨fun _ _ _=>Ret (.agg (ZaP t.q).toArray),_,rfl,Ztu t.q hq m1,fun v _ _ h=>by rw[h];rfl,?_⟩
 intro cs m2 aY hv
 have hv:Value.agg (Array.mk cs)=.agg (ZaP t.q).toArray:=hv
 simp only[Value.agg.injEq,Array.mk.injEq]at hv
 subst hv
 have sB:IntKind.i64.wrap t.k=t.k:=Zap (by have:=cB.k.1;omega) (by have:=cB.k.2;omega)
 generalize hd:List.drop _ (Zas t.k)=d
 obtain rfl:d=[.int .i64 0,.int .i64 0,.slice none 0 0]:=by rw[←hd];exact Zsy t.k t.q
 clear hd
 generalize he:List.append (List.append (List.take 256 (List.append (ZaP t.q) _)) _) _=e
 obtain rfl:e=ZaP t.q++[.int .i64 t.mn,.int .i64 0,.slice none 0 0]:=by
  rw[←he]
  exact(congr (congrArg (fun u w=>List.append (List.append u [Value.int .i64 t.mn]) w) (Zw4 _ _ _ _)) (Zw5 _ _ _ _)).trans (Zw6 _ _ _)
 clear he
 generalize hf:List.append (List.append (List.take 257 _) _) _=f
 obtain rfl:f=((ZaP t.q++[.int .i64 t.mn])++[.int .i64 t.mx])++[.slice none 0 0]:=by
  rw[←hf]
  exact congr (congrArg (fun u w=>List.append (List.append u [Value.int .i64 t.mx]) w) (Zw7 _ _ _ _)) (Zw8 _ _ _ _)
 clear hf
 refine Zaa (by rw[Zau];rfl) (Zaa (by simp[Zau]) (Zaa (by simp[Zau]) fun b2=>Zaa ?_ ?_))
 ·rw[Bool.and_eq_true]
  refine⟨by simp[Zau],Zqg fun u hu=>?_⟩
  simp only[List.append_assoc,List.mem_append,List.mem_cons,List.not_mem_nil,or_false]at hu
  rcases hu with hu|hu
  ·exact Zh7 _ u hu
  ·rcases hu with rfl|rfl|rfl <;> rfl
 intro M dD cW
 have sC:=Mem.le_trans aW dD
 refine⟨fun xs css tvs m' q=>∃(k:Nat)(a:Option Addr)(c:Nat) (R:List (List Value)),k≤t.subs.length∧xs=[.int .i64 k]∧css=[rcs t.k t.q t.mn t.mx a k c]∧tvs=[.slice a k c]∧m.le m'∧rowRd m' a R.flatten∧RefAt m' (t.subs.take k) R∧q=t.subs.length - k,
  ⟨_,0,none,0,[],Nat.zero_le _,rfl,?_,rfl,sC,.inl rfl,by simp only[List.take_zero,RefAt],rfl⟩,?_⟩
 ·rw[Zv1,Zw1,Zw2,sB]
 rintro z cs a n1 c m3 q _ ⟨k,a',c',R,hk,hz,cR,j3,bR,cJ,dR,lb⟩
 obtain rfl:z=k:=by simpa using hz
 obtain rfl:cs=rcs t.k t.q t.mn t.mx a' k c':=by simpa using cR
 simp only[List.cons.injEq,Value.slice.injEq,and_true]at j3
 obtain⟨rfl,rfl,rfl⟩:=j3
 subst lb
 refine Zab (fun bA=>?_) (fun cN=>?_)
 ·have aX:n1 < t.subs.length:=by have:=of_decide_eq_true bA;omega
  obtain⟨x,hx⟩:=Zbg aX
  rcases cC with hs|⟨bb,o,ha,px⟩
  ·rw[hs]at aX;simp at aX
  have hg:=px.get hx
  have eY:=Zhb (List.mem_of_getElem? hx)
  have eO:=Zeh (List.mem_of_getElem? hx)
  refine⟨bb,o,ha,⟨by omega,by omega⟩,.int .u8 x.k,.int .u64 x.s0,.int .u64 x.s1,.int .u64 x.s2,.int .u64 x.s3,.int .i64 x.mn,.int .i64 x.mx,.slice x.a x.subs.length x.c,(by rw[Int.toNat_natCast];exact fun j v hv=>bR _ _ _ (hg.1 j v hv)),fun b4=>Zaa rfl ⟨fun _ _ _=>(fun v m' _=>∃cs:List Value,v=.agg cs.toArray∧RefT m' x cs),ZaT ⟨_,rfl,ih _ (by omega) x rfl m3 (hg.2.mono bR x) (by omega),fun v _ _ ⟨_,h,_⟩=>by rw[h];rfl,?_⟩⟩⟩
  intro cs1 m4 cF hR
  obtain⟨cs2,qu,eV⟩:∃cs,Value.agg (Array.mk cs1)=.agg cs.toArray∧RefT m4 x cs:=hR
  simp only[Value.agg.injEq,Array.mk.injEq]at qu
  subst qu
  have ie:=eV.len
  refine Zaa (by rw[ie];rfl) fun b5 mG=>Zaa rfl ?_
  have gR:=Mem.le_add mG (List.append cs1 [])
  have dS:rowRd (m4.add b5 (List.append cs1 [])) (some ⟨b5,0,none⟩) cs1:=.inr ⟨b5,0,rfl,fun j u hj=>by rw[Nat.zero_add,Mem.add_same];show(cs1++[])[j]?=_;rw[List.append_nil];exact hj⟩
  have py:=Zp4 dR.all
  have qv:=dR.len
  rw[List.length_take,Nat.min_eq_left (by omega)]at qv
  refine⟨.inl rfl,R.flatten,cs1,by rw[py,qv];rfl,by rw[ie],(cJ.mono cF).mono gR,dS,eV.one,by simp only[slN];omega,by simp only[slN];omega,fun a7 c7 m7 eA j5=>Zaa (by rw[Zhe];rfl) fun M2 nk pz sD pA=>⟨by trivial,t.subs.length - (n1+1),by omega,n1+1,a7,c7,R++[cs1],by omega,?_,?_,rfl,Mem.le_trans bR nk,?_,?_,rfl⟩⟩
  ·rw[Zap (by omega) (by omega)];rfl
  ·simp only[slN]
   rw[Zw3]
  ·rw[List.flatten_append,List.flatten_singleton];exact j5.mono pA
  ·have e:t.subs.take (n1+1)=t.subs.take n1++[x]:=by rw[List.take_add_one,hx];rfl
   rw[e]
   exact(dR.mono nk).snoc (eV.mono pz)
 ·have:n1=t.subs.length:=by have:=of_decide_eq_false cN;omega
  subst this
  rw[List.take_length]at dR
  refine Zaa (by rw[Zhe,Zqg (Zsi _ _ _ _ _ _ _)];rfl) ⟨m3,bR,Mem.le_refl _,_,rfl,ZbO.2 ⟨cB,by omega,a,c,R,rfl,cJ,dR⟩⟩
theorem Zpf:∀(t:T)(cs:List Value)(m:Mem),RefT m t cs→t.nodes.length≤1000000→CX Try.prog 124 #[.agg cs.toArray] m [] (Ret (.int .i64 (t.gr:Nat))):=by
 intro t
 induction hn:SizeOf.sizeOf t using Nat.strongRecOn generalizing t with
 | ind n ih=>
 intro cs m hr bT
 obtain⟨_,bQ,a,c,css,rfl,cJ,dR⟩:=ZbO.1 hr
 have jm:=ZwU t
 have cN:=ZvQ t
 have fR:=Zld t
 have loop:∀(k:Nat)(m2:Mem),k < t.subs.length→m.le m2→∃(b o:Nat)(cs2:List Value)(x:T),t.subs[k]?=some x∧a=some ⟨b,o,none⟩∧cs2.length=260∧m2.reads b (o+k*260) cs2∧CX Try.prog 124 #[.agg cs2.toArray] m2 [] (Ret (.int .i64 (x.gr:Nat))):=by
  intro k m2 hk aY
  obtain⟨x,hx⟩:=Zbg hk
  obtain⟨bb,o,cs2,ha,cH,eV⟩:=Zhf cJ dR hx
  have eO:=Zeh (List.mem_of_getElem? hx)
  have eY:=Zhb (List.mem_of_getElem? hx)
  exact⟨bb,o,cs2,x,hx,ha,eV.len,cH.mono aY,ih _ (by omega) x rfl cs2 m2 (eV.mono aY) (by omega)⟩
 have gl:∀k,grL (t.subs.take k)≤1000000:=fun k=>by
  have h1:=ZvR (t.subs.take k)
  have h2:=ZnN (l:=t.subs) k
  have h3:t.nodes.length=1+(Zay t.subs).length:=by rw[Zbf,List.length_cons];omega
  omega
 apply ZhK
 unfold ZeE
 refine ZhN fun b m1 aW _=>ZaS (Zaa rfl (Zab (fun h6=>?_) (fun h6=>?_)))
 ·have h6':t.k=6:=by simpa[intOf]using h6
  rw[if_pos h6']at cN
  refine⟨fun xs _ _ m' q=>∃k:Nat,k≤t.subs.length∧xs=[.int .i64 ((1+grL (t.subs.take k):Nat):Int),.int .i64 k]∧m.le m'∧q=t.subs.length - k,⟨_,0,Nat.zero_le _,rfl,aW,rfl⟩,?_⟩
  rintro s z m2 q _ ⟨k,hk,hx,aY,hq⟩
  simp only[List.cons.injEq,Value.int.injEq,true_and,and_true]at hx
  obtain⟨rfl,rfl⟩:=hx
  subst hq
  refine ZaT (Zaa rfl (Zab (fun bA=>?_) (fun iA=>?_)))
  ·have aX:k < t.subs.length:=by have:=of_decide_eq_true bA;simp only[slN]at this;omega
   obtain⟨bb,o,cs2,x,hx,ha,fU,cH,eM⟩:=loop k m2 aX aY
   have h1:=gl k
   have h2:=gl (k+1)
   rw[Zke hx]at h2
   refine ZaT (Zaa rfl ⟨bb,o,ha,⟨by omega,by simp only[slN];omega⟩,cs2,fU,(by rw[Int.toNat_natCast];exact cH),Zat eM fun m3 bR=>⟨by trivial,_,by omega,k+1,aX,?_,Mem.le_trans aY bR,rfl⟩⟩)
   rw[Zke hx,Zap (by omega) (by omega),Zap (by omega) (by omega)]
   simp only[List.cons.injEq,Value.int.injEq,true_and,and_true]
   omega
  ·have:k=t.subs.length:=by have:=of_decide_eq_false iA;simp only[slN]at this;omega
   subst this
   refine Zac aY ?_
   rw[List.take_length,←cN]
 ·have h6':¬t.k=6:=by simpa[intOf]using h6
  rw[if_neg h6',Nat.zero_add]at cN
  refine⟨fun xs _ _ m' q=>∃k:Nat,k≤t.subs.length∧xs=[.int .i64 ((grL (t.subs.take k):Nat):Int),.int .i64 k]∧m.le m'∧q=t.subs.length - k,⟨_,0,Nat.zero_le _,rfl,aW,rfl⟩,?_⟩
  rintro s z m2 q _ ⟨k,hk,hx,aY,hq⟩
  simp only[List.cons.injEq,Value.int.injEq,true_and,and_true]at hx
  obtain⟨rfl,rfl⟩:=hx
  subst hq
  refine ZaT (Zaa rfl (Zab (fun bA=>?_) (fun iA=>?_)))
  ·have aX:k < t.subs.length:=by have:=of_decide_eq_true bA;simp only[slN]at this;omega
   obtain⟨bb,o,cs2,x,hx,ha,fU,cH,eM⟩:=loop k m2 aX aY
   have h1:=gl k
   have h2:=gl (k+1)
   rw[Zke hx]at h2
   refine ZaT (Zaa rfl ⟨bb,o,ha,⟨by omega,by simp only[slN];omega⟩,cs2,fU,(by rw[Int.toNat_natCast];exact cH),Zat eM fun m3 bR=>⟨by trivial,_,by omega,k+1,aX,?_,Mem.le_trans aY bR,rfl⟩⟩)
   rw[Zke hx,Zap (by omega) (by omega),Zap (by omega) (by omega)]
   simp only[List.cons.injEq,Value.int.injEq,true_and,and_true]
   omega
  ·have:k=t.subs.length:=by have:=of_decide_eq_false iA;simp only[slN]at this;omega
   subst this
   refine Zac aY ?_
   rw[List.take_length,←cN]
theorem Zpg(t:T)(cs:List Value)(m:Mem)(hr:RefT m t cs):CX Try.prog 110 #[.agg cs.toArray] m [] (Ret (.int .i64 t.groups)):=by
 have hl:=hr.len
 apply ZhL
 unfold ZeF
 refine Zaa (by rw[hl];rfl) fun b m1 aW _=>?_
 refine Zak (ZkH t cs m1 (hr.mono aW)) fun m2 aY=>Zab (fun h=>Zac (Mem.le_trans aW aY) ?_) (fun h=>?_)
 ·have:t.light=false:=by simpa using h
  unfold T.groups
  rw[this];rfl
 ·have h1:t.light=true:=by simpa using h
  have h2:t.nodes.length≤10000:=by unfold T.light at h1;simpa using h1
  refine Zat (Zpf t cs m2 ((hr.mono aW).mono aY) (by omega)) fun m3 bR=>Zac (Mem.le_trans aW (Mem.le_trans aY bR)) ?_
  unfold T.groups
  rw[h1];rfl
theorem Zph(mn mx:Int)(m:Mem):CX Try.prog 127 #[.int .i64 mn,.int .i64 mx] m [] (Ret (.bool (Zdh mn mx))):=by
 apply ZhJ
 unfold ZeD
 rw[←ZwT]
 have n1:∀{p:Prop} [Decidable p],decide p=false→¬p:=fun h=>of_decide_eq_false h
 refine⟨!decide (0≤mn∧mn≤16),Zab (fun h=>?_) (fun h=>?_),Zab (fun h=>Zac (Mem.le_refl _) ?_) (fun h=>?_)⟩
 ·have:=of_decide_eq_true h
  rw[decide_eq_false (p:=0≤mn∧mn≤16) (by omega)];rfl
 ·have:=n1 h
  have e:decide (mn > 16)=!decide (0≤mn∧mn≤16):=by rw[Bool.eq_iff_iff];simp;omega
  rw[e]
 ·have:decide (0≤mn∧mn≤16)=false:=by rw[←Bool.not_not (decide _),h];rfl
  rw[this];rfl
 ·have:decide (0≤mn∧mn≤16)=true:=by rw[←Bool.not_not (decide _),h];rfl
  rw[this]
  refine Zab (fun h2=>Zac (Mem.le_refl _) (by rw[h2];rfl)) (fun h2=>⟨decide (0 < mx)&&(decide (mx < 17)&&(decide (mn≤mx)&&!(mn == 1&&mx == 1))),?_,Zac (Mem.le_refl _) (by rw[h2];rfl)⟩)
  refine Zab (fun a=>Zab (fun b=>Zab (fun c=>Zab (fun d=>?_) (fun d=>?_)) (fun c=>?_)) (fun b=>?_)) (fun a=>?_)
  all_goals simp_all
  all_goals omega
end Go.Proofs.Ythiefodednaikaa
set_option linter.unusedVariables false
set_option linter.unusedSimpArgs false
namespace Go.Proofs.Ythiefodednaikaa
open Go Go.Eng Go.Rx Go.Proofs Go.RowKit
set_option maxRecDepth 100000
theorem ZmF:List.replicate 256 (Value.int .i64 0)=ZaP (0,0,0,0):=by
 refine(List.eq_replicate_iff.2 ⟨Zau _,fun u hu=>?_⟩).symm
 unfold ZaP at hu
 obtain⟨c,_,rfl⟩:=List.mem_map.1 hu
 have:ZtW (0,0,0,0) c=false:=by rw[ZnK];unfold Zhd;split <;> simp
 unfold Zsh
 rw[this];rfl
theorem Zv2(t:T):decide (t.q=(0,0,0,0))=t.setZ:=by
 unfold T.q T.setZ
 rw[Bool.eq_iff_iff]
 simp[Prod.ext_iff,and_assoc]
theorem Zu3{t:T}(hq:QOk t.q)(mn mx:Int)(a:Option Addr)(n c:Nat):EqIs Try.prog 106 (.agg (List.take 256 (List.drop 1 (rcs t.k t.q mn mx a n c))).toArray) (.agg (List.replicate 256 (Value.int .i64 0)).toArray) t.setZ:=by
 rw[Zp3,ZmF,←Zv2]
 exact Zxw hq (by unfold QOk;exact⟨⟨by decide,by decide⟩,⟨by decide,by decide⟩,⟨by decide,by decide⟩,⟨by decide,by decide⟩⟩)
theorem Ztw{m:Mem}{b o:Nat}{cs:List Value}(h:m.reads b o cs){v:Value}(hv:cs[0]?=some v):m b (o+0)=some v:=h 0 v hv
theorem ZaG{p:Prop} [Decidable p]{A B:Prop}(ht:p→A)(hf:¬p→B):br (decide p) A B:=Zab (fun h=>ht (of_decide_eq_true h)) (fun h=>hf (of_decide_eq_false h))
set_option maxHeartbeats 4000000 in
theorem ZrH:∀(t:T)(cs:List Value)(m:Mem),RefT m t cs→CX Try.prog 121 #[.agg cs.toArray] m [] (Ret (.bool t.good)):=by
 intro t
 induction hn:SizeOf.sizeOf t using Nat.strongRecOn generalizing t with
 | ind n ih=>
 intro cs m hr
 obtain⟨cB,bQ,a,c,css,rfl,cJ,dR⟩:=ZbO.1 hr
 have j7:=Zp7 t
 apply ZiR
 unfold Zft
 refine ZhN fun b m1 aW _ b1=>ZaS (Zaa rfl (Zab (fun h1=>Zac aW ?_) (fun h1=>ZaS (Zaa rfl (Zab (fun h2=>Zac aW ?_) (fun h2=>ZaS (Zaa rfl (Zaa (by rw[Zhe];rfl) ⟨t.setZ,Zu3 (ZuD cB) _ _ _ _ _,Zab (fun h3=>Zac aW ?_) (fun h3=>⟨!(if t.k=5 then Zdh t.mn t.mx else t.mn == 0&&t.mx == 0),?_,Zab (fun h4=>Zac aW ?_) (fun h4=>ZaT (Zaa rfl ⟨!(if t.k < 3 then t.subs.length == 0 else if t.k < 5 then decide (2≤t.subs.length)else t.subs.length == 1),?_,Zab (fun h5=>Zac aW ?_) (fun h5=>?_)⟩))⟩)⟩))))))))
 ·have:t.k < 1:=of_decide_eq_true h1
  rw[j7,Zsj,decide_eq_false (p:=1≤t.k) (by omega)];simp
 ·have:t.k > 6:=of_decide_eq_true h2
  rw[j7,Zsj,decide_eq_false (p:=t.k≤6) (by omega)];simp
 ·have h3':(!(t.k == 2) == !t.setZ)=true:=h3
  have:((t.k == 2) == !t.setZ)=false:=by
   revert h3'
   cases t.k == 2 <;> cases t.setZ <;> decide
  rw[j7,Zsj,this];simp
 ·refine ZaS (Zaa rfl (Zab (fun h=>ZeH (ZhM ?_)) (fun h=>?_)))
  ·have h':t.k=5:=eq_of_beq h
   rw[if_pos h']
   refine Zak (Zph t.mn t.mx m1) fun m2 aY=>Zab (fun hb=>⟨by trivial,by rw[hb]⟩) (fun hb=>ZaS (Zaa rfl (Zab (fun hk=>?_) (fun hk=>⟨by trivial,?_⟩))))
   ·exact absurd h' (by simpa[intOf]using hk)
   ·have:Zdh t.mn t.mx=true:=by rw[←Bool.not_not (Zdh _ _),hb];rfl
    rw[this];rfl
  ·have h':¬t.k=5:=fun e=>by rw[show(intOf (.int .i64 t.k) == 5)=(t.k == 5) from rfl,e]at h;cases h
   rw[if_neg h']
   refine ZaS (Zaa rfl (Zab (fun hk=>ZeH (Zaa rfl (Zab (fun hm=>⟨by trivial,?_⟩) (fun hm=>ZhM (Zaa rfl ⟨by trivial,?_⟩))))) (fun hk=>?_)))
   ·have:(!t.mn == 0)=true:=hm
    cases hx:t.mn == 0 <;> simp_all
   ·have:(!t.mn == 0)=false:=hm
    show[Value.bool (!t.mx == 0)]=_
    cases hx:t.mn == 0 <;> simp_all
   ·have:(!t.k == 5)=false:=hk
    simp at this;exact absurd this h'
 ·rw[j7,Zsj]
  have:(if t.k=5 then Zdh t.mn t.mx else t.mn == 0&&t.mx == 0)=false:=by rw[←Bool.not_not (ite _ _ _),h4];rfl
  rw[ZwT,this];simp
 ·obtain⟨K,hK⟩:∃K,K=t.k:=⟨_,rfl⟩
  obtain⟨N,hN⟩:∃N,N=t.subs.length:=⟨_,rfl⟩
  rw[←hK,←hN]
  refine ZaS (Zaa rfl (ZaG (fun g1=>ZaG (fun g2=>?_) (fun g2=>?_)) (fun g1=>?_)))
  ·(refine⟨by trivial,?_⟩;simp only[intOf,slN,decide_eq_true_eq,decide_eq_false_iff_not,gt_iff_lt,Int.not_lt]at *;(repeat' split) <;> first|omega|(simp;done)|(simp;omega)|(simp only[List.cons.injEq,Value.bool.injEq,and_true];rw[Bool.eq_iff_iff];simp;omega))
  all_goals refine ZaS (Zaa rfl (ZaG (fun g3=>ZaS (Zaa rfl (ZaG (fun g4=>ZaG (fun g5=>?_) (fun g5=>ZaS (Zaa rfl (ZaG (fun g6=>?_) (fun g6=>?_))))) (fun g4=>ZaS (Zaa rfl (ZaG (fun g6=>?_) (fun g6=>?_))))))) (fun g3=>ZaS (Zaa rfl (ZaG (fun g6=>?_) (fun g6=>?_))))))
  all_goals (refine⟨by trivial,?_⟩;simp only[intOf,slN,decide_eq_true_eq,decide_eq_false_iff_not,gt_iff_lt,Int.not_lt]at *;(repeat' split) <;> first|omega|(simp;done)|(simp;omega)|(simp only[List.cons.injEq,Value.bool.injEq,and_true];rw[Bool.eq_iff_iff];simp;omega))
 ·rw[j7,Zsj]
  have:(if t.k < 3 then t.subs.length == 0 else if t.k < 5 then decide (2≤t.subs.length)else t.subs.length == 1)=false:=by rw[←Bool.not_not (ite _ _ _),h5];rfl
  rw[this];simp
 ·have hN:Zsj t=true:=by
   have e1:decide (1≤t.k)=true:=by have:=of_decide_eq_false h1;exact decide_eq_true (by simp only[intOf]at this;omega)
   have e2:decide (t.k≤6)=true:=by have:=of_decide_eq_false h2;exact decide_eq_true (by simp only[intOf]at this;omega)
   have e3:((t.k == 2) == !t.setZ)=true:=by
    have h3':(!(t.k == 2) == !t.setZ)=false:=h3
    revert h3'
    cases t.k == 2 <;> cases t.setZ <;> decide
   have e4:(if t.k=5 then Zdh t.mn t.mx else t.mn == 0&&t.mx == 0)=true:=by rw[←Bool.not_not (ite _ _ _),h4];rfl
   have e5:(if t.k < 3 then t.subs.length == 0 else if t.k < 5 then decide (2≤t.subs.length)else t.subs.length == 1)=true:=by rw[←Bool.not_not (ite _ _ _),h5];rfl
   rw[Zsj,ZwT,e1,e2,e3,e4,e5];rfl
  rw[hN,Bool.true_and]at j7
  refine⟨fun xs _ _ m' q=>∃k:Nat,k≤t.subs.length∧xs=[.int .i64 k]∧m.le m'∧((t.subs.take k).all fun x=>Zkd t.k x&&x.good)=true∧q=t.subs.length - k,⟨_,0,Nat.zero_le _,rfl,aW,rfl,rfl⟩,?_⟩
  rintro z m2 q _ ⟨k,hk,hx,aY,bM,hq⟩
  obtain rfl:z=k:=by simpa using hx
  subst hq
  refine Zab (fun bA=>?_) (fun cN=>?_)
  ·have aX:k < t.subs.length:=by have:=of_decide_eq_true bA;simp only[slN]at this;omega
   obtain⟨x,hx⟩:=Zbg aX
   obtain⟨bb,o,cs2,ha,cH,eV⟩:=Zhf cJ dR hx
   have eO:=Zeh (List.mem_of_getElem? hx)
   have mH:m2.reads bb (o+k*260) cs2:=cH.mono aY
   obtain⟨_,_,a2,c2,css2,sE,_,_⟩:=ZbO.1 eV
   have h0:cs2[0]?=some (.int .i64 x.k):=by rw[sE];exact Zmx _ _ _ _ _ _ _
   have eW:Zaf k (slN (.slice a t.subs.length c)):=⟨by omega,by simp only[slN];omega⟩
   have bX:∀{K:Prop},K→K:=fun h=>h
   have go:∀(P:Prop),(∀(m':Mem),m2.le m'→P)→True:=fun _ _=>trivial
   refine ZaT (Zaa rfl ⟨bb,o,ha,eW,.int .i64 x.k,Ztw (by rw[Int.toNat_natCast];exact mH) h0,!(Zkd t.k x&&x.good),?_,Zab (fun hb=>Zac aY ?_) (fun hb=>⟨by trivial,_,by omega,k+1,aX,by rw[Zap (by omega) (by omega)];rfl,aY,?_,rfl⟩)⟩)
   ·repeat' (first|refine ZaS (Zaa rfl (Zab (fun _=>?_) (fun _=>?_)))|refine Zaa rfl (Zab (fun _=>?_) (fun _=>?_))|(refine And.intro rfl ?_;simp_all [intOf,Zkd];done))
    all_goals refine ZaT (Zaa rfl ⟨bb,o,ha,eW,cs2,eV.len,(by rw[Int.toNat_natCast];exact mH),Zak (ih _ (by omega) x rfl cs2 m2 (eV.mono aY)) fun m3 bR=>?_⟩)
    all_goals (refine And.intro rfl ?_;simp_all [intOf,Zkd];done)
   ·have hb':(Zkd t.k x&&x.good)=false:=by rw[←Bool.not_not (Zkd _ _&&_),hb];rfl
    rw[j7]
    have:(t.subs.all fun x=>Zkd t.k x&&x.good)=false:=by
     rw[Bool.eq_false_iff]
     intro hh
     rw[List.all_eq_true.1 hh x (List.mem_of_getElem? hx)]at hb';cases hb'
    rw[this]
   ·have hb':(Zkd t.k x&&x.good)=true:=by rw[←Bool.not_not (Zkd _ _&&_),hb];rfl
    rw[List.take_add_one,hx,Option.toList_some,List.all_append,bM]
    simpa using hb'
  ·have:k=t.subs.length:=by have:=of_decide_eq_false cN;simp only[slN]at this;omega
   subst this
   rw[List.take_length]at bM
   exact Zac aY (by rw[j7,bM])
end Go.Proofs.Ythiefodednaikaa
set_option linter.unusedVariables false
set_option linter.unusedSimpArgs false
namespace Go.Proofs.Ythiefodednaikaa
open Go Go.Eng Go.Rx Go.Proofs Go.RowKit
set_option maxRecDepth 100000
theorem Ze0{x y:Int}{A B:Prop}(ht:x=y→A)(hf:¬x=y→B):br (x == y) A B:=Zab (fun h=>ht (eq_of_beq h)) (fun h=>hf fun e=>by rw[e]at h;simp at h)
theorem ZrI{t:T}{m m1:Mem}{n V:Int}(cI:m.le m1)(h5:t.k=5)(hn:t.pos=Zr6 t.k t.mn t.mx n)(hb:0≤n∧n≤100020001)(hV:ZtO t.mn t.mx=V):br (decide (IntKind.i64.wrap (n*V) > 10001)) (∃m'',m.le m''∧m''.le m1∧Ret (.int .i64 t.pos) (.int .i64 10001) m'' []) (∃m'',m.le m''∧m''.le m1∧Ret (.int .i64 t.pos) (.int .i64 (IntKind.i64.wrap (n*V))) m'' []):=by
 have hF:=ZpP t.mn t.mx
 rw[hV]at hF
 have pi:0≤n*V∧n*V≤100020001*10001:=⟨Int.mul_nonneg hb.1 hF.1,Int.mul_le_mul hb.2 hF.2 hF.1 (by omega)⟩
 have hp:t.pos=ZlV (n*V) 10001:=by rw[hn,Zr6,if_pos h5,←hV];rfl
 rw[Zap (by omega) (by omega)]
 refine ZaG (fun h=>Zac cI ?_) (fun h=>Zac cI ?_)
 ·rw[hp,ZlV,if_pos (by omega)]
 ·rw[hp,ZlV,if_neg (by omega)]
set_option maxHeartbeats 1000000 in
theorem ZkI:∀(t:T)(cs:List Value)(m:Mem),RefT m t cs→t.nodes.length≤10000→CX Try.prog 123 #[.agg cs.toArray] m [] (Ret (.int .i64 t.pos)):=by
 intro t
 induction hn:SizeOf.sizeOf t using Nat.strongRecOn generalizing t with
 | ind n ih=>
 intro cs m hr hl
 obtain⟨cB,bQ,a,c,css,rfl,cJ,dR⟩:=ZbO.1 hr
 have fR:=Zld t
 have eT:=Zq2 t
 apply ZeY
 unfold ZcK
 refine ZhN fun b m1 aW _=>ZaS (Zaa rfl (Ze0 (fun hk=>?_) (fun hk=>?_)))
 all_goals
  have hk':(if t.k=2 then(1:Int)else 0)=1∧t.k=2∨(if t.k=2 then(1:Int)else 0)=0∧t.k≠2:=by split <;> simp_all
  refine⟨fun xs _ _ m'' q=>∃i:Nat,i≤t.subs.length∧xs=[.int .i64 ((if t.k=2 then 1 else 0)+ZeI (t.subs.take i)),.int .i64 i]∧m.le m''∧q=t.subs.length - i,⟨t.subs.length,0,by omega,by simp_all [ZeI,intOf],aW,by omega⟩,?_⟩
  rintro n n1 m2 q sF ⟨i,hi,eY,aY,hq⟩
  have eZ:=Zjl (t.subs.take i)
  have dT:=ZpQ (t.subs.take i)
  have fB:(t.subs.take i).length≤i:=List.length_take_le _ _
  clear hk' hk
  generalize hc:(if t.k=2 then(1:Int)else 0)=c0 at *
  have rV:0≤c0∧c0≤1:=by rw[←hc];split <;> omega
  simp only[List.cons.injEq,Value.int.injEq,true_and,and_true]at eY
  obtain⟨rfl,rfl⟩:=eY
  subst hq
  refine ZaT (Zaa rfl (ZaG (fun bA=>?_) (fun cN=>?_)))
  ·have aX:i < t.subs.length:=by simp only[slN]at bA;omega
   obtain⟨x,hx⟩:=Zbg aX
   have bZ:x∈t.subs:=List.mem_of_getElem? hx
   have bT:=Zeh bZ
   have rW:=Zhb bZ
   obtain⟨bb,o,cs2,ha,cH,eV⟩:=Zhf cJ dR hx
   have pR:=ZlW x
   refine ZaT (Zaa rfl ⟨bb,o,ha,⟨by omega,by simp only[slN];omega⟩,cs2,eV.len,(by rw[Int.toNat_natCast];exact cH.mono aY),?_⟩)
   refine Zat (ih _ (by omega) x rfl cs2 m2 (eV.mono aY) (by omega)) fun m3 bR=>⟨rfl,t.subs.length - (i+1),by omega,i+1,by omega,?_,Mem.le_trans aY bR,rfl⟩
   rw[Zap (by omega) (by omega),Zap (by omega) (by omega),Znv hx,Int.add_assoc]
   rfl
  ·have hi':i=t.subs.length:=by simp only[slN]at cN;omega
   subst hi'
   rw[List.take_length]at eZ dT ⊢
   clear fB dR cJ hr ih
   refine ZaS (Zaa rfl (Ze0 (fun h5=>?_) (fun h5=>?_)))
   ·have h5':t.k=5:=h5
    have hp:t.pos=Zr6 t.k t.mn t.mx (c0+ZeI t.subs):=eT
    have hb:0≤c0+ZeI t.subs∧c0+ZeI t.subs≤100020001:=by omega
    have eN:=cB.mn
    clear eT h5 cB
    have cap:∀{v:Int} {m':Mem},m.le m'→ZtO t.mn t.mx=ZlV (Zmm v 0) 10001→chk (Zal .i64 (.int .i64 v)&&decide (IntKind.i64=IntKind.i64)) (br (decide (intOf (.int .i64 v) < 0)) (br (decide (IntKind.i64.wrap ((c0+ZeI t.subs)*0) > 10001)) (∃m'',m.le m''∧m''.le m'∧Ret (.int .i64 t.pos) (.int .i64 10001) m'' []) (∃m'',m.le m''∧m''.le m'∧Ret (.int .i64 t.pos) (.int .i64 (IntKind.i64.wrap ((c0+ZeI t.subs)*0))) m'' [])) (chk (Zal .i64 (.int .i64 v)&&decide (IntKind.i64=IntKind.i64)) (br (decide (intOf (.int .i64 v) > 10001)) (br (decide (IntKind.i64.wrap ((c0+ZeI t.subs)*10001) > 10001)) (∃m'',m.le m''∧m''.le m'∧Ret (.int .i64 t.pos) (.int .i64 10001) m'' []) (∃m'',m.le m''∧m''.le m'∧Ret (.int .i64 t.pos) (.int .i64 (IntKind.i64.wrap ((c0+ZeI t.subs)*10001))) m'' [])) (chk (Zal .i64 (.int .i64 v)) (br (decide (IntKind.i64.wrap ((c0+ZeI t.subs)*intOf (.int .i64 v)) > 10001)) (∃m'',m.le m''∧m''.le m'∧Ret (.int .i64 t.pos) (.int .i64 10001) m'' []) (∃m'',m.le m''∧m''.le m'∧Ret (.int .i64 t.pos) (.int .i64 (IntKind.i64.wrap ((c0+ZeI t.subs)*intOf (.int .i64 v)))) m'' [])))))):=by
     intro v m' hm' hv
     refine Zaa rfl (ZaG (fun a3=>ZrI hm' h5' hp hb ?_) (fun a3=>Zaa rfl (ZaG (fun a4=>ZrI hm' h5' hp hb ?_) (fun a4=>Zaa rfl (ZrI hm' h5' hp hb ?_)))))
     all_goals
      rw[hv]
      simp only[intOf]at *
      unfold ZlV Zmm
      (repeat' split) <;> omega
    refine ZhM (ZhM (Zaa rfl (Ze0 (fun a1=>ZeH (Zaa rfl (ZaG (fun a2=>ZeH (cap aY ?_)) (fun a2=>ZrI aY h5' hp hb ?_)))) (fun a1=>ZeH (Zaa rfl (ZaG (fun a2=>ZeH (cap aY ?_)) (fun a2=>cap aY ?_)))))))
    all_goals
     simp only[intOf]at *
     unfold ZtO ZlV Zmm
     (repeat' split) <;> omega
   ·have e1:¬t.k=5:=h5
    have hp:t.pos=ZlV (c0+ZeI t.subs) 10001:=by rw[eT,Zr6,if_neg e1]
    refine ZaG (fun h=>Zac aY ?_) (fun h=>Zac aY ?_)
    ·rw[hp,ZlV,if_pos (by omega)]
    ·rw[hp,ZlV,if_neg (by omega)]
theorem ZkJ(t:T)(cs:List Value)(m:Mem)(hr:RefT m t cs):CX Try.prog 109 #[.agg cs.toArray] m [] (Ret (.int .i64 t.positions)):=by
 have hl:=hr.len
 apply ZeZ
 unfold ZcL
 refine Zaa (by rw[hl];rfl) fun b m1 aW _=>?_
 refine Zak (ZkH t cs m1 (hr.mono aW)) fun m2 aY=>Zab (fun h=>Zac (Mem.le_trans aW aY) ?_) (fun h=>?_)
 ·have:t.light=false:=by rw[←Bool.not_not t.light,h];rfl
  unfold T.positions
  rw[this];rfl
 ·have h1:t.light=true:=by rw[←Bool.not_not t.light,h];rfl
  have h2:t.nodes.length≤10000:=by unfold T.light at h1;simpa using h1
  refine Zat (ZkI t cs m2 ((hr.mono aW).mono aY) (by omega)) fun m3 bR=>Zac (Mem.le_trans aW (Mem.le_trans aY bR)) ?_
  unfold T.positions
  rw[h1];rfl
theorem ZrJ(t:T)(cs:List Value)(m:Mem)(hr:RefT m t cs):CX Try.prog 107 #[.agg cs.toArray] m [] (Ret (.bool t.clean)):=by
 have hl:=hr.len
 apply ZiS
 unfold Zfu
 refine Zaa (by rw[hl];rfl) fun b m1 aW _=>⟨t.clean,?_,Zac aW rfl⟩
 refine Zak (ZkH t cs m1 (hr.mono aW)) fun m2 aY=>Zab (fun h=>?_) (fun h=>⟨by trivial,by unfold T.clean;rw[h];rfl⟩)
 exact Zak (ZrH t cs m2 ((hr.mono aW).mono aY)) fun m3 bR=>⟨by trivial,by unfold T.clean;rw[h];rfl⟩
theorem ZkK(t:T)(cs:List Value)(m:Mem)(hr:RefT m t cs):CX Try.prog 85 #[.agg cs.toArray] m [] (Ret (.int .i64 t.check)):=by
 have hl:=hr.len
 apply ZiV
 unfold Zfv
 refine Zaa (by rw[hl];rfl) fun b m1 aW _=>?_
 have dU:=hr.mono aW
 refine Zak (ZrJ t cs m1 dU) fun m2 aY=>Zab (fun h=>Zac (Mem.le_trans aW aY) ?_) (fun h=>?_)
 ·have:t.clean=false:=by rw[←Bool.not_not t.clean,h];rfl
  rw[T.check,if_pos this]
 have h1:¬t.clean=false:=by intro e;rw[e]at h;cases h
 have fA:=dU.mono aY
 have hZ:=Mem.le_trans aW aY
 refine Zat (Ztv t cs m2 fA) fun m3 bR=>ZaG (fun h=>Zac (Mem.le_trans hZ bR) ?_) (fun h2=>?_)
 ·rw[T.check,if_neg h1,if_pos h]
 have ia:=Mem.le_trans hZ bR
 refine Zat (ZkJ t cs m3 (fA.mono bR)) fun m4 cF=>ZaG (fun h=>Zac (Mem.le_trans ia cF) ?_) (fun h3=>?_)
 ·rw[T.check,if_neg h1,if_neg h2,if_pos h]
 have ib:=Mem.le_trans ia cF
 refine Zat (Zpg t cs m4 ((fA.mono bR).mono cF)) fun m5 cO=>ZaG (fun h=>Zac (Mem.le_trans ib cO) ?_) (fun h4=>Zac (Mem.le_trans ib cO) ?_)
 ·rw[T.check,if_neg h1,if_neg h2,if_neg h3,if_pos h]
 ·rw[T.check,if_neg h1,if_neg h2,if_neg h3,if_neg h4]
end Go.Proofs.Ythiefodednaikaa
set_option linter.unusedVariables false
set_option linter.unusedSimpArgs false
namespace Go.Proofs.Ythiefodednaikaa
open Go Go.Eng Go.Rx Go.Proofs Go.RowKit
set_option maxRecDepth 100000
def Zqh(m:Mem)(g:Nat→Nat→Bool)(n:Nat):RT:=fun u m' _=>∃a c bs,u=.slice a n c∧Tab m' g n n a bs∧TabNew m n a bs
theorem ZbP{P:Program}{g:Nat}{args:Array Value}{m M0:Mem}{G:Nat→Nat→Bool}{n:Nat}{K:Option Addr→Nat→Nat→Mem→Prop}(h:CX P g args m [] (Zqh M0 G n))(k:∀a c bs m',m.le m'→Tab m' G n n a bs→TabNew M0 n a bs→K a n c m'):
  ∃R:Value→Mem→List (List Value)→Prop,True∧CX P g args m [] R∧(∀(v:Value)(m':Mem) (css:List (List Value)),R v m' css→Shape.fits .slice v=true)∧∀(a:Option Addr)(n c:Nat)(m':Mem),m.le m'→R (.slice a n c) m' []→K a n c m':=
 ⟨_,trivial,h,fun v _ _ ⟨_,_,_,e,_⟩=>by rw[e];rfl,fun a n' c m' hm ⟨a0,c0,bs,e,h1,h2⟩=>by
  simp only[Value.slice.injEq]at e
  obtain⟨rfl,rfl,rfl⟩:=e
  exact k _ _ _ _ hm h1 h2⟩
theorem ZrK{m:Mem}{b o:Nat}{v:Value}(h:m b o=some v):∃vs:List Value,vs.length=1∧m.reads b o vs:=⟨[v],rfl,fun j u hu=>by
 have:j=0:=by have:=(List.getElem?_eq_some_iff.1 hu).1;simp at this;omega
 subst this
 cases hu;exact h⟩
theorem ZiX(v:Bool):(intOf (bV v) == 1)=v:=by cases v <;> rfl
theorem Zic(n:Nat)(v:Bool)(m:Mem)(hn:n≤1000000):CX Try.prog 111 #[.int .i64 n,.int .i64 (if v then 1 else 0)] m [] (Zqh m (fun i j=>v&&decide (i=j)) n):=by
 apply ZiI
 unfold Zfn
 refine⟨fun xs _ tvs m' q=>∃(k:Nat)(a:Option Addr)(c:Nat)(bs:Nat→Nat),k≤n∧xs=[.slice a k c,.int .i64 k]∧tvs=[.slice a k c]∧m.le m'∧Tab m' (fun i j=>v&&decide (i=j)) n k a bs∧TabNew m k a bs∧(k=0→a=none)∧(∀b o,a=some ⟨b,o,none⟩→o=0)∧q=n - k,
  ⟨_,0,none,0,fun _=>0,Nat.zero_le _,rfl,rfl,Mem.le_refl _,Tab.zero _,⟨fun i hi=>by omega,fun b o e=>by cases e⟩,fun _=>rfl,(fun b o e=>by cases e),rfl⟩,?_⟩
 rintro a n1 c z a1 n2 c1 m2 q _ ⟨k,a',c',bs,hk,hz,ht,aY,dW,cT,h0,ho,hq⟩
 simp only[List.cons.injEq,Value.slice.injEq,Value.int.injEq,true_and,and_true]at hz ht
 obtain⟨⟨rfl,rfl,rfl⟩,rfl⟩:=hz
 obtain⟨rfl,rfl,rfl⟩:=ht
 subst hq
 refine ZaG (fun bA=>?_) (fun cN=>?_)
 ·have aX:n2 < n:=by omega
  rw[Int.toNat_natCast,Int.toNat_natCast]
  refine⟨⟨by omega,by omega,by omega,by omega⟩,fun b hb=>⟨b,0,rfl,⟨by omega,by omega⟩,?_,ZgE aY hb,by trivial,fun b2 dT=>⟨.inl (by trivial),?_⟩⟩⟩
  ·refine ZrK (v:=bV false) ?_
   rw[Zlt,Mem.add_same,Nat.mul_one,Nat.zero_add,Zgo _ aX]
  ·have dU:(m2.add b (List.flatten (List.replicate n [Value.int .i64 0]))).reads b 0 (Zsm (fun _=>false) n):=fun j u hu=>by rw[Zlt,Mem.add_same,Nat.zero_add];exact hu
   have jX:=Mem.le_add hb (List.flatten (List.replicate n [Value.int .i64 0]))
   have fU:=Mem.le_upd jX hb (0+n2*1) [bV v]
   have jk:=Mem.le_add dT [Value.slice (some ⟨b,0,none⟩) n n]
   have nm:=Mem.le_trans fU jk
   have fA:=Zs8 dU aX v
   refine⟨ZuF bs n n2,[Value.slice (some ⟨b,0,none⟩) n n],by rw[Zp9];omega,rfl,dW.out.mono nm,Zsw,by simp[Value.oneCell'],by omega,by omega,fun a4 c4 m4 cF iZ nn=>⟨n - (n2+1),by omega,n2+1,a4,c4,_,by omega,by rw[Zap (by omega) (by omega)];rfl,rfl,Mem.le_trans aY (Mem.le_trans nm cF),Tab.snoc (b:=b) dW h0 (by omega) hb nm cF (fun j u hu=>jk _ _ _ (fA j u ?_)) iZ nn.2,⟨fun i hi=>?_,fun b5 o5 e5=>?_⟩,fun h=>by omega,fun b5 o5 e5=>?_,rfl⟩⟩
   ·rw[Zls (h:=fun j=>v&&decide (n2=j))]
    ·exact hu
    ·intro j _
     by_cases e:j=n2
     ·subst e;simp
     ·rw[if_neg e,decide_eq_false (fun h=>e h.symm)];simp
   ·by_cases e:i=n2
    ·simp only[if_pos e];exact ZgE aY hb
    ·simp only[if_neg e];exact cT.1 i (by omega)
   ·rcases(nn.old ho).2 with h|⟨b6,e6,h6⟩
    ·rw[h]at e5;cases e5
    ·rw[e6]at e5;cases e5
     rcases h6 with h6|h6
     ·exact cT.2 _ _ (h6.trans e6)
     ·exact ZgE (Mem.le_trans aY nm) h6
   ·rcases(nn.old ho).2 with h|⟨b6,e6,h6⟩
    ·rw[h]at e5;cases e5
    ·rw[e6]at e5;cases e5;rfl
 ·have:n2=n:=by omega
  subst this
  exact⟨m2,aY,Mem.le_refl _,a1,c1,bs,rfl,dW,cT⟩
theorem Zqi{g h:Nat→Nat→Bool}{n:Nat}{m:Mem}{a1:Option Addr}{c1:Nat}{bs:Nat→Nat}{a2:Option Addr}{c2:Nat}{cs:Nat→Nat}{Y:Nat→Prop}(h1:Tab m g n n a1 bs)(hY:∀i,i < n→Y (bs i))(te:∀b o,a1=some ⟨b,o,none⟩→¬Y b)(h2:Tab (m.off Y) h n n a2 cs)(hn:n≤1000000):
  CXY Try.prog 113 #[.slice a1 n c1,.slice a2 n c2] m Y [] [] (fun v m' _ _=>v=.tuple #[]∧Tab m' (fun x y=>g x y||h x y) n n a1 bs):=by
 apply ZiK
 unfold Zgv
 refine⟨fun xs _ _ m' q=>∃k:Nat,k≤n∧xs=[.int .i64 k]∧(m.off Y).le m'∧Tab m' (fun x y=>g x y||(h x y&&decide (x < k))) n n a1 bs∧q=n - k,⟨_,0,Nat.zero_le _,rfl,Mem.off_le _ _,h1.congr fun i j _ _=>by simp,rfl⟩,?_⟩
 rintro z m2 q _ ⟨k,hk,hz,cI,dW,hq⟩
 obtain rfl:z=k:=by simpa using hz
 subst hq
 refine ZaG (fun bA=>?_) (fun cN=>?_)
 ·have aX:k < n:=by omega
  refine⟨fun xs _ _ m' q=>∃j:Nat,j≤n∧xs=[.int .i64 j]∧(m.off Y).le m'∧Tab m' (fun x y=>g x y||(h x y&&(decide (x < k)||(decide (x=k)&&decide (y < j))))) n n a1 bs∧q=n - j,⟨_,0,Nat.zero_le _,rfl,cI,dW.congr fun i j _ _=>by simp,rfl⟩,?_⟩
  rintro z m3 q _ ⟨j,hj,hz,gQ,cP,hq⟩
  obtain rfl:z=j:=by simpa using hz
  subst hq
  refine ZaG (fun eO=>?_) (fun iA=>?_)
  ·have dJ:j < n:=by omega
   obtain⟨b4,o4,e4,h4⟩:=h2.get aX
   have h5:=h2.cell aX dJ
   refine⟨b4,o4,e4,⟨by omega,by omega⟩,_,(by rw[Int.toNat_natCast];exact gQ _ _ _ h4),Zaa rfl ⟨cs k,0,rfl,⟨by omega,by simp only[slN];omega⟩,_,(by rw[Int.toNat_natCast];exact gQ _ _ _ h5),Zaa rfl (Zab (fun hv=>?_) (fun hv=>?_))⟩⟩
   ·rw[ZiX]at hv
    obtain⟨b6,o6,e6,h6⟩:=cP.get aX
    have h7:=cP.cell aX dJ
    rw[Int.toNat_natCast,Int.toNat_natCast]
    refine⟨b6,o6,e6,⟨by omega,by omega⟩,_,h6,Zaa rfl ⟨bs k,0,rfl,⟨by omega,by simp only[slN];omega⟩,ZrK h7,Mem.off_free (hY k aX),by trivial,n - (j+1),by omega,j+1,dJ,by rw[Zap (by omega) (by omega)];rfl,Mem.le_upd gQ (Mem.off_free (hY k aX)) _ _,(cP.upd aX dJ true).congr fun x y hx hy=>?_,rfl⟩⟩
    by_cases e:x=k∧y=j
    ·obtain⟨rfl,rfl⟩:=e
     rw[if_pos ⟨rfl,rfl⟩,hv];simp
    ·rw[if_neg e]
     have:(decide (x=k)&&decide (y < j))=(decide (x=k)&&decide (y < j+1)):=by
      rw[Bool.eq_iff_iff];simp;omega
     rw[this]
   ·rw[ZiX]at hv
    refine⟨n - (j+1),by omega,j+1,dJ,by rw[Zap (by omega) (by omega)];rfl,gQ,cP.congr fun x y hx hy=>?_,rfl⟩
    by_cases e:x=k∧y=j
    ·obtain⟨rfl,rfl⟩:=e
     rw[hv];simp
    ·have:(decide (x=k)&&decide (y < j))=(decide (x=k)&&decide (y < j+1)):=by
      rw[Bool.eq_iff_iff];simp;omega
     rw[this]
  ·have:j=n:=by omega
   subst this
   refine⟨j - (k+1),by omega,k+1,aX,by rw[Zap (by omega) (by omega)];rfl,gQ,cP.congr fun x y hx hy=>?_,rfl⟩
   have:(decide (x < k)||(decide (x=k)&&decide (y < j)))=decide (x < k+1):=by
    rw[Bool.eq_iff_iff];simp;omega
   rw[this]
 ·have:k=n:=by omega
  subst this
  exact⟨rfl,dW.congr fun x y hx hy=>by rw[decide_eq_true hx,Bool.and_true]⟩
end Go.Proofs.Ythiefodednaikaa
set_option linter.unusedVariables false
set_option linter.unusedSimpArgs false
namespace Go.Proofs.Ythiefodednaikaa
open Go Go.Eng Go.Rx Go.Proofs Go.RowKit
set_option maxRecDepth 100000
theorem ZmG{ga gb:Nat→Nat→Bool}{n:Nat}{m:Mem}{a1:Option Addr}{c1:Nat}{bs:Nat→Nat}{a2:Option Addr}{c2:Nat}{cs:Nat→Nat}(h1:Tab m ga n n a1 bs)(h2:Tab m gb n n a2 cs)(hn:n≤1000000):
  CX Try.prog 112 #[.slice a1 n c1,.slice a2 n c2] m [] (Zqh m (Zmn (Zwu n ga gb)) n):=by
 apply ZiJ
 unfold Zfo
 refine ZbP (Zic n false m hn) fun a c ds m1 aW mI cT=>?_
 have inv0:Tab m1 (Zmn (ZfL n ga gb 0 0 0)) n n a ds:=mI.congr fun x y hx hy=>by
  rw[Zam,iff_false_right (ZnQ n ga gb x y)];simp
 refine⟨fun xs _ _ m' q=>∃i:Nat,i≤n∧xs=[.int .i64 i]∧m.le m'∧Tab m' (Zmn (ZfL n ga gb i 0 0)) n n a ds∧q=n - i,⟨_,0,Nat.zero_le _,rfl,aW,inv0,rfl⟩,?_⟩
 rintro z m2 q _ ⟨i,hi,hz,aY,dW,hq⟩
 obtain rfl:z=i:=by simpa using hz
 subst hq
 refine ZaG (fun bA=>?_) (fun cN=>?_)
 ·have aX:i < n:=by omega
  refine⟨fun xs _ _ m' q=>∃k:Nat,i≤k∧k≤n∧xs=[.int .i64 k]∧m.le m'∧Tab m' (Zmn (ZfL n ga gb i k k)) n n a ds∧q=n - k,⟨_,i,Nat.le_refl _,hi,rfl,aY,dW.congr fun x y hx hy=>by rw[Zam,Zam,Zrj],rfl⟩,?_⟩
  rintro z m3 q _ ⟨k,pf,hk,hz,bR,cP,hq⟩
  obtain rfl:z=k:=by simpa using hz
  subst hq
  refine ZaG (fun eO=>?_) (fun iA=>?_)
  ·have dJ:k < n:=by omega
   refine⟨fun xs _ _ m' q=>∃j:Nat,k≤j∧j≤n∧xs=[.int .i64 j]∧m.le m'∧Tab m' (Zmn (ZfL n ga gb i k j)) n n a ds∧q=n - j,⟨_,k,Nat.le_refl _,hk,rfl,bR,cP,rfl⟩,?_⟩
   rintro z m4 q _ ⟨j,nj,hj,hz,cF,dF,hq⟩
   obtain rfl:z=j:=by simpa using hz
   subst hq
   obtain⟨b1,o1,e1,sG⟩:=h1.get aX
   have sH:=h1.cell aX dJ
   rw[Int.toNat_natCast,Int.toNat_natCast,Int.toNat_natCast]
   refine⟨ga i k&&decide (j < n),⟨b1,o1,e1,⟨by omega,by omega⟩,_,cF _ _ _ sG,Zaa rfl ⟨bs i,0,rfl,⟨by omega,by simp only[slN];omega⟩,_,cF _ _ _ sH,Zaa rfl (Zab (fun hv=>?_) (fun hv=>?_))⟩⟩,Zab (fun hb=>?_) (fun hb=>?_)⟩
   ·rw[ZiX]at hv
    rw[hv,Bool.true_and]
    have:decide ((j:Int) < (n:Int))=decide (j < n):=decide_eq_decide.2 (by omega)
    rw[this]
   ·rw[ZiX]at hv
    rw[hv];rfl
   ·simp only[Bool.and_eq_true,decide_eq_true_eq]at hb
    obtain⟨qw,jb⟩:=hb
    obtain⟨b2,o2,e2,sI⟩:=h2.get dJ
    have sJ:=h2.cell dJ jb
    refine⟨b2,o2,e2,⟨by omega,by omega⟩,_,cF _ _ _ sI,Zaa rfl ⟨cs k,0,rfl,⟨by omega,by simp only[slN];omega⟩,_,cF _ _ _ sJ,Zaa rfl (Zab (fun hv=>?_) (fun hv=>?_))⟩⟩
    ·rw[ZiX]at hv
     obtain⟨b6,o6,e6,h6⟩:=dF.get aX
     have h7:=dF.cell aX jb
     refine⟨b6,o6,e6,⟨by omega,by omega⟩,_,h6,Zaa rfl ⟨ds i,0,rfl,⟨by omega,by simp only[slN];omega⟩,ZrK h7,cT.1 i aX,by trivial,n - (j+1),by omega,j+1,by omega,jb,by rw[Zap (by omega) (by omega)];rfl,Mem.le_upd cF (cT.1 i aX) _ _,(dF.upd aX jb true).congr fun x y hx hy=>?_,rfl⟩⟩
     rw[Zam,ZnR nj qw]
     by_cases e:x=i∧y=j
     ·rw[if_pos e]
      exact⟨fun _=>.inr ⟨e.1,e.2,hv⟩,fun _=>rfl⟩
     ·rw[if_neg e,Zam]
      exact⟨.inl,fun h=>h.elim id fun h=>absurd ⟨h.1,h.2.1⟩ e⟩
    ·rw[ZiX]at hv
     refine⟨n - (j+1),by omega,j+1,by omega,jb,by rw[Zap (by omega) (by omega)];rfl,cF,dF.congr fun x y hx hy=>?_,rfl⟩
     rw[Zam,Zam,ZnR nj qw]
     exact⟨.inl,fun h=>h.elim id fun h=>by rw[hv]at h;cases h.2.2⟩
   ·have hs:n≤j∨ga i k=false:=by
     rw[Bool.and_eq_false_iff]at hb
     rcases hb with hb|hb
     ·exact .inr hb
     ·exact .inl (by have:=of_decide_eq_false hb;omega)
    refine⟨n - (k+1),by omega,k+1,by omega,dJ,by rw[Zap (by omega) (by omega)];rfl,cF,dF.congr fun x y hx hy=>?_,rfl⟩
    rw[Zam,Zam,Zrk pf hy hs]
  ·have:k=n:=by omega
   subst this
   refine⟨k - (i+1),by omega,i+1,aX,by rw[Zap (by omega) (by omega)];rfl,bR,cP.congr fun x y hx hy=>?_,rfl⟩
   rw[Zam,Zam,ZoX hy]
 ·have:i=n:=by omega
  subst this
  exact⟨m2,aY,Mem.le_refl _,a,c,ds,rfl,dW.congr fun x y hx hy=>by rw[Zam,Zam,ZoY hx],cT⟩
end Go.Proofs.Ythiefodednaikaa
set_option linter.unusedVariables false
set_option linter.unusedSimpArgs false
namespace Go.Proofs.Ythiefodednaikaa
open Go Go.Eng Go.Rx Go.Proofs Go.RowKit
set_option maxRecDepth 100000
theorem ZjA{m m1 M:Mem}{g g':Nat→Nat→Bool}{n:Nat}{a:Option Addr}{c:Nat}{bs:Nat→Nat}(hm:m.le M)(h:Tab M g n n a bs)(hn:TabNew m1 n a bs)(h1:m.le m1)(e:∀i j,i < n→j < n→(g i j=true↔g' i j=true)):
  ∃m'',m.le m''∧m''.le M∧Zqh m g' n (.slice a n c) m'' []:=⟨M,hm,Mem.le_refl _,a,c,bs,rfl,h.congr e,hn.less h1⟩
theorem Zu4{m:Mem}{a:Option Addr}{s:List Nat}(h:Byt m a s){i x:Nat}(hi:s[i]?=some x):x < 256∧∃b o,a=some ⟨b,o,none⟩∧m b (o+i*1)=some (.int .u8 x):=by
 refine⟨h.2 x (List.mem_of_getElem? hi),?_⟩
 rcases h.1 with e|⟨b,o,e,hr⟩
 ·rw[e]at hi;cases hi
 ·refine⟨b,o,e,?_⟩
  have:=hr i (.int .u8 x) (by rw[List.getElem?_map,hi];rfl)
  rwa [Nat.mul_one]
theorem Ztx{k:Int}{q:QS}{mn mx:Int}{a:Option Addr}{n c:Nat}{j:Nat}(hj:j < 256){K:Value→Prop}(h:K (bV (ZtW q j))):Eng.ZrO (rcs k q mn mx a n c) (1+j*1) K:=Zag (by rw[Nat.mul_one];exact ZuC k q mn mx a n c hj) h
theorem Zv3(t:T)(c:Nat):ZtW t.q c=t.hasB c:=rfl
set_option maxHeartbeats 2000000 in
theorem Zqj(s:List Nat)(sa:Option Addr)(sc:Nat)(hs:s.length≤600):∀(t:T)(cs:List Value)(m:Mem),RefT m t cs→t.good=true→Byt m sa s→CX Try.prog 87 #[.agg cs.toArray,.slice sa s.length sc] m [] (Zqh m (Zmn (t.M s)) (s.length+1)):=by
 intro t
 induction hn:SizeOf.sizeOf t using Nat.strongRecOn generalizing t with
 | ind n ih=>
 intro cs m hr hg hb
 obtain⟨cB,bQ,a,c,css,rfl,cJ,dR⟩:=ZbO.1 hr
 have qx:=ZvT hg
 have ew:IntKind.i64.wrap ((s.length:Int)+1)=((s.length+1:Nat):Int):=by rw[Zap (by omega) (by omega)];rfl
 have bT:s.length+1≤1000000:=by omega
 apply ZiL
 unfold Zfp
 rw[ew]
 have sub:∀(k:Nat)(M:Mem)(x:T),t.subs[k]?=some x→m.le M→∃(bb o:Nat)(cs2:List Value),a=some ⟨bb,o,none⟩∧cs2.length=260∧M.reads bb (o+k*260) cs2∧CX Try.prog 87 #[.agg cs2.toArray,.slice sa s.length sc] M [] (Zqh M (Zmn (x.M s)) (s.length+1)):=by
  intro k M x hx hM
  obtain⟨bb,o,cs2,ha,cH,eV⟩:=Zhf cJ dR hx
  have eO:=Zeh (List.mem_of_getElem? hx)
  exact⟨bb,o,cs2,ha,eV.len,cH.mono hM,ih _ (by omega) x rfl cs2 M (eV.mono hM) (ZfM hg (List.mem_of_getElem? hx)) (hb.mono hM)⟩
 refine ZhN fun b m1 aW eZ _ _=>?_
 have dI:m1 b 0=some (.int .i64 t.k):=eZ 0 _ (Zmx _ _ _ _ _ _ _)
 refine ZbP (Zic (s.length+1) false m1 bT) fun a1 c1 bs m2 aY gT dP=>?_
 have fN:=Mem.le_trans aW aY
 refine ZaS (Zaa rfl (Ze0 (fun hk=>?_) (fun ir=>Zaa rfl (Ze0 (fun hk=>?_) (fun eH=>Zaa rfl (Ze0 (fun hk=>?_) (fun lJ=>Zaa rfl (Ze0 (fun hk=>?_) (fun nQ=>Zaa rfl (Ze0 (fun hk=>?_) (fun sK=>Zaa rfl (Ze0 (fun hk=>?_) (fun qx=>?_)))))))))))))
 ·have hk':t.k=1:=hk
  refine ZbP (Zic (s.length+1) true m2 bT) fun a3 c3 ds m3 bR cP fO=>ZjA (Mem.le_trans fN bR) cP fO fN fun i j _ _=>?_
  rw[Zam,M_1 hk'];simp
 ·have hk':t.k=2:=hk
  refine⟨fun xs _ _ m' q=>∃k:Nat,k≤s.length∧xs=[.int .i64 k]∧m.le m'∧Tab m' (fun x y=>Zmn (t.M s) x y&&decide (x < k)) (s.length+1) (s.length+1) a1 bs∧q=s.length - k,⟨_,0,Nat.zero_le _,rfl,fN,gT.congr fun i j _ _=>by simp,rfl⟩,?_⟩
  rintro z m3 q _ ⟨k,hk,hz,bR,cP,hq⟩
  obtain rfl:z=k:=by simpa using hz
  subst hq
  refine ZaG (fun bA=>?_) (fun cN=>?_)
  ·have aX:k < s.length:=by omega
   obtain⟨x,hx⟩:=Zbg aX
   obtain⟨mJ,b4,o4,e4,h4⟩:=Zu4 (hb.mono bR) hx
   obtain⟨b6,o6,e6,h6⟩:=cP.get (i:=k) (by omega)
   have h7:=cP.cell (i:=k) (j:=k+1) (by omega) (by omega)
   have ek:IntKind.i64.wrap ((k:Int)+1)=((k+1:Nat):Int):=by rw[Zap (by omega) (by omega)];rfl
   have ex:intOf (.int .u8 (x:Int))=x:=rfl
   rw[ek,Int.toNat_natCast,Int.toNat_natCast]
   refine⟨b6,o6,e6,⟨by omega,by omega⟩,_,h6,b4,o4,e4,⟨by omega,by omega⟩,_,h4,Zaa rfl ⟨?_,?_⟩⟩
   ·rw[ex];exact⟨by omega,by omega⟩
   ·rw[ex,Int.toNat_natCast]
    refine Ztx mJ (Zaa rfl ⟨bs k,0,rfl,⟨by omega,by simp only[slN];omega⟩,Zaa rfl ⟨ZrK h7,ZgE aW (dP.1 k (by omega)),by trivial,ZvS dI (Mem.le_refl _) (dP.1 k (by omega)),by trivial,_,by omega,k+1,by omega,rfl,Mem.le_upd bR (ZgE aW (dP.1 k (by omega))) _ _,(cP.upd (i:=k) (j:=k+1) (by omega) (by omega) (ZtW t.q x)).congr fun i j hi hj=>?_,rfl⟩⟩)
    have hM:∀i j,t.M s i j↔(j=i+1∧∃b,s[i]?=some b∧t.hasB b=true):=M_2 hk'
    by_cases e:i=k∧j=k+1
    ·obtain⟨rfl,rfl⟩:=e
     rw[if_pos ⟨rfl,rfl⟩,Zv3,Bool.and_eq_true,Zam,hM,decide_eq_true_eq]
     constructor
     ·intro h;exact⟨⟨rfl,x,hx,h⟩,by omega⟩
     ·rintro⟨⟨_,y,hy,h⟩,_⟩
      rw[hx]at hy;cases hy;exact h
    ·rw[if_neg e,Bool.and_eq_true,Bool.and_eq_true,Zam,hM,decide_eq_true_eq,decide_eq_true_eq]
     constructor
     ·rintro⟨h,h2⟩;exact⟨h,by omega⟩
     ·rintro⟨h,h2⟩
      refine⟨h,?_⟩
      by_cases ei:i=k
      ·subst ei;exact absurd ⟨rfl,h.1⟩ e
      ·omega
  ·have:k=s.length:=by omega
   subst this
   refine ZjA bR cP dP aW fun i j hi hj=>?_
   rw[Bool.and_eq_true,Zam,M_2 hk',decide_eq_true_eq]
   constructor
   ·exact fun h=>h.1
   ·intro h;exact⟨h,by omega⟩
 ·have hk':t.k=3:=hk
  refine ZbP (Zic (s.length+1) true m2 bT) fun a3 c3 ds m3 bR cP fO=>?_
  have pB:=Mem.le_trans fN bR
  refine⟨fun xs _ _ m' q=>∃(k:Nat)(a4:Option Addr)(c4:Nat)(es:Nat→Nat),k≤t.subs.length∧xs=[.slice a4 (s.length+1) c4,.int .i64 k]∧m.le m'∧Tab m' (Zmn (MC s (t.subs.take k))) (s.length+1) (s.length+1) a4 es∧TabNew m (s.length+1) a4 es∧q=t.subs.length - k,
   ⟨_,0,_,_,ds,Nat.zero_le _,rfl,pB,cP.congr fun i j _ _=>by rw[Zam,List.take_zero,Zka];simp,fO.less fN,rfl⟩,?_⟩
  rintro a5 n5 c5 z m4 q _ ⟨k,a4,c4,es,jq,hz,cF,dF,jc,hq⟩
  simp only[List.cons.injEq,Value.slice.injEq,Value.int.injEq,true_and,and_true]at hz
  obtain⟨⟨rfl,rfl,rfl⟩,rfl⟩:=hz
  subst hq
  refine ZaT (Zaa rfl (ZaG (fun bA=>?_) (fun cN=>?_)))
  ·have aX:k < t.subs.length:=by simp only[slN]at bA;omega
   obtain⟨x,hx⟩:=Zbg aX
   obtain⟨bb,o,cs2,ha,fU,cH,eM⟩:=sub k m4 x hx cF
   refine ZaT (Zaa rfl ⟨bb,o,ha,⟨by omega,by simp only[slN];omega⟩,cs2,fU,(by rw[Int.toNat_natCast];exact cH),ZbP eM fun a6 c6 fs m5 cO jd j8=>ZbP (ZmG (dF.mono cO) jd bT) fun a7 c7 gs m6 dK mK mL=>⟨by trivial,_,by omega,k+1,a7,c7,gs,aX,by rw[Zap (by omega) (by omega)];rfl,Mem.le_trans cF (Mem.le_trans cO dK),mK.congr fun i j hi hj=>?_,mL.less (Mem.le_trans cF cO),rfl⟩⟩)
   have e:t.subs.take (k+1)=t.subs.take k++[x]:=by rw[List.take_add_one,hx];rfl
   rw[Zam,Zam,e,ZuH,ZmA (ZuJ s fun y hy=>ZfM hg (List.mem_of_mem_take hy)) (Zrn (ZfM hg (List.mem_of_getElem? hx)) s) hj]
  ·have:k=t.subs.length:=by simp only[slN]at cN;omega
   subst this
   refine ZjA cF dF jc (Mem.le_refl _) fun i j hi hj=>?_
   rw[List.take_length,Zam,Zam,M_3 hk']
 ·have hk':t.k=4:=hk
  refine⟨fun xs _ _ m' q=>∃k:Nat,k≤t.subs.length∧xs=[.int .i64 k]∧m.le m'∧Tab m' (Zmn (MA s (t.subs.take k))) (s.length+1) (s.length+1) a1 bs∧q=t.subs.length - k,⟨_,0,Nat.zero_le _,rfl,fN,gT.congr fun i j _ _=>by rw[Zam,List.take_zero,ZlZ];simp,rfl⟩,?_⟩
  rintro z m4 q _ ⟨k,jq,hz,cF,dF,hq⟩
  obtain rfl:z=k:=by simpa using hz
  subst hq
  refine ZaT (Zaa rfl (ZaG (fun bA=>?_) (fun cN=>?_)))
  ·have aX:k < t.subs.length:=by simp only[slN]at bA;omega
   obtain⟨x,hx⟩:=Zbg aX
   obtain⟨bb,o,cs2,ha,fU,cH,eM⟩:=sub k m4 x hx cF
   refine ZaT (Zaa rfl ⟨bb,o,ha,⟨by omega,by simp only[slN];omega⟩,cs2,fU,(by rw[Int.toNat_natCast];exact cH),ZbP eM fun a6 c6 fs m5 cO jd j8=>?_⟩)
   have kY:=Zh8 dF j8 (by omega)
   have pC:=Mem.le_trans cF cO
   have lw:=dF.mono cO
   refine⟨ZoZ (s.length+1) bs,_,Zqi lw (fun i hi=>⟨i,hi,rfl⟩) (fun b9 o9 e9 hY=>by obtain⟨i,hi,e⟩:=hY;exact lw.sep b9 o9 e9 i hi e.symm) (jd.off' kY.1 kY.2) bT,(fun t ht=>by cases ht),fun b9 hY=>.inr ?_,fun v _ _ _ h=>by rw[h.1];rfl,fun m6 je _ hR=>⟨by trivial,_,by omega,k+1,aX,by rw[Zap (by omega) (by omega)];rfl,Mem.le_trans (ZnS pC ?_) je,hR.2.congr fun i j hi hj=>?_,rfl⟩⟩
   ·obtain⟨i,hi,rfl⟩:=hY
    exact⟨ZgE aW (dP.1 i hi),⟨_,_,lw.cell hi (j:=0) (by omega)⟩,ZvS dI (Mem.le_refl _) (dP.1 i hi),by trivial⟩
   ·rintro b9 ⟨i,hi,rfl⟩
    exact ZgE aW (dP.1 i hi)
   ·have e:t.subs.take (k+1)=t.subs.take k++[x]:=by rw[List.take_add_one,hx];rfl
    rw[Bool.or_eq_true,Zam,Zam,Zam,e,ZuI]
  ·have:k=t.subs.length:=by simp only[slN]at cN;omega
   subst this
   refine ZjA cF dF dP aW fun i j hi hj=>?_
   rw[List.take_length,Zam,Zam,M_4 hk']
 ·have hk':t.k=5:=hk
  obtain⟨x,hx⟩:=Zqb hg (.inl hk')
  have iB:t.subs[0]?=some x:=by rw[hx];rfl
  have lp:x.good=true:=ZfM hg (List.mem_of_getElem? iB)
  obtain⟨jC,gV⟩:=Zjr hg hk'
  obtain⟨bb,o,cs2,ha,fU,cH,eM⟩:=sub 0 m2 x iB fN
  rw[Nat.zero_mul]at cH
  have eW:Zaf 0 (slN (.slice a t.subs.length c)):=⟨by omega,by simp only[slN];rw[hx];simp⟩
  have ew2:IntKind.i64.wrap (t.mn+((s.length+1:Nat):Int))=t.mn+((s.length+1:Nat):Int):=Zap (by omega) (by omega)
  generalize gU:(if t.mx < 0 then t.mn+((s.length+1:Nat):Int)else t.mx)=most
  have pD:0≤most∧most≤700:=by rw[←gU];split <;> omega
  refine ZhM (Zaa rfl (ZaG (fun gu=>ZeH (Zaa rfl ?_)) (fun gu=>?_)))
  all_goals
   refine ZaT (Zaa rfl ⟨bb,o,ha,eW,cs2,fU,cH,ZbP eM fun a3 c3 os m3 bR cP fO=>ZbP (Zic (s.length+1) true m3 bT) fun a4 c4 ds m4 cF dF jc=>?_⟩)
   have mM:=Mem.le_trans bR cF
   have pE:=Mem.le_trans fN mM
   refine⟨fun xs _ _ m' q=>∃(k:Nat)(a5:Option Addr)(c5:Nat)(es:Nat→Nat),(k:Int)≤most+1∧xs=[.slice a5 (s.length+1) c5,.int .i64 k]∧m.le m'∧Tab m' (Zmn (ZuK (x.M s) t.mn.toNat k)) (s.length+1) (s.length+1) a1 bs∧Tab m' (Zmn (x.M s)) (s.length+1) (s.length+1) a3 os∧Tab m' (Zmn (pow (x.M s) k)) (s.length+1) (s.length+1) a5 es∧Zxu (ZoZ (s.length+1) bs) (s.length+1) a5 es∧q=(most+1).toNat - k,
    ⟨_,0,_,_,ds,by omega,rfl,pE,(gT.mono mM).congr fun i j _ _=>⟨fun h=>by simp at h,fun h=>absurd (Zam.1 h) (Zro _ _ i j)⟩,cP.mono cF,dF.congr fun i j _ _=>?_,Zh8 (gT.mono bR) jc (by omega),rfl⟩,?_⟩
   ·rw[Zam,show pow (x.M s) 0 i j↔i=j from Iff.rfl];simp
   rintro a9 n9 c9 z m5 q _ ⟨k,a5,c5,es,jq,hz,cO,lx,pF,pG,kY,hq⟩
   simp only[List.cons.injEq,Value.slice.injEq,Value.int.injEq,true_and,and_true]at hz
   obtain⟨⟨rfl,rfl,rfl⟩,rfl⟩:=hz
   subst hq
   try refine Zaa rfl ?_
   refine ZaG (fun cI=>ZeH (Zaa rfl (ZaG (fun cN=>?_) (fun bA=>?_)))) (fun jm=>?_)
   ·have pH:(k:Int)≤most:=by
     rw[←gU]
     simp only[intOf]at cI gu
     first|(rw[if_pos gu];rw[ew2]at cI;exact cI)|(rw[if_neg gu];exact cI)
    have pI:t.mn.toNat≤k:=by simp only[intOf]at cN;omega
    have mN:=Zh8 gT (fO) (by omega)
    refine⟨ZoZ (s.length+1) bs,_,Zqi lx (fun i hi=>⟨i,hi,rfl⟩) (fun b9 o9 e9 hY=>by obtain⟨i,hi,e⟩:=hY;exact lx.sep b9 o9 e9 i hi e.symm) (pG.off' kY.1 kY.2) bT,(fun t ht=>by cases ht),fun b9 hY=>.inr ?_,fun v _ _ _ h=>by rw[h.1];rfl,fun m6 je _ hR=>?_⟩
    ·obtain⟨i,hi,rfl⟩:=hY
     exact⟨ZgE aW (dP.1 i hi),⟨_,_,lx.cell hi (j:=0) (by omega)⟩,ZvS dI (Mem.le_refl _) (dP.1 i hi),by trivial⟩
    ·have pJ:m.le m6:=Mem.le_trans (ZnS cO (by rintro b9 ⟨i,hi,rfl⟩;exact ZgE aW (dP.1 i hi))) je
     have pK:=(pG.off' kY.1 kY.2).mono je
     have mO:=(pF.off' mN.1 mN.2).mono je
     refine ZbP (ZmG pK mO bT) fun a7 c7 gs m7 eA jf jg=>⟨by trivial,_,?_,k+1,a7,c7,gs,by omega,by rw[Zap (by omega) (by omega)];rfl,Mem.le_trans pJ eA,(hR.2.mono eA).congr fun i j hi hj=>?_,mO.mono eA,jf.congr fun i j hi hj=>?_,Zh8 hR.2 jg (by omega),rfl⟩
     ·omega
     ·rw[Bool.or_eq_true,Zam,Zam,Zam,Zta pI]
     ·rw[Zam,Zam,ZeR,ZmA (Zqa (Zrn lp s) k) (Zrn lp s) hj]
   ·have pH:(k:Int)≤most:=by
     rw[←gU]
     simp only[intOf]at cI gu
     first|(rw[if_pos gu];rw[ew2]at cI;exact cI)|(rw[if_neg gu];exact cI)
    have aX:k < t.mn.toNat:=by simp only[intOf]at bA;omega
    refine ZbP (ZmG pG pF bT) fun a7 c7 gs m7 eA jf jg=>⟨by trivial,_,?_,k+1,a7,c7,gs,by omega,by rw[Zap (by omega) (by omega)];rfl,Mem.le_trans cO eA,(lx.mono eA).congr fun i j hi hj=>?_,pF.mono eA,jf.congr fun i j hi hj=>?_,Zh8 lx jg (by omega),rfl⟩
    ·omega
    ·rw[Zam,Zam,Zrp aX]
    ·rw[Zam,Zam,ZeR,ZmA (Zqa (Zrn lp s) k) (Zrn lp s) hj]
   ·have pL:(k:Int)=most+1:=by
     have:¬(k:Int)≤most:=by
      rw[←gU]
      simp only[intOf]at jm gu
      first|(rw[if_pos gu];rw[ew2]at jm;exact jm)|(rw[if_neg gu];exact jm)
     omega
    refine ZjA cO lx dP aW fun i j hi hj=>?_
    rw[Zam,Zam,Ztb hg hk' hx hj (by rw[gU];exact pL)]
 ·have hk':t.k=6:=hk
  obtain⟨x,hx⟩:=Zqb hg (.inr hk')
  obtain⟨bb,o,cs2,ha,fU,cH,eM⟩:=sub 0 m2 x (by rw[hx];rfl) fN
  rw[Nat.zero_mul]at cH
  refine ZaT (Zaa rfl ⟨bb,o,ha,⟨by omega,by simp only[slN];rw[hx];simp⟩,cs2,fU,cH,ZbP eM fun a3 c3 ds m3 bR cP fO=>ZjA (Mem.le_trans fN bR) cP fO fN fun i j _ _=>?_⟩)
  rw[Zam,Zam,M_6 hk',hx,Ze9]
 ·exfalso
  simp only[intOf]at ir eH lJ nQ sK qx
  omega
end Go.Proofs.Ythiefodednaikaa
set_option linter.unusedVariables false
set_option linter.unusedSimpArgs false
namespace Go.Proofs.Ythiefodednaikaa
open Go Go.Eng Go.Rx Go.Proofs Go.RowKit
set_option maxRecDepth 100000
theorem ZxE(t u:T):decide (t.q=u.q)=(t.s0 == u.s0&&t.s1 == u.s1&&t.s2 == u.s2&&t.s3 == u.s3):=by
 unfold T.q
 rw[Bool.eq_iff_iff]
 simp[Prod.ext_iff,and_assoc]
theorem Zty(t u:T):t.same u=(t.k == u.k&&(decide (t.q=u.q)&&(t.mn == u.mn&&(t.mx == u.mx&&Zei t.subs u.subs)))):=by rw[Zr7,ZxE]
def Zqk(t u:T):Bool:=t.k == u.k&&(decide (t.q=u.q)&&(t.mn == u.mn&&(t.mx == u.mx&&t.subs.length == u.subs.length)))
theorem Ztz{t u:T}(h:Zqk t u=false):t.same u=false:=by
 rw[Zty]
 unfold Zqk at h
 cases h1:t.k == u.k <;> rw[h1]at h <;> simp only[Bool.false_and,Bool.true_and]at h ⊢
 cases h2:decide (t.q=u.q) <;> rw[h2]at h <;> simp only[Bool.false_and,Bool.true_and]at h ⊢
 cases h3:t.mn == u.mn <;> rw[h3]at h <;> simp only[Bool.false_and,Bool.true_and]at h ⊢
 cases h4:t.mx == u.mx <;> rw[h4]at h <;> simp only[Bool.false_and,Bool.true_and]at h ⊢
 exact Zj4 (by simpa using h)
theorem ZrL{t u:T}(h:Zqk t u=true):t.subs.length=u.subs.length∧t.same u=Zei t.subs u.subs:=by
 rw[Zty]
 unfold Zqk at h
 simp only[Bool.and_eq_true]at h
 obtain⟨h1,h2,h3,h4,h5⟩:=h
 rw[h1,h2,h3,h4]
 exact⟨by simpa using h5,by simp⟩
set_option maxHeartbeats 2000000 in
theorem ZtA:∀(t u:T)(cs ds:List Value)(m:Mem),RefT m t cs→RefT m u ds→CX Try.prog 89 #[.agg cs.toArray,.agg ds.toArray] m [] (Ret (.bool (t.same u))):=by
 intro t
 induction hn:SizeOf.sizeOf t using Nat.strongRecOn generalizing t with
 | ind n ih=>
 intro u cs ds m hr hu
 obtain⟨cB,bQ,a,c,css,rfl,cJ,dR⟩:=ZbO.1 hr
 obtain⟨pM,ip,a',c',dss,rfl,mP,kR⟩:=ZbO.1 hu
 apply ZkE
 unfold Zgx
 refine ZhN fun b m1 aW _=>ZhN fun b2 m2 aY _=>?_
 have jK:=Mem.le_trans aW aY
 refine⟨!Zqk t u,?_,Zab (fun h=>Zac jK ?_) (fun h=>?_)⟩
 ·unfold Zqk
  refine ZaS (ZaS (Zaa rfl (Zab (fun h1=>⟨by trivial,?_⟩) (fun h1=>Zaa (by rw[Zhe];rfl) (Zaa (by rw[Zhe];rfl) ⟨decide (t.q=u.q),by rw[Zp3,Zp3];exact Zxw (ZuD cB) (ZuD pM),Zab (fun h2=>⟨by trivial,?_⟩) (fun h2=>ZeH (ZeH (Zaa rfl (Zab (fun h3=>⟨by trivial,?_⟩) (fun h3=>ZhM (ZhM (Zaa rfl (Zab (fun h4=>⟨by trivial,?_⟩) (fun h4=>ZaT (Zaa rfl (ZaT (Zaa rfl ⟨by trivial,?_⟩))))))))))))⟩)))))
  ·have h1':(!t.k == u.k)=true:=h1
   have:(t.k == u.k)=false:=by rw[←Bool.not_not (_ == _),h1'];rfl
   rw[this];rfl
  all_goals
   have e1:(t.k == u.k)=true:=by rw[←Bool.not_not (t.k == u.k),show(!t.k == u.k)=false from h1];rfl
   rw[e1,Bool.true_and]
  ·have:decide (t.q=u.q)=false:=by rw[←Bool.not_not (decide _),h2];rfl
   rw[this];rfl
  all_goals
   have e2:decide (t.q=u.q)=true:=by rw[←Bool.not_not (decide _),h2];rfl
   rw[e2,Bool.true_and]
  ·have:(t.mn == u.mn)=false:=by rw[←Bool.not_not (_ == _),show(!t.mn == u.mn)=true from h3];rfl
   rw[this];rfl
  all_goals
   have e3:(t.mn == u.mn)=true:=by rw[←Bool.not_not (_ == _),show(!t.mn == u.mn)=false from h3];rfl
   rw[e3,Bool.true_and]
  ·have:(t.mx == u.mx)=false:=by rw[←Bool.not_not (_ == _),show(!t.mx == u.mx)=true from h4];rfl
   rw[this];rfl
  ·have e4:(t.mx == u.mx)=true:=by rw[←Bool.not_not (_ == _),show(!t.mx == u.mx)=false from h4];rfl
   rw[e4,Bool.true_and]
   have e5:((t.subs.length:Int) == (u.subs.length:Int))=(t.subs.length == u.subs.length):=by rw[Bool.eq_iff_iff];simp;omega
   show[Value.bool (!((t.subs.length:Int) == (u.subs.length:Int)))]=_
   rw[e5]
 ·rw[Ztz (by rw[←Bool.not_not (Zqk t u),h];rfl)]
 ·obtain⟨gF,qy⟩:=ZrL (t:=t) (u:=u) (by rw[←Bool.not_not (Zqk t u),h];rfl)
  refine⟨fun xs _ _ m' q=>∃k:Nat,k≤t.subs.length∧xs=[.int .i64 k]∧m.le m'∧Zei (t.subs.take k) (u.subs.take k)=true∧q=t.subs.length - k,⟨_,0,Nat.zero_le _,rfl,jK,by simp[Zei],rfl⟩,?_⟩
  rintro z m3 q _ ⟨k,hk,hz,bR,bM,hq⟩
  obtain rfl:z=k:=by simpa using hz
  subst hq
  refine ZaT (Zaa rfl (ZaG (fun bA=>?_) (fun cN=>?_)))
  ·have aX:k < t.subs.length:=by simp only[slN]at bA;omega
   obtain⟨x,hx⟩:=Zbg aX
   obtain⟨y,hy⟩:=Zbg (l:=u.subs) (k:=k) (by omega)
   obtain⟨bb,o,cs2,ha,cH,eV⟩:=Zhf cJ dR hx
   obtain⟨bb',o',ds2,ha',jD,qz⟩:=Zhf mP kR hy
   have eO:=Zeh (List.mem_of_getElem? hx)
   refine⟨fun _ _ _=>Ret (.bool (x.same y)),ZaT (Zaa rfl ⟨bb,o,ha,⟨by omega,by simp only[slN];omega⟩,cs2,eV.len,(by rw[Int.toNat_natCast];exact cH.mono bR),ZaT (Zaa rfl ⟨bb',o',ha',⟨by omega,by simp only[slN];omega⟩,ds2,qz.len,(by rw[Int.toNat_natCast];exact jD.mono bR),_,rfl,ih _ (by omega) x rfl y cs2 ds2 m3 (eV.mono bR) (qz.mono bR),fun v _ _ e=>by rw[e];rfl,?_⟩)⟩)⟩
   intro b5 m4 cF hR M dD cW
   obtain rfl:b5=x.same y:=by
    have hR:Value.bool b5=.bool (x.same y):=hR
    simpa using hR
   refine Zab (fun hf=>Zac (Mem.le_trans bR dD) ?_) (fun hf=>⟨by trivial,_,by omega,k+1,aX,by rw[Zap (by omega) (by omega)];rfl,Mem.le_trans bR dD,Zh6 hx hy bM (by rw[←Bool.not_not (x.same y),hf];rfl) trivial,rfl⟩)
   rw[qy,Zmt hx hy (by rw[←Bool.not_not (x.same y),hf];rfl)]
  ·have:k=t.subs.length:=by simp only[slN]at cN;omega
   subst this
   rw[List.take_length,gF,List.take_length]at bM
   exact Zac bR (by rw[qy,bM])
theorem Zv4(m:Mem):RefT m T0 (rcs 0 (0,0,0,0) 0 0 none 0 0):=ZbO.2 ⟨⟨⟨by decide,by decide⟩,⟨by decide,by decide⟩,⟨by decide,by decide⟩,⟨by decide,by decide⟩,⟨by decide,by decide⟩,⟨by decide,by decide⟩,⟨by decide,by decide⟩⟩,by decide,none,0,[],rfl,.inl rfl,by simp only[T0,T.subs,RefAt]⟩
theorem ZrM(t:T):t.isNone=t.same T0:=by
 unfold T.isNone
 cases h:t.same T0
 ·simp
 ·have h':=h
  rw[Zty]at h'
  simp only[Bool.and_eq_true]at h'
  obtain⟨h1,_,_,_,h5⟩:=h'
  have hl:t.subs=[]:=by
   match h6:t.subs with
   | []=>rfl
   | x::l=>rw[h6]at h5;simp[T0,T.subs,Zei]at h5
  have bA:t.light=true:=by
   unfold T.light
   rw[Zbf,hl];simp[Zay]
  have h0:T0.light=true:=by decide
  rw[bA,h0]
  have:(t.k == 0)=true:=h1
  rw[this];rfl
theorem Zgy(t:T)(cs:List Value)(sa:Option Addr)(n sc:Nat)(i:Int)(m:Mem)(hr:RefT m t cs):CX Try.prog 64 #[.agg cs.toArray,.slice sa n sc,.int .i64 i] m [] (Ret (.int .i64 (t.wrong n i))):=by
 have hl:=hr.len
 apply ZiM
 unfold Zfq
 refine Zaa (by rw[hl];rfl) fun b m1 aW _=>⟨!t.isNone&&!(t.check == 0),?_,Zab (fun h=>Zac aW ?_) (fun h=>ZaG (fun h2=>Zac aW ?_) (fun h2=>⟨decide (i < 0)||decide (i > n),?_,Zab (fun h3=>Zac aW ?_) (fun h3=>Zac aW ?_)⟩))⟩
 ·have hz:(Value.int .i64 0::(List.replicate 256 (Value.int .i64 0)++[.int .i64 0,.int .i64 0,.slice none 0 0]))=rcs 0 (0,0,0,0) 0 0 none 0 0:=by rw[ZmF];rfl
  have hc:=ZtA t T0 cs _ m1 (hr.mono aW) (Zv4 m1)
  rw[←hz,←ZrM]at hc
  refine Zak hc fun m2 aY=>Zab (fun h=>?_) (fun h=>⟨by trivial,?_⟩)
  ·refine Zat (ZkK t cs m2 ((hr.mono aW).mono aY)) fun m3 bR=>⟨by trivial,?_⟩
   rw[h,Bool.true_and]
  ·rw[h,Bool.false_and]
 ·rw[T.wrong,if_pos h]
 ·rw[T.wrong,if_neg (by rw[h];exact Bool.false_ne_true),if_pos h2]
 ·refine Zab (fun h4=>⟨by trivial,?_⟩) (fun h4=>⟨by trivial,?_⟩)
  ·rw[h4];rfl
  ·rw[h4];rfl
 ·rw[T.wrong,if_neg (by rw[h];exact Bool.false_ne_true),if_neg h2,if_pos (by simpa using h3)]
 ·rw[T.wrong,if_neg (by rw[h];exact Bool.false_ne_true),if_neg h2,if_neg (by simpa using h3)]
end Go.Proofs.Ythiefodednaikaa
set_option linter.unusedVariables false
set_option linter.unusedSimpArgs false
namespace Go.Proofs.Ythiefodednaikaa
open Go Go.Eng Go.Rx Go.Proofs Go.RowKit
set_option maxRecDepth 100000
end Go.Proofs.Ythiefodednaikaa
set_option linter.unusedVariables false
set_option linter.unusedSimpArgs false
namespace Go.Proofs.Ythiefodednaikaa
open Go Go.Eng Go.Rx Go.Proofs Go.RowKit
set_option maxRecDepth 100000
def Zwx(l:List Nat):RT:=fun v m' _=>∃a c,v=.slice a l.length c∧Byt m' a l
theorem Zpi{l:List Nat}:∀(v:Value)(m':Mem) (css:List (List Value)),Zwx l v m' css→Shape.fits .slice v=true:=fun v _ _ ⟨a,c,h,_⟩=>by rw[h];rfl
theorem Zql{m:Mem}{a:Option Addr}{L:List Nat}(h:Byt m a L):rowRd m a (L.map fun c:Nat=>Value.int .u8 c):=by
 rcases h.1 with h|h
 ·exact .inl (by rw[h];rfl)
 ·exact .inr h
theorem Zpj(bs:List Nat)(a:Option Addr)(c:Nat)(m:Mem)(h:Byt m a bs)(hl:bs.length≤100000):CX Try.prog 57 #[.slice a bs.length c] m [] (Zwx bs):=by
 have cJ:=Zql h
 refine CXT.toCX (esz:=1) ?_
 apply Zb4
 unfold Zbt
 refine Zab (fun hz=>?_) (fun hz=>⟨⟨rfl,Int.le_refl _,by decide,by decide⟩,fun b hb=>⟨.inl rfl,[],bs.map fun c:Nat=>Value.int .u8 c,rfl,by rw[List.length_map];omega,.inl rfl,cJ,fun u hu=>?_,by omega,by omega,fun a' c' m' hm' hr nn=>⟨rfl,a',c',by rw[Nat.zero_add],?_,h.2⟩⟩⟩)
 ·have o7:bs=[]:=by
   rcases h.1 with h1|⟨b,o,h1,_⟩
   ·exact h1
   ·rw[h1]at hz;simp at hz
  subst o7
  exact⟨rfl,none,0,rfl,.inl rfl,by simp⟩
 ·obtain⟨i,_,rfl⟩:=List.mem_map.1 hu
  rfl
 ·rcases hr with hr|hr
  ·left
   have:=congrArg List.length hr
   simp at this;exact this
  ·exact .inr hr
def mkB(l:List Nat):ByteArray:=⟨(l.map UInt8.ofNat).toArray⟩
theorem Zpk{l:List Nat}(h:∀c∈l,c < 256):ZcU (mkB l)=l:=by
 unfold ZcU mkB
 simp only[List.map_map]
 have:l.map ((fun b:UInt8=>b.toNat)∘UInt8.ofNat)=l.map id:=by
  refine List.map_congr_left fun c hc=>?_
  have:=h c hc
  simp[UInt8.toNat_ofNat',Nat.mod_eq_of_lt this]
 rw[this,List.map_id]
theorem Zpl(bs:List Nat)(a b:Option Addr)(c d:Nat)(m:Mem)(hl:Byt m a bs)(hr:Byt m b bs):CX Try.prog 62 #[.slice a bs.length c,.slice b bs.length d] m [] (Ret (.bool true)):=by
 apply ZiH
 unfold Zfm
 have e:=Zpk hl.2
 have hs:(mkB bs).size=bs.length:=by rw[←Zly,e]
 refine⟨mkB bs,hs,by rw[Zgt,e];exact Zql hl,mkB bs,hs,by rw[Zgt,e];exact Zql hr,Zac (Mem.le_refl _) ?_⟩
 simp
end Go.Proofs.Ythiefodednaikaa
set_option linter.unusedVariables false
set_option linter.unusedSimpArgs false
namespace Go.Proofs.Ythiefodednaikaa
open Go Go.Eng Go.Rx Go.Proofs Go.RowKit
set_option maxRecDepth 100000
theorem Zu5{m:Mem}{r:Rg}{cs:List Value}(h:RgR m r cs){K:Value→Prop}(k:K (.bool r.bg)):Eng.ZrO cs 0 K:=by
 obtain⟨ds,rfl,_⟩:=h
 exact Zag rfl k
theorem Zu6{m:Mem}{r:Rg}{cs:List Value}(h:RgR m r cs){K:Value→Prop}(k:K (.bool r.en)):Eng.ZrO cs 1 K:=by
 obtain⟨ds,rfl,_⟩:=h
 exact Zag rfl k
theorem ZhO{r:Rg}{cs:List Value}{m:Mem}(hr:RgR m r cs){g:Nat→Nat→Bool}{n:Nat}{a1:Option Addr}{c1:Nat}{bs:Nat→Nat}(dW:Tab m g n n a1 bs)(hn:n≤1000000){i:Nat}(hi:i < n):
  CX Try.prog 86 #[.agg cs.toArray,.slice a1 n c1,.int .i64 i] m [] (fun v _ _=>∃z,v=.int .i64 z∧ZwV r.bg r.en g n i z):=by
 apply ZeV
 unfold ZcJ
 have hw:IntKind.i64.wrap ((n:Int) - 1)=(n:Int) - 1:=Zap (by omega) (by omega)
 rw[hw]
 refine Zaa (by rw[hr.len];rfl) fun b m1 aW _=>⟨r.en&&decide (i+1 < n),Zu6 hr ⟨r.en,rfl,Zab (fun h=>⟨by trivial,?_⟩) (fun h=>⟨by trivial,?_⟩)⟩,Zab (fun h=>?_) (fun h=>?_)⟩
 ·rw[h,Bool.true_and]
  have:decide ((i:Int) < (n:Int) - 1)=decide (i+1 < n):=decide_eq_decide.2 (by omega)
  rw[this]
 ·rw[h,Bool.false_and]
 ·exact⟨m1,aW,Mem.le_refl _,_,rfl,.inl ⟨rfl,.inl (by simpa using h)⟩⟩
 ·have gw:¬(r.en=true∧i+1 < n):=fun hc=>by rw[hc.1,decide_eq_true hc.2]at h;cases h
  refine⟨fun xs _ _ m' q=>∃k:Nat,k≤i+1∧xs=[.int .i64 k]∧(∀j,j < k→ZuL r.bg g i j=false)∧q=i+1 - k,⟨_,0,Nat.zero_le _,rfl,fun j h=>by omega,rfl⟩,?_⟩
  rintro z m2 q aY ⟨k,hk,hz,bM,hq⟩
  obtain rfl:z=k:=by simpa using hz
  subst hq
  have jK:=Mem.le_trans aW aY
  refine ZaG (fun cI=>?_) (fun jm=>⟨m2,jK,Mem.le_refl _,_,rfl,.inl ⟨rfl,.inr fun j hj=>bM j (by omega)⟩⟩)
  have jn:k≤i:=by omega
  obtain⟨b6,o6,e6,h6⟩:=(dW.mono jK).get (i:=k) (by omega)
  have h7:=(dW.mono jK).cell (i:=k) (j:=i) (by omega) hi
  rw[Int.toNat_natCast,Int.toNat_natCast]
  refine⟨ZuL r.bg g i k,⟨b6,o6,e6,⟨by omega,by omega⟩,_,h6,Zaa rfl ⟨bs k,0,rfl,⟨by omega,by simp only[slN];omega⟩,_,h7,Zaa rfl (Zab (fun hv=>Ze0 (fun h0=>⟨by trivial,?_⟩) (fun h0=>Zu5 hr ⟨r.bg,rfl,by trivial,?_⟩)) (fun hv=>⟨by trivial,?_⟩))⟩⟩,Zab (fun hb=>⟨m2,jK,Mem.le_refl _,_,rfl,.inr ⟨k,rfl,jn,gw,hb,bM⟩⟩) (fun hb=>⟨by trivial,_,by omega,k+1,by omega,by rw[Zap (by omega) (by omega)];rfl,fun j hj=>?_,rfl⟩)⟩
  ·rw[ZiX]at hv
   have:k=0:=by omega
   subst this
   unfold ZuL
   rw[hv];rfl
  ·rw[ZiX]at hv
   have:(k == 0)=false:=by simpa using(fun e:k=0=>h0 (by omega))
   unfold ZuL
   rw[hv,this];rfl
  ·rw[ZiX]at hv
   unfold ZuL
   rw[hv];rfl
  ·by_cases e:j=k
   ·subst e;exact hb
   ·exact bM j (by omega)
theorem ZkL{r:Rg}{cs:List Value}{m:Mem}(hr:RgR m r cs)(sa:Option Addr)(n sc:Nat)(i:Int):CX Try.prog 58 #[.agg cs.toArray,.slice sa n sc,.int .i64 i] m [] (Ret (.int .i64 (Rg.wrong r n i))):=by
 have hl:=hr.len
 apply Zey
 unfold Zcj
 refine Zaa (by rw[hl];rfl) fun b m1 aW _=>Zaa (by rw[hl];rfl) ?_
 refine Zat (ZkK r.t _ m1 (hr.root.mono aW)) fun m2 aY=>Zab (fun h=>Zac (Mem.le_trans aW aY) ?_) (fun h=>Zaa (by rw[hl];rfl) ?_)
 ·have:¬r.t.check=0:=by simpa using h
  unfold Rg.wrong;rw[if_neg this]
 ·have:r.t.check=0:=by simpa using h
  refine Zat (Zgy r.t _ sa n sc i m2 ((hr.root.mono aW).mono aY)) fun m3 bR=>Zac (Mem.le_trans aW (Mem.le_trans aY bR)) ?_
  unfold Rg.wrong;rw[if_pos this]
theorem Zpm{r:Rg}{cs:List Value}{m:Mem}(hr:RgR m r cs)(hg:r.t.good=true)(s:List Nat)(sa:Option Addr)(sc:Nat)(hs:s.length≤512)(hb:Byt m sa s){n:Nat}(hn:n≤s.length):
  CX Try.prog 59 #[.agg cs.toArray,.slice sa s.length sc,.int .i64 n] m [] (Ret (.int .i64 (Zrq (r.from s n)))):=by
 have hl:=hr.len
 apply Zks
 unfold Zgu
 refine Zaa (by rw[hl];rfl) fun b m1 aW _=>⟨fun j _ mm=>if j=4 then Zqh mm (Zmn (r.t.M s)) (s.length+1)else(fun v _ _=>∃z,v=.int .i64 z∧ZwV r.bg r.en (Zmn (r.t.M s)) (s.length+1) n z),Zaa (by rw[hl];rfl) ⟨Zqh m1 (Zmn (r.t.M s)) (s.length+1),rfl,Zqj s sa sc (by omega) r.t _ m1 (hr.root.mono aW) hg (hb.mono aW),(fun v _ _ ⟨_,_,_,e,_⟩=>by rw[e];rfl),?_⟩⟩
 rintro a n' c m2 aY ⟨a',c',bs,e,dW,_⟩
 simp only[Value.slice.injEq]at e
 obtain⟨rfl,rfl,rfl⟩:=e
 refine⟨_,rfl,ZhO (hr.mono (Mem.le_trans aW aY)) dW (by omega) (i:=n) (by omega),(fun v _ _ ⟨z,e,_⟩=>by rw[e];rfl),?_⟩
 rintro z m3 bR ⟨z',e,hz⟩ M dD cW ic
 simp only[Value.int.injEq,true_and]at e
 subst e
 exact Zac (Mem.le_trans aW dD) (by rw[ZnT hg hs hn hz])
end Go.Proofs.Ythiefodednaikaa
set_option linter.unusedVariables false
set_option linter.unusedSimpArgs false
namespace Go.Proofs.Ythiefodednaikaa
open Go Go.Eng Go.Rx Go.Proofs Go.RowKit
set_option maxRecDepth 100000
theorem Zv5(x y:Value)(cs:List Value)(h:cs.length=260):Zaj (Zaj (Zaj Zao 0 [x]) 1 [y]) 2 cs=x::y::cs:=by
 have e:Zaj (Zaj Zao 0 [x]) 1 [y]=x::y::Zao.drop 2:=rfl
 have hl:(Zao.drop 2).length=260:=rfl
 rw[e]
 unfold Zaj
 have hd:List.drop (2+cs.length) (x::y::Zao.drop 2)=[]:=List.drop_eq_nil_of_le (by rw[List.length_cons,List.length_cons,hl,h];omega)
 rw[hd]
 show([x,y]++cs)++[]=_
 rw[List.append_nil];rfl
theorem Zv6(x:Value):(Zaj Zao 0 [x]).length=262:=rfl
theorem Zv7(x y:Value):(Zaj (Zaj Zao 0 [x]) 1 [y]).length=262:=rfl
def Zwy(l:List Rg):RT:=fun v m' _=>∃a c css,v=.slice a l.length c∧RgsR m' a l css
theorem ZtB{l:List Rg}:∀(v:Value)(m':Mem) (css:List (List Value)),Zwy l v m' css→Shape.fits .slice v=true:=fun v _ _ ⟨a,c,_,h,_⟩=>by rw[h];rfl
set_option maxHeartbeats 1600000 in
theorem Zof(l:List Rg)(al:Option Addr)(cl:Nat)(m:Mem)(hl:Rgs m al l)(hn:l.length≤1000)(bT:∀r∈l,r.t.nodes.length≤1000000):CX Try.prog 56 #[.slice al l.length cl] m [] (Zwy l):=by
 apply ZhC
 unfold ZeA
 refine⟨fun xs _ tvs m' q=>∃(k:Nat)(a:Option Addr)(c:Nat) (css:List (List Value)),k≤l.length∧xs=[.slice a k c,.int .i64 k]∧tvs=[.slice a k c]∧RgsR m' a (l.take k) css∧q=l.length - k,
  ⟨_,0,none,0,[],Nat.zero_le _,rfl,rfl,⟨rfl,fun i cs h=>by simp at h,.inl rfl⟩,rfl⟩,?_⟩
 rintro a n1 c z a1 n2 c1 m2 q aY ⟨k,a',c',css,hk,hz,ht,hR,hq⟩
 simp only[List.cons.injEq,Value.slice.injEq,Value.int.injEq,true_and,and_true]at hz ht
 obtain⟨⟨rfl,rfl,rfl⟩,rfl⟩:=hz
 obtain⟨rfl,rfl,rfl⟩:=ht
 subst hq
 refine ZaG (fun bA=>?_) (fun cN=>?_)
 ·have aX:n2 < l.length:=by omega
  obtain⟨r,hr⟩:=Zbg aX
  have bZ:=List.mem_of_getElem? hr
  have fU:=hl.mono aY
  rcases fU.2.1 with e|⟨b,o,ha,cH⟩
  ·rw[e]at aX;simp at aX
  have mQ:=cH n2 r hr
  rw[Int.toNat_natCast]
  refine⟨b,o,ha,⟨by omega,by omega⟩,.bool r.bg,.bool r.en,.int .u8 r.t.k,.int .u64 r.t.s0,.int .u64 r.t.s1,.int .u64 r.t.s2,.int .u64 r.t.s3,.int .i64 r.t.mn,.int .i64 r.t.mx,.slice r.t.a r.t.subs.length r.t.c,mQ,fun b3=>Zaa rfl ⟨fun _ _ _=>(fun v m' _=>∃cs:List Value,v=.agg cs.toArray∧RefT m' r.t cs),_,rfl,ZrG r.t m2 (fU.2.2 r bZ) (bT r bZ),fun v _ _ ⟨_,h,_⟩=>by rw[h];rfl,?_⟩⟩
  rintro cs m3 bR ⟨cs',hv,eV⟩
  simp only[Value.agg.injEq,Array.mk.injEq]at hv
  subst hv
  have ie:=eV.len
  refine Zaa rfl (Zaa (by show(true&&Nat.ble 2 (Zaj Zao 0 [Value.bool r.bg]).length)=true;rw[Zv6];rfl) (Zaa (by rw[ie];show(true&&Nat.ble 262 (Zaj (Zaj Zao 0 [Value.bool r.bg]) 1 [Value.bool r.en]).length)=true;rw[Zv7];rfl) ?_))
  generalize hX:Zaj (Zaj (Zaj Zao 0 _) 1 _) 2 cs=X
  obtain rfl:X=.bool r.bg::.bool r.en::cs:=by rw[←hX];exact Zv5 _ _ _ ie
  have qA:∀M,m3.le M→RgR M r (.bool r.bg::.bool r.en::cs):=fun M hM=>⟨cs,rfl,eV.mono hM⟩
  refine Zaa (by simp[ie]) fun b5 mG=>?_
  have gR:=Mem.le_add mG (List.append (Value.bool r.bg::Value.bool r.en::cs) [])
  have dS:rowRd (m3.add b5 (List.append (Value.bool r.bg::Value.bool r.en::cs) [])) (some ⟨b5,0,none⟩) (Value.bool r.bg::Value.bool r.en::cs):=.inr ⟨b5,0,rfl,fun j u hj=>by rw[Nat.zero_add,Mem.add_same];show((Value.bool r.bg::Value.bool r.en::cs)++[])[j]?=_;rw[List.append_nil];exact hj⟩
  have py:=ZnU hR.sizes
  have qB:=hR.len
  rw[List.length_take,Nat.min_eq_left (by omega)]at qB
  refine⟨.inl (by trivial),css.flatten,Value.bool r.bg::Value.bool r.en::cs,by rw[py,qB],by simp[ie],(hR.row.mono bR).mono gR,dS,(qA m3 (Mem.le_refl _)).one,by omega,by omega,fun a7 c7 m7 eA j5 M2 nk pz sD pA=>⟨l.length - (n2+1),by omega,n2+1,a7,c7,css++[Value.bool r.bg::Value.bool r.en::cs],by omega,?_,rfl,?_,rfl⟩⟩
  ·rw[Zap (by omega) (by omega)];rfl
  ·have e:l.take (n2+1)=l.take n2++[r]:=by rw[List.take_add_one,hr];rfl
   rw[e]
   exact(hR.mono nk).snoc (qA M2 pz) (j5.mono pA)
 ·have:n2=l.length:=by omega
  subst this
  rw[List.take_length]at hR
  exact⟨m2,aY,Mem.le_refl _,_,_,css,rfl,hR⟩
theorem Zlz{m:Mem}{b p:Nat}{cs:List Value}(h:m.reads b p cs):m.reads b (p+2) ((cs.drop 2).take 260):=fun j v hj=>by
 have h2:(cs.drop 2)[j]?=some v:=by
  rw[List.getElem?_take]at hj
  split at hj
  ·exact hj
  ·cases hj
 rw[List.getElem?_drop]at h2
 rw[Nat.add_assoc]
 exact h _ v h2
theorem Zqm{m:Mem}{r:Rg}{cs:List Value}(h:RgR m r cs):((cs.drop 2).take 260).length=260:=by rw[h.root.len]
theorem Zv8(m:Mem):RefT m T1 (rcs 1 (0,0,0,0) 0 0 none 0 0):=ZbO.2 ⟨⟨⟨by decide,by decide⟩,⟨by decide,by decide⟩,⟨by decide,by decide⟩,⟨by decide,by decide⟩,⟨by decide,by decide⟩,⟨by decide,by decide⟩,⟨by decide,by decide⟩⟩,by decide,none,0,[],rfl,.inl rfl,by simp only[T1,T.subs,RefAt]⟩
theorem Zgz(l:List Rg)(al:Option Addr)(cl:Nat)(css:List (List Value))(sa:Option Addr)(n sc:Nat)(i:Int)(m:Mem)(hl:RgsR m al l css)(hn:l.length≤1000):CX Try.prog 60 #[.slice al l.length cl,.slice sa n sc,.int .i64 i] m [] (Ret (.int .i64 (ZaY l n i))):=by
 apply Zez
 unfold Zck
 refine ZaG (fun h=>Zac (Mem.le_refl _) ?_) (fun gF=>?_)
 ·unfold ZaY;rw[if_pos h]
 refine⟨fun xs _ _ m' q=>∃k:Nat,k≤l.length∧xs=[.int .i64 k]∧(l.take k).all (fun r=>r.t.check == 0)=true∧m.le m'∧q=l.length - k,⟨_,0,Nat.zero_le _,rfl,rfl,Mem.le_refl _,rfl⟩,?_⟩
 rintro z m1 q _ ⟨k,hk,hz,bM,aW,hq⟩
 obtain rfl:z=k:=by simpa using hz
 subst hq
 refine ZaG (fun bA=>?_) (fun cN=>?_)
 ·have aX:k < l.length:=by omega
  obtain⟨r,hr⟩:=Zbg aX
  obtain⟨b,o,cs,ha,cH,hR⟩:=(hl.mono aW).get hr
  rw[Int.toNat_natCast]
  refine⟨b,o,ha,⟨by omega,by omega⟩,_,Zqm hR,Zlz cH,Zat (ZkK r.t _ m1 hR.root) fun m2 aY=>Zab (fun hc=>Zac (Mem.le_trans aW aY) ?_) (fun hc=>⟨l.length - (k+1),by omega,k+1,by omega,by rw[Zap (by omega) (by omega)];rfl,?_,Mem.le_trans aW aY,rfl⟩)⟩
  ·unfold ZaY
   rw[if_neg gF,if_neg]
   intro gP
   rw[List.all_eq_true]at gP
   have:=gP r (List.mem_of_getElem? hr)
   rw[this]at hc;cases hc
  ·rw[List.take_add_one,hr,Option.toList_some,List.all_append,bM]
   have:(r.t.check == 0)=true:=by rw[←Bool.not_not (_ == _),hc];rfl
   simp[this]
 ·have:k=l.length:=by omega
  subst this
  rw[List.take_length]at bM
  have hz:(Value.int .i64 1::(List.replicate 256 (Value.int .i64 0)++[.int .i64 0,.int .i64 0,.slice none 0 0]))=rcs 1 (0,0,0,0) 0 0 none 0 0:=by rw[ZmF];rfl
  have hc:=Zgy T1 _ sa n sc i m1 (Zv8 m1)
  rw[←hz]at hc
  refine Zat hc fun m2 aY=>Zac (Mem.le_trans aW aY) ?_
  unfold ZaY
  rw[if_neg gF,if_pos bM]
end Go.Proofs.Ythiefodednaikaa
