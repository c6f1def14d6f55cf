/- Part of the proof: conditions and contracts of functions of this program. No condition of its own. -/
import Derived.Test.YthiefodednaikaaPC08A
import Derived.Test.YthiefodednaikaaPVRT
import Derived.Test.YthiefodednaikaaMr
import Derived.Test.YthiefodednaikaaPVRU
import Derived.Test.YthiefodednaikaaPC13G
set_option linter.unusedVariables false
set_option linter.unusedSimpArgs false
namespace Go.Proofs.Ythiefodednaikaa
open Go Go.Eng Go.Rx Go.Proofs Go.RowKit
set_option maxRecDepth 100000
theorem Zsd(k:Int)(q:QS):List.drop (1+(ZaL q).length) (Zap k)=[.int .i64 0,.int .i64 0,.slice none 0 0]:=by rw[Zaq];rfl
theorem ZvK(k:Int)(q:QS):Zar (Zap k) 1 (ZaL q)=rcs (IntKind.i64.wrap k) q 0 0 none 0 0:=by
 unfold Zar
 rw[Zsd];rfl
theorem ZwH(k:Int)(q:QS)(mn mx x:Int)(a:Option Addr)(n c:Nat):Zar (rcs k q mn mx a n c) 257 [.int .i64 x]=rcs k q x mx a n c:=by
 have e:rcs k q mn mx a n c=(.int .i64 k::ZaL q)++[.int .i64 mn,.int .i64 mx,.slice a n c]:=rfl
 have hl:(Value.int .i64 k::ZaL q).length=257:=by simp[Zaq]
 unfold Zar
 rw[e,List.take_left' hl,List.drop_append,hl,List.drop_eq_nil_of_le (by rw[hl];simp)]
 simp[rcs]
theorem ZwI(k:Int)(q:QS)(mn mx x:Int)(a:Option Addr)(n c:Nat):Zar (rcs k q mn mx a n c) 258 [.int .i64 x]=rcs k q mn x a n c:=by
 have e:rcs k q mn mx a n c=(Value.int .i64 k::ZaL q++[Value.int .i64 mn])++[Value.int .i64 mx,Value.slice a n c]:=by simp[rcs]
 have hl:(Value.int .i64 k::ZaL q++[Value.int .i64 mn]).length=258:=by simp[Zaq]
 unfold Zar
 rw[e,List.take_left' hl,List.drop_append,hl,List.drop_eq_nil_of_le (by rw[hl];simp)]
 simp[rcs]
theorem ZwJ(k:Int)(q:QS)(mn mx:Int)(a:Option Addr)(n c:Nat)(a':Option Addr)(n' c':Nat):Zar (rcs k q mn mx a n c) 259 [.slice a' n' c']=rcs k q mn mx a' n' c':=by
 have e:rcs k q mn mx a n c=(Value.int .i64 k::ZaL q++[Value.int .i64 mn,Value.int .i64 mx])++[Value.slice a n c]:=by simp[rcs]
 have hl:(Value.int .i64 k::ZaL q++[Value.int .i64 mn,Value.int .i64 mx]).length=259:=by simp[Zaq]
 unfold Zar
 rw[e,List.take_left' hl,List.drop_eq_nil_of_le (by rw[List.length_append,hl];simp)]
 simp[rcs]
theorem Zmj{l:List Value}(h:∀u∈l,u.oneCell'=true):Zca l=true:=by
 induction l with
 | nil=>rfl
 | cons u l ih=>simp only[Zca,h u (by simp),Bool.true_and];exact ih fun x hx=>h x (by simp[hx])
theorem ZwK(q:QS)(x y z:Value):List.take 256 (List.append (ZaL q) [x,y,z])=ZaL q:=List.take_left' (Zaq q)
theorem ZwL(q:QS)(x y z:Value):List.drop 257 (List.append (ZaL q) [x,y,z])=[y,z]:=by
 show List.drop 257 (ZaL q++[x,y,z])=_
 rw[List.drop_append,Zaq,List.drop_eq_nil_of_le (by rw[Zaq];omega)];rfl
theorem ZwM(q:QS)(x:Value)(l:List Value):List.append (List.append (ZaL q) [x]) l=ZaL q++(x::l):=by
 show(ZaL q++[x])++l=_
 simp
theorem ZwN(q:QS)(x y z:Value):List.take 257 (ZaL q++[x,y,z])=ZaL q++[x]:=by
 rw[List.take_append,Zaq,List.take_of_length_le (by rw[Zaq];omega)];rfl
theorem ZwO(q:QS)(x y z:Value):List.drop 258 (ZaL q++[x,y,z])=[z]:=by
 rw[List.drop_append,Zaq,List.drop_eq_nil_of_le (by rw[Zaq];omega)];rfl
set_option maxHeartbeats 1600000 in
theorem Zrk:∀(t:T)(m:Mem),Rep m t→t.nodes.length≤1000000→CX Try.prog 63 #[t.v] m [] (fun v m' _=>∃cs,v=.agg cs.toArray∧RefT m' t cs):=by
 intro t
 induction hn:SizeOf.sizeOf t using Nat.strongRecOn generalizing t with
 | ind n ih=>
 intro m hr bW
 have fP:=ZkV t
 obtain⟨bP,cB⟩:=ZdF hr
 have cA:=ZsA hr
 have hq:=Zuq cA
 apply Zhy
 unfold ZeE
 intro b m1 aW _ b1
 refine⟨fun _ _ _=>Ret (.agg (ZaL t.q).toArray),_,rfl,Ztg t.q hq m1,fun v _ _ h=>by rw[h];rfl,?_⟩
 intro cs m2 aY hv
 have hv:Value.agg (Array.mk cs)=.agg (ZaL t.q).toArray:=hv
 simp only[Value.agg.injEq,Array.mk.injEq]at hv
 subst hv
 have su:IntKind.i64.wrap t.k=t.k:=Zan (by have:=cA.k.1;omega) (by have:=cA.k.2;omega)
 generalize hd:List.drop _ (Zap t.k)=d
 obtain rfl:d=[.int .i64 0,.int .i64 0,.slice none 0 0]:=by rw[←hd];exact Zsd t.k t.q
 clear hd
 generalize he:List.append (List.append (List.take 256 (List.append (ZaL t.q) _)) _) _=e
 obtain rfl:e=ZaL t.q++[.int .i64 t.mn,.int .i64 0,.slice none 0 0]:=by
  rw[←he]
  exact(congr (congrArg (fun u w=>List.append (List.append u [Value.int .i64 t.mn]) w) (ZwK _ _ _ _)) (ZwL _ _ _ _)).trans (ZwM _ _ _)
 clear he
 generalize hf:List.append (List.append (List.take 257 _) _) _=f
 obtain rfl:f=((ZaL t.q++[.int .i64 t.mn])++[.int .i64 t.mx])++[.slice none 0 0]:=by
  rw[←hf]
  exact congr (congrArg (fun u w=>List.append (List.append u [Value.int .i64 t.mx]) w) (ZwN _ _ _ _)) (ZwO _ _ _ _)
 clear hf
 refine Zaa (by rw[Zaq];rfl) (Zaa (by simp[Zaq]) (Zaa (by simp[Zaq]) fun b2=>Zaa ?_ ?_))
 ·rw[Bool.and_eq_true]
  refine⟨by simp[Zaq],Zmj fun u hu=>?_⟩
  simp only[List.append_assoc,List.mem_append,List.mem_cons,List.not_mem_nil,or_false]at hu
  rcases hu with hu|hu
  ·exact ZhZ _ u hu
  ·rcases hu with rfl|rfl|rfl <;> rfl
 intro M cY cT
 have kT:=Mem.le_trans aW cY
 refine⟨fun xs css tvs m' q=>∃(k:Nat)(a:Option Addr)(c:Nat) (R:List (List Value)),k≤t.subs.length∧xs=[.int .i64 k]∧css=[rcs t.k t.q t.mn t.mx a k c]∧tvs=[.slice a k c]∧m.le m'∧rowRd m' a R.flatten∧RefAt m' (t.subs.take k) R∧q=t.subs.length - k,
  ⟨_,0,none,0,[],Nat.zero_le _,rfl,?_,rfl,kT,.inl rfl,by simp only[List.take_zero,RefAt],rfl⟩,?_⟩
 ·rw[ZvK,ZwH,ZwI,su]
 rintro z cs a n1 c m3 q _ ⟨k,a',c',R,hk,hz,cS,iA,bQ,cC,dP,k7⟩
 obtain rfl:z=k:=by simpa using hz
 obtain rfl:cs=rcs t.k t.q t.mn t.mx a' k c':=by simpa using cS
 simp only[List.cons.injEq,Value.slice.injEq,and_true]at iA
 obtain⟨rfl,rfl,rfl⟩:=iA
 subst k7
 refine Zab (fun bA=>?_) (fun cM=>?_)
 ·have aX:n1 < t.subs.length:=by have:=of_decide_eq_true bA;omega
  obtain⟨x,hx⟩:=Zb1 aX
  rcases cB with hs|⟨bb,o,ha,py⟩
  ·rw[hs]at aX;simp at aX
  have hg:=py.get hx
  have fN:=Zg3 (List.mem_of_getElem? hx)
  have eM:=Zek (List.mem_of_getElem? hx)
  refine⟨bb,o,ha,⟨by omega,by omega⟩,.int .u8 x.k,.int .u64 x.s0,.int .u64 x.s1,.int .u64 x.s2,.int .u64 x.s3,.int .i64 x.mn,.int .i64 x.mx,.slice x.a x.subs.length x.c,(by rw[Int.toNat_natCast];exact fun j v hv=>bQ _ _ _ (hg.1 j v hv)),fun b4=>Zaa rfl ⟨fun _ _ _=>(fun v m' _=>∃cs:List Value,v=.agg cs.toArray∧RefT m' x cs),ZaO ⟨_,rfl,ih _ (by omega) x rfl m3 (hg.2.mono bQ x) (by omega),fun v _ _ ⟨_,h,_⟩=>by rw[h];rfl,?_⟩⟩⟩
  intro cs1 m4 cG hR
  obtain⟨cs2,kU,fS⟩:∃cs,Value.agg (Array.mk cs1)=.agg cs.toArray∧RefT m4 x cs:=hR
  simp only[Value.agg.injEq,Array.mk.injEq]at kU
  subst kU
  have mC:=fS.len
  refine Zaa (by rw[mC];rfl) fun b5 sw=>Zaa rfl ?_
  have mo:=Mem.le_add sw (List.append cs1 [])
  have dW:rowRd (m4.add b5 (List.append cs1 [])) (some ⟨b5,0,none⟩) cs1:=.inr ⟨b5,0,rfl,fun j u hj=>by rw[Nat.zero_add,Mem.add_same];show(cs1++[])[j]?=_;rw[List.append_nil];exact hj⟩
  have nm:=ZpJ dP.all
  have qs:=dP.len
  rw[List.length_take,Nat.min_eq_left (by omega)]at qs
  refine⟨.inl rfl,R.flatten,cs1,by rw[nm,qs];rfl,by rw[mC],(cC.mono cG).mono mo,dW,fS.one,by simp only[slN];omega,by simp only[slN];omega,fun a7 c7 m7 dZ nk=>Zaa (by rw[Zg6];rfl) fun M2 qt sx sZ sy=>⟨by trivial,t.subs.length - (n1+1),by omega,n1+1,a7,c7,R++[cs1],by omega,?_,?_,rfl,Mem.le_trans bQ qt,?_,?_,rfl⟩⟩
  ·rw[Zan (by omega) (by omega)];rfl
  ·simp only[slN]
   rw[ZwJ]
  ·rw[List.flatten_append,List.flatten_singleton];exact nk.mono sy
  ·have e:t.subs.take (n1+1)=t.subs.take n1++[x]:=by rw[List.take_add_one,hx];rfl
   rw[e]
   exact(dP.mono qt).snoc (fS.mono sx)
 ·have:n1=t.subs.length:=by have:=of_decide_eq_false cM;omega
  subst this
  rw[List.take_length]at dP
  refine Zaa (by rw[Zg6,Zmj (ZrY _ _ _ _ _ _ _)];rfl) ⟨m3,bQ,Mem.le_refl _,_,rfl,ZbN.2 ⟨cA,by omega,a,c,R,rfl,cC,dP⟩⟩
theorem ZoT:∀(t:T)(cs:List Value)(m:Mem),RefT m t cs→t.nodes.length≤1000000→CX Try.prog 124 #[.agg cs.toArray] m [] (Ret (.int .i64 (t.gr:Nat))):=by
 intro t
 induction hn:SizeOf.sizeOf t using Nat.strongRecOn generalizing t with
 | ind n ih=>
 intro cs m hr bW
 obtain⟨_,bP,a,c,css,rfl,cC,dP⟩:=ZbN.1 hr
 have kP:=ZwB t
 have cM:=ZvA t
 have fP:=ZkV t
 have loop:∀(k:Nat)(m2:Mem),k < t.subs.length→m.le m2→∃(b o:Nat)(cs2:List Value)(x:T),t.subs[k]?=some x∧a=some ⟨b,o,none⟩∧cs2.length=260∧m2.reads b (o+k*260) cs2∧CX Try.prog 124 #[.agg cs2.toArray] m2 [] (Ret (.int .i64 (x.gr:Nat))):=by
  intro k m2 hk aY
  obtain⟨x,hx⟩:=Zb1 hk
  obtain⟨bb,o,cs2,ha,cN,fS⟩:=Zg7 cC dP hx
  have eM:=Zek (List.mem_of_getElem? hx)
  have fN:=Zg3 (List.mem_of_getElem? hx)
  exact⟨bb,o,cs2,x,hx,ha,fS.len,cN.mono aY,ih _ (by omega) x rfl cs2 m2 (fS.mono aY) (by omega)⟩
 have gl:∀k,grL (t.subs.take k)≤1000000:=fun k=>by
  have h1:=ZvB (t.subs.take k)
  have h2:=Zns (l:=t.subs) k
  have h3:t.nodes.length=1+(Zav t.subs).length:=by rw[Za9,List.length_cons];omega
  omega
 apply ZhA
 unfold ZeG
 refine Zgq fun b m1 aW _=>ZaM (Zaa rfl (Zab (fun h6=>?_) (fun h6=>?_)))
 ·have h6':t.k=6:=by simpa[intOf]using h6
  rw[if_pos h6']at cM
  refine⟨fun xs _ _ m' q=>∃k:Nat,k≤t.subs.length∧xs=[.int .i64 ((1+grL (t.subs.take k):Nat):Int),.int .i64 k]∧m.le m'∧q=t.subs.length - k,⟨_,0,Nat.zero_le _,rfl,aW,rfl⟩,?_⟩
  rintro s z m2 q _ ⟨k,hk,hx,aY,hq⟩
  simp only[List.cons.injEq,Value.int.injEq,true_and,and_true]at hx
  obtain⟨rfl,rfl⟩:=hx
  subst hq
  refine ZaO (Zaa rfl (Zab (fun bA=>?_) (fun iq=>?_)))
  ·have aX:k < t.subs.length:=by have:=of_decide_eq_true bA;simp only[slN]at this;omega
   obtain⟨bb,o,cs2,x,hx,ha,gz,cN,eK⟩:=loop k m2 aX aY
   have h1:=gl k
   have h2:=gl (k+1)
   rw[ZjX hx]at h2
   refine ZaO (Zaa rfl ⟨bb,o,ha,⟨by omega,by simp only[slN];omega⟩,cs2,gz,(by rw[Int.toNat_natCast];exact cN),ZaB eK fun m3 bQ=>⟨by trivial,_,by omega,k+1,aX,?_,Mem.le_trans aY bQ,rfl⟩⟩)
   rw[ZjX hx,Zan (by omega) (by omega),Zan (by omega) (by omega)]
   simp only[List.cons.injEq,Value.int.injEq,true_and,and_true]
   omega
  ·have:k=t.subs.length:=by have:=of_decide_eq_false iq;simp only[slN]at this;omega
   subst this
   refine Zac aY ?_
   rw[List.take_length,←cM]
 ·have h6':¬t.k=6:=by simpa[intOf]using h6
  rw[if_neg h6',Nat.zero_add]at cM
  refine⟨fun xs _ _ m' q=>∃k:Nat,k≤t.subs.length∧xs=[.int .i64 ((grL (t.subs.take k):Nat):Int),.int .i64 k]∧m.le m'∧q=t.subs.length - k,⟨_,0,Nat.zero_le _,rfl,aW,rfl⟩,?_⟩
  rintro s z m2 q _ ⟨k,hk,hx,aY,hq⟩
  simp only[List.cons.injEq,Value.int.injEq,true_and,and_true]at hx
  obtain⟨rfl,rfl⟩:=hx
  subst hq
  refine ZaO (Zaa rfl (Zab (fun bA=>?_) (fun iq=>?_)))
  ·have aX:k < t.subs.length:=by have:=of_decide_eq_true bA;simp only[slN]at this;omega
   obtain⟨bb,o,cs2,x,hx,ha,gz,cN,eK⟩:=loop k m2 aX aY
   have h1:=gl k
   have h2:=gl (k+1)
   rw[ZjX hx]at h2
   refine ZaO (Zaa rfl ⟨bb,o,ha,⟨by omega,by simp only[slN];omega⟩,cs2,gz,(by rw[Int.toNat_natCast];exact cN),ZaB eK fun m3 bQ=>⟨by trivial,_,by omega,k+1,aX,?_,Mem.le_trans aY bQ,rfl⟩⟩)
   rw[ZjX hx,Zan (by omega) (by omega),Zan (by omega) (by omega)]
   simp only[List.cons.injEq,Value.int.injEq,true_and,and_true]
   omega
  ·have:k=t.subs.length:=by have:=of_decide_eq_false iq;simp only[slN]at this;omega
   subst this
   refine Zac aY ?_
   rw[List.take_length,←cM]
theorem ZoU(t:T)(cs:List Value)(m:Mem)(hr:RefT m t cs):CX Try.prog 110 #[.agg cs.toArray] m [] (Ret (.int .i64 t.groups)):=by
 have hl:=hr.len
 apply ZhB
 unfold ZeH
 refine Zaa (by rw[hl];rfl) fun b m1 aW _=>?_
 refine Zah (Zkp t cs m1 (hr.mono aW)) fun m2 aY=>Zab (fun h=>Zac (Mem.le_trans aW aY) ?_) (fun h=>?_)
 ·have:t.light=false:=by simpa using h
  unfold T.groups
  rw[this];rfl
 ·have h1:t.light=true:=by simpa using h
  have h2:t.nodes.length≤10000:=by unfold T.light at h1;simpa using h1
  refine ZaB (ZoT t cs m2 ((hr.mono aW).mono aY) (by omega)) fun m3 bQ=>Zac (Mem.le_trans aW (Mem.le_trans aY bQ)) ?_
  unfold T.groups
  rw[h1];rfl
theorem ZoV(mn mx:Int)(m:Mem):CX Try.prog 127 #[.int .i64 mn,.int .i64 mx] m [] (Ret (.bool (Zdj mn mx))):=by
 apply Zhz
 unfold ZeF
 rw[←ZwA]
 have n1:∀{p:Prop} [Decidable p],decide p=false→¬p:=fun h=>of_decide_eq_false h
 refine⟨!decide (0≤mn∧mn≤16),Zab (fun h=>?_) (fun h=>?_),Zab (fun h=>Zac (Mem.le_refl _) ?_) (fun h=>?_)⟩
 ·have:=of_decide_eq_true h
  rw[decide_eq_false (p:=0≤mn∧mn≤16) (by omega)];rfl
 ·have:=n1 h
  have e:decide (mn > 16)=!decide (0≤mn∧mn≤16):=by rw[Bool.eq_iff_iff];simp;omega
  rw[e]
 ·have:decide (0≤mn∧mn≤16)=false:=by rw[←Bool.not_not (decide _),h];rfl
  rw[this];rfl
 ·have:decide (0≤mn∧mn≤16)=true:=by rw[←Bool.not_not (decide _),h];rfl
  rw[this]
  refine Zab (fun h2=>Zac (Mem.le_refl _) (by rw[h2];rfl)) (fun h2=>⟨decide (0 < mx)&&(decide (mx < 17)&&(decide (mn≤mx)&&!(mn == 1&&mx == 1))),?_,Zac (Mem.le_refl _) (by rw[h2];rfl)⟩)
  refine Zab (fun a=>Zab (fun b=>Zab (fun c=>Zab (fun d=>?_) (fun d=>?_)) (fun c=>?_)) (fun b=>?_)) (fun a=>?_)
  all_goals simp_all
  all_goals omega
end Go.Proofs.Ythiefodednaikaa
set_option linter.unusedVariables false
set_option linter.unusedSimpArgs false
namespace Go.Proofs.Ythiefodednaikaa
open Go Go.Eng Go.Rx Go.Proofs Go.RowKit
set_option maxRecDepth 100000
theorem ZpW:List.replicate 256 (Value.int .i64 0)=ZaL (0,0,0,0):=by
 refine(List.eq_replicate_iff.2 ⟨Zaq _,fun u hu=>?_⟩).symm
 unfold ZaL at hu
 obtain⟨c,_,rfl⟩:=List.mem_map.1 hu
 have:ZtI (0,0,0,0) c=false:=by rw[Znp];unfold Zg5;split <;> simp
 unfold ZrX
 rw[this];rfl
theorem ZvL(t:T):decide (t.q=(0,0,0,0))=t.setZ:=by
 unfold T.q T.setZ
 rw[Bool.eq_iff_iff]
 simp[Prod.ext_iff,and_assoc]
theorem ZuO{t:T}(hq:QOk t.q)(mn mx:Int)(a:Option Addr)(n c:Nat):EqIs Try.prog 106 (.agg (List.take 256 (List.drop 1 (rcs t.k t.q mn mx a n c))).toArray) (.agg (List.replicate 256 (Value.int .i64 0)).toArray) t.setZ:=by
 rw[ZpI,ZpW,←ZvL]
 exact Zxa hq (by unfold QOk;exact⟨⟨by decide,by decide⟩,⟨by decide,by decide⟩,⟨by decide,by decide⟩,⟨by decide,by decide⟩⟩)
theorem Zti{m:Mem}{b o:Nat}{cs:List Value}(h:m.reads b o cs){v:Value}(hv:cs[0]?=some v):m b (o+0)=some v:=h 0 v hv
theorem ZaR{p:Prop} [Decidable p]{A B:Prop}(ht:p→A)(hf:¬p→B):br (decide p) A B:=Zab (fun h=>ht (of_decide_eq_true h)) (fun h=>hf (of_decide_eq_false h))
set_option maxHeartbeats 4000000 in
theorem Zrl:∀(t:T)(cs:List Value)(m:Mem),RefT m t cs→CX Try.prog 121 #[.agg cs.toArray] m [] (Ret (.bool t.good)):=by
 intro t
 induction hn:SizeOf.sizeOf t using Nat.strongRecOn generalizing t with
 | ind n ih=>
 intro cs m hr
 obtain⟨cA,bP,a,c,css,rfl,cC,dP⟩:=ZbN.1 hr
 have j1:=ZpM t
 apply ZiC
 unfold Zfn
 refine Zgq fun b m1 aW _ b1=>ZaM (Zaa rfl (Zab (fun h1=>Zac aW ?_) (fun h1=>ZaM (Zaa rfl (Zab (fun h2=>Zac aW ?_) (fun h2=>ZaM (Zaa rfl (Zaa (by rw[Zg6];rfl) ⟨t.setZ,ZuO (Zuq cA) _ _ _ _ _,Zab (fun h3=>Zac aW ?_) (fun h3=>⟨!(if t.k=5 then Zdj t.mn t.mx else t.mn == 0&&t.mx == 0),?_,Zab (fun h4=>Zac aW ?_) (fun h4=>ZaO (Zaa rfl ⟨!(if t.k < 3 then t.subs.length == 0 else if t.k < 5 then decide (2≤t.subs.length)else t.subs.length == 1),?_,Zab (fun h5=>Zac aW ?_) (fun h5=>?_)⟩))⟩)⟩))))))))
 ·have:t.k < 1:=of_decide_eq_true h1
  rw[j1,ZrZ,decide_eq_false (p:=1≤t.k) (by omega)];simp
 ·have:t.k > 6:=of_decide_eq_true h2
  rw[j1,ZrZ,decide_eq_false (p:=t.k≤6) (by omega)];simp
 ·have h3':(!(t.k == 2) == !t.setZ)=true:=h3
  have:((t.k == 2) == !t.setZ)=false:=by
   revert h3'
   cases t.k == 2 <;> cases t.setZ <;> decide
  rw[j1,ZrZ,this];simp
 ·refine ZaM (Zaa rfl (Zab (fun h=>ZeJ (ZhC ?_)) (fun h=>?_)))
  ·have h':t.k=5:=eq_of_beq h
   rw[if_pos h']
   refine Zah (ZoV t.mn t.mx m1) fun m2 aY=>Zab (fun hb=>⟨by trivial,by rw[hb]⟩) (fun hb=>ZaM (Zaa rfl (Zab (fun hk=>?_) (fun hk=>⟨by trivial,?_⟩))))
   ·exact absurd h' (by simpa[intOf]using hk)
   ·have:Zdj t.mn t.mx=true:=by rw[←Bool.not_not (Zdj _ _),hb];rfl
    rw[this];rfl
  ·have h':¬t.k=5:=fun e=>by rw[show(intOf (.int .i64 t.k) == 5)=(t.k == 5) from rfl,e]at h;cases h
   rw[if_neg h']
   refine ZaM (Zaa rfl (Zab (fun hk=>ZeJ (Zaa rfl (Zab (fun hm=>⟨by trivial,?_⟩) (fun hm=>ZhC (Zaa rfl ⟨by trivial,?_⟩))))) (fun hk=>?_)))
   ·have:(!t.mn == 0)=true:=hm
    cases hx:t.mn == 0 <;> simp_all
   ·have:(!t.mn == 0)=false:=hm
    show[Value.bool (!t.mx == 0)]=_
    cases hx:t.mn == 0 <;> simp_all
   ·have:(!t.k == 5)=false:=hk
    simp at this;exact absurd this h'
 ·rw[j1,ZrZ]
  have:(if t.k=5 then Zdj t.mn t.mx else t.mn == 0&&t.mx == 0)=false:=by rw[←Bool.not_not (ite _ _ _),h4];rfl
  rw[ZwA,this];simp
 ·obtain⟨K,hK⟩:∃K,K=t.k:=⟨_,rfl⟩
  obtain⟨N,hN⟩:∃N,N=t.subs.length:=⟨_,rfl⟩
  rw[←hK,←hN]
  refine ZaM (Zaa rfl (ZaR (fun g1=>ZaR (fun g2=>?_) (fun g2=>?_)) (fun g1=>?_)))
  ·(refine⟨by trivial,?_⟩;simp only[intOf,slN,decide_eq_true_eq,decide_eq_false_iff_not,gt_iff_lt,Int.not_lt]at *;(repeat' split) <;> first|omega|(simp;done)|(simp;omega)|(simp only[List.cons.injEq,Value.bool.injEq,and_true];rw[Bool.eq_iff_iff];simp;omega))
  all_goals refine ZaM (Zaa rfl (ZaR (fun g3=>ZaM (Zaa rfl (ZaR (fun g4=>ZaR (fun g5=>?_) (fun g5=>ZaM (Zaa rfl (ZaR (fun g6=>?_) (fun g6=>?_))))) (fun g4=>ZaM (Zaa rfl (ZaR (fun g6=>?_) (fun g6=>?_))))))) (fun g3=>ZaM (Zaa rfl (ZaR (fun g6=>?_) (fun g6=>?_))))))
  all_goals (refine⟨by trivial,?_⟩;simp only[intOf,slN,decide_eq_true_eq,decide_eq_false_iff_not,gt_iff_lt,Int.not_lt]at *;(repeat' split) <;> first|omega|(simp;done)|(simp;omega)|(simp only[List.cons.injEq,Value.bool.injEq,and_true];rw[Bool.eq_iff_iff];simp;omega))
 ·rw[j1,ZrZ]
  have:(if t.k < 3 then t.subs.length == 0 else if t.k < 5 then decide (2≤t.subs.length)else t.subs.length == 1)=false:=by rw[←Bool.not_not (ite _ _ _),h5];rfl
  rw[this];simp
 ·have hN:ZrZ t=true:=by
   have e1:decide (1≤t.k)=true:=by have:=of_decide_eq_false h1;exact decide_eq_true (by simp only[intOf]at this;omega)
   have e2:decide (t.k≤6)=true:=by have:=of_decide_eq_false h2;exact decide_eq_true (by simp only[intOf]at this;omega)
   have e3:((t.k == 2) == !t.setZ)=true:=by
    have h3':(!(t.k == 2) == !t.setZ)=false:=h3
    revert h3'
    cases t.k == 2 <;> cases t.setZ <;> decide
   have e4:(if t.k=5 then Zdj t.mn t.mx else t.mn == 0&&t.mx == 0)=true:=by rw[←Bool.not_not (ite _ _ _),h4];rfl
   have e5:(if t.k < 3 then t.subs.length == 0 else if t.k < 5 then decide (2≤t.subs.length)else t.subs.length == 1)=true:=by rw[←Bool.not_not (ite _ _ _),h5];rfl
   rw[ZrZ,ZwA,e1,e2,e3,e4,e5];rfl
  rw[hN,Bool.true_and]at j1
  refine⟨fun xs _ _ m' q=>∃k:Nat,k≤t.subs.length∧xs=[.int .i64 k]∧m.le m'∧((t.subs.take k).all fun x=>ZjW t.k x&&x.good)=true∧q=t.subs.length - k,⟨_,0,Nat.zero_le _,rfl,aW,rfl,rfl⟩,?_⟩
  rintro z m2 q _ ⟨k,hk,hx,aY,bS,hq⟩
  obtain rfl:z=k:=by simpa using hx
  subst hq
  refine Zab (fun bA=>?_) (fun cM=>?_)
  ·have aX:k < t.subs.length:=by have:=of_decide_eq_true bA;simp only[slN]at this;omega
   obtain⟨x,hx⟩:=Zb1 aX
   obtain⟨bb,o,cs2,ha,cN,fS⟩:=Zg7 cC dP hx
   have eM:=Zek (List.mem_of_getElem? hx)
   have mD:m2.reads bb (o+k*260) cs2:=cN.mono aY
   obtain⟨_,_,a2,c2,css2,sA,_,_⟩:=ZbN.1 fS
   have h0:cs2[0]?=some (.int .i64 x.k):=by rw[sA];exact Zmc _ _ _ _ _ _ _
   have fT:Zaf k (slN (.slice a t.subs.length c)):=⟨by omega,by simp only[slN];omega⟩
   have bX:∀{K:Prop},K→K:=fun h=>h
   have go:∀(P:Prop),(∀(m':Mem),m2.le m'→P)→True:=fun _ _=>trivial
   refine ZaO (Zaa rfl ⟨bb,o,ha,fT,.int .i64 x.k,Zti (by rw[Int.toNat_natCast];exact mD) h0,!(ZjW t.k x&&x.good),?_,Zab (fun hb=>Zac aY ?_) (fun hb=>⟨by trivial,_,by omega,k+1,aX,by rw[Zan (by omega) (by omega)];rfl,aY,?_,rfl⟩)⟩)
   ·repeat' (first|refine ZaM (Zaa rfl (Zab (fun _=>?_) (fun _=>?_)))|refine Zaa rfl (Zab (fun _=>?_) (fun _=>?_))|(refine And.intro rfl ?_;simp_all [intOf,ZjW];done))
    all_goals refine ZaO (Zaa rfl ⟨bb,o,ha,fT,cs2,fS.len,(by rw[Int.toNat_natCast];exact mD),Zah (ih _ (by omega) x rfl cs2 m2 (fS.mono aY)) fun m3 bQ=>?_⟩)
    all_goals (refine And.intro rfl ?_;simp_all [intOf,ZjW];done)
   ·have hb':(ZjW t.k x&&x.good)=false:=by rw[←Bool.not_not (ZjW _ _&&_),hb];rfl
    rw[j1]
    have:(t.subs.all fun x=>ZjW t.k x&&x.good)=false:=by
     rw[Bool.eq_false_iff]
     intro hh
     rw[List.all_eq_true.1 hh x (List.mem_of_getElem? hx)]at hb';cases hb'
    rw[this]
   ·have hb':(ZjW t.k x&&x.good)=true:=by rw[←Bool.not_not (ZjW _ _&&_),hb];rfl
    rw[List.take_add_one,hx,Option.toList_some,List.all_append,bS]
    simpa using hb'
  ·have:k=t.subs.length:=by have:=of_decide_eq_false cM;simp only[slN]at this;omega
   subst this
   rw[List.take_length]at bS
   exact Zac aY (by rw[j1,bS])
end Go.Proofs.Ythiefodednaikaa
set_option linter.unusedVariables false
set_option linter.unusedSimpArgs false
namespace Go.Proofs.Ythiefodednaikaa
open Go Go.Eng Go.Rx Go.Proofs Go.RowKit
set_option maxRecDepth 100000
theorem ZcV{x y:Int}{A B:Prop}(ht:x=y→A)(hf:¬x=y→B):br (x == y) A B:=Zab (fun h=>ht (eq_of_beq h)) (fun h=>hf fun e=>by rw[e]at h;simp at h)
theorem Zrm{t:T}{m m1:Mem}{n V:Int}(cI:m.le m1)(h5:t.k=5)(hn:t.pos=ZrL t.k t.mn t.mx n)(hb:0≤n∧n≤100020001)(hV:ZtB t.mn t.mx=V):br (decide (IntKind.i64.wrap (n*V) > 10001)) (∃m'',m.le m''∧m''.le m1∧Ret (.int .i64 t.pos) (.int .i64 10001) m'' []) (∃m'',m.le m''∧m''.le m1∧Ret (.int .i64 t.pos) (.int .i64 (IntKind.i64.wrap (n*V))) m'' []):=by
 have hF:=Zps t.mn t.mx
 rw[hV]at hF
 have pk:0≤n*V∧n*V≤100020001*10001:=⟨Int.mul_nonneg hb.1 hF.1,Int.mul_le_mul hb.2 hF.2 hF.1 (by omega)⟩
 have hp:t.pos=Zly (n*V) 10001:=by rw[hn,ZrL,if_pos h5,←hV];rfl
 rw[Zan (by omega) (by omega)]
 refine ZaR (fun h=>Zac cI ?_) (fun h=>Zac cI ?_)
 ·rw[hp,Zly,if_pos (by omega)]
 ·rw[hp,Zly,if_neg (by omega)]
set_option maxHeartbeats 1000000 in
theorem Zkq:∀(t:T)(cs:List Value)(m:Mem),RefT m t cs→t.nodes.length≤10000→CX Try.prog 123 #[.agg cs.toArray] m [] (Ret (.int .i64 t.pos)):=by
 intro t
 induction hn:SizeOf.sizeOf t using Nat.strongRecOn generalizing t with
 | ind n ih=>
 intro cs m hr hl
 obtain⟨cA,bP,a,c,css,rfl,cC,dP⟩:=ZbN.1 hr
 have fP:=ZkV t
 have eT:=ZqH t
 apply ZeW
 unfold ZcI
 refine Zgq fun b m1 aW _=>ZaM (Zaa rfl (ZcV (fun hk=>?_) (fun hk=>?_)))
 all_goals
  have hk':(if t.k=2 then(1:Int)else 0)=1∧t.k=2∨(if t.k=2 then(1:Int)else 0)=0∧t.k≠2:=by split <;> simp_all
  refine⟨fun xs _ _ m'' q=>∃i:Nat,i≤t.subs.length∧xs=[.int .i64 ((if t.k=2 then 1 else 0)+ZeK (t.subs.take i)),.int .i64 i]∧m.le m''∧q=t.subs.length - i,⟨t.subs.length,0,by omega,by simp_all [ZeK,intOf],aW,by omega⟩,?_⟩
  rintro n n1 m2 q sB ⟨i,hi,fN,aY,hq⟩
  have eL:=Zi6 (t.subs.take i)
  have dO:=Zpt (t.subs.take i)
  have eI:(t.subs.take i).length≤i:=List.length_take_le _ _
  clear hk' hk
  generalize hc:(if t.k=2 then(1:Int)else 0)=c0 at *
  have rQ:0≤c0∧c0≤1:=by rw[←hc];split <;> omega
  simp only[List.cons.injEq,Value.int.injEq,true_and,and_true]at fN
  obtain⟨rfl,rfl⟩:=fN
  subst hq
  refine ZaO (Zaa rfl (ZaR (fun bA=>?_) (fun cM=>?_)))
  ·have aX:i < t.subs.length:=by simp only[slN]at bA;omega
   obtain⟨x,hx⟩:=Zb1 aX
   have cH:x∈t.subs:=List.mem_of_getElem? hx
   have bW:=Zek cH
   have rR:=Zg3 cH
   obtain⟨bb,o,cs2,ha,cN,fS⟩:=Zg7 cC dP hx
   have pQ:=Zlz x
   refine ZaO (Zaa rfl ⟨bb,o,ha,⟨by omega,by simp only[slN];omega⟩,cs2,fS.len,(by rw[Int.toNat_natCast];exact cN.mono aY),?_⟩)
   refine ZaB (ih _ (by omega) x rfl cs2 m2 (fS.mono aY) (by omega)) fun m3 bQ=>⟨rfl,t.subs.length - (i+1),by omega,i+1,by omega,?_,Mem.le_trans aY bQ,rfl⟩
   rw[Zan (by omega) (by omega),Zan (by omega) (by omega),Zna hx,Int.add_assoc]
   rfl
  ·have hi':i=t.subs.length:=by simp only[slN]at cM;omega
   subst hi'
   rw[List.take_length]at eL dO ⊢
   clear eI dP cC hr ih
   refine ZaM (Zaa rfl (ZcV (fun h5=>?_) (fun h5=>?_)))
   ·have h5':t.k=5:=h5
    have hp:t.pos=ZrL t.k t.mn t.mx (c0+ZeK t.subs):=eT
    have hb:0≤c0+ZeK t.subs∧c0+ZeK t.subs≤100020001:=by omega
    have eO:=cA.mn
    clear eT h5 cA
    have cap:∀{v:Int} {m':Mem},m.le m'→ZtB t.mn t.mx=Zly (Zl0 v 0) 10001→chk (Zak .i64 (.int .i64 v)&&decide (IntKind.i64=IntKind.i64)) (br (decide (intOf (.int .i64 v) < 0)) (br (decide (IntKind.i64.wrap ((c0+ZeK t.subs)*0) > 10001)) (∃m'',m.le m''∧m''.le m'∧Ret (.int .i64 t.pos) (.int .i64 10001) m'' []) (∃m'',m.le m''∧m''.le m'∧Ret (.int .i64 t.pos) (.int .i64 (IntKind.i64.wrap ((c0+ZeK t.subs)*0))) m'' [])) (chk (Zak .i64 (.int .i64 v)&&decide (IntKind.i64=IntKind.i64)) (br (decide (intOf (.int .i64 v) > 10001)) (br (decide (IntKind.i64.wrap ((c0+ZeK t.subs)*10001) > 10001)) (∃m'',m.le m''∧m''.le m'∧Ret (.int .i64 t.pos) (.int .i64 10001) m'' []) (∃m'',m.le m''∧m''.le m'∧Ret (.int .i64 t.pos) (.int .i64 (IntKind.i64.wrap ((c0+ZeK t.subs)*10001))) m'' [])) (chk (Zak .i64 (.int .i64 v)) (br (decide (IntKind.i64.wrap ((c0+ZeK t.subs)*intOf (.int .i64 v)) > 10001)) (∃m'',m.le m''∧m''.le m'∧Ret (.int .i64 t.pos) (.int .i64 10001) m'' []) (∃m'',m.le m''∧m''.le m'∧Ret (.int .i64 t.pos) (.int .i64 (IntKind.i64.wrap ((c0+ZeK t.subs)*intOf (.int .i64 v)))) m'' [])))))):=by
     intro v m' hm' hv
     refine Zaa rfl (ZaR (fun a3=>Zrm hm' h5' hp hb ?_) (fun a3=>Zaa rfl (ZaR (fun a4=>Zrm hm' h5' hp hb ?_) (fun a4=>Zaa rfl (Zrm hm' h5' hp hb ?_)))))
     all_goals
      rw[hv]
      simp only[intOf]at *
      unfold Zly Zl0
      (repeat' split) <;> omega
    refine ZhC (ZhC (Zaa rfl (ZcV (fun a1=>ZeJ (Zaa rfl (ZaR (fun a2=>ZeJ (cap aY ?_)) (fun a2=>Zrm aY h5' hp hb ?_)))) (fun a1=>ZeJ (Zaa rfl (ZaR (fun a2=>ZeJ (cap aY ?_)) (fun a2=>cap aY ?_)))))))
    all_goals
     simp only[intOf]at *
     unfold ZtB Zly Zl0
     (repeat' split) <;> omega
   ·have e1:¬t.k=5:=h5
    have hp:t.pos=Zly (c0+ZeK t.subs) 10001:=by rw[eT,ZrL,if_neg e1]
    refine ZaR (fun h=>Zac aY ?_) (fun h=>Zac aY ?_)
    ·rw[hp,Zly,if_pos (by omega)]
    ·rw[hp,Zly,if_neg (by omega)]
theorem Zkr(t:T)(cs:List Value)(m:Mem)(hr:RefT m t cs):CX Try.prog 109 #[.agg cs.toArray] m [] (Ret (.int .i64 t.positions)):=by
 have hl:=hr.len
 apply ZeX
 unfold ZcJ
 refine Zaa (by rw[hl];rfl) fun b m1 aW _=>?_
 refine Zah (Zkp t cs m1 (hr.mono aW)) fun m2 aY=>Zab (fun h=>Zac (Mem.le_trans aW aY) ?_) (fun h=>?_)
 ·have:t.light=false:=by rw[←Bool.not_not t.light,h];rfl
  unfold T.positions
  rw[this];rfl
 ·have h1:t.light=true:=by rw[←Bool.not_not t.light,h];rfl
  have h2:t.nodes.length≤10000:=by unfold T.light at h1;simpa using h1
  refine ZaB (Zkq t cs m2 ((hr.mono aW).mono aY) (by omega)) fun m3 bQ=>Zac (Mem.le_trans aW (Mem.le_trans aY bQ)) ?_
  unfold T.positions
  rw[h1];rfl
theorem Zrn(t:T)(cs:List Value)(m:Mem)(hr:RefT m t cs):CX Try.prog 107 #[.agg cs.toArray] m [] (Ret (.bool t.clean)):=by
 have hl:=hr.len
 apply ZiD
 unfold Zfo
 refine Zaa (by rw[hl];rfl) fun b m1 aW _=>⟨t.clean,?_,Zac aW rfl⟩
 refine Zah (Zkp t cs m1 (hr.mono aW)) fun m2 aY=>Zab (fun h=>?_) (fun h=>⟨by trivial,by unfold T.clean;rw[h];rfl⟩)
 exact Zah (Zrl t cs m2 ((hr.mono aW).mono aY)) fun m3 bQ=>⟨by trivial,by unfold T.clean;rw[h];rfl⟩
theorem Zro(t:T)(cs:List Value)(m:Mem)(hr:RefT m t cs):CX Try.prog 85 #[.agg cs.toArray] m [] (Ret (.int .i64 t.check)):=by
 have hl:=hr.len
 apply ZiG
 unfold Zfp
 refine Zaa (by rw[hl];rfl) fun b m1 aW _=>?_
 have dR:=hr.mono aW
 refine Zah (Zrn t cs m1 dR) fun m2 aY=>Zab (fun h=>Zac (Mem.le_trans aW aY) ?_) (fun h=>?_)
 ·have:t.clean=false:=by rw[←Bool.not_not t.clean,h];rfl
  rw[T.check,if_pos this]
 have h1:¬t.clean=false:=by intro e;rw[e]at h;cases h
 have eV:=dR.mono aY
 have gC:=Mem.le_trans aW aY
 refine ZaB (Zth t cs m2 eV) fun m3 bQ=>ZaR (fun h=>Zac (Mem.le_trans gC bQ) ?_) (fun h2=>?_)
 ·rw[T.check,if_neg h1,if_pos h]
 have gN:=Mem.le_trans gC bQ
 refine ZaB (Zkr t cs m3 (eV.mono bQ)) fun m4 cG=>ZaR (fun h=>Zac (Mem.le_trans gN cG) ?_) (fun h3=>?_)
 ·rw[T.check,if_neg h1,if_neg h2,if_pos h]
 have hO:=Mem.le_trans gN cG
 refine ZaB (ZoU t cs m4 ((eV.mono bQ).mono cG)) fun m5 cP=>ZaR (fun h=>Zac (Mem.le_trans hO cP) ?_) (fun h4=>Zac (Mem.le_trans hO cP) ?_)
 ·rw[T.check,if_neg h1,if_neg h2,if_neg h3,if_pos h]
 ·rw[T.check,if_neg h1,if_neg h2,if_neg h3,if_neg h4]
end Go.Proofs.Ythiefodednaikaa
set_option linter.unusedVariables false
set_option linter.unusedSimpArgs false
namespace Go.Proofs.Ythiefodednaikaa
open Go Go.Eng Go.Rx Go.Proofs Go.RowKit
set_option maxRecDepth 100000
def ZnQ(m:Mem)(g:Nat→Nat→Bool)(n:Nat):RT:=fun u m' _=>∃a c bs,u=.slice a n c∧Tab m' g n n a bs∧TabNew m n a bs
theorem Zbq{P:Program}{g:Nat}{args:Array Value}{m M0:Mem}{G:Nat→Nat→Bool}{n:Nat}{K:Option Addr→Nat→Nat→Mem→Prop}(h:CX P g args m [] (ZnQ M0 G n))(k:∀a c bs m',m.le m'→Tab m' G n n a bs→TabNew M0 n a bs→K a n c m'):
  ∃R:Value→Mem→List (List Value)→Prop,True∧CX P g args m [] R∧(∀(v:Value)(m':Mem) (css:List (List Value)),R v m' css→Shape.fits .slice v=true)∧∀(a:Option Addr)(n c:Nat)(m':Mem),m.le m'→R (.slice a n c) m' []→K a n c m':=
 ⟨_,trivial,h,fun v _ _ ⟨_,_,_,e,_⟩=>by rw[e];rfl,fun a n' c m' hm ⟨a0,c0,bs,e,h1,h2⟩=>by
  simp only[Value.slice.injEq]at e
  obtain⟨rfl,rfl,rfl⟩:=e
  exact k _ _ _ _ hm h1 h2⟩
theorem ZnR{m:Mem}{b o:Nat}{v:Value}(h:m b o=some v):∃vs:List Value,vs.length=1∧m.reads b o vs:=⟨[v],rfl,fun j u hu=>by
 have:j=0:=by have:=(List.getElem?_eq_some_iff.1 hu).1;simp at this;omega
 subst this
 cases hu;exact h⟩
theorem ZhD(v:Bool):(intOf (bV v) == 1)=v:=by cases v <;> rfl
theorem Zgr(n:Nat)(v:Bool)(m:Mem)(hn:n≤1000000):CX Try.prog 111 #[.int .i64 n,.int .i64 (if v then 1 else 0)] m [] (ZnQ m (fun i j=>v&&decide (i=j)) n):=by
 apply Zit
 unfold Zfh
 refine⟨fun xs _ tvs m' q=>∃(k:Nat)(a:Option Addr)(c:Nat)(bs:Nat→Nat),k≤n∧xs=[.slice a k c,.int .i64 k]∧tvs=[.slice a k c]∧m.le m'∧Tab m' (fun i j=>v&&decide (i=j)) n k a bs∧TabNew m k a bs∧(k=0→a=none)∧(∀b o,a=some ⟨b,o,none⟩→o=0)∧q=n - k,
  ⟨_,0,none,0,fun _=>0,Nat.zero_le _,rfl,rfl,Mem.le_refl _,Tab.zero _,⟨fun i hi=>by omega,fun b o e=>by cases e⟩,fun _=>rfl,(fun b o e=>by cases e),rfl⟩,?_⟩
 rintro a n1 c z a1 n2 c1 m2 q _ ⟨k,a',c',bs,hk,hz,ht,aY,dY,cR,h0,ho,hq⟩
 simp only[List.cons.injEq,Value.slice.injEq,Value.int.injEq,true_and,and_true]at hz ht
 obtain⟨⟨rfl,rfl,rfl⟩,rfl⟩:=hz
 obtain⟨rfl,rfl,rfl⟩:=ht
 subst hq
 refine ZaR (fun bA=>?_) (fun cM=>?_)
 ·have aX:n2 < n:=by omega
  rw[Int.toNat_natCast,Int.toNat_natCast]
  refine⟨⟨by omega,by omega,by omega,by omega⟩,fun b hb=>⟨b,0,rfl,⟨by omega,by omega⟩,?_,ZcC aY hb,by trivial,fun b2 dO=>⟨.inl (by trivial),?_⟩⟩⟩
  ·refine ZnR (v:=bV false) ?_
   rw[Zk5,Mem.add_same,Nat.mul_one,Nat.zero_add,Zgg _ aX]
  ·have dR:(m2.add b (List.flatten (List.replicate n [Value.int .i64 0]))).reads b 0 (Zr2 (fun _=>false) n):=fun j u hu=>by rw[Zk5,Mem.add_same,Nat.zero_add];exact hu
   have jQ:=Mem.le_add hb (List.flatten (List.replicate n [Value.int .i64 0]))
   have gz:=Mem.le_upd jQ hb (0+n2*1) [bV v]
   have kA:=Mem.le_add dO [Value.slice (some ⟨b,0,none⟩) n n]
   have nn:=Mem.le_trans gz kA
   have eV:=ZsS dR aX v
   refine⟨Zus bs n n2,[Value.slice (some ⟨b,0,none⟩) n n],by rw[ZpO];omega,rfl,dY.out.mono nn,ZpU,by simp[Value.oneCell'],by omega,by omega,fun a4 c4 m4 cG iW lr=>⟨n - (n2+1),by omega,n2+1,a4,c4,_,by omega,by rw[Zan (by omega) (by omega)];rfl,rfl,Mem.le_trans aY (Mem.le_trans nn cG),Tab.snoc (b:=b) dY h0 (by omega) hb nn cG (fun j u hu=>kA _ _ _ (eV j u ?_)) iW lr.2,⟨fun i hi=>?_,fun b5 o5 e5=>?_⟩,fun h=>by omega,fun b5 o5 e5=>?_,rfl⟩⟩
   ·rw[Zk4 (h:=fun j=>v&&decide (n2=j))]
    ·exact hu
    ·intro j _
     by_cases e:j=n2
     ·subst e;simp
     ·rw[if_neg e,decide_eq_false (fun h=>e h.symm)];simp
   ·by_cases e:i=n2
    ·simp only[if_pos e];exact ZcC aY hb
    ·simp only[if_neg e];exact cR.1 i (by omega)
   ·rcases(lr.old ho).2 with h|⟨b6,e6,h6⟩
    ·rw[h]at e5;cases e5
    ·rw[e6]at e5;cases e5
     rcases h6 with h6|h6
     ·exact cR.2 _ _ (h6.trans e6)
     ·exact ZcC (Mem.le_trans aY nn) h6
   ·rcases(lr.old ho).2 with h|⟨b6,e6,h6⟩
    ·rw[h]at e5;cases e5
    ·rw[e6]at e5;cases e5;rfl
 ·have:n2=n:=by omega
  subst this
  exact⟨m2,aY,Mem.le_refl _,a1,c1,bs,rfl,dY,cR⟩
theorem ZpX{g h:Nat→Nat→Bool}{n:Nat}{m:Mem}{a1:Option Addr}{c1:Nat}{bs:Nat→Nat}{a2:Option Addr}{c2:Nat}{cs:Nat→Nat}{Y:Nat→Prop}(h1:Tab m g n n a1 bs)(hY:∀i,i < n→Y (bs i))(s4:∀b o,a1=some ⟨b,o,none⟩→¬Y b)(h2:Tab (m.off Y) h n n a2 cs)(hn:n≤1000000):
  CXY Try.prog 113 #[.slice a1 n c1,.slice a2 n c2] m Y [] [] (fun v m' _ _=>v=.tuple #[]∧Tab m' (fun x y=>g x y||h x y) n n a1 bs):=by
 apply Ziv
 unfold Zgm
 refine⟨fun xs _ _ m' q=>∃k:Nat,k≤n∧xs=[.int .i64 k]∧(m.off Y).le m'∧Tab m' (fun x y=>g x y||(h x y&&decide (x < k))) n n a1 bs∧q=n - k,⟨_,0,Nat.zero_le _,rfl,Mem.off_le _ _,h1.congr fun i j _ _=>by simp,rfl⟩,?_⟩
 rintro z m2 q _ ⟨k,hk,hz,cI,dY,hq⟩
 obtain rfl:z=k:=by simpa using hz
 subst hq
 refine ZaR (fun bA=>?_) (fun cM=>?_)
 ·have aX:k < n:=by omega
  refine⟨fun xs _ _ m' q=>∃j:Nat,j≤n∧xs=[.int .i64 j]∧(m.off Y).le m'∧Tab m' (fun x y=>g x y||(h x y&&(decide (x < k)||(decide (x=k)&&decide (y < j))))) n n a1 bs∧q=n - j,⟨_,0,Nat.zero_le _,rfl,cI,dY.congr fun i j _ _=>by simp,rfl⟩,?_⟩
  rintro z m3 q _ ⟨j,hj,hz,gP,cO,hq⟩
  obtain rfl:z=j:=by simpa using hz
  subst hq
  refine ZaR (fun eM=>?_) (fun iq=>?_)
  ·have dV:j < n:=by omega
   obtain⟨b4,o4,e4,h4⟩:=h2.get aX
   have h5:=h2.cell aX dV
   refine⟨b4,o4,e4,⟨by omega,by omega⟩,_,(by rw[Int.toNat_natCast];exact gP _ _ _ h4),Zaa rfl ⟨cs k,0,rfl,⟨by omega,by simp only[slN];omega⟩,_,(by rw[Int.toNat_natCast];exact gP _ _ _ h5),Zaa rfl (Zab (fun hv=>?_) (fun hv=>?_))⟩⟩
   ·rw[ZhD]at hv
    obtain⟨b6,o6,e6,h6⟩:=cO.get aX
    have h7:=cO.cell aX dV
    rw[Int.toNat_natCast,Int.toNat_natCast]
    refine⟨b6,o6,e6,⟨by omega,by omega⟩,_,h6,Zaa rfl ⟨bs k,0,rfl,⟨by omega,by simp only[slN];omega⟩,ZnR h7,Mem.off_free (hY k aX),by trivial,n - (j+1),by omega,j+1,dV,by rw[Zan (by omega) (by omega)];rfl,Mem.le_upd gP (Mem.off_free (hY k aX)) _ _,(cO.upd aX dV true).congr fun x y hx hy=>?_,rfl⟩⟩
    by_cases e:x=k∧y=j
    ·obtain⟨rfl,rfl⟩:=e
     rw[if_pos ⟨rfl,rfl⟩,hv];simp
    ·rw[if_neg e]
     have:(decide (x=k)&&decide (y < j))=(decide (x=k)&&decide (y < j+1)):=by
      rw[Bool.eq_iff_iff];simp;omega
     rw[this]
   ·rw[ZhD]at hv
    refine⟨n - (j+1),by omega,j+1,dV,by rw[Zan (by omega) (by omega)];rfl,gP,cO.congr fun x y hx hy=>?_,rfl⟩
    by_cases e:x=k∧y=j
    ·obtain⟨rfl,rfl⟩:=e
     rw[hv];simp
    ·have:(decide (x=k)&&decide (y < j))=(decide (x=k)&&decide (y < j+1)):=by
      rw[Bool.eq_iff_iff];simp;omega
     rw[this]
  ·have:j=n:=by omega
   subst this
   refine⟨j - (k+1),by omega,k+1,aX,by rw[Zan (by omega) (by omega)];rfl,gP,cO.congr fun x y hx hy=>?_,rfl⟩
   have:(decide (x < k)||(decide (x=k)&&decide (y < j)))=decide (x < k+1):=by
    rw[Bool.eq_iff_iff];simp;omega
   rw[this]
 ·have:k=n:=by omega
  subst this
  exact⟨rfl,dY.congr fun x y hx hy=>by rw[decide_eq_true hx,Bool.and_true]⟩
end Go.Proofs.Ythiefodednaikaa
set_option linter.unusedVariables false
set_option linter.unusedSimpArgs false
namespace Go.Proofs.Ythiefodednaikaa
open Go Go.Eng Go.Rx Go.Proofs Go.RowKit
set_option maxRecDepth 100000
theorem Zmk{ga gb:Nat→Nat→Bool}{n:Nat}{m:Mem}{a1:Option Addr}{c1:Nat}{bs:Nat→Nat}{a2:Option Addr}{c2:Nat}{cs:Nat→Nat}(h1:Tab m ga n n a1 bs)(h2:Tab m gb n n a2 cs)(hn:n≤1000000):
  CX Try.prog 112 #[.slice a1 n c1,.slice a2 n c2] m [] (ZnQ m (ZjY (Zwb n ga gb)) n):=by
 apply Ziu
 unfold Zfi
 refine Zbq (Zgr n false m hn) fun a c ds m1 aW mE cR=>?_
 have inv0:Tab m1 (ZjY (ZfD n ga gb 0 0 0)) n n a ds:=mE.congr fun x y hx hy=>by
  rw[Zai,iff_false_right (Znv n ga gb x y)];simp
 refine⟨fun xs _ _ m' q=>∃i:Nat,i≤n∧xs=[.int .i64 i]∧m.le m'∧Tab m' (ZjY (ZfD n ga gb i 0 0)) n n a ds∧q=n - i,⟨_,0,Nat.zero_le _,rfl,aW,inv0,rfl⟩,?_⟩
 rintro z m2 q _ ⟨i,hi,hz,aY,dY,hq⟩
 obtain rfl:z=i:=by simpa using hz
 subst hq
 refine ZaR (fun bA=>?_) (fun cM=>?_)
 ·have aX:i < n:=by omega
  refine⟨fun xs _ _ m' q=>∃k:Nat,i≤k∧k≤n∧xs=[.int .i64 k]∧m.le m'∧Tab m' (ZjY (ZfD n ga gb i k k)) n n a ds∧q=n - k,⟨_,i,Nat.le_refl _,hi,rfl,aY,dY.congr fun x y hx hy=>by rw[Zai,Zai,ZqU],rfl⟩,?_⟩
  rintro z m3 q _ ⟨k,ph,hk,hz,bQ,cO,hq⟩
  obtain rfl:z=k:=by simpa using hz
  subst hq
  refine ZaR (fun eM=>?_) (fun iq=>?_)
  ·have dV:k < n:=by omega
   refine⟨fun xs _ _ m' q=>∃j:Nat,k≤j∧j≤n∧xs=[.int .i64 j]∧m.le m'∧Tab m' (ZjY (ZfD n ga gb i k j)) n n a ds∧q=n - j,⟨_,k,Nat.le_refl _,hk,rfl,bQ,cO,rfl⟩,?_⟩
   rintro z m4 q _ ⟨j,ni,hj,hz,cG,dE,hq⟩
   obtain rfl:z=j:=by simpa using hz
   subst hq
   obtain⟨b1,o1,e1,sC⟩:=h1.get aX
   have sD:=h1.cell aX dV
   rw[Int.toNat_natCast,Int.toNat_natCast,Int.toNat_natCast]
   refine⟨ga i k&&decide (j < n),⟨b1,o1,e1,⟨by omega,by omega⟩,_,cG _ _ _ sC,Zaa rfl ⟨bs i,0,rfl,⟨by omega,by simp only[slN];omega⟩,_,cG _ _ _ sD,Zaa rfl (Zab (fun hv=>?_) (fun hv=>?_))⟩⟩,Zab (fun hb=>?_) (fun hb=>?_)⟩
   ·rw[ZhD]at hv
    rw[hv,Bool.true_and]
    have:decide ((j:Int) < (n:Int))=decide (j < n):=decide_eq_decide.2 (by omega)
    rw[this]
   ·rw[ZhD]at hv
    rw[hv];rfl
   ·simp only[Bool.and_eq_true,decide_eq_true_eq]at hb
    obtain⟨qu,ir⟩:=hb
    obtain⟨b2,o2,e2,sE⟩:=h2.get dV
    have sF:=h2.cell dV ir
    refine⟨b2,o2,e2,⟨by omega,by omega⟩,_,cG _ _ _ sE,Zaa rfl ⟨cs k,0,rfl,⟨by omega,by simp only[slN];omega⟩,_,cG _ _ _ sF,Zaa rfl (Zab (fun hv=>?_) (fun hv=>?_))⟩⟩
    ·rw[ZhD]at hv
     obtain⟨b6,o6,e6,h6⟩:=dE.get aX
     have h7:=dE.cell aX ir
     refine⟨b6,o6,e6,⟨by omega,by omega⟩,_,h6,Zaa rfl ⟨ds i,0,rfl,⟨by omega,by simp only[slN];omega⟩,ZnR h7,cR.1 i aX,by trivial,n - (j+1),by omega,j+1,by omega,ir,by rw[Zan (by omega) (by omega)];rfl,Mem.le_upd cG (cR.1 i aX) _ _,(dE.upd aX ir true).congr fun x y hx hy=>?_,rfl⟩⟩
     rw[Zai,Znw ni qu]
     by_cases e:x=i∧y=j
     ·rw[if_pos e]
      exact⟨fun _=>.inr ⟨e.1,e.2,hv⟩,fun _=>rfl⟩
     ·rw[if_neg e,Zai]
      exact⟨.inl,fun h=>h.elim id fun h=>absurd ⟨h.1,h.2.1⟩ e⟩
    ·rw[ZhD]at hv
     refine⟨n - (j+1),by omega,j+1,by omega,ir,by rw[Zan (by omega) (by omega)];rfl,cG,dE.congr fun x y hx hy=>?_,rfl⟩
     rw[Zai,Zai,Znw ni qu]
     exact⟨.inl,fun h=>h.elim id fun h=>by rw[hv]at h;cases h.2.2⟩
   ·have hs:n≤j∨ga i k=false:=by
     rw[Bool.and_eq_false_iff]at hb
     rcases hb with hb|hb
     ·exact .inr hb
     ·exact .inl (by have:=of_decide_eq_false hb;omega)
    refine⟨n - (k+1),by omega,k+1,by omega,dV,by rw[Zan (by omega) (by omega)];rfl,cG,dE.congr fun x y hx hy=>?_,rfl⟩
    rw[Zai,Zai,ZqV ph hy hs]
  ·have:k=n:=by omega
   subst this
   refine⟨k - (i+1),by omega,i+1,aX,by rw[Zan (by omega) (by omega)];rfl,bQ,cO.congr fun x y hx hy=>?_,rfl⟩
   rw[Zai,Zai,ZoD hy]
 ·have:i=n:=by omega
  subst this
  exact⟨m2,aY,Mem.le_refl _,a,c,ds,rfl,dY.congr fun x y hx hy=>by rw[Zai,Zai,ZoE hx],cR⟩
end Go.Proofs.Ythiefodednaikaa
set_option linter.unusedVariables false
set_option linter.unusedSimpArgs false
namespace Go.Proofs.Ythiefodednaikaa
open Go Go.Eng Go.Rx Go.Proofs Go.RowKit
set_option maxRecDepth 100000
theorem ZhE{m m1 M:Mem}{g g':Nat→Nat→Bool}{n:Nat}{a:Option Addr}{c:Nat}{bs:Nat→Nat}(hm:m.le M)(h:Tab M g n n a bs)(hn:TabNew m1 n a bs)(h1:m.le m1)(e:∀i j,i < n→j < n→(g i j=true↔g' i j=true)):
  ∃m'',m.le m''∧m''.le M∧ZnQ m g' n (.slice a n c) m'' []:=⟨M,hm,Mem.le_refl _,a,c,bs,rfl,h.congr e,hn.less h1⟩
theorem ZuP{m:Mem}{a:Option Addr}{s:List Nat}(h:Byt m a s){i x:Nat}(hi:s[i]?=some x):x < 256∧∃b o,a=some ⟨b,o,none⟩∧m b (o+i*1)=some (.int .u8 x):=by
 refine⟨h.2 x (List.mem_of_getElem? hi),?_⟩
 rcases h.1 with e|⟨b,o,e,hr⟩
 ·rw[e]at hi;cases hi
 ·refine⟨b,o,e,?_⟩
  have:=hr i (.int .u8 x) (by rw[List.getElem?_map,hi];rfl)
  rwa [Nat.mul_one]
theorem Ztj{k:Int}{q:QS}{mn mx:Int}{a:Option Addr}{n c:Nat}{j:Nat}(hj:j < 256){K:Value→Prop}(h:K (bV (ZtI q j))):Eng.Zrt (rcs k q mn mx a n c) (1+j*1) K:=Zal (by rw[Nat.mul_one];exact Zup k q mn mx a n c hj) h
theorem ZvM(t:T)(c:Nat):ZtI t.q c=t.hasB c:=rfl
set_option maxHeartbeats 2000000 in
theorem Ztk(s:List Nat)(sa:Option Addr)(sc:Nat)(hs:s.length≤600):∀(t:T)(cs:List Value)(m:Mem),RefT m t cs→t.good=true→Byt m sa s→CX Try.prog 87 #[.agg cs.toArray,.slice sa s.length sc] m [] (ZnQ m (ZjY (t.M s)) (s.length+1)):=by
 intro t
 induction hn:SizeOf.sizeOf t using Nat.strongRecOn generalizing t with
 | ind n ih=>
 intro cs m hr hg hb
 obtain⟨cA,bP,a,c,css,rfl,cC,dP⟩:=ZbN.1 hr
 have pz:=ZvC hg
 have ew:IntKind.i64.wrap ((s.length:Int)+1)=((s.length+1:Nat):Int):=by rw[Zan (by omega) (by omega)];rfl
 have bW:s.length+1≤1000000:=by omega
 apply Zfj
 unfold Zdc
 rw[ew]
 have sub:∀(k:Nat)(M:Mem)(x:T),t.subs[k]?=some x→m.le M→∃(bb o:Nat)(cs2:List Value),a=some ⟨bb,o,none⟩∧cs2.length=260∧M.reads bb (o+k*260) cs2∧CX Try.prog 87 #[.agg cs2.toArray,.slice sa s.length sc] M [] (ZnQ M (ZjY (x.M s)) (s.length+1)):=by
  intro k M x hx hM
  obtain⟨bb,o,cs2,ha,cN,fS⟩:=Zg7 cC dP hx
  have eM:=Zek (List.mem_of_getElem? hx)
  exact⟨bb,o,cs2,ha,fS.len,cN.mono hM,ih _ (by omega) x rfl cs2 M (fS.mono hM) (ZfE hg (List.mem_of_getElem? hx)) (hb.mono hM)⟩
 refine Zgq fun b m1 aW eL _ _=>?_
 have dG:m1 b 0=some (.int .i64 t.k):=eL 0 _ (Zmc _ _ _ _ _ _ _)
 refine Zbq (Zgr (s.length+1) false m1 bW) fun a1 c1 bs m2 aY fJ dF=>?_
 have fK:=Mem.le_trans aW aY
 refine ZaM (Zaa rfl (ZcV (fun hk=>?_) (fun hZ=>Zaa rfl (ZcV (fun hk=>?_) (fun eG=>Zaa rfl (ZcV (fun hk=>?_) (fun kZ=>Zaa rfl (ZcV (fun hk=>?_) (fun mQ=>Zaa rfl (ZcV (fun hk=>?_) (fun qv=>Zaa rfl (ZcV (fun hk=>?_) (fun pz=>?_)))))))))))))
 ·have hk':t.k=1:=hk
  refine Zbq (Zgr (s.length+1) true m2 bW) fun a3 c3 ds m3 bQ cO fL=>ZhE (Mem.le_trans fK bQ) cO fL fK fun i j _ _=>?_
  rw[Zai,M_1 hk'];simp
 ·have hk':t.k=2:=hk
  refine⟨fun xs _ _ m' q=>∃k:Nat,k≤s.length∧xs=[.int .i64 k]∧m.le m'∧Tab m' (fun x y=>ZjY (t.M s) x y&&decide (x < k)) (s.length+1) (s.length+1) a1 bs∧q=s.length - k,⟨_,0,Nat.zero_le _,rfl,fK,fJ.congr fun i j _ _=>by simp,rfl⟩,?_⟩
  rintro z m3 q _ ⟨k,hk,hz,bQ,cO,hq⟩
  obtain rfl:z=k:=by simpa using hz
  subst hq
  refine ZaR (fun bA=>?_) (fun cM=>?_)
  ·have aX:k < s.length:=by omega
   obtain⟨x,hx⟩:=Zb1 aX
   obtain⟨mF,b4,o4,e4,h4⟩:=ZuP (hb.mono bQ) hx
   obtain⟨b6,o6,e6,h6⟩:=cO.get (i:=k) (by omega)
   have h7:=cO.cell (i:=k) (j:=k+1) (by omega) (by omega)
   have ek:IntKind.i64.wrap ((k:Int)+1)=((k+1:Nat):Int):=by rw[Zan (by omega) (by omega)];rfl
   have ex:intOf (.int .u8 (x:Int))=x:=rfl
   rw[ek,Int.toNat_natCast,Int.toNat_natCast]
   refine⟨b6,o6,e6,⟨by omega,by omega⟩,_,h6,b4,o4,e4,⟨by omega,by omega⟩,_,h4,Zaa rfl ⟨?_,?_⟩⟩
   ·rw[ex];exact⟨by omega,by omega⟩
   ·rw[ex,Int.toNat_natCast]
    refine Ztj mF (Zaa rfl ⟨bs k,0,rfl,⟨by omega,by simp only[slN];omega⟩,Zaa rfl ⟨ZnR h7,ZcC aW (dF.1 k (by omega)),by trivial,ZuW dG (Mem.le_refl _) (dF.1 k (by omega)),by trivial,_,by omega,k+1,by omega,rfl,Mem.le_upd bQ (ZcC aW (dF.1 k (by omega))) _ _,(cO.upd (i:=k) (j:=k+1) (by omega) (by omega) (ZtI t.q x)).congr fun i j hi hj=>?_,rfl⟩⟩)
    have hM:∀i j,t.M s i j↔(j=i+1∧∃b,s[i]?=some b∧t.hasB b=true):=M_2 hk'
    by_cases e:i=k∧j=k+1
    ·obtain⟨rfl,rfl⟩:=e
     rw[if_pos ⟨rfl,rfl⟩,ZvM,Bool.and_eq_true,Zai,hM,decide_eq_true_eq]
     constructor
     ·intro h;exact⟨⟨rfl,x,hx,h⟩,by omega⟩
     ·rintro⟨⟨_,y,hy,h⟩,_⟩
      rw[hx]at hy;cases hy;exact h
    ·rw[if_neg e,Bool.and_eq_true,Bool.and_eq_true,Zai,hM,decide_eq_true_eq,decide_eq_true_eq]
     constructor
     ·rintro⟨h,h2⟩;exact⟨h,by omega⟩
     ·rintro⟨h,h2⟩
      refine⟨h,?_⟩
      by_cases ei:i=k
      ·subst ei;exact absurd ⟨rfl,h.1⟩ e
      ·omega
  ·have:k=s.length:=by omega
   subst this
   refine ZhE bQ cO dF aW fun i j hi hj=>?_
   rw[Bool.and_eq_true,Zai,M_2 hk',decide_eq_true_eq]
   constructor
   ·exact fun h=>h.1
   ·intro h;exact⟨h,by omega⟩
 ·have hk':t.k=3:=hk
  refine Zbq (Zgr (s.length+1) true m2 bW) fun a3 c3 ds m3 bQ cO fL=>?_
  have pA:=Mem.le_trans fK bQ
  refine⟨fun xs _ _ m' q=>∃(k:Nat)(a4:Option Addr)(c4:Nat)(es:Nat→Nat),k≤t.subs.length∧xs=[.slice a4 (s.length+1) c4,.int .i64 k]∧m.le m'∧Tab m' (ZjY (MC s (t.subs.take k))) (s.length+1) (s.length+1) a4 es∧TabNew m (s.length+1) a4 es∧q=t.subs.length - k,
   ⟨_,0,_,_,ds,Nat.zero_le _,rfl,pA,cO.congr fun i j _ _=>by rw[Zai,List.take_zero,ZjT];simp,fL.less fK,rfl⟩,?_⟩
  rintro a5 n5 c5 z m4 q _ ⟨k,a4,c4,es,jk,hz,cG,dE,i8,hq⟩
  simp only[List.cons.injEq,Value.slice.injEq,Value.int.injEq,true_and,and_true]at hz
  obtain⟨⟨rfl,rfl,rfl⟩,rfl⟩:=hz
  subst hq
  refine ZaO (Zaa rfl (ZaR (fun bA=>?_) (fun cM=>?_)))
  ·have aX:k < t.subs.length:=by simp only[slN]at bA;omega
   obtain⟨x,hx⟩:=Zb1 aX
   obtain⟨bb,o,cs2,ha,gz,cN,eK⟩:=sub k m4 x hx cG
   refine ZaO (Zaa rfl ⟨bb,o,ha,⟨by omega,by simp only[slN];omega⟩,cs2,gz,(by rw[Int.toNat_natCast];exact cN),Zbq eK fun a6 c6 fs m5 cP i9 j2=>Zbq (Zmk (dE.mono cP) i9 bW) fun a7 c7 gs m6 dJ mG mH=>⟨by trivial,_,by omega,k+1,a7,c7,gs,aX,by rw[Zan (by omega) (by omega)];rfl,Mem.le_trans cG (Mem.le_trans cP dJ),mG.congr fun i j hi hj=>?_,mH.less (Mem.le_trans cG cP),rfl⟩⟩)
   have e:t.subs.take (k+1)=t.subs.take k++[x]:=by rw[List.take_add_one,hx];rfl
   rw[Zai,Zai,e,Zuu,Zmf (Zuw s fun y hy=>ZfE hg (List.mem_of_mem_take hy)) (ZqY (ZfE hg (List.mem_of_getElem? hx)) s) hj]
  ·have:k=t.subs.length:=by simp only[slN]at cM;omega
   subst this
   refine ZhE cG dE i8 (Mem.le_refl _) fun i j hi hj=>?_
   rw[List.take_length,Zai,Zai,M_3 hk']
 ·have hk':t.k=4:=hk
  refine⟨fun xs _ _ m' q=>∃k:Nat,k≤t.subs.length∧xs=[.int .i64 k]∧m.le m'∧Tab m' (ZjY (MA s (t.subs.take k))) (s.length+1) (s.length+1) a1 bs∧q=t.subs.length - k,⟨_,0,Nat.zero_le _,rfl,fK,fJ.congr fun i j _ _=>by rw[Zai,List.take_zero,ZlB];simp,rfl⟩,?_⟩
  rintro z m4 q _ ⟨k,jk,hz,cG,dE,hq⟩
  obtain rfl:z=k:=by simpa using hz
  subst hq
  refine ZaO (Zaa rfl (ZaR (fun bA=>?_) (fun cM=>?_)))
  ·have aX:k < t.subs.length:=by simp only[slN]at bA;omega
   obtain⟨x,hx⟩:=Zb1 aX
   obtain⟨bb,o,cs2,ha,gz,cN,eK⟩:=sub k m4 x hx cG
   refine ZaO (Zaa rfl ⟨bb,o,ha,⟨by omega,by simp only[slN];omega⟩,cs2,gz,(by rw[Int.toNat_natCast];exact cN),Zbq eK fun a6 c6 fs m5 cP i9 j2=>?_⟩)
   have kV:=Zh0 dE j2 (by omega)
   have pB:=Mem.le_trans cG cP
   have lq:=dE.mono cP
   refine⟨ZoF (s.length+1) bs,_,ZpX lq (fun i hi=>⟨i,hi,rfl⟩) (fun b9 o9 e9 hY=>by obtain⟨i,hi,e⟩:=hY;exact lq.sep b9 o9 e9 i hi e.symm) (i9.off' kV.1 kV.2) bW,(fun t ht=>by cases ht),fun b9 hY=>.inr ?_,fun v _ _ _ h=>by rw[h.1];rfl,fun m6 ja _ hR=>⟨by trivial,_,by omega,k+1,aX,by rw[Zan (by omega) (by omega)];rfl,Mem.le_trans (Znx pB ?_) ja,hR.2.congr fun i j hi hj=>?_,rfl⟩⟩
   ·obtain⟨i,hi,rfl⟩:=hY
    exact⟨ZcC aW (dF.1 i hi),⟨_,_,lq.cell hi (j:=0) (by omega)⟩,ZuW dG (Mem.le_refl _) (dF.1 i hi),by trivial⟩
   ·rintro b9 ⟨i,hi,rfl⟩
    exact ZcC aW (dF.1 i hi)
   ·have e:t.subs.take (k+1)=t.subs.take k++[x]:=by rw[List.take_add_one,hx];rfl
    rw[Bool.or_eq_true,Zai,Zai,Zai,e,Zuv]
  ·have:k=t.subs.length:=by simp only[slN]at cM;omega
   subst this
   refine ZhE cG dE dF aW fun i j hi hj=>?_
   rw[List.take_length,Zai,Zai,M_4 hk']
 ·have hk':t.k=5:=hk
  obtain⟨x,hx⟩:=ZpQ hg (.inl hk')
  have iu:t.subs[0]?=some x:=by rw[hx];rfl
  have lk:x.good=true:=ZfE hg (List.mem_of_getElem? iu)
  obtain⟨jx,gS⟩:=Zja hg hk'
  obtain⟨bb,o,cs2,ha,gz,cN,eK⟩:=sub 0 m2 x iu fK
  rw[Nat.zero_mul]at cN
  have fT:Zaf 0 (slN (.slice a t.subs.length c)):=⟨by omega,by simp only[slN];rw[hx];simp⟩
  have ew2:IntKind.i64.wrap (t.mn+((s.length+1:Nat):Int))=t.mn+((s.length+1:Nat):Int):=Zan (by omega) (by omega)
  generalize gR:(if t.mx < 0 then t.mn+((s.length+1:Nat):Int)else t.mx)=most
  have pC:0≤most∧most≤700:=by rw[←gR];split <;> omega
  refine ZhC (Zaa rfl (ZaR (fun gq=>ZeJ (Zaa rfl ?_)) (fun gq=>?_)))
  all_goals
   refine ZaO (Zaa rfl ⟨bb,o,ha,fT,cs2,gz,cN,Zbq eK fun a3 c3 os m3 bQ cO fL=>Zbq (Zgr (s.length+1) true m3 bW) fun a4 c4 ds m4 cG dE i8=>?_⟩)
   have mI:=Mem.le_trans bQ cG
   have pD:=Mem.le_trans fK mI
   refine⟨fun xs _ _ m' q=>∃(k:Nat)(a5:Option Addr)(c5:Nat)(es:Nat→Nat),(k:Int)≤most+1∧xs=[.slice a5 (s.length+1) c5,.int .i64 k]∧m.le m'∧Tab m' (ZjY (Zux (x.M s) t.mn.toNat k)) (s.length+1) (s.length+1) a1 bs∧Tab m' (ZjY (x.M s)) (s.length+1) (s.length+1) a3 os∧Tab m' (ZjY (pow (x.M s) k)) (s.length+1) (s.length+1) a5 es∧Zw9 (ZoF (s.length+1) bs) (s.length+1) a5 es∧q=(most+1).toNat - k,
    ⟨_,0,_,_,ds,by omega,rfl,pD,(fJ.mono mI).congr fun i j _ _=>⟨fun h=>by simp at h,fun h=>absurd (Zai.1 h) (ZqZ _ _ i j)⟩,cO.mono cG,dE.congr fun i j _ _=>?_,Zh0 (fJ.mono bQ) i8 (by omega),rfl⟩,?_⟩
   ·rw[Zai,show pow (x.M s) 0 i j↔i=j from Iff.rfl];simp
   rintro a9 n9 c9 z m5 q _ ⟨k,a5,c5,es,jk,hz,cP,ls,pE,pF,kV,hq⟩
   simp only[List.cons.injEq,Value.slice.injEq,Value.int.injEq,true_and,and_true]at hz
   obtain⟨⟨rfl,rfl,rfl⟩,rfl⟩:=hz
   subst hq
   try refine Zaa rfl ?_
   refine ZaR (fun cI=>ZeJ (Zaa rfl (ZaR (fun cM=>?_) (fun bA=>?_)))) (fun kP=>?_)
   ·have pG:(k:Int)≤most:=by
     rw[←gR]
     simp only[intOf]at cI gq
     first|(rw[if_pos gq];rw[ew2]at cI;exact cI)|(rw[if_neg gq];exact cI)
    have pH:t.mn.toNat≤k:=by simp only[intOf]at cM;omega
    have mJ:=Zh0 fJ (fL) (by omega)
    refine⟨ZoF (s.length+1) bs,_,ZpX ls (fun i hi=>⟨i,hi,rfl⟩) (fun b9 o9 e9 hY=>by obtain⟨i,hi,e⟩:=hY;exact ls.sep b9 o9 e9 i hi e.symm) (pF.off' kV.1 kV.2) bW,(fun t ht=>by cases ht),fun b9 hY=>.inr ?_,fun v _ _ _ h=>by rw[h.1];rfl,fun m6 ja _ hR=>?_⟩
    ·obtain⟨i,hi,rfl⟩:=hY
     exact⟨ZcC aW (dF.1 i hi),⟨_,_,ls.cell hi (j:=0) (by omega)⟩,ZuW dG (Mem.le_refl _) (dF.1 i hi),by trivial⟩
    ·have pI:m.le m6:=Mem.le_trans (Znx cP (by rintro b9 ⟨i,hi,rfl⟩;exact ZcC aW (dF.1 i hi))) ja
     have pJ:=(pF.off' kV.1 kV.2).mono ja
     have mK:=(pE.off' mJ.1 mJ.2).mono ja
     refine Zbq (Zmk pJ mK bW) fun a7 c7 gs m7 dZ jb jc=>⟨by trivial,_,?_,k+1,a7,c7,gs,by omega,by rw[Zan (by omega) (by omega)];rfl,Mem.le_trans pI dZ,(hR.2.mono dZ).congr fun i j hi hj=>?_,mK.mono dZ,jb.congr fun i j hi hj=>?_,Zh0 hR.2 jc (by omega),rfl⟩
     ·omega
     ·rw[Bool.or_eq_true,Zai,Zai,Zai,ZsU pH]
     ·rw[Zai,Zai,ZeT,Zmf (ZpP (ZqY lk s) k) (ZqY lk s) hj]
   ·have pG:(k:Int)≤most:=by
     rw[←gR]
     simp only[intOf]at cI gq
     first|(rw[if_pos gq];rw[ew2]at cI;exact cI)|(rw[if_neg gq];exact cI)
    have aX:k < t.mn.toNat:=by simp only[intOf]at bA;omega
    refine Zbq (Zmk pF pE bW) fun a7 c7 gs m7 dZ jb jc=>⟨by trivial,_,?_,k+1,a7,c7,gs,by omega,by rw[Zan (by omega) (by omega)];rfl,Mem.le_trans cP dZ,(ls.mono dZ).congr fun i j hi hj=>?_,pE.mono dZ,jb.congr fun i j hi hj=>?_,Zh0 ls jc (by omega),rfl⟩
    ·omega
    ·rw[Zai,Zai,Zq0 aX]
    ·rw[Zai,Zai,ZeT,Zmf (ZpP (ZqY lk s) k) (ZqY lk s) hj]
   ·have pK:(k:Int)=most+1:=by
     have:¬(k:Int)≤most:=by
      rw[←gR]
      simp only[intOf]at kP gq
      first|(rw[if_pos gq];rw[ew2]at kP;exact kP)|(rw[if_neg gq];exact kP)
     omega
    refine ZhE cP ls dF aW fun i j hi hj=>?_
    rw[Zai,Zai,ZsV hg hk' hx hj (by rw[gR];exact pK)]
 ·have hk':t.k=6:=hk
  obtain⟨x,hx⟩:=ZpQ hg (.inr hk')
  obtain⟨bb,o,cs2,ha,gz,cN,eK⟩:=sub 0 m2 x (by rw[hx];rfl) fK
  rw[Nat.zero_mul]at cN
  refine ZaO (Zaa rfl ⟨bb,o,ha,⟨by omega,by simp only[slN];rw[hx];simp⟩,cs2,gz,cN,Zbq eK fun a3 c3 ds m3 bQ cO fL=>ZhE (Mem.le_trans fK bQ) cO fL fK fun i j _ _=>?_⟩)
  rw[Zai,Zai,M_6 hk',hx,Ze7]
 ·exfalso
  simp only[intOf]at hZ eG kZ mQ qv pz
  omega
end Go.Proofs.Ythiefodednaikaa
set_option linter.unusedVariables false
set_option linter.unusedSimpArgs false
namespace Go.Proofs.Ythiefodednaikaa
open Go Go.Eng Go.Rx Go.Proofs Go.RowKit
set_option maxRecDepth 100000
theorem Zxh(t u:T):decide (t.q=u.q)=(t.s0 == u.s0&&t.s1 == u.s1&&t.s2 == u.s2&&t.s3 == u.s3):=by
 unfold T.q
 rw[Bool.eq_iff_iff]
 simp[Prod.ext_iff,and_assoc]
theorem Ztl(t u:T):t.same u=(t.k == u.k&&(decide (t.q=u.q)&&(t.mn == u.mn&&(t.mx == u.mx&&Zel t.subs u.subs)))):=by rw[ZrM,Zxh]
def ZpY(t u:T):Bool:=t.k == u.k&&(decide (t.q=u.q)&&(t.mn == u.mn&&(t.mx == u.mx&&t.subs.length == u.subs.length)))
theorem Ztm{t u:T}(h:ZpY t u=false):t.same u=false:=by
 rw[Ztl]
 unfold ZpY at h
 cases h1:t.k == u.k <;> rw[h1]at h <;> simp only[Bool.false_and,Bool.true_and]at h ⊢
 cases h2:decide (t.q=u.q) <;> rw[h2]at h <;> simp only[Bool.false_and,Bool.true_and]at h ⊢
 cases h3:t.mn == u.mn <;> rw[h3]at h <;> simp only[Bool.false_and,Bool.true_and]at h ⊢
 cases h4:t.mx == u.mx <;> rw[h4]at h <;> simp only[Bool.false_and,Bool.true_and]at h ⊢
 exact ZjN (by simpa using h)
theorem Zrp{t u:T}(h:ZpY t u=true):t.subs.length=u.subs.length∧t.same u=Zel t.subs u.subs:=by
 rw[Ztl]
 unfold ZpY at h
 simp only[Bool.and_eq_true]at h
 obtain⟨h1,h2,h3,h4,h5⟩:=h
 rw[h1,h2,h3,h4]
 exact⟨by simpa using h5,by simp⟩
set_option maxHeartbeats 2000000 in
theorem Ztn:∀(t u:T)(cs ds:List Value)(m:Mem),RefT m t cs→RefT m u ds→CX Try.prog 89 #[.agg cs.toArray,.agg ds.toArray] m [] (Ret (.bool (t.same u))):=by
 intro t
 induction hn:SizeOf.sizeOf t using Nat.strongRecOn generalizing t with
 | ind n ih=>
 intro u cs ds m hr hu
 obtain⟨cA,bP,a,c,css,rfl,cC,dP⟩:=ZbN.1 hr
 obtain⟨pL,j0,a',c',dss,rfl,mL,kN⟩:=ZbN.1 hu
 apply Zkm
 unfold Zgp
 refine Zgq fun b m1 aW _=>Zgq fun b2 m2 aY _=>?_
 have iB:=Mem.le_trans aW aY
 refine⟨!ZpY t u,?_,Zab (fun h=>Zac iB ?_) (fun h=>?_)⟩
 ·unfold ZpY
  refine ZaM (ZaM (Zaa rfl (Zab (fun h1=>⟨by trivial,?_⟩) (fun h1=>Zaa (by rw[Zg6];rfl) (Zaa (by rw[Zg6];rfl) ⟨decide (t.q=u.q),by rw[ZpI,ZpI];exact Zxa (Zuq cA) (Zuq pL),Zab (fun h2=>⟨by trivial,?_⟩) (fun h2=>ZeJ (ZeJ (Zaa rfl (Zab (fun h3=>⟨by trivial,?_⟩) (fun h3=>ZhC (ZhC (Zaa rfl (Zab (fun h4=>⟨by trivial,?_⟩) (fun h4=>ZaO (Zaa rfl (ZaO (Zaa rfl ⟨by trivial,?_⟩))))))))))))⟩)))))
  ·have h1':(!t.k == u.k)=true:=h1
   have:(t.k == u.k)=false:=by rw[←Bool.not_not (_ == _),h1'];rfl
   rw[this];rfl
  all_goals
   have e1:(t.k == u.k)=true:=by rw[←Bool.not_not (t.k == u.k),show(!t.k == u.k)=false from h1];rfl
   rw[e1,Bool.true_and]
  ·have:decide (t.q=u.q)=false:=by rw[←Bool.not_not (decide _),h2];rfl
   rw[this];rfl
  all_goals
   have e2:decide (t.q=u.q)=true:=by rw[←Bool.not_not (decide _),h2];rfl
   rw[e2,Bool.true_and]
  ·have:(t.mn == u.mn)=false:=by rw[←Bool.not_not (_ == _),show(!t.mn == u.mn)=true from h3];rfl
   rw[this];rfl
  all_goals
   have e3:(t.mn == u.mn)=true:=by rw[←Bool.not_not (_ == _),show(!t.mn == u.mn)=false from h3];rfl
   rw[e3,Bool.true_and]
  ·have:(t.mx == u.mx)=false:=by rw[←Bool.not_not (_ == _),show(!t.mx == u.mx)=true from h4];rfl
   rw[this];rfl
  ·have e4:(t.mx == u.mx)=true:=by rw[←Bool.not_not (_ == _),show(!t.mx == u.mx)=false from h4];rfl
   rw[e4,Bool.true_and]
   have e5:((t.subs.length:Int) == (u.subs.length:Int))=(t.subs.length == u.subs.length):=by rw[Bool.eq_iff_iff];simp;omega
   show[Value.bool (!((t.subs.length:Int) == (u.subs.length:Int)))]=_
   rw[e5]
 ·rw[Ztm (by rw[←Bool.not_not (ZpY t u),h];rfl)]
 ·obtain⟨gZ,qw⟩:=Zrp (t:=t) (u:=u) (by rw[←Bool.not_not (ZpY t u),h];rfl)
  refine⟨fun xs _ _ m' q=>∃k:Nat,k≤t.subs.length∧xs=[.int .i64 k]∧m.le m'∧Zel (t.subs.take k) (u.subs.take k)=true∧q=t.subs.length - k,⟨_,0,Nat.zero_le _,rfl,iB,by simp[Zel],rfl⟩,?_⟩
  rintro z m3 q _ ⟨k,hk,hz,bQ,bS,hq⟩
  obtain rfl:z=k:=by simpa using hz
  subst hq
  refine ZaO (Zaa rfl (ZaR (fun bA=>?_) (fun cM=>?_)))
  ·have aX:k < t.subs.length:=by simp only[slN]at bA;omega
   obtain⟨x,hx⟩:=Zb1 aX
   obtain⟨y,hy⟩:=Zb1 (l:=u.subs) (k:=k) (by omega)
   obtain⟨bb,o,cs2,ha,cN,fS⟩:=Zg7 cC dP hx
   obtain⟨bb',o',ds2,ha',jy,qx⟩:=Zg7 mL kN hy
   have eM:=Zek (List.mem_of_getElem? hx)
   refine⟨fun _ _ _=>Ret (.bool (x.same y)),ZaO (Zaa rfl ⟨bb,o,ha,⟨by omega,by simp only[slN];omega⟩,cs2,fS.len,(by rw[Int.toNat_natCast];exact cN.mono bQ),ZaO (Zaa rfl ⟨bb',o',ha',⟨by omega,by simp only[slN];omega⟩,ds2,qx.len,(by rw[Int.toNat_natCast];exact jy.mono bQ),_,rfl,ih _ (by omega) x rfl y cs2 ds2 m3 (fS.mono bQ) (qx.mono bQ),fun v _ _ e=>by rw[e];rfl,?_⟩)⟩)⟩
   intro b5 m4 cG hR M cY cT
   obtain rfl:b5=x.same y:=by
    have hR:Value.bool b5=.bool (x.same y):=hR
    simpa using hR
   refine Zab (fun hf=>Zac (Mem.le_trans bQ cY) ?_) (fun hf=>⟨by trivial,_,by omega,k+1,aX,by rw[Zan (by omega) (by omega)];rfl,Mem.le_trans bQ cY,ZhW hx hy bS (by rw[←Bool.not_not (x.same y),hf];rfl) trivial,rfl⟩)
   rw[qw,Zl7 hx hy (by rw[←Bool.not_not (x.same y),hf];rfl)]
  ·have:k=t.subs.length:=by simp only[slN]at cM;omega
   subst this
   rw[List.take_length,gZ,List.take_length]at bS
   exact Zac bQ (by rw[qw,bS])
theorem ZvN(m:Mem):RefT m T0 (rcs 0 (0,0,0,0) 0 0 none 0 0):=ZbN.2 ⟨⟨⟨by decide,by decide⟩,⟨by decide,by decide⟩,⟨by decide,by decide⟩,⟨by decide,by decide⟩,⟨by decide,by decide⟩,⟨by decide,by decide⟩,⟨by decide,by decide⟩⟩,by decide,none,0,[],rfl,.inl rfl,by simp only[T0,T.subs,RefAt]⟩
theorem Zrq(t:T):t.isNone=t.same T0:=by
 unfold T.isNone
 cases h:t.same T0
 ·simp
 ·have h':=h
  rw[Ztl]at h'
  simp only[Bool.and_eq_true]at h'
  obtain⟨h1,_,_,_,h5⟩:=h'
  have hl:t.subs=[]:=by
   match h6:t.subs with
   | []=>rfl
   | x::l=>rw[h6]at h5;simp[T0,T.subs,Zel]at h5
  have bA:t.light=true:=by
   unfold T.light
   rw[Za9,hl];simp[Zav]
  have h0:T0.light=true:=by decide
  rw[bA,h0]
  have:(t.k == 0)=true:=h1
  rw[this];rfl
theorem Zgs(t:T)(cs:List Value)(sa:Option Addr)(n sc:Nat)(i:Int)(m:Mem)(hr:RefT m t cs):CX Try.prog 64 #[.agg cs.toArray,.slice sa n sc,.int .i64 i] m [] (Ret (.int .i64 (t.wrong n i))):=by
 have hl:=hr.len
 apply Ziw
 unfold Zfk
 refine Zaa (by rw[hl];rfl) fun b m1 aW _=>⟨!t.isNone&&!(t.check == 0),?_,Zab (fun h=>Zac aW ?_) (fun h=>ZaR (fun h2=>Zac aW ?_) (fun h2=>⟨decide (i < 0)||decide (i > n),?_,Zab (fun h3=>Zac aW ?_) (fun h3=>Zac aW ?_)⟩))⟩
 ·have hz:(Value.int .i64 0::(List.replicate 256 (Value.int .i64 0)++[.int .i64 0,.int .i64 0,.slice none 0 0]))=rcs 0 (0,0,0,0) 0 0 none 0 0:=by rw[ZpW];rfl
  have hc:=Ztn t T0 cs _ m1 (hr.mono aW) (ZvN m1)
  rw[←hz,←Zrq]at hc
  refine Zah hc fun m2 aY=>Zab (fun h=>?_) (fun h=>⟨by trivial,?_⟩)
  ·refine ZaB (Zro t cs m2 ((hr.mono aW).mono aY)) fun m3 bQ=>⟨by trivial,?_⟩
   rw[h,Bool.true_and]
  ·rw[h,Bool.false_and]
 ·rw[T.wrong,if_pos h]
 ·rw[T.wrong,if_neg (by rw[h];exact Bool.false_ne_true),if_pos h2]
 ·refine Zab (fun h4=>⟨by trivial,?_⟩) (fun h4=>⟨by trivial,?_⟩)
  ·rw[h4];rfl
  ·rw[h4];rfl
 ·rw[T.wrong,if_neg (by rw[h];exact Bool.false_ne_true),if_neg h2,if_pos (by simpa using h3)]
 ·rw[T.wrong,if_neg (by rw[h];exact Bool.false_ne_true),if_neg h2,if_neg (by simpa using h3)]
end Go.Proofs.Ythiefodednaikaa
set_option linter.unusedVariables false
set_option linter.unusedSimpArgs false
namespace Go.Proofs.Ythiefodednaikaa
open Go Go.Eng Go.Rx Go.Proofs Go.RowKit
set_option maxRecDepth 100000
theorem Zrr(s:List Nat)(sa:Option Addr)(sc:Nat)(hs:s.length≤600)(t:T)(cs:List Value)(m:Mem)(hr:RefT m t cs)(hg:t.good=true∨t.k=0)(hb:Byt m sa s):CX Try.prog 87 #[.agg cs.toArray,.slice sa s.length sc] m [] (ZnQ m (ZjY (t.M s)) (s.length+1)):=by
 rcases hg with hg|hk
 ·exact Ztk s sa sc hs t cs m hr hg hb
 obtain⟨cA,bP,a,c,css,rfl,cC,dP⟩:=ZbN.1 hr
 have ew:IntKind.i64.wrap ((s.length:Int)+1)=((s.length+1:Nat):Int):=by rw[Zan (by omega) (by omega)];rfl
 apply Zfj
 unfold Zdc
 rw[ew,hk]
 refine Zgq fun b m1 aW eL _ _=>?_
 refine Zbq (Zgr (s.length+1) false m1 (by omega)) fun a1 c1 bs m2 aY fJ dF=>?_
 refine ZaM (Zaa rfl (ZcV (fun hk=>?_) (fun hZ=>Zaa rfl (ZcV (fun hk=>?_) (fun eG=>Zaa rfl (ZcV (fun hk=>?_) (fun kZ=>Zaa rfl (ZcV (fun hk=>?_) (fun mQ=>Zaa rfl (ZcV (fun hk=>?_) (fun qv=>Zaa rfl (ZcV (fun hk=>?_) (fun pz=>?_)))))))))))))
 iterate 6 (exfalso;simp only[intOf]at hk;omega)
 refine ZhE (Mem.le_trans aW aY) fJ dF aW fun i j _ _=>?_
 have:¬t.M s i j:=by cases t;simp only[T.k]at hk;subst hk;simp[T.M]
 rw[Zai]
 simp[this]
def Zji(g:Nat→Bool)(n:Nat):List Nat:=(List.range n).filter g
theorem ZhF(g:Nat→Bool)(n:Nat):Zji g (n+1)=Zji g n++if g n then[n]else[]:=by
 unfold Zji
 rw[List.range_succ,List.filter_append]
 cases h:g n <;> simp[h]
theorem Zml(g:Nat→Bool)(n:Nat):(Zji g n).length≤n:=by
 unfold Zji
 have:=List.length_filter_le g (List.range n)
 simpa using this
theorem ZnS(l r:List Nat):ZbP (l++r)=ZbP l++ZbP r:=by simp[ZbP]
noncomputable def ZvO(R:Re)(n i:Nat):List Nat:=Zji (fun j=>ZjY R i j) n
noncomputable def Zwj(R:Re)(n j:Nat):List Nat:=Zji (fun i=>ZjY R i j) n
def Zto(l:List Nat):RT:=fun v m' _=>∃a c,v=.slice a l.length c∧rowRd m' a (ZbP l)
theorem Zks{l:List Nat}:∀(v:Value)(m':Mem) (css:List (List Value)),Zto l v m' css→Shape.fits .slice v=true:=fun v _ _ ⟨a,c,h,_⟩=>by rw[h];rfl
theorem Zle{R:Re}{n:Nat}{cs:List Value}{sa:Option Addr}{sn sc:Nat}{m:Mem}(hl:cs.length=260)(hT:∀m',m.le m'→CX Try.prog 87 #[.agg cs.toArray,.slice sa sn sc] m' [] (ZnQ m' (ZjY R) n)){i:Nat}(hi:i < n)(hn:n≤1000):
  CX Try.prog 65 #[.agg cs.toArray,.slice sa sn sc,.int .i64 i] m [] (Zto (ZvO R n i)):=by
 apply Zkg
 unfold Zgn ZvO
 refine Zaa (by rw[hl];rfl) fun b m1 aW _=>Zbq (hT m1 aW) fun a1 c1 bs m2 aY dY cR=>?_
 have iB:=Mem.le_trans aW aY
 generalize hg:(fun j=>ZjY R i j)=g
 have pM:∀j,ZjY R i j=g j:=fun j=>by rw[←hg]
 refine⟨fun xs _ tvs m' q=>∃(k:Nat)(a:Option Addr)(c:Nat),k≤n∧xs=[.slice a (Zji g k).length c,.int .i64 k]∧tvs=[.slice a (Zji g k).length c]∧rowRd m' a (ZbP (Zji g k))∧q=n - k,⟨_,0,none,0,Nat.zero_le _,rfl,rfl,.inl rfl,rfl⟩,?_⟩
 rintro a3 n1 c3 z a4 n3 c4 m3 q bQ ⟨k,a,c,hk,hz,ht,cC,hq⟩
 simp only[List.cons.injEq,Value.slice.injEq,Value.int.injEq,true_and,and_true]at hz ht
 obtain⟨⟨rfl,rfl,rfl⟩,rfl⟩:=hz
 obtain⟨rfl,rfl,rfl⟩:=ht
 subst hq
 have nm:=Zml g k
 refine ZaR (fun bA=>?_) (fun cM=>?_)
 ·have aX:k < n:=by omega
  obtain⟨b6,o6,e6,h6⟩:=dY.get hi
  have h7:=dY.cell hi aX
  rw[pM]at h7
  rw[Int.toNat_natCast,Int.toNat_natCast]
  refine⟨b6,o6,e6,⟨by omega,by omega⟩,_,bQ _ _ _ h6,Zaa rfl ⟨bs i,0,rfl,⟨by omega,by simp only[slN];omega⟩,_,bQ _ _ _ h7,Zaa rfl (Zab (fun hv=>?_) (fun hv=>?_))⟩⟩
  ·rw[ZhD]at hv
   have e:Zji g (k+1)=Zji g k++[k]:=by rw[ZhF,hv];rfl
   have e2:(Zji g (k+1)).length=(Zji g k).length+1:=by rw[e];simp
   refine fun b3 eI=>⟨.inl (by trivial),ZbP (Zji g k),[Value.int .i64 k],by simp[ZbP],rfl,cC.mono (Mem.le_add eI _),ZpU,by simp[Value.oneCell'],by omega,by omega,fun a7 c7 m7 dZ jd=>⟨by trivial,n - (k+1),by omega,k+1,a7,c7,aX,?_,?_,?_,rfl⟩⟩
   ·rw[Zan (by omega) (by omega),e2];rfl
   ·rw[e2]
   ·rw[e,ZnS];exact jd
  ·rw[ZhD]at hv
   have e:Zji g (k+1)=Zji g k:=by rw[ZhF,hv];simp
   exact⟨by trivial,n - (k+1),by omega,k+1,_,_,aX,by rw[Zan (by omega) (by omega),e];rfl,by rw[e],by rw[e];exact cC,rfl⟩
 ·have:k=n:=by omega
  subst this
  exact⟨m3,Mem.le_trans iB bQ,Mem.le_refl _,_,_,rfl,cC⟩
theorem ZlT{R:Re}{n:Nat}{cs:List Value}{sa:Option Addr}{sn sc:Nat}{m:Mem}(hl:cs.length=260)(hT:∀m',m.le m'→CX Try.prog 87 #[.agg cs.toArray,.slice sa sn sc] m' [] (ZnQ m' (ZjY R) n)){j:Nat}(hj:j < n)(hn:n≤1000):
  CX Try.prog 66 #[.agg cs.toArray,.slice sa sn sc,.int .i64 j] m [] (Zto (Zwj R n j)):=by
 apply Zhs
 unfold ZeD Zwj
 refine Zaa (by rw[hl];rfl) fun b m1 aW _=>Zbq (hT m1 aW) fun a1 c1 bs m2 aY dY cR=>?_
 have iB:=Mem.le_trans aW aY
 generalize hg:(fun i=>ZjY R i j)=g
 have pM:∀i,ZjY R i j=g i:=fun i=>by rw[←hg]
 refine⟨fun xs _ tvs m' q=>∃(k:Nat)(a:Option Addr)(c:Nat),k≤n∧xs=[.slice a (Zji g k).length c,.int .i64 k]∧tvs=[.slice a (Zji g k).length c]∧rowRd m' a (ZbP (Zji g k))∧q=n - k,⟨_,0,none,0,Nat.zero_le _,rfl,rfl,.inl rfl,rfl⟩,?_⟩
 rintro a3 n1 c3 z a4 n3 c4 m3 q bQ ⟨k,a,c,hk,hz,ht,cC,hq⟩
 simp only[List.cons.injEq,Value.slice.injEq,Value.int.injEq,true_and,and_true]at hz ht
 obtain⟨⟨rfl,rfl,rfl⟩,rfl⟩:=hz
 obtain⟨rfl,rfl,rfl⟩:=ht
 subst hq
 have nm:=Zml g k
 refine ZaR (fun bA=>?_) (fun cM=>?_)
 ·have aX:k < n:=by omega
  obtain⟨b6,o6,e6,h6⟩:=dY.get aX
  have h7:=dY.cell aX hj
  rw[pM]at h7
  rw[Int.toNat_natCast,Int.toNat_natCast]
  refine⟨b6,o6,e6,⟨by omega,by omega⟩,_,bQ _ _ _ h6,Zaa rfl ⟨bs k,0,rfl,⟨by omega,by simp only[slN];omega⟩,_,bQ _ _ _ h7,Zaa rfl (Zab (fun hv=>?_) (fun hv=>?_))⟩⟩
  ·rw[ZhD]at hv
   have e:Zji g (k+1)=Zji g k++[k]:=by rw[ZhF,hv];rfl
   have e2:(Zji g (k+1)).length=(Zji g k).length+1:=by rw[e];simp
   refine fun b3 eI=>⟨.inl (by trivial),ZbP (Zji g k),[Value.int .i64 k],by simp[ZbP],rfl,cC.mono (Mem.le_add eI _),ZpU,by simp[Value.oneCell'],by omega,by omega,fun a7 c7 m7 dZ jd=>⟨by trivial,n - (k+1),by omega,k+1,a7,c7,aX,?_,?_,?_,rfl⟩⟩
   ·rw[Zan (by omega) (by omega),e2];rfl
   ·rw[e2]
   ·rw[e,ZnS];exact jd
  ·rw[ZhD]at hv
   have e:Zji g (k+1)=Zji g k:=by rw[ZhF,hv];simp
   exact⟨by trivial,n - (k+1),by omega,k+1,_,_,aX,by rw[Zan (by omega) (by omega),e];rfl,by rw[e],by rw[e];exact cC,rfl⟩
 ·have:k=n:=by omega
  subst this
  exact⟨m3,Mem.le_trans iB bQ,Mem.le_refl _,_,_,rfl,cC⟩
end Go.Proofs.Ythiefodednaikaa
