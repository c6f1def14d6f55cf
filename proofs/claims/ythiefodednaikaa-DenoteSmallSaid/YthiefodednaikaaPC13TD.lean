/- Part of the proof: conditions and contracts of functions of this program. No condition of its own. -/
import Derived.Test.YthiefodednaikaaPC08A
import Derived.Test.YthiefodednaikaaPVRT
import Derived.Test.YthiefodednaikaaMr
import Derived.Test.YthiefodednaikaaPVRV
import Derived.Test.YthiefodednaikaaPC13G
set_option linter.unusedVariables false
set_option linter.unusedSimpArgs false
set_option linter.unusedSectionVars false
namespace Go.Proofs.Ythiefodednaikaa
open Go Go.Eng Go.Rx Go.Proofs Go.RowKit
set_option maxRecDepth 100000
theorem Zue(k:Int)(q:QS):List.drop (1+(ZaY q).length) (Zay k)=[.int .i64 0,.int .i64 0,.slice none 0 0]:=by rw[ZaB];rfl
theorem ZxM(k:Int)(q:QS):Zam (Zay k) 1 (ZaY q)=rcs (IntKind.i64.wrap k) q 0 0 none 0 0:=by
 unfold Zam
 rw[Zue];rfl
theorem ZyR(k:Int)(q:QS)(mn mx x:Int)(a:Option Addr)(n c:Nat):Zam (rcs k q mn mx a n c) 257 [.int .i64 x]=rcs k q x mx a n c:=by
 have e:rcs k q mn mx a n c=(.int .i64 k::ZaY q)++[.int .i64 mn,.int .i64 mx,.slice a n c]:=rfl
 have hl:(Value.int .i64 k::ZaY q).length=257:=by simp[ZaB]
 unfold Zam
 rw[e,List.take_left' hl,List.drop_append,hl,List.drop_eq_nil_of_le (by rw[hl];simp)]
 simp[rcs]
theorem ZyS(k:Int)(q:QS)(mn mx x:Int)(a:Option Addr)(n c:Nat):Zam (rcs k q mn mx a n c) 258 [.int .i64 x]=rcs k q mn x a n c:=by
 have e:rcs k q mn mx a n c=(Value.int .i64 k::ZaY q++[Value.int .i64 mn])++[Value.int .i64 mx,Value.slice a n c]:=by simp[rcs]
 have hl:(Value.int .i64 k::ZaY q++[Value.int .i64 mn]).length=258:=by simp[ZaB]
 unfold Zam
 rw[e,List.take_left' hl,List.drop_append,hl,List.drop_eq_nil_of_le (by rw[hl];simp)]
 simp[rcs]
theorem ZyT(k:Int)(q:QS)(mn mx:Int)(a:Option Addr)(n c:Nat)(a':Option Addr)(n' c':Nat):Zam (rcs k q mn mx a n c) 259 [.slice a' n' c']=rcs k q mn mx a' n' c':=by
 have e:rcs k q mn mx a n c=(Value.int .i64 k::ZaY q++[Value.int .i64 mn,Value.int .i64 mx])++[Value.slice a n c]:=by simp[rcs]
 have hl:(Value.int .i64 k::ZaY q++[Value.int .i64 mn,Value.int .i64 mx]).length=259:=by simp[ZaB]
 unfold Zam
 rw[e,List.take_left' hl,List.drop_eq_nil_of_le (by rw[List.length_append,hl];simp)]
 simp[rcs]
theorem Zob{l:List Value}(h:∀u∈l,u.oneCell'=true):Zcp l=true:=by
 induction l with
 | nil=>rfl
 | cons u l ih=>simp only[Zcp,h u (by simp),Bool.true_and];exact ih λx hx=>h x (by simp[hx])
theorem ZyU(q:QS)(x y z:Value):List.take 256 (List.append (ZaY q) [x,y,z])=ZaY q:=List.take_left' (ZaB q)
theorem ZyV(q:QS)(x y z:Value):List.drop 257 (List.append (ZaY q) [x,y,z])=[y,z]:=by
 show List.drop 257 (ZaY q++[x,y,z])=_
 rw[List.drop_append,ZaB,List.drop_eq_nil_of_le (by rw[ZaB];omega)];rfl
theorem ZyW(q:QS)(x:Value)(l:List Value):List.append (List.append (ZaY q) [x]) l=ZaY q++(x::l):=by
 show(ZaY q++[x])++l=_
 simp
theorem ZyX(q:QS)(x y z:Value):List.take 257 (ZaY q++[x,y,z])=ZaY q++[x]:=by
 rw[List.take_append,ZaB,List.take_of_length_le (by rw[ZaB];omega)];rfl
theorem ZyY(q:QS)(x y z:Value):List.drop 258 (ZaY q++[x,y,z])=[z]:=by
 rw[List.drop_append,ZaB,List.drop_eq_nil_of_le (by rw[ZaB];omega)];rfl
set_option maxHeartbeats 1600000 in
theorem ZpM:∀(t:T)(m:Mem),Rep m t->t.nodes.length<=1000000->CX Try.prog 63 #[t.v] m [] (λv m' _=>∃cs,v=.agg cs.toArray/\RefT m' t cs):=by
 intro t
 induction hn:SizeOf.sizeOf t using Nat.strongRecOn generalizing t with
 | ind n ih=>
 intro m hr bW
 have fD:=Zo6 t
 obtain⟨bS,cF⟩:=Zev hr
 have cC:=ZuC hr
 have hq:=Zwv cC
 apply Zi1
 unfold ZfB
 intro b m1 aW _ b1
 refine⟨λ_ _ _=>Ret (.agg (ZaY t.q).toArray),_,rfl,Zvj t.q hq m1,λv _ _ h=>by rw[h];rfl,?_⟩
 intro cs m2 aY hv
 have hv:Value.agg (Array.mk cs)=.agg (ZaY t.q).toArray:=hv
 simp only[Value.agg.injEq,Array.mk.injEq]at hv
 subst hv
 have kh:IntKind.i64.wrap t.k=t.k:=Zao (by have:=cC.k.1;omega) (by have:=cC.k.2;omega)
 generalize hd:List.drop _ (Zay t.k)=d
 obtain rfl:d=[.int .i64 0,.int .i64 0,.slice none 0 0]:=by rw[<-hd];exact Zue t.k t.q
 clear hd
 generalize he:List.append (List.append (List.take 256 (List.append (ZaY t.q) _)) _) _=e
 obtain rfl:e=ZaY t.q++[.int .i64 t.mn,.int .i64 0,.slice none 0 0]:=by
  rw[<-he]
  exact(congr (congrArg (λu w=>List.append (List.append u [Value.int .i64 t.mn]) w) (ZyU _ _ _ _)) (ZyV _ _ _ _)).trans (ZyW _ _ _)
 clear he
 generalize hf:List.append (List.append (List.take 257 _) _) _=f
 obtain rfl:f=((ZaY t.q++[.int .i64 t.mn])++[.int .i64 t.mx])++[.slice none 0 0]:=by
  rw[<-hf]
  exact congr (congrArg (λu w=>List.append (List.append u [Value.int .i64 t.mx]) w) (ZyX _ _ _ _)) (ZyY _ _ _ _)
 clear hf
 refine Zaa (by rw[ZaB];rfl) (Zaa (by simp[ZaB]) (Zaa (by simp[ZaB]) λb2=>Zaa ?_ ?_))
 ·rw[Bool.and_eq_true]
  refine⟨by simp[ZaB],Zob λu hu=>?_⟩
  simp only[List.append_assoc,List.mem_append,List.mem_cons,List.not_mem_nil,or_false]at hu
  rcases hu with hu|hu
  ·exact Zjv _ u hu
  ·rcases hu with rfl|rfl|rfl <;> rfl
 intro M cR cT
 have lT:=mLt aW cR
 refine⟨λxs css tvs m' q=>∃(k:Nat)(a:Option Addr)(c:Nat) (R:List (List Value)),k<=t.subs.length/\xs=[.int .i64 k]/\css=[rcs t.k t.q t.mn t.mx a k c]/\tvs=[.slice a k c]/\m.le m'/\rowRd m' a R.flatten/\RefAt m' (t.subs.take k) R/\k<=c/\q=t.subs.length - k,
  ⟨_,0,none,0,[],Nat.zero_le _,rfl,?_,rfl,lT,.inl rfl,by simp only[List.take_zero,RefAt],Nat.le_refl _,rfl⟩,?_⟩
 ·rw[ZxM,ZyR,ZyS,kh]
 rintro z cs a n1 c m3 q _ ⟨k,a',c',R,hk,hz,cV,iW,bN,bU,dV,ku,me⟩
 obtain rfl:z=k:=by simpa using hz
 obtain rfl:cs=rcs t.k t.q t.mn t.mx a' k c':=by simpa using cV
 simp only[List.cons.injEq,Value.slice.injEq,and_true]at iW
 obtain⟨rfl,rfl,rfl⟩:=iW
 subst me
 refine Zab (λbB=>?_) (λcK=>?_)
 ·have aX:n1 < t.subs.length:=by have:=of_decide_eq_true bB;omega
  obtain⟨x,hx⟩:=Zbx aX
  rcases cF with hs|⟨bb,o,ha,rc⟩
  ·rw[hs]at aX;simp at aX
  have hg:=rc.get hx
  have gF:=Zit (List.mem_of_getElem? hx)
  have eU:=ZfU (List.mem_of_getElem? hx)
  refine⟨bb,o,ha,⟨by omega,by omega⟩,.int .u8 x.k,.int .u64 x.s0,.int .u64 x.s1,.int .u64 x.s2,.int .u64 x.s3,.int .i64 x.mn,.int .i64 x.mx,.slice x.a x.subs.length x.c,(by rw[Int.toNat_natCast];exact λj v hv=>bN _ _ _ (hg.1 j v hv)),λb4=>Zaa rfl ⟨λ_ _ _=>(λv m' _=>∃cs:List Value,v=.agg cs.toArray/\RefT m' x cs),Za3 ⟨_,rfl,ih _ (by omega) x rfl m3 (hg.2.mono bN x) (by omega),λv _ _ ⟨_,h,_⟩=>by rw[h];rfl,?_⟩⟩⟩
  intro cs1 m4 cE hR
  obtain⟨cs2,lU,fH⟩:∃cs,Value.agg (Array.mk cs1)=.agg cs.toArray/\RefT m4 x cs:=hR
  simp only[Value.agg.injEq,Array.mk.injEq]at lU
  subst lU
  have iC:=fH.len
  refine Zaa (by rw[iC];rfl) λb5 nT=>Zaa rfl ?_
  have ia:=Mem.le_add nT (List.append cs1 [])
  have dW:rowRd (m4.add b5 (List.append cs1 [])) (some ⟨b5,0,none⟩) cs1:=.inr ⟨b5,0,rfl,λj u hj=>by rw[Nat.zero_add,Mem.add_same];show(cs1++[])[j]?=_;rw[List.append_nil];exact hj⟩
  have mE:=ZrH dV.all
  have sM:=dV.len
  rw[List.length_take,Nat.min_eq_left (by omega)]at sM
  refine⟨.inl rfl,R.flatten,cs1,by rw[mE,sM];rfl,by rw[iC],(bU.mono cE).mono ia,dW,fH.one,by simp only[slN];omega,by simp only[slN];omega,λa7 c7 m7 dN jM uS=>Zaa (by rw[Ziy];rfl) λM2 nU pf sN lV=>⟨by trivial,t.subs.length - (n1+1),by omega,n1+1,a7,c7,R++[cs1],by omega,?_,?_,rfl,mLt bN nU,?_,?_,by simpa[slN]using uS,rfl⟩⟩
  ·rw[Zao (by omega) (by omega)];rfl
  ·simp only[slN]
   rw[ZyT]
  ·rw[List.flatten_append,List.flatten_singleton];exact jM.mono lV
  ·have e:t.subs.take (n1+1)=t.subs.take n1++[x]:=by rw[List.take_add_one,hx];rfl
   rw[e]
   exact(dV.mono nU).snoc (fH.mono pf)
 ·have:n1=t.subs.length:=by have:=of_decide_eq_false cK;omega
  subst this
  rw[List.take_length]at dV
  refine Zaa (by rw[Ziy,Zob (Zt0 _ _ _ _ _ _ _)];rfl) ⟨m3,bN,Mem.le_refl _,_,rfl,Zb5.2 ⟨cC,by omega,a,c,R,rfl,bU,dV,ku⟩⟩
theorem ZqQ:∀(t:T)(cs:List Value)(m:Mem),RefT m t cs->t.nodes.length<=1000000->CX Try.prog 124 #[.agg cs.toArray] m [] (Ret (.int .i64 (t.gr:Nat))):=by
 intro t
 induction hn:SizeOf.sizeOf t using Nat.strongRecOn generalizing t with
 | ind n ih=>
 intro cs m hr bW
 obtain⟨_,bS,a,c,css,rfl,bU,dV,_⟩:=Zb5.1 hr
 have jK:=ZyM t
 have cK:=ZxF t
 have fD:=Zo6 t
 have loop:∀(k:Nat)(m2:Mem),k < t.subs.length->m.le m2->∃(b o:Nat)(cs2:List Value)(x:T),t.subs[k]?=some x/\a=some ⟨b,o,none⟩/\cs2.length=260/\m2.reads b (o+k*260) cs2/\CX Try.prog 124 #[.agg cs2.toArray] m2 [] (Ret (.int .i64 (x.gr:Nat))):=by
  intro k m2 hk aY
  obtain⟨x,hx⟩:=Zbx hk
  obtain⟨bb,o,cs2,ha,cJ,fH⟩:=Ziz bU dV hx
  have eU:=ZfU (List.mem_of_getElem? hx)
  have gF:=Zit (List.mem_of_getElem? hx)
  exact⟨bb,o,cs2,x,hx,ha,fH.len,cJ.mono aY,ih _ (by omega) x rfl cs2 m2 (fH.mono aY) (by omega)⟩
 have gl:∀k,grL (t.subs.take k)<=1000000:=λk=>by
  have h1:=ZxG (t.subs.take k)
  have h2:=Zpo (l:=t.subs) k
  have h3:t.nodes.length=1+(Zaz t.subs).length:=by rw[Zbi,List.length_cons];omega
  omega
 apply Zi3
 unfold ZfD
 refine ZhG λb m1 aW _=>Za0 (Zaa rfl (Zab (λh6=>?_) (λh6=>?_)))
 ·have h6':t.k=6:=by simpa[intOf]using h6
  rw[if_pos h6']at cK
  refine⟨λxs _ _ m' q=>∃k:Nat,k<=t.subs.length/\xs=[.int .i64 ((1+grL (t.subs.take k):Nat):Int),.int .i64 k]/\m.le m'/\q=t.subs.length - k,⟨_,0,Nat.zero_le _,rfl,aW,rfl⟩,?_⟩
  rintro s z m2 q _ ⟨k,hk,hx,aY,hq⟩
  simp only[List.cons.injEq,Value.int.injEq,true_and,and_true]at hx
  obtain⟨rfl,rfl⟩:=hx
  subst hq
  refine Za3 (Zaa rfl (Zab (λbB=>?_) (λiD=>?_)))
  ·have aX:k < t.subs.length:=by have:=of_decide_eq_true bB;simp only[slN]at this;omega
   obtain⟨bb,o,cs2,x,hx,ha,gp,cJ,eQ⟩:=loop k m2 aX aY
   have h1:=gl k
   have h2:=gl (k+1)
   rw[ZiA hx]at h2
   refine Za3 (Zaa rfl ⟨bb,o,ha,⟨by omega,by simp only[slN];omega⟩,cs2,gp,(by rw[Int.toNat_natCast];exact cJ),ZaC eQ λm3 bN=>⟨by trivial,_,by omega,k+1,aX,?_,mLt aY bN,rfl⟩⟩)
   rw[ZiA hx,Zao (by omega) (by omega),Zao (by omega) (by omega)]
   simp only[List.cons.injEq,Value.int.injEq,true_and,and_true]
   omega
  ·have:k=t.subs.length:=by have:=of_decide_eq_false iD;simp only[slN]at this;omega
   subst this
   refine Zac aY ?_
   rw[List.take_length,<-cK]
 ·have h6':¬t.k=6:=by simpa[intOf]using h6
  rw[if_neg h6',Nat.zero_add]at cK
  refine⟨λxs _ _ m' q=>∃k:Nat,k<=t.subs.length/\xs=[.int .i64 ((grL (t.subs.take k):Nat):Int),.int .i64 k]/\m.le m'/\q=t.subs.length - k,⟨_,0,Nat.zero_le _,rfl,aW,rfl⟩,?_⟩
  rintro s z m2 q _ ⟨k,hk,hx,aY,hq⟩
  simp only[List.cons.injEq,Value.int.injEq,true_and,and_true]at hx
  obtain⟨rfl,rfl⟩:=hx
  subst hq
  refine Za3 (Zaa rfl (Zab (λbB=>?_) (λiD=>?_)))
  ·have aX:k < t.subs.length:=by have:=of_decide_eq_true bB;simp only[slN]at this;omega
   obtain⟨bb,o,cs2,x,hx,ha,gp,cJ,eQ⟩:=loop k m2 aX aY
   have h1:=gl k
   have h2:=gl (k+1)
   rw[ZiA hx]at h2
   refine Za3 (Zaa rfl ⟨bb,o,ha,⟨by omega,by simp only[slN];omega⟩,cs2,gp,(by rw[Int.toNat_natCast];exact cJ),ZaC eQ λm3 bN=>⟨by trivial,_,by omega,k+1,aX,?_,mLt aY bN,rfl⟩⟩)
   rw[ZiA hx,Zao (by omega) (by omega),Zao (by omega) (by omega)]
   simp only[List.cons.injEq,Value.int.injEq,true_and,and_true]
   omega
  ·have:k=t.subs.length:=by have:=of_decide_eq_false iD;simp only[slN]at this;omega
   subst this
   refine Zac aY ?_
   rw[List.take_length,<-cK]
theorem ZqR(t:T)(cs:List Value)(m:Mem)(hr:RefT m t cs):CX Try.prog 110 #[.agg cs.toArray] m [] (Ret (.int .i64 t.groups)):=by
 have hl:=hr.len
 apply Zi4
 unfold ZfE
 refine Zaa (by rw[hl];rfl) λb m1 aW _=>?_
 refine Zan (Zl1 t cs m1 (hr.mono aW)) λm2 aY=>Zab (λh=>Zac (mLt aW aY) ?_) (λh=>?_)
 ·have:t.light=false:=by simpa using h
  unfold T.groups
  rw[this];rfl
 ·have h1:t.light=true:=by simpa using h
  have h2:t.nodes.length<=10000:=by unfold T.light at h1;simpa using h1
  refine ZaC (ZqQ t cs m2 ((hr.mono aW).mono aY) (by omega)) λm3 bN=>Zac (mLt aW (mLt aY bN)) ?_
  unfold T.groups
  rw[h1];rfl
theorem ZqS(mn mx:Int)(m:Mem):CX Try.prog 127 #[.int .i64 mn,.int .i64 mx] m [] (Ret (.bool (Zd7 mn mx))):=by
 apply Zi2
 unfold ZfC
 rw[<-ZyL]
 have n1:∀{p:Prop} [Decidable p],decide p=false->¬p:=λh=>of_decide_eq_false h
 refine⟨!decide (0<=mn/\mn<=16),Zab (λh=>?_) (λh=>?_),Zab (λh=>Zac (Mem.le_refl _) ?_) (λh=>?_)⟩
 ·have:=of_decide_eq_true h
  rw[decide_eq_false (p:=0<=mn/\mn<=16) (by omega)];rfl
 ·have:=n1 h
  have e:decide (mn > 16)=!decide (0<=mn/\mn<=16):=by rw[Bool.eq_iff_iff];simp;omega
  rw[e]
 ·have:decide (0<=mn/\mn<=16)=false:=by rw[<-Bool.not_not (decide _),h];rfl
  rw[this];rfl
 ·have:decide (0<=mn/\mn<=16)=true:=by rw[<-Bool.not_not (decide _),h];rfl
  rw[this]
  refine Zab (λh2=>Zac (Mem.le_refl _) (by rw[h2];rfl)) (λh2=>⟨decide (0 < mx)&&(decide (mx < 17)&&(decide (mn<=mx)&&!(mn == 1&&mx == 1))),?_,Zac (Mem.le_refl _) (by rw[h2];rfl)⟩)
  refine Zab (λa=>Zab (λb=>Zab (λc=>Zab (λd=>?_) (λd=>?_)) (λc=>?_)) (λb=>?_)) (λa=>?_)
  all_goals simp_all
  all_goals omega
theorem Zoc:List.replicate 256 (Value.int .i64 0)=ZaY (0,0,0,0):=by
 refine(List.eq_replicate_iff.2 ⟨ZaB _,λu hu=>?_⟩).symm
 unfold ZaY at hu
 obtain⟨c,_,rfl⟩:=List.mem_map.1 hu
 have:ZvN (0,0,0,0) c=false:=by rw[Zpn];unfold Zix;split <;> simp
 unfold ZtZ
 rw[this];rfl
theorem ZxN(t:T):decide (t.q=(0,0,0,0))=t.setZ:=by
 unfold T.q T.setZ
 rw[Bool.eq_iff_iff]
 simp[Prod.ext_iff,and_assoc]
theorem ZwR{t:T}(hq:QOk t.q)(mn mx:Int)(a:Option Addr)(n c:Nat):EqIs Try.prog 106 (.agg (List.take 256 (List.drop 1 (rcs t.k t.q mn mx a n c))).toArray) (.agg (List.replicate 256 (Value.int .i64 0)).toArray) t.setZ:=by
 rw[ZrG,Zoc,<-ZxN]
 exact Zzl hq (by unfold QOk;exact⟨⟨by decide,by decide⟩,⟨by decide,by decide⟩,⟨by decide,by decide⟩,⟨by decide,by decide⟩⟩)
theorem Zvl{m:Mem}{b o:Nat}{cs:List Value}(h:m.reads b o cs){v:Value}(hv:cs[0]?=some v):m b (o+0)=some v:=h 0 v hv
theorem ZaG{p:Prop} [Decidable p]{A B:Prop}(ht:p->A)(hf:¬p->B):br (decide p) A B:=Zab (λh=>ht (of_decide_eq_true h)) (λh=>hf (of_decide_eq_false h))
set_option maxHeartbeats 4000000 in
theorem Ztl:∀(t:T)(cs:List Value)(m:Mem),RefT m t cs->CX Try.prog 121 #[.agg cs.toArray] m [] (Ret (.bool t.good)):=by
 intro t
 induction hn:SizeOf.sizeOf t using Nat.strongRecOn generalizing t with
 | ind n ih=>
 intro cs m hr
 obtain⟨cC,bS,a,c,css,rfl,bU,dV,_⟩:=Zb5.1 hr
 have kR:=ZrI t
 apply Zkc
 unfold ZgC
 refine ZhG λb m1 aW _ b1=>Za0 (Zaa rfl (Zab (λh1=>Zac aW ?_) (λh1=>Za0 (Zaa rfl (Zab (λh2=>Zac aW ?_) (λh2=>Za0 (Zaa rfl (Zaa (by rw[Ziy];rfl) ⟨t.setZ,ZwR (Zwv cC) _ _ _ _ _,Zab (λh3=>Zac aW ?_) (λh3=>⟨!(if t.k=5 then Zd7 t.mn t.mx else t.mn == 0&&t.mx == 0),?_,Zab (λh4=>Zac aW ?_) (λh4=>Za3 (Zaa rfl ⟨!(if t.k < 3 then t.subs.length == 0 else if t.k < 5 then decide (2<=t.subs.length)else t.subs.length == 1),?_,Zab (λh5=>Zac aW ?_) (λh5=>?_)⟩))⟩)⟩))))))))
 ·have:t.k < 1:=of_decide_eq_true h1
  rw[kR,Zt1,decide_eq_false (p:=1<=t.k) (by omega)];simp
 ·have:t.k > 6:=of_decide_eq_true h2
  rw[kR,Zt1,decide_eq_false (p:=t.k<=6) (by omega)];simp
 ·have h3':(!(t.k == 2) == !t.setZ)=true:=h3
  have:((t.k == 2) == !t.setZ)=false:=by
   revert h3'
   cases t.k == 2 <;> cases t.setZ <;> decide
  rw[kR,Zt1,this];simp
 ·refine Za0 (Zaa rfl (Zab (λh=>ZfG (Zi5 ?_)) (λh=>?_)))
  ·have h':t.k=5:=eq_of_beq h
   rw[if_pos h']
   refine Zan (ZqS t.mn t.mx m1) λm2 aY=>Zab (λhb=>⟨by trivial,by rw[hb]⟩) (λhb=>Za0 (Zaa rfl (Zab (λhk=>?_) (λhk=>⟨by trivial,?_⟩))))
   ·exact absurd h' (by simpa[intOf]using hk)
   ·have:Zd7 t.mn t.mx=true:=by rw[<-Bool.not_not (Zd7 _ _),hb];rfl
    rw[this];rfl
  ·have h':¬t.k=5:=λe=>by rw[show(intOf (.int .i64 t.k) == 5)=(t.k == 5) from rfl,e]at h;cases h
   rw[if_neg h']
   refine Za0 (Zaa rfl (Zab (λhk=>ZfG (Zaa rfl (Zab (λhm=>⟨by trivial,?_⟩) (λhm=>Zi5 (Zaa rfl ⟨by trivial,?_⟩))))) (λhk=>?_)))
   ·have:(!t.mn == 0)=true:=hm
    cases hx:t.mn == 0 <;> simp_all
   ·have:(!t.mn == 0)=false:=hm
    show[Value.bool (!t.mx == 0)]=_
    cases hx:t.mn == 0 <;> simp_all
   ·have:(!t.k == 5)=false:=hk
    simp at this;exact absurd this h'
 ·rw[kR,Zt1]
  have:(if t.k=5 then Zd7 t.mn t.mx else t.mn == 0&&t.mx == 0)=false:=by rw[<-Bool.not_not (ite _ _ _),h4];rfl
  rw[ZyL,this];simp
 ·obtain⟨K,hK⟩:∃K,K=t.k:=⟨_,rfl⟩
  obtain⟨N,hN⟩:∃N,N=t.subs.length:=⟨_,rfl⟩
  rw[<-hK,<-hN]
  refine Za0 (Zaa rfl (ZaG (λg1=>ZaG (λg2=>?_) (λg2=>?_)) (λg1=>?_)))
  ·(refine⟨by trivial,?_⟩;simp only[intOf,slN,decide_eq_true_eq,decide_eq_false_iff_not,gt_iff_lt,Int.not_lt]at *;(repeat' split) <;> first|omega|(simp;done)|(simp;omega)|(simp only[List.cons.injEq,Value.bool.injEq,and_true];rw[Bool.eq_iff_iff];simp;omega))
  all_goals refine Za0 (Zaa rfl (ZaG (λg3=>Za0 (Zaa rfl (ZaG (λg4=>ZaG (λg5=>?_) (λg5=>Za0 (Zaa rfl (ZaG (λg6=>?_) (λg6=>?_))))) (λg4=>Za0 (Zaa rfl (ZaG (λg6=>?_) (λg6=>?_))))))) (λg3=>Za0 (Zaa rfl (ZaG (λg6=>?_) (λg6=>?_))))))
  all_goals (refine⟨by trivial,?_⟩;simp only[intOf,slN,decide_eq_true_eq,decide_eq_false_iff_not,gt_iff_lt,Int.not_lt]at *;(repeat' split) <;> first|omega|(simp;done)|(simp;omega)|(simp only[List.cons.injEq,Value.bool.injEq,and_true];rw[Bool.eq_iff_iff];simp;omega))
 ·rw[kR,Zt1]
  have:(if t.k < 3 then t.subs.length == 0 else if t.k < 5 then decide (2<=t.subs.length)else t.subs.length == 1)=false:=by rw[<-Bool.not_not (ite _ _ _),h5];rfl
  rw[this];simp
 ·have hN:Zt1 t=true:=by
   have e1:decide (1<=t.k)=true:=by have:=of_decide_eq_false h1;exact decide_eq_true (by simp only[intOf]at this;omega)
   have e2:decide (t.k<=6)=true:=by have:=of_decide_eq_false h2;exact decide_eq_true (by simp only[intOf]at this;omega)
   have e3:((t.k == 2) == !t.setZ)=true:=by
    have h3':(!(t.k == 2) == !t.setZ)=false:=h3
    revert h3'
    cases t.k == 2 <;> cases t.setZ <;> decide
   have e4:(if t.k=5 then Zd7 t.mn t.mx else t.mn == 0&&t.mx == 0)=true:=by rw[<-Bool.not_not (ite _ _ _),h4];rfl
   have e5:(if t.k < 3 then t.subs.length == 0 else if t.k < 5 then decide (2<=t.subs.length)else t.subs.length == 1)=true:=by rw[<-Bool.not_not (ite _ _ _),h5];rfl
   rw[Zt1,ZyL,e1,e2,e3,e4,e5];rfl
  rw[hN,Bool.true_and]at kR
  refine⟨λxs _ _ m' q=>∃k:Nat,k<=t.subs.length/\xs=[.int .i64 k]/\m.le m'/\((t.subs.take k).all λx=>Zlx t.k x&&x.good)=true/\q=t.subs.length - k,⟨_,0,Nat.zero_le _,rfl,aW,rfl,rfl⟩,?_⟩
  rintro z m2 q _ ⟨k,hk,hx,aY,bR,hq⟩
  obtain rfl:z=k:=by simpa using hx
  subst hq
  refine Zab (λbB=>?_) (λcK=>?_)
  ·have aX:k < t.subs.length:=by have:=of_decide_eq_true bB;simp only[slN]at this;omega
   obtain⟨x,hx⟩:=Zbx aX
   obtain⟨bb,o,cs2,ha,cJ,fH⟩:=Ziz bU dV hx
   have eU:=ZfU (List.mem_of_getElem? hx)
   have nV:m2.reads bb (o+k*260) cs2:=cJ.mono aY
   obtain⟨_,_,a2,c2,css2,uT,_,_,_⟩:=Zb5.1 fH
   have h0:cs2[0]?=some (.int .i64 x.k):=by rw[uT];exact Zn6 _ _ _ _ _ _ _
   have fI:Zaf k (slN (.slice a t.subs.length c)):=⟨by omega,by simp only[slN];omega⟩
   have bZ:∀{K:Prop},K->K:=λh=>h
   have go:∀(P:Prop),(∀(m':Mem),m2.le m'->P)->True:=λ_ _=>trivial
   refine Za3 (Zaa rfl ⟨bb,o,ha,fI,.int .i64 x.k,Zvl (by rw[Int.toNat_natCast];exact nV) h0,!(Zlx t.k x&&x.good),?_,Zab (λhb=>Zac aY ?_) (λhb=>⟨by trivial,_,by omega,k+1,aX,by rw[Zao (by omega) (by omega)];rfl,aY,?_,rfl⟩)⟩)
   ·repeat' (first|refine Za0 (Zaa rfl (Zab (λ_=>?_) (λ_=>?_)))|refine Zaa rfl (Zab (λ_=>?_) (λ_=>?_))|(refine And.intro rfl ?_;simp_all [intOf,Zlx];done))
    all_goals refine Za3 (Zaa rfl ⟨bb,o,ha,fI,cs2,fH.len,(by rw[Int.toNat_natCast];exact nV),Zan (ih _ (by omega) x rfl cs2 m2 (fH.mono aY)) λm3 bN=>?_⟩)
    all_goals (refine And.intro rfl ?_;simp_all [intOf,Zlx];done)
   ·have hb':(Zlx t.k x&&x.good)=false:=by rw[<-Bool.not_not (Zlx _ _&&_),hb];rfl
    rw[kR]
    have:(t.subs.all λx=>Zlx t.k x&&x.good)=false:=by
     rw[Bool.eq_false_iff]
     intro hh
     rw[List.all_eq_true.1 hh x (List.mem_of_getElem? hx)]at hb';cases hb'
    rw[this]
   ·have hb':(Zlx t.k x&&x.good)=true:=by rw[<-Bool.not_not (Zlx _ _&&_),hb];rfl
    rw[List.take_add_one,hx,Option.toList_some,List.all_append,bR]
    simpa using hb'
  ·have:k=t.subs.length:=by have:=of_decide_eq_false cK;simp only[slN]at this;omega
   subst this
   rw[List.take_length]at bR
   exact Zac aY (by rw[kR,bR])
theorem ZcG{x y:Int}{A B:Prop}(ht:x=y->A)(hf:¬x=y->B):br (x == y) A B:=Zab (λh=>ht (eq_of_beq h)) (λh=>hf λe=>by rw[e]at h;simp at h)
theorem Ztm{t:T}{m m1:Mem}{n V:Int}(cL:m.le m1)(h5:t.k=5)(hn:t.pos=ZtP t.k t.mn t.mx n)(hb:0<=n/\n<=100020001)(hV:ZvF t.mn t.mx=V):br (decide (IntKind.i64.wrap (n*V) > 10001)) (∃m'',m.le m''/\m''.le m1/\Ret (.int .i64 t.pos) (.int .i64 10001) m'' []) (∃m'',m.le m''/\m''.le m1/\Ret (.int .i64 t.pos) (.int .i64 (IntKind.i64.wrap (n*V))) m'' []):=by
 have hF:=Zrr t.mn t.mx
 rw[hV]at hF
 have qP:0<=n*V/\n*V<=100020001*10001:=⟨Int.mul_nonneg hb.1 hF.1,Int.mul_le_mul hb.2 hF.2 hF.1 (by omega)⟩
 have hp:t.pos=Znt (n*V) 10001:=by rw[hn,ZtP,if_pos h5,<-hV];rfl
 rw[Zao (by omega) (by omega)]
 refine ZaG (λh=>Zac cL ?_) (λh=>Zac cL ?_)
 ·rw[hp,Znt,if_pos (by omega)]
 ·rw[hp,Znt,if_neg (by omega)]
set_option maxHeartbeats 1000000 in
theorem Zl2:∀(t:T)(cs:List Value)(m:Mem),RefT m t cs->t.nodes.length<=10000->CX Try.prog 123 #[.agg cs.toArray] m [] (Ret (.int .i64 t.pos)):=by
 intro t
 induction hn:SizeOf.sizeOf t using Nat.strongRecOn generalizing t with
 | ind n ih=>
 intro cs m hr hl
 obtain⟨cC,bS,a,c,css,rfl,bU,dV,_⟩:=Zb5.1 hr
 have fD:=Zo6 t
 have fC:=ZsI t
 apply Zf4
 unfold Zdr
 refine ZhG λb m1 aW _=>Za0 (Zaa rfl (ZcG (λhk=>?_) (λhk=>?_)))
 all_goals
  have hk':(if t.k=2 then(1:Int)else 0)=1/\t.k=2\/(if t.k=2 then(1:Int)else 0)=0/\t.k≠2:=by split <;> simp_all
  refine⟨λxs _ _ m'' q=>∃i:Nat,i<=t.subs.length/\xs=[.int .i64 ((if t.k=2 then 1 else 0)+ZfL (t.subs.take i)),.int .i64 i]/\m.le m''/\q=t.subs.length - i,⟨t.subs.length,0,by omega,by simp_all [ZfL,intOf],aW,by omega⟩,?_⟩
  rintro n n1 m2 q uU ⟨i,hi,gF,aY,hq⟩
  have eS:=ZkG (t.subs.take i)
  have dS:=Zrs (t.subs.take i)
  have eN:(t.subs.take i).length<=i:=List.length_take_le _ _
  clear hk' hk
  generalize hc:(if t.k=2 then(1:Int)else 0)=c0 at *
  have uB:0<=c0/\c0<=1:=by rw[<-hc];split <;> omega
  simp only[List.cons.injEq,Value.int.injEq,true_and,and_true]at gF
  obtain⟨rfl,rfl⟩:=gF
  subst hq
  refine Za3 (Zaa rfl (ZaG (λbB=>?_) (λcK=>?_)))
  ·have aX:i < t.subs.length:=by simp only[slN]at bB;omega
   obtain⟨x,hx⟩:=Zbx aX
   have cD:x∈t.subs:=List.mem_of_getElem? hx
   have bW:=ZfU cD
   have sE:=Zit cD
   obtain⟨bb,o,cs2,ha,cJ,fH⟩:=Ziz bU dV hx
   have r6:=Znu x
   refine Za3 (Zaa rfl ⟨bb,o,ha,⟨by omega,by simp only[slN];omega⟩,cs2,fH.len,(by rw[Int.toNat_natCast];exact cJ.mono aY),?_⟩)
   refine ZaC (ih _ (by omega) x rfl cs2 m2 (fH.mono aY) (by omega)) λm3 bN=>⟨rfl,t.subs.length - (i+1),by omega,i+1,by omega,?_,mLt aY bN,rfl⟩
   rw[Zao (by omega) (by omega),Zao (by omega) (by omega),Zo5 hx,Int.add_assoc]
   rfl
  ·have hi':i=t.subs.length:=by simp only[slN]at cK;omega
   subst hi'
   rw[List.take_length]at eS dS ⊢
   clear eN dV bU hr ih
   refine Za0 (Zaa rfl (ZcG (λh5=>?_) (λh5=>?_)))
   ·have h5':t.k=5:=h5
    have hp:t.pos=ZtP t.k t.mn t.mx (c0+ZfL t.subs):=fC
    have hb:0<=c0+ZfL t.subs/\c0+ZfL t.subs<=100020001:=by omega
    have eR:=cC.mn
    clear fC h5 cC
    have cap:∀{v:Int} {m':Mem},m.le m'->ZvF t.mn t.mx=Znt (ZnV v 0) 10001->chk (Zar .i64 (.int .i64 v)&&decide (IntKind.i64=IntKind.i64)) (br (decide (intOf (.int .i64 v) < 0)) (br (decide (IntKind.i64.wrap ((c0+ZfL t.subs)*0) > 10001)) (∃m'',m.le m''/\m''.le m'/\Ret (.int .i64 t.pos) (.int .i64 10001) m'' []) (∃m'',m.le m''/\m''.le m'/\Ret (.int .i64 t.pos) (.int .i64 (IntKind.i64.wrap ((c0+ZfL t.subs)*0))) m'' [])) (chk (Zar .i64 (.int .i64 v)&&decide (IntKind.i64=IntKind.i64)) (br (decide (intOf (.int .i64 v) > 10001)) (br (decide (IntKind.i64.wrap ((c0+ZfL t.subs)*10001) > 10001)) (∃m'',m.le m''/\m''.le m'/\Ret (.int .i64 t.pos) (.int .i64 10001) m'' []) (∃m'',m.le m''/\m''.le m'/\Ret (.int .i64 t.pos) (.int .i64 (IntKind.i64.wrap ((c0+ZfL t.subs)*10001))) m'' [])) (chk (Zar .i64 (.int .i64 v)) (br (decide (IntKind.i64.wrap ((c0+ZfL t.subs)*intOf (.int .i64 v)) > 10001)) (∃m'',m.le m''/\m''.le m'/\Ret (.int .i64 t.pos) (.int .i64 10001) m'' []) (∃m'',m.le m''/\m''.le m'/\Ret (.int .i64 t.pos) (.int .i64 (IntKind.i64.wrap ((c0+ZfL t.subs)*intOf (.int .i64 v)))) m'' [])))))):=by
     intro v m' hm' hv
     refine Zaa rfl (ZaG (λa3=>Ztm hm' h5' hp hb ?_) (λa3=>Zaa rfl (ZaG (λa4=>Ztm hm' h5' hp hb ?_) (λa4=>Zaa rfl (Ztm hm' h5' hp hb ?_)))))
     all_goals
      rw[hv]
      simp only[intOf]at *
      unfold Znt ZnV
      (repeat' split) <;> omega
    refine Zi5 (Zi5 (Zaa rfl (ZcG (λa1=>ZfG (Zaa rfl (ZaG (λa2=>ZfG (cap aY ?_)) (λa2=>Ztm aY h5' hp hb ?_)))) (λa1=>ZfG (Zaa rfl (ZaG (λa2=>ZfG (cap aY ?_)) (λa2=>cap aY ?_)))))))
    all_goals
     simp only[intOf]at *
     unfold ZvF Znt ZnV
     (repeat' split) <;> omega
   ·have e1:¬t.k=5:=h5
    have hp:t.pos=Znt (c0+ZfL t.subs) 10001:=by rw[fC,ZtP,if_neg e1]
    refine ZaG (λh=>Zac aY ?_) (λh=>Zac aY ?_)
    ·rw[hp,Znt,if_pos (by omega)]
    ·rw[hp,Znt,if_neg (by omega)]
theorem Zl3(t:T)(cs:List Value)(m:Mem)(hr:RefT m t cs):CX Try.prog 109 #[.agg cs.toArray] m [] (Ret (.int .i64 t.positions)):=by
 have hl:=hr.len
 apply Zf5
 unfold Zds
 refine Zaa (by rw[hl];rfl) λb m1 aW _=>?_
 refine Zan (Zl1 t cs m1 (hr.mono aW)) λm2 aY=>Zab (λh=>Zac (mLt aW aY) ?_) (λh=>?_)
 ·have:t.light=false:=by rw[<-Bool.not_not t.light,h];rfl
  unfold T.positions
  rw[this];rfl
 ·have h1:t.light=true:=by rw[<-Bool.not_not t.light,h];rfl
  have h2:t.nodes.length<=10000:=by unfold T.light at h1;simpa using h1
  refine ZaC (Zl2 t cs m2 ((hr.mono aW).mono aY) (by omega)) λm3 bN=>Zac (mLt aW (mLt aY bN)) ?_
  unfold T.positions
  rw[h1];rfl
theorem Ztn(t:T)(cs:List Value)(m:Mem)(hr:RefT m t cs):CX Try.prog 107 #[.agg cs.toArray] m [] (Ret (.bool t.clean)):=by
 have hl:=hr.len
 apply Zkd
 unfold ZgD
 refine Zaa (by rw[hl];rfl) λb m1 aW _=>⟨t.clean,?_,Zac aW rfl⟩
 refine Zan (Zl1 t cs m1 (hr.mono aW)) λm2 aY=>Zab (λh=>?_) (λh=>⟨by trivial,by unfold T.clean;rw[h];rfl⟩)
 exact Zan (Ztl t cs m2 ((hr.mono aW).mono aY)) λm3 bN=>⟨by trivial,by unfold T.clean;rw[h];rfl⟩
theorem Zl4(t:T)(cs:List Value)(m:Mem)(hr:RefT m t cs):CX Try.prog 85 #[.agg cs.toArray] m [] (Ret (.int .i64 t.check)):=by
 have hl:=hr.len
 apply Zkg
 unfold ZgE
 refine Zaa (by rw[hl];rfl) λb m1 aW _=>?_
 have dU:=hr.mono aW
 refine Zan (Ztn t cs m1 dU) λm2 aY=>Zab (λh=>Zac (mLt aW aY) ?_) (λh=>?_)
 ·have:t.clean=false:=by rw[<-Bool.not_not t.clean,h];rfl
  rw[T.check,if_pos this]
 have h1:¬t.clean=false:=by intro e;rw[e]at h;cases h
 have eT:=dU.mono aY
 have fG:=mLt aW aY
 refine ZaC (Zvk t cs m2 eT) λm3 bN=>ZaG (λh=>Zac (mLt fG bN) ?_) (λh2=>?_)
 ·rw[T.check,if_neg h1,if_pos h]
 have eV:=mLt fG bN
 refine ZaC (Zl3 t cs m3 (eT.mono bN)) λm4 cE=>ZaG (λh=>Zac (mLt eV cE) ?_) (λh3=>?_)
 ·rw[T.check,if_neg h1,if_neg h2,if_pos h]
 have hC:=mLt eV cE
 refine ZaC (ZqR t cs m4 ((eT.mono bN).mono cE)) λm5 cN=>ZaG (λh=>Zac (mLt hC cN) ?_) (λh4=>Zac (mLt hC cN) ?_)
 ·rw[T.check,if_neg h1,if_neg h2,if_neg h3,if_pos h]
 ·rw[T.check,if_neg h1,if_neg h2,if_neg h3,if_neg h4]
def Zm1(m:Mem)(g:Nat->Nat->Bool)(n:Nat):RT:=λu m' _=>∃a c bs,u=.slice a n c/\Tab m' g n n a bs/\TabNew m n a bs
theorem ZbL{P:Program}{g:Nat}{args:Array Value}{m M0:Mem}{G:Nat->Nat->Bool}{n:Nat}{K:Option Addr->Nat->Nat->Mem->Prop}(h:CX P g args m [] (Zm1 M0 G n))(k:∀a c bs m',m.le m'->Tab m' G n n a bs->TabNew M0 n a bs->K a n c m'):
  ∃R:Value->Mem->List (List Value)->Prop,True/\CX P g args m [] R/\(∀(v:Value)(m':Mem) (css:List (List Value)),R v m' css->Shape.fits .slice v=true)/\∀(a:Option Addr)(n c:Nat)(m':Mem),m.le m'->R (.slice a n c) m' []->K a n c m':=
 ⟨_,trivial,h,λv _ _ ⟨_,_,_,e,_⟩=>by rw[e];rfl,λa n' c m' hm ⟨a0,c0,bs,e,h1,h2⟩=>by
  simp only[Value.slice.injEq]at e
  obtain⟨rfl,rfl,rfl⟩:=e
  exact k _ _ _ _ hm h1 h2⟩
theorem ZpN{m:Mem}{b o:Nat}{v:Value}(h:m b o=some v):∃vs:List Value,vs.length=1/\m.reads b o vs:=⟨[v],rfl,λj u hu=>by
 have:j=0:=by have:=(List.getElem?_eq_some_iff.1 hu).1;simp at this;omega
 subst this
 cases hu;exact h⟩
theorem Zf6(v:Bool):(intOf (bV v) == 1)=v:=by cases v <;> rfl
theorem ZhH(n:Nat)(v:Bool)(m:Mem)(hn:n<=1000000):CX Try.prog 111 #[.int .i64 n,.int .i64 (if v then 1 else 0)] m [] (Zm1 m (λi j=>v&&decide (i=j)) n):=by
 apply Zj3
 unfold Zgw
 refine⟨λxs _ tvs m' q=>∃(k:Nat)(a:Option Addr)(c:Nat)(bs:Nat->Nat),k<=n/\xs=[.slice a k c,.int .i64 k]/\tvs=[.slice a k c]/\m.le m'/\Tab m' (λi j=>v&&decide (i=j)) n k a bs/\TabNew m k a bs/\(k=0->a=none)/\(∀b o,a=some ⟨b,o,none⟩->o=0)/\q=n - k,
  ⟨_,0,none,0,λ_=>0,Nat.zero_le _,rfl,rfl,Mem.le_refl _,Tab.zero _,⟨λi hi=>by omega,λb o e=>by cases e⟩,λ_=>rfl,(λb o e=>by cases e),rfl⟩,?_⟩
 rintro a n1 c z a1 n2 c1 m2 q _ ⟨k,a',c',bs,hk,hz,ht,aY,dG,cU,h0,ho,hq⟩
 simp only[List.cons.injEq,Value.slice.injEq,Value.int.injEq,true_and,and_true]at hz ht
 obtain⟨⟨rfl,rfl,rfl⟩,rfl⟩:=hz
 obtain⟨rfl,rfl,rfl⟩:=ht
 subst hq
 refine ZaG (λbB=>?_) (λcK=>?_)
 ·have aX:n2 < n:=by omega
  rw[Int.toNat_natCast,Int.toNat_natCast]
  refine⟨⟨by omega,by omega,by omega,by omega⟩,λb hb=>⟨b,0,rfl,⟨by omega,by omega⟩,?_,Zdj aY hb,by trivial,λb2 dS=>⟨.inl (by trivial),?_⟩⟩⟩
  ·refine ZpN (v:=bV false) ?_
   rw[ZmQ,Mem.add_same,Nat.mul_one,Nat.zero_add,Zhv _ aX]
  ·have dU:(m2.add b (List.flatten (List.replicate n [Value.int .i64 0]))).reads b 0 (Zt3 (λ_=>false) n):=λj u hu=>by rw[ZmQ,Mem.add_same,Nat.zero_add];exact hu
   have kH:=Mem.le_add hb (List.flatten (List.replicate n [Value.int .i64 0]))
   have gp:=Mem.le_upd kH hb (0+n2*1) [bV v]
   have jH:=Mem.le_add dS [Value.slice (some ⟨b,0,none⟩) n n]
   have pg:=mLt gp jH
   have eT:=ZuV dU aX v
   refine⟨Zwz bs n n2,[Value.slice (some ⟨b,0,none⟩) n n],by rw[ZrK];omega,rfl,dG.out.mono pg,ZpK,by simp[Value.oneCell'],by omega,by omega,λa4 c4 m4 cE jo kS=>⟨n - (n2+1),by omega,n2+1,a4,c4,_,by omega,by rw[Zao (by omega) (by omega)];rfl,rfl,mLt aY (mLt pg cE),Tab.snoc (b:=b) dG h0 (by omega) hb pg cE (λj u hu=>jH _ _ _ (eT j u ?_)) jo kS.2,⟨λi hi=>?_,λb5 o5 e5=>?_⟩,λh=>by omega,λb5 o5 e5=>?_,rfl⟩⟩
   ·rw[ZmP (h:=λj=>v&&decide (n2=j))]
    ·exact hu
    ·intro j _
     by_cases e:j=n2
     ·subst e;simp
     ·rw[if_neg e,decide_eq_false (λh=>e h.symm)];simp
   ·by_cases e:i=n2
    ·simp only[if_pos e];exact Zdj aY hb
    ·simp only[if_neg e];exact cU.1 i (by omega)
   ·rcases(kS.old ho).2 with h|⟨b6,e6,h6⟩
    ·rw[h]at e5;cases e5
    ·rw[e6]at e5;cases e5
     rcases h6 with h6|h6
     ·exact cU.2 _ _ (h6.trans e6)
     ·exact Zdj (mLt aY pg) h6
   ·rcases(kS.old ho).2 with h|⟨b6,e6,h6⟩
    ·rw[h]at e5;cases e5
    ·rw[e6]at e5;cases e5;rfl
 ·have:n2=n:=by omega
  subst this
  exact⟨m2,aY,Mem.le_refl _,a1,c1,bs,rfl,dG,cU⟩
theorem ZrU{g h:Nat->Nat->Bool}{n:Nat}{m:Mem}{a1:Option Addr}{c1:Nat}{bs:Nat->Nat}{a2:Option Addr}{c2:Nat}{cs:Nat->Nat}{Y:Nat->Prop}(h1:Tab m g n n a1 bs)(hY:∀i,i < n->Y (bs i))(wh:∀b o,a1=some ⟨b,o,none⟩->¬Y b)(h2:Tab (m.off Y) h n n a2 cs)(hn:n<=1000000):
  CXY Try.prog 113 #[.slice a1 n c1,.slice a2 n c2] m Y [] [] (λv m' _ _=>v=.tuple #[]/\Tab m' (λx y=>g x y||h x y) n n a1 bs):=by
 apply Zj5
 unfold ZhC
 refine⟨λxs _ _ m' q=>∃k:Nat,k<=n/\xs=[.int .i64 k]/\(m.off Y).le m'/\Tab m' (λx y=>g x y||(h x y&&decide (x < k))) n n a1 bs/\q=n - k,⟨_,0,Nat.zero_le _,rfl,Mem.off_le _ _,h1.congr λi j _ _=>by simp,rfl⟩,?_⟩
 rintro z m2 q _ ⟨k,hk,hz,cL,dG,hq⟩
 obtain rfl:z=k:=by simpa using hz
 subst hq
 refine ZaG (λbB=>?_) (λcK=>?_)
 ·have aX:k < n:=by omega
  refine⟨λxs _ _ m' q=>∃j:Nat,j<=n/\xs=[.int .i64 j]/\(m.off Y).le m'/\Tab m' (λx y=>g x y||(h x y&&(decide (x < k)||(decide (x=k)&&decide (y < j))))) n n a1 bs/\q=n - j,⟨_,0,Nat.zero_le _,rfl,cL,dG.congr λi j _ _=>by simp,rfl⟩,?_⟩
  rintro z m3 q _ ⟨j,hj,hz,hZ,cQ,hq⟩
  obtain rfl:z=j:=by simpa using hz
  subst hq
  refine ZaG (λeU=>?_) (λiD=>?_)
  ·have dO:j < n:=by omega
   obtain⟨b4,o4,e4,h4⟩:=h2.get aX
   have h5:=h2.cell aX dO
   refine⟨b4,o4,e4,⟨by omega,by omega⟩,_,(by rw[Int.toNat_natCast];exact hZ _ _ _ h4),Zaa rfl ⟨cs k,0,rfl,⟨by omega,by simp only[slN];omega⟩,_,(by rw[Int.toNat_natCast];exact hZ _ _ _ h5),Zaa rfl (Zab (λhv=>?_) (λhv=>?_))⟩⟩
   ·rw[Zf6]at hv
    obtain⟨b6,o6,e6,h6⟩:=cQ.get aX
    have h7:=cQ.cell aX dO
    rw[Int.toNat_natCast,Int.toNat_natCast]
    refine⟨b6,o6,e6,⟨by omega,by omega⟩,_,h6,Zaa rfl ⟨bs k,0,rfl,⟨by omega,by simp only[slN];omega⟩,ZpN h7,Mem.off_free (hY k aX),by trivial,n - (j+1),by omega,j+1,dO,by rw[Zao (by omega) (by omega)];rfl,Mem.le_upd hZ (Mem.off_free (hY k aX)) _ _,(cQ.upd aX dO true).congr λx y hx hy=>?_,rfl⟩⟩
    by_cases e:x=k/\y=j
    ·obtain⟨rfl,rfl⟩:=e
     rw[if_pos ⟨rfl,rfl⟩,hv];simp
    ·rw[if_neg e]
     have:(decide (x=k)&&decide (y < j))=(decide (x=k)&&decide (y < j+1)):=by
      rw[Bool.eq_iff_iff];simp;omega
     rw[this]
   ·rw[Zf6]at hv
    refine⟨n - (j+1),by omega,j+1,dO,by rw[Zao (by omega) (by omega)];rfl,hZ,cQ.congr λx y hx hy=>?_,rfl⟩
    by_cases e:x=k/\y=j
    ·obtain⟨rfl,rfl⟩:=e
     rw[hv];simp
    ·have:(decide (x=k)&&decide (y < j))=(decide (x=k)&&decide (y < j+1)):=by
      rw[Bool.eq_iff_iff];simp;omega
     rw[this]
  ·have:j=n:=by omega
   subst this
   refine⟨j - (k+1),by omega,k+1,aX,by rw[Zao (by omega) (by omega)];rfl,hZ,cQ.congr λx y hx hy=>?_,rfl⟩
   have:(decide (x < k)||(decide (x=k)&&decide (y < j)))=decide (x < k+1):=by
    rw[Bool.eq_iff_iff];simp;omega
   rw[this]
 ·have:k=n:=by omega
  subst this
  exact⟨rfl,dG.congr λx y hx hy=>by rw[decide_eq_true hx,Bool.and_true]⟩
theorem Zod{ga gb:Nat->Nat->Bool}{n:Nat}{m:Mem}{a1:Option Addr}{c1:Nat}{bs:Nat->Nat}{a2:Option Addr}{c2:Nat}{cs:Nat->Nat}(h1:Tab m ga n n a1 bs)(h2:Tab m gb n n a2 cs)(hn:n<=1000000):
  CX Try.prog 112 #[.slice a1 n c1,.slice a2 n c2] m [] (Zm1 m (Zh1 (Zyi n ga gb)) n):=by
 apply Zj4
 unfold Zgx
 refine ZbL (ZhH n false m hn) λa c ds m1 aW nW cU=>?_
 have inv0:Tab m1 (Zh1 (ZgR n ga gb 0 0 0)) n n a ds:=nW.congr λx y hx hy=>by
  rw[Zap,iff_false_right (Zpp n ga gb x y)];simp
 refine⟨λxs _ _ m' q=>∃i:Nat,i<=n/\xs=[.int .i64 i]/\m.le m'/\Tab m' (Zh1 (ZgR n ga gb i 0 0)) n n a ds/\q=n - i,⟨_,0,Nat.zero_le _,rfl,aW,inv0,rfl⟩,?_⟩
 rintro z m2 q _ ⟨i,hi,hz,aY,dG,hq⟩
 obtain rfl:z=i:=by simpa using hz
 subst hq
 refine ZaG (λbB=>?_) (λcK=>?_)
 ·have aX:i < n:=by omega
  refine⟨λxs _ _ m' q=>∃k:Nat,i<=k/\k<=n/\xs=[.int .i64 k]/\m.le m'/\Tab m' (Zh1 (ZgR n ga gb i k k)) n n a ds/\q=n - k,⟨_,i,Nat.le_refl _,hi,rfl,aY,dG.congr λx y hx hy=>by rw[Zap,Zap,Zs1],rfl⟩,?_⟩
  rintro z m3 q _ ⟨k,qM,hk,hz,bN,cQ,hq⟩
  obtain rfl:z=k:=by simpa using hz
  subst hq
  refine ZaG (λeU=>?_) (λiD=>?_)
  ·have dO:k < n:=by omega
   refine⟨λxs _ _ m' q=>∃j:Nat,k<=j/\j<=n/\xs=[.int .i64 j]/\m.le m'/\Tab m' (Zh1 (ZgR n ga gb i k j)) n n a ds/\q=n - j,⟨_,k,Nat.le_refl _,hk,rfl,bN,cQ,rfl⟩,?_⟩
   rintro z m4 q _ ⟨j,pc,hj,hz,cE,dI,hq⟩
   obtain rfl:z=j:=by simpa using hz
   subst hq
   obtain⟨b1,o1,e1,uV⟩:=h1.get aX
   have uW:=h1.cell aX dO
   rw[Int.toNat_natCast,Int.toNat_natCast,Int.toNat_natCast]
   refine⟨ga i k&&decide (j < n),⟨b1,o1,e1,⟨by omega,by omega⟩,_,cE _ _ _ uV,Zaa rfl ⟨bs i,0,rfl,⟨by omega,by simp only[slN];omega⟩,_,cE _ _ _ uW,Zaa rfl (Zab (λhv=>?_) (λhv=>?_))⟩⟩,Zab (λhb=>?_) (λhb=>?_)⟩
   ·rw[Zf6]at hv
    rw[hv,Bool.true_and]
    have:decide ((j:Int) < (n:Int))=decide (j < n):=decide_eq_decide.2 (by omega)
    rw[this]
   ·rw[Zf6]at hv
    rw[hv];rfl
   ·simp only[Bool.and_eq_true,decide_eq_true_eq]at hb
    obtain⟨sO,iQ⟩:=hb
    obtain⟨b2,o2,e2,uX⟩:=h2.get dO
    have uY:=h2.cell dO iQ
    refine⟨b2,o2,e2,⟨by omega,by omega⟩,_,cE _ _ _ uX,Zaa rfl ⟨cs k,0,rfl,⟨by omega,by simp only[slN];omega⟩,_,cE _ _ _ uY,Zaa rfl (Zab (λhv=>?_) (λhv=>?_))⟩⟩
    ·rw[Zf6]at hv
     obtain⟨b6,o6,e6,h6⟩:=dI.get aX
     have h7:=dI.cell aX iQ
     refine⟨b6,o6,e6,⟨by omega,by omega⟩,_,h6,Zaa rfl ⟨ds i,0,rfl,⟨by omega,by simp only[slN];omega⟩,ZpN h7,cU.1 i aX,by trivial,n - (j+1),by omega,j+1,by omega,iQ,by rw[Zao (by omega) (by omega)];rfl,Mem.le_upd cE (cU.1 i aX) _ _,(dI.upd aX iQ true).congr λx y hx hy=>?_,rfl⟩⟩
     rw[Zap,Zpq pc sO]
     by_cases e:x=i/\y=j
     ·rw[if_pos e]
      exact⟨λ_=>.inr ⟨e.1,e.2,hv⟩,λ_=>rfl⟩
     ·rw[if_neg e,Zap]
      exact⟨.inl,λh=>h.elim id λh=>absurd ⟨h.1,h.2.1⟩ e⟩
    ·rw[Zf6]at hv
     refine⟨n - (j+1),by omega,j+1,by omega,iQ,by rw[Zao (by omega) (by omega)];rfl,cE,dI.congr λx y hx hy=>?_,rfl⟩
     rw[Zap,Zap,Zpq pc sO]
     exact⟨.inl,λh=>h.elim id λh=>by rw[hv]at h;cases h.2.2⟩
   ·have hs:n<=j\/ga i k=false:=by
     rw[Bool.and_eq_false_iff]at hb
     rcases hb with hb|hb
     ·exact .inr hb
     ·exact .inl (by have:=of_decide_eq_false hb;omega)
    refine⟨n - (k+1),by omega,k+1,by omega,dO,by rw[Zao (by omega) (by omega)];rfl,cE,dI.congr λx y hx hy=>?_,rfl⟩
    rw[Zap,Zap,Zs2 qM hy hs]
  ·have:k=n:=by omega
   subst this
   refine⟨k - (i+1),by omega,i+1,aX,by rw[Zao (by omega) (by omega)];rfl,bN,cQ.congr λx y hx hy=>?_,rfl⟩
   rw[Zap,Zap,ZqB hy]
 ·have:i=n:=by omega
  subst this
  exact⟨m2,aY,Mem.le_refl _,a,c,ds,rfl,dG.congr λx y hx hy=>by rw[Zap,Zap,ZqC hx],cU⟩
theorem Zi6{m m1 M:Mem}{g g':Nat->Nat->Bool}{n:Nat}{a:Option Addr}{c:Nat}{bs:Nat->Nat}(hm:m.le M)(h:Tab M g n n a bs)(hn:TabNew m1 n a bs)(h1:m.le m1)(e:∀i j,i < n->j < n->(g i j=true↔g' i j=true)):
  ∃m'',m.le m''/\m''.le M/\Zm1 m g' n (.slice a n c) m'' []:=⟨M,hm,Mem.le_refl _,a,c,bs,rfl,h.congr e,hn.less h1⟩
theorem ZwS{m:Mem}{a:Option Addr}{s:List Nat}(h:Byt m a s){i x:Nat}(hi:s[i]?=some x):x < 256/\∃b o,a=some ⟨b,o,none⟩/\m b (o+i*1)=some (.int .u8 x):=by
 refine⟨h.2 x (List.mem_of_getElem? hi),?_⟩
 rcases h.1 with e|⟨b,o,e,hr⟩
 ·rw[e]at hi;cases hi
 ·refine⟨b,o,e,?_⟩
  have:=hr i (.int .u8 x) (by rw[List.getElem?_map,hi];rfl)
  rwa [Nat.mul_one]
theorem Zvm{k:Int}{q:QS}{mn mx:Int}{a:Option Addr}{n c:Nat}{j:Nat}(hj:j < 256){K:Value->Prop}(h:K (bV (ZvN q j))):Eng.Zty (rcs k q mn mx a n c) (1+j*1) K:=Zah (by rw[Nat.mul_one];exact Zwu k q mn mx a n c hj) h
theorem ZxO(t:T)(c:Nat):ZvN t.q c=t.hasB c:=rfl
set_option maxHeartbeats 2000000 in
theorem Zoe(s:List Nat)(sa:Option Addr)(sc:Nat)(hs:s.length<=600):∀(t:T)(cs:List Value)(m:Mem),RefT m t cs->t.good=true->Byt m sa s->CX Try.prog 87 #[.agg cs.toArray,.slice sa s.length sc] m [] (Zm1 m (Zh1 (t.M s)) (s.length+1)):=by
 intro t
 induction hn:SizeOf.sizeOf t using Nat.strongRecOn generalizing t with
 | ind n ih=>
 intro cs m hr hg hb
 obtain⟨cC,bS,a,c,css,rfl,bU,dV,_⟩:=Zb5.1 hr
 have rd:=ZwE hg
 have ew:IntKind.i64.wrap ((s.length:Int)+1)=((s.length+1:Nat):Int):=by rw[Zao (by omega) (by omega)];rfl
 have bW:s.length+1<=1000000:=by omega
 apply Zgy
 unfold Zd0
 rw[ew]
 have sub:∀(k:Nat)(M:Mem)(x:T),t.subs[k]?=some x->m.le M->∃(bb o:Nat)(cs2:List Value),a=some ⟨bb,o,none⟩/\cs2.length=260/\M.reads bb (o+k*260) cs2/\CX Try.prog 87 #[.agg cs2.toArray,.slice sa s.length sc] M [] (Zm1 M (Zh1 (x.M s)) (s.length+1)):=by
  intro k M x hx hM
  obtain⟨bb,o,cs2,ha,cJ,fH⟩:=Ziz bU dV hx
  have eU:=ZfU (List.mem_of_getElem? hx)
  exact⟨bb,o,cs2,ha,fH.len,cJ.mono hM,ih _ (by omega) x rfl cs2 M (fH.mono hM) (ZgS hg (List.mem_of_getElem? hx)) (hb.mono hM)⟩
 refine ZhG λb m1 aW eS _ _=>?_
 have dK:m1 b 0=some (.int .i64 t.k):=eS 0 _ (Zn6 _ _ _ _ _ _ _)
 refine ZbL (ZhH (s.length+1) false m1 bW) λa1 c1 bs m2 aY fX dJ=>?_
 have fY:=mLt aW aY
 refine Za0 (Zaa rfl (ZcG (λhk=>?_) (λip=>Zaa rfl (ZcG (λhk=>?_) (λeB=>Zaa rfl (ZcG (λhk=>?_) (λma=>Zaa rfl (ZcG (λhk=>?_) (λoN=>Zaa rfl (ZcG (λhk=>?_) (λnX=>Zaa rfl (ZcG (λhk=>?_) (λrd=>?_)))))))))))))
 ·have hk':t.k=1:=hk
  refine ZbL (ZhH (s.length+1) true m2 bW) λa3 c3 ds m3 bN cQ fZ=>Zi6 (mLt fY bN) cQ fZ fY λi j _ _=>?_
  rw[Zap,M_1 hk'];simp
 ·have hk':t.k=2:=hk
  refine⟨λxs _ _ m' q=>∃k:Nat,k<=s.length/\xs=[.int .i64 k]/\m.le m'/\Tab m' (λx y=>Zh1 (t.M s) x y&&decide (x < k)) (s.length+1) (s.length+1) a1 bs/\q=s.length - k,⟨_,0,Nat.zero_le _,rfl,fY,fX.congr λi j _ _=>by simp,rfl⟩,?_⟩
  rintro z m3 q _ ⟨k,hk,hz,bN,cQ,hq⟩
  obtain rfl:z=k:=by simpa using hz
  subst hq
  refine ZaG (λbB=>?_) (λcK=>?_)
  ·have aX:k < s.length:=by omega
   obtain⟨x,hx⟩:=Zbx aX
   obtain⟨jr,b4,o4,e4,h4⟩:=ZwS (hb.mono bN) hx
   obtain⟨b6,o6,e6,h6⟩:=cQ.get (i:=k) (by omega)
   have h7:=cQ.cell (i:=k) (j:=k+1) (by omega) (by omega)
   have ek:IntKind.i64.wrap ((k:Int)+1)=((k+1:Nat):Int):=by rw[Zao (by omega) (by omega)];rfl
   have ex:intOf (.int .u8 (x:Int))=x:=rfl
   rw[ek,Int.toNat_natCast,Int.toNat_natCast]
   refine⟨b6,o6,e6,⟨by omega,by omega⟩,_,h6,b4,o4,e4,⟨by omega,by omega⟩,_,h4,Zaa rfl ⟨?_,?_⟩⟩
   ·rw[ex];exact⟨by omega,by omega⟩
   ·rw[ex,Int.toNat_natCast]
    refine Zvm jr (Zaa rfl ⟨bs k,0,rfl,⟨by omega,by simp only[slN];omega⟩,Zaa rfl ⟨ZpN h7,Zdj aW (dJ.1 k (by omega)),by trivial,Zw3 dK (Mem.le_refl _) (dJ.1 k (by omega)),by trivial,_,by omega,k+1,by omega,rfl,Mem.le_upd bN (Zdj aW (dJ.1 k (by omega))) _ _,(cQ.upd (i:=k) (j:=k+1) (by omega) (by omega) (ZvN t.q x)).congr λi j hi hj=>?_,rfl⟩⟩)
    have hM:∀i j,t.M s i j↔(j=i+1/\∃b,s[i]?=some b/\t.hasB b=true):=M_2 hk'
    by_cases e:i=k/\j=k+1
    ·obtain⟨rfl,rfl⟩:=e
     rw[if_pos ⟨rfl,rfl⟩,ZxO,Bool.and_eq_true,Zap,hM,decide_eq_true_eq]
     constructor
     ·intro h;exact⟨⟨rfl,x,hx,h⟩,by omega⟩
     ·rintro⟨⟨_,y,hy,h⟩,_⟩
      rw[hx]at hy;cases hy;exact h
    ·rw[if_neg e,Bool.and_eq_true,Bool.and_eq_true,Zap,hM,decide_eq_true_eq,decide_eq_true_eq]
     constructor
     ·rintro⟨h,h2⟩;exact⟨h,by omega⟩
     ·rintro⟨h,h2⟩
      refine⟨h,?_⟩
      by_cases ei:i=k
      ·subst ei;exact absurd ⟨rfl,h.1⟩ e
      ·omega
  ·have:k=s.length:=by omega
   subst this
   refine Zi6 bN cQ dJ aW λi j hi hj=>?_
   rw[Bool.and_eq_true,Zap,M_2 hk',decide_eq_true_eq]
   constructor
   ·exact λh=>h.1
   ·intro h;exact⟨h,by omega⟩
 ·have hk':t.k=3:=hk
  refine ZbL (ZhH (s.length+1) true m2 bW) λa3 c3 ds m3 bN cQ fZ=>?_
  have re:=mLt fY bN
  refine⟨λxs _ _ m' q=>∃(k:Nat)(a4:Option Addr)(c4:Nat)(es:Nat->Nat),k<=t.subs.length/\xs=[.slice a4 (s.length+1) c4,.int .i64 k]/\m.le m'/\Tab m' (Zh1 (MC s (t.subs.take k))) (s.length+1) (s.length+1) a4 es/\TabNew m (s.length+1) a4 es/\q=t.subs.length - k,
   ⟨_,0,_,_,ds,Nat.zero_le _,rfl,re,cQ.congr λi j _ _=>by rw[Zap,List.take_zero,Zlu];simp,fZ.less fY,rfl⟩,?_⟩
  rintro a5 n5 c5 z m4 q _ ⟨k,a4,c4,es,jQ,hz,cE,dI,js,hq⟩
  simp only[List.cons.injEq,Value.slice.injEq,Value.int.injEq,true_and,and_true]at hz
  obtain⟨⟨rfl,rfl,rfl⟩,rfl⟩:=hz
  subst hq
  refine Za3 (Zaa rfl (ZaG (λbB=>?_) (λcK=>?_)))
  ·have aX:k < t.subs.length:=by simp only[slN]at bB;omega
   obtain⟨x,hx⟩:=Zbx aX
   obtain⟨bb,o,cs2,ha,gp,cJ,eQ⟩:=sub k m4 x hx cE
   refine Za3 (Zaa rfl ⟨bb,o,ha,⟨by omega,by simp only[slN];omega⟩,cs2,gp,(by rw[Int.toNat_natCast];exact cJ),ZbL eQ λa6 c6 fs m5 cN jt kT=>ZbL (Zod (dI.mono cN) jt bW) λa7 c7 gs m6 dA nY nZ=>⟨by trivial,_,by omega,k+1,a7,c7,gs,aX,by rw[Zao (by omega) (by omega)];rfl,mLt cE (mLt cN dA),nY.congr λi j hi hj=>?_,nZ.less (mLt cE cN),rfl⟩⟩)
   have e:t.subs.take (k+1)=t.subs.take k++[x]:=by rw[List.take_add_one,hx];rfl
   rw[Zap,Zap,e,ZwB,Zn8 (ZwD s λy hy=>ZgS hg (List.mem_of_mem_take hy)) (Zs5 (ZgS hg (List.mem_of_getElem? hx)) s) hj]
  ·have:k=t.subs.length:=by simp only[slN]at cK;omega
   subst this
   refine Zi6 cE dI js (Mem.le_refl _) λi j hi hj=>?_
   rw[List.take_length,Zap,Zap,M_3 hk']
 ·have hk':t.k=4:=hk
  refine⟨λxs _ _ m' q=>∃k:Nat,k<=t.subs.length/\xs=[.int .i64 k]/\m.le m'/\Tab m' (Zh1 (MA s (t.subs.take k))) (s.length+1) (s.length+1) a1 bs/\q=t.subs.length - k,⟨_,0,Nat.zero_le _,rfl,fY,fX.congr λi j _ _=>by rw[Zap,List.take_zero,Znw];simp,rfl⟩,?_⟩
  rintro z m4 q _ ⟨k,jQ,hz,cE,dI,hq⟩
  obtain rfl:z=k:=by simpa using hz
  subst hq
  refine Za3 (Zaa rfl (ZaG (λbB=>?_) (λcK=>?_)))
  ·have aX:k < t.subs.length:=by simp only[slN]at bB;omega
   obtain⟨x,hx⟩:=Zbx aX
   obtain⟨bb,o,cs2,ha,gp,cJ,eQ⟩:=sub k m4 x hx cE
   refine Za3 (Zaa rfl ⟨bb,o,ha,⟨by omega,by simp only[slN];omega⟩,cs2,gp,(by rw[Int.toNat_natCast];exact cJ),ZbL eQ λa6 c6 fs m5 cN jt kT=>?_⟩)
   have lW:=Zjw dI kT (by omega)
   have rf:=mLt cE cN
   have mD:=dI.mono cN
   refine⟨ZqD (s.length+1) bs,_,ZrU mD (λi hi=>⟨i,hi,rfl⟩) (λb9 o9 e9 hY=>by obtain⟨i,hi,e⟩:=hY;exact mD.sep b9 o9 e9 i hi e.symm) (jt.off' lW.1 lW.2) bW,(λt ht=>by cases ht),λb9 hY=>.inr ?_,λv _ _ _ h=>by rw[h.1];rfl,λm6 ju _ hR=>⟨by trivial,_,by omega,k+1,aX,by rw[Zao (by omega) (by omega)];rfl,mLt (Zpr rf ?_) ju,hR.2.congr λi j hi hj=>?_,rfl⟩⟩
   ·obtain⟨i,hi,rfl⟩:=hY
    exact⟨Zdj aW (dJ.1 i hi),⟨_,_,mD.cell hi (j:=0) (by omega)⟩,Zw3 dK (Mem.le_refl _) (dJ.1 i hi),by trivial⟩
   ·rintro b9 ⟨i,hi,rfl⟩
    exact Zdj aW (dJ.1 i hi)
   ·have e:t.subs.take (k+1)=t.subs.take k++[x]:=by rw[List.take_add_one,hx];rfl
    rw[Bool.or_eq_true,Zap,Zap,Zap,e,ZwC]
  ·have:k=t.subs.length:=by simp only[slN]at cK;omega
   subst this
   refine Zi6 cE dI dJ aW λi j hi hj=>?_
   rw[List.take_length,Zap,Zap,M_4 hk']
 ·have hk':t.k=5:=hk
  obtain⟨x,hx⟩:=ZrM hg (.inl hk')
  have iS:t.subs[0]?=some x:=by rw[hx];rfl
  have my:x.good=true:=ZgS hg (List.mem_of_getElem? iS)
  obtain⟨j3,ii⟩:=ZkM hg hk'
  obtain⟨bb,o,cs2,ha,gp,cJ,eQ⟩:=sub 0 m2 x iS fY
  rw[Nat.zero_mul]at cJ
  have fI:Zaf 0 (slN (.slice a t.subs.length c)):=⟨by omega,by simp only[slN];rw[hx];simp⟩
  have ew2:IntKind.i64.wrap (t.mn+((s.length+1:Nat):Int))=t.mn+((s.length+1:Nat):Int):=Zao (by omega) (by omega)
  generalize ie:(if t.mx < 0 then t.mn+((s.length+1:Nat):Int)else t.mx)=most
  have rh:0<=most/\most<=700:=by rw[<-ie];split <;> omega
  refine Zi5 (Zaa rfl (ZaG (λgE=>ZfG (Zaa rfl ?_)) (λgE=>?_)))
  all_goals
   refine Za3 (Zaa rfl ⟨bb,o,ha,fI,cs2,gp,cJ,ZbL eQ λa3 c3 os m3 bN cQ fZ=>ZbL (ZhH (s.length+1) true m3 bW) λa4 c4 ds m4 cE dI js=>?_⟩)
   have oa:=mLt bN cE
   have ri:=mLt fY oa
   refine⟨λxs _ _ m' q=>∃(k:Nat)(a5:Option Addr)(c5:Nat)(es:Nat->Nat),(k:Int)<=most+1/\xs=[.slice a5 (s.length+1) c5,.int .i64 k]/\m.le m'/\Tab m' (Zh1 (ZwF (x.M s) t.mn.toNat k)) (s.length+1) (s.length+1) a1 bs/\Tab m' (Zh1 (x.M s)) (s.length+1) (s.length+1) a3 os/\Tab m' (Zh1 (pow (x.M s) k)) (s.length+1) (s.length+1) a5 es/\Zzk (ZqD (s.length+1) bs) (s.length+1) a5 es/\q=(most+1).toNat - k,
    ⟨_,0,_,_,ds,by omega,rfl,ri,(fX.mono oa).congr λi j _ _=>⟨λh=>by simp at h,λh=>absurd (Zap.1 h) (Zs6 _ _ i j)⟩,cQ.mono cE,dI.congr λi j _ _=>?_,Zjw (fX.mono bN) js (by omega),rfl⟩,?_⟩
   ·rw[Zap,show pow (x.M s) 0 i j↔i=j from Iff.rfl];simp
   rintro a9 n9 c9 z m5 q _ ⟨k,a5,c5,es,jQ,hz,cN,mF,rj,rk,lW,hq⟩
   simp only[List.cons.injEq,Value.slice.injEq,Value.int.injEq,true_and,and_true]at hz
   obtain⟨⟨rfl,rfl,rfl⟩,rfl⟩:=hz
   subst hq
   try refine Zaa rfl ?_
   refine ZaG (λcL=>ZfG (Zaa rfl (ZaG (λcK=>?_) (λbB=>?_)))) (λjK=>?_)
   ·have rl:(k:Int)<=most:=by
     rw[<-ie]
     simp only[intOf]at cL gE
     first|(rw[if_pos gE];rw[ew2]at cL;exact cL)|(rw[if_neg gE];exact cL)
    have rm:t.mn.toNat<=k:=by simp only[intOf]at cK;omega
    have oe:=Zjw fX (fZ) (by omega)
    refine⟨ZqD (s.length+1) bs,_,ZrU mF (λi hi=>⟨i,hi,rfl⟩) (λb9 o9 e9 hY=>by obtain⟨i,hi,e⟩:=hY;exact mF.sep b9 o9 e9 i hi e.symm) (rk.off' lW.1 lW.2) bW,(λt ht=>by cases ht),λb9 hY=>.inr ?_,λv _ _ _ h=>by rw[h.1];rfl,λm6 ju _ hR=>?_⟩
    ·obtain⟨i,hi,rfl⟩:=hY
     exact⟨Zdj aW (dJ.1 i hi),⟨_,_,mF.cell hi (j:=0) (by omega)⟩,Zw3 dK (Mem.le_refl _) (dJ.1 i hi),by trivial⟩
    ·have rn:m.le m6:=mLt (Zpr cN (by rintro b9 ⟨i,hi,rfl⟩;exact Zdj aW (dJ.1 i hi))) ju
     have ro:=(rk.off' lW.1 lW.2).mono ju
     have og:=(rj.off' oe.1 oe.2).mono ju
     refine ZbL (Zod ro og bW) λa7 c7 gs m7 dN jv jx=>⟨by trivial,_,?_,k+1,a7,c7,gs,by omega,by rw[Zao (by omega) (by omega)];rfl,mLt rn dN,(hR.2.mono dN).congr λi j hi hj=>?_,og.mono dN,jv.congr λi j hi hj=>?_,Zjw hR.2 jx (by omega),rfl⟩
     ·omega
     ·rw[Bool.or_eq_true,Zap,Zap,Zap,ZuX rm]
     ·rw[Zap,Zap,ZfV,Zn8 (ZrL (Zs5 my s) k) (Zs5 my s) hj]
   ·have rl:(k:Int)<=most:=by
     rw[<-ie]
     simp only[intOf]at cL gE
     first|(rw[if_pos gE];rw[ew2]at cL;exact cL)|(rw[if_neg gE];exact cL)
    have aX:k < t.mn.toNat:=by simp only[intOf]at bB;omega
    refine ZbL (Zod rk rj bW) λa7 c7 gs m7 dN jv jx=>⟨by trivial,_,?_,k+1,a7,c7,gs,by omega,by rw[Zao (by omega) (by omega)];rfl,mLt cN dN,(mF.mono dN).congr λi j hi hj=>?_,rj.mono dN,jv.congr λi j hi hj=>?_,Zjw mF jx (by omega),rfl⟩
    ·omega
    ·rw[Zap,Zap,Zs7 aX]
    ·rw[Zap,Zap,ZfV,Zn8 (ZrL (Zs5 my s) k) (Zs5 my s) hj]
   ·have rp:(k:Int)=most+1:=by
     have:¬(k:Int)<=most:=by
      rw[<-ie]
      simp only[intOf]at jK gE
      first|(rw[if_pos gE];rw[ew2]at jK;exact jK)|(rw[if_neg gE];exact jK)
     omega
    refine Zi6 cN mF dJ aW λi j hi hj=>?_
    rw[Zap,Zap,ZuY hg hk' hx hj (by rw[ie];exact rp)]
 ·have hk':t.k=6:=hk
  obtain⟨x,hx⟩:=ZrM hg (.inr hk')
  obtain⟨bb,o,cs2,ha,gp,cJ,eQ⟩:=sub 0 m2 x (by rw[hx];rfl) fY
  rw[Nat.zero_mul]at cJ
  refine Za3 (Zaa rfl ⟨bb,o,ha,⟨by omega,by simp only[slN];rw[hx];simp⟩,cs2,gp,cJ,ZbL eQ λa3 c3 ds m3 bN cQ fZ=>Zi6 (mLt fY bN) cQ fZ fY λi j _ _=>?_⟩)
  rw[Zap,Zap,M_6 hk',hx,Zgh]
 ·exfalso
  simp only[intOf]at ip eB ma oN nX rd
  omega
theorem Zzs(t u:T):decide (t.q=u.q)=(t.s0 == u.s0&&t.s1 == u.s1&&t.s2 == u.s2&&t.s3 == u.s3):=by
 unfold T.q
 rw[Bool.eq_iff_iff]
 simp[Prod.ext_iff,and_assoc]
theorem Zvn(t u:T):t.same u=(t.k == u.k&&(decide (t.q=u.q)&&(t.mn == u.mn&&(t.mx == u.mx&&Zfi t.subs u.subs)))):=by rw[ZtQ,Zzs]
def ZrV(t u:T):Bool:=t.k == u.k&&(decide (t.q=u.q)&&(t.mn == u.mn&&(t.mx == u.mx&&t.subs.length == u.subs.length)))
theorem Zvo{t u:T}(h:ZrV t u=false):t.same u=false:=by
 rw[Zvn]
 unfold ZrV at h
 cases h1:t.k == u.k <;> rw[h1]at h <;> simp only[Bool.false_and,Bool.true_and]at h ⊢
 cases h2:decide (t.q=u.q) <;> rw[h2]at h <;> simp only[Bool.false_and,Bool.true_and]at h ⊢
 cases h3:t.mn == u.mn <;> rw[h3]at h <;> simp only[Bool.false_and,Bool.true_and]at h ⊢
 cases h4:t.mx == u.mx <;> rw[h4]at h <;> simp only[Bool.false_and,Bool.true_and]at h ⊢
 exact Zlo (by simpa using h)
theorem Zto{t u:T}(h:ZrV t u=true):t.subs.length=u.subs.length/\t.same u=Zfi t.subs u.subs:=by
 rw[Zvn]
 unfold ZrV at h
 simp only[Bool.and_eq_true]at h
 obtain⟨h1,h2,h3,h4,h5⟩:=h
 rw[h1,h2,h3,h4]
 exact⟨by simpa using h5,by simp⟩
set_option maxHeartbeats 2000000 in
theorem Zvp:∀(t u:T)(cs ds:List Value)(m:Mem),RefT m t cs->RefT m u ds->CX Try.prog 89 #[.agg cs.toArray,.agg ds.toArray] m [] (Ret (.bool (t.same u))):=by
 intro t
 induction hn:SizeOf.sizeOf t using Nat.strongRecOn generalizing t with
 | ind n ih=>
 intro u cs ds m hr hu
 obtain⟨cC,bS,a,c,css,rfl,bU,dV,_⟩:=Zb5.1 hr
 obtain⟨rq,sP,a',c',dss,rfl,oh,lK,_⟩:=Zb5.1 hu
 apply ZlY
 unfold ZhF
 refine ZhG λb m1 aW _=>ZhG λb2 m2 aY _=>?_
 have im:=mLt aW aY
 refine⟨!ZrV t u,?_,Zab (λh=>Zac im ?_) (λh=>?_)⟩
 ·unfold ZrV
  refine Za0 (Za0 (Zaa rfl (Zab (λh1=>⟨by trivial,?_⟩) (λh1=>Zaa (by rw[Ziy];rfl) (Zaa (by rw[Ziy];rfl) ⟨decide (t.q=u.q),by rw[ZrG,ZrG];exact Zzl (Zwv cC) (Zwv rq),Zab (λh2=>⟨by trivial,?_⟩) (λh2=>ZfG (ZfG (Zaa rfl (Zab (λh3=>⟨by trivial,?_⟩) (λh3=>Zi5 (Zi5 (Zaa rfl (Zab (λh4=>⟨by trivial,?_⟩) (λh4=>Za3 (Zaa rfl (Za3 (Zaa rfl ⟨by trivial,?_⟩))))))))))))⟩)))))
  ·have h1':(!t.k == u.k)=true:=h1
   have:(t.k == u.k)=false:=by rw[<-Bool.not_not (_ == _),h1'];rfl
   rw[this];rfl
  all_goals
   have e1:(t.k == u.k)=true:=by rw[<-Bool.not_not (t.k == u.k),show(!t.k == u.k)=false from h1];rfl
   rw[e1,Bool.true_and]
  ·have:decide (t.q=u.q)=false:=by rw[<-Bool.not_not (decide _),h2];rfl
   rw[this];rfl
  all_goals
   have e2:decide (t.q=u.q)=true:=by rw[<-Bool.not_not (decide _),h2];rfl
   rw[e2,Bool.true_and]
  ·have:(t.mn == u.mn)=false:=by rw[<-Bool.not_not (_ == _),show(!t.mn == u.mn)=true from h3];rfl
   rw[this];rfl
  all_goals
   have e3:(t.mn == u.mn)=true:=by rw[<-Bool.not_not (_ == _),show(!t.mn == u.mn)=false from h3];rfl
   rw[e3,Bool.true_and]
  ·have:(t.mx == u.mx)=false:=by rw[<-Bool.not_not (_ == _),show(!t.mx == u.mx)=true from h4];rfl
   rw[this];rfl
  ·have e4:(t.mx == u.mx)=true:=by rw[<-Bool.not_not (_ == _),show(!t.mx == u.mx)=false from h4];rfl
   rw[e4,Bool.true_and]
   have e5:((t.subs.length:Int) == (u.subs.length:Int))=(t.subs.length == u.subs.length):=by rw[Bool.eq_iff_iff];simp;omega
   show[Value.bool (!((t.subs.length:Int) == (u.subs.length:Int)))]=_
   rw[e5]
 ·rw[Zvo (by rw[<-Bool.not_not (ZrV t u),h];rfl)]
 ·obtain⟨gT,sQ⟩:=Zto (t:=t) (u:=u) (by rw[<-Bool.not_not (ZrV t u),h];rfl)
  refine⟨λxs _ _ m' q=>∃k:Nat,k<=t.subs.length/\xs=[.int .i64 k]/\m.le m'/\Zfi (t.subs.take k) (u.subs.take k)=true/\q=t.subs.length - k,⟨_,0,Nat.zero_le _,rfl,im,by simp[Zfi],rfl⟩,?_⟩
  rintro z m3 q _ ⟨k,hk,hz,bN,bR,hq⟩
  obtain rfl:z=k:=by simpa using hz
  subst hq
  refine Za3 (Zaa rfl (ZaG (λbB=>?_) (λcK=>?_)))
  ·have aX:k < t.subs.length:=by simp only[slN]at bB;omega
   obtain⟨x,hx⟩:=Zbx aX
   obtain⟨y,hy⟩:=Zbx (l:=u.subs) (k:=k) (by omega)
   obtain⟨bb,o,cs2,ha,cJ,fH⟩:=Ziz bU dV hx
   obtain⟨bb',o',ds2,ha',j4,sR⟩:=Ziz oh lK hy
   have eU:=ZfU (List.mem_of_getElem? hx)
   refine⟨λ_ _ _=>Ret (.bool (x.same y)),Za3 (Zaa rfl ⟨bb,o,ha,⟨by omega,by simp only[slN];omega⟩,cs2,fH.len,(by rw[Int.toNat_natCast];exact cJ.mono bN),Za3 (Zaa rfl ⟨bb',o',ha',⟨by omega,by simp only[slN];omega⟩,ds2,sR.len,(by rw[Int.toNat_natCast];exact j4.mono bN),_,rfl,ih _ (by omega) x rfl y cs2 ds2 m3 (fH.mono bN) (sR.mono bN),λv _ _ e=>by rw[e];rfl,?_⟩)⟩)⟩
   intro b5 m4 cE hR M cR cT
   obtain rfl:b5=x.same y:=by
    have hR:Value.bool b5=.bool (x.same y):=hR
    simpa using hR
   refine Zab (λhf=>Zac (mLt bN cR) ?_) (λhf=>⟨by trivial,_,by omega,k+1,aX,by rw[Zao (by omega) (by omega)];rfl,mLt bN cR,Zjs hx hy bR (by rw[<-Bool.not_not (x.same y),hf];rfl) trivial,rfl⟩)
   rw[sQ,Zn1 hx hy (by rw[<-Bool.not_not (x.same y),hf];rfl)]
  ·have:k=t.subs.length:=by simp only[slN]at cK;omega
   subst this
   rw[List.take_length,gT,List.take_length]at bR
   exact Zac bN (by rw[sQ,bR])
theorem ZxP(m:Mem):RefT m T0 (rcs 0 (0,0,0,0) 0 0 none 0 0):=Zb5.2 ⟨⟨⟨by decide,by decide⟩,⟨by decide,by decide⟩,⟨by decide,by decide⟩,⟨by decide,by decide⟩,⟨by decide,by decide⟩,⟨by decide,by decide⟩,⟨by decide,by decide⟩⟩,by decide,none,0,[],rfl,.inl rfl,by simp only[T0,T.subs,RefAt],Nat.le_refl _⟩
theorem Ztp(t:T):t.isNone=t.same T0:=by
 unfold T.isNone
 cases h:t.same T0
 ·simp
 ·have h':=h
  rw[Zvn]at h'
  simp only[Bool.and_eq_true]at h'
  obtain⟨h1,_,_,_,h5⟩:=h'
  have hl:t.subs=[]:=by
   match h6:t.subs with
   | []=>rfl
   | x::l=>rw[h6]at h5;simp[T0,T.subs,Zfi]at h5
  have bB:t.light=true:=by
   unfold T.light
   rw[Zbi,hl];simp[Zaz]
  have h0:T0.light=true:=by decide
  rw[bB,h0]
  have:(t.k == 0)=true:=h1
  rw[this];rfl
theorem Zdt(t:T)(cs:List Value)(sa:Option Addr)(n sc:Nat)(i:Int)(m:Mem)(hr:RefT m t cs):CX Try.prog 64 #[.agg cs.toArray,.slice sa n sc,.int .i64 i] m [] (Ret (.int .i64 (t.wrong n i))):=by
 have hl:=hr.len
 apply Zj6
 unfold Zgz
 refine Zaa (by rw[hl];rfl) λb m1 aW _=>⟨!t.isNone&&!(t.check == 0),?_,Zab (λh=>Zac aW ?_) (λh=>ZaG (λh2=>Zac aW ?_) (λh2=>⟨decide (i < 0)||decide (i > n),?_,Zab (λh3=>Zac aW ?_) (λh3=>Zac aW ?_)⟩))⟩
 ·have hz:(Value.int .i64 0::(List.replicate 256 (Value.int .i64 0)++[.int .i64 0,.int .i64 0,.slice none 0 0]))=rcs 0 (0,0,0,0) 0 0 none 0 0:=by rw[Zoc];rfl
  have hc:=Zvp t T0 cs _ m1 (hr.mono aW) (ZxP m1)
  rw[<-hz,<-Ztp]at hc
  refine Zan hc λm2 aY=>Zab (λh=>?_) (λh=>⟨by trivial,?_⟩)
  ·refine ZaC (Zl4 t cs m2 ((hr.mono aW).mono aY)) λm3 bN=>⟨by trivial,?_⟩
   rw[h,Bool.true_and]
  ·rw[h,Bool.false_and]
 ·rw[T.wrong,if_pos h]
 ·rw[T.wrong,if_neg (by rw[h];exact Bool.false_ne_true),if_pos h2]
 ·refine Zab (λh4=>⟨by trivial,?_⟩) (λh4=>⟨by trivial,?_⟩)
  ·rw[h4];rfl
  ·rw[h4];rfl
 ·rw[T.wrong,if_neg (by rw[h];exact Bool.false_ne_true),if_neg h2,if_pos (by simpa using h3)]
 ·rw[T.wrong,if_neg (by rw[h];exact Bool.false_ne_true),if_neg h2,if_neg (by simpa using h3)]
theorem Ztq(s:List Nat)(sa:Option Addr)(sc:Nat)(hs:s.length<=600)(t:T)(cs:List Value)(m:Mem)(hr:RefT m t cs)(hg:t.good=true\/t.k=0)(hb:Byt m sa s):CX Try.prog 87 #[.agg cs.toArray,.slice sa s.length sc] m [] (Zm1 m (Zh1 (t.M s)) (s.length+1)):=by
 rcases hg with hg|hk
 ·exact Zoe s sa sc hs t cs m hr hg hb
 obtain⟨cC,bS,a,c,css,rfl,bU,dV,_⟩:=Zb5.1 hr
 have ew:IntKind.i64.wrap ((s.length:Int)+1)=((s.length+1:Nat):Int):=by rw[Zao (by omega) (by omega)];rfl
 apply Zgy
 unfold Zd0
 rw[ew,hk]
 refine ZhG λb m1 aW eS _ _=>?_
 refine ZbL (ZhH (s.length+1) false m1 (by omega)) λa1 c1 bs m2 aY fX dJ=>?_
 refine Za0 (Zaa rfl (ZcG (λhk=>?_) (λip=>Zaa rfl (ZcG (λhk=>?_) (λeB=>Zaa rfl (ZcG (λhk=>?_) (λma=>Zaa rfl (ZcG (λhk=>?_) (λoN=>Zaa rfl (ZcG (λhk=>?_) (λnX=>Zaa rfl (ZcG (λhk=>?_) (λrd=>?_)))))))))))))
 iterate 6 (exfalso;simp only[intOf]at hk;omega)
 refine Zi6 (mLt aW aY) fX dJ aW λi j _ _=>?_
 have:¬t.M s i j:=by cases t;simp only[T.k]at hk;subst hk;simp[T.M]
 rw[Zap]
 simp[this]
def ZkU(g:Nat->Bool)(n:Nat):List Nat:=(List.range n).filter g
theorem Zi7(g:Nat->Bool)(n:Nat):ZkU g (n+1)=ZkU g n++if g n then[n]else[]:=by
 unfold ZkU
 rw[List.range_succ,List.filter_append]
 cases h:g n <;> simp[h]
theorem Zof(g:Nat->Bool)(n:Nat):(ZkU g n).length<=n:=by
 unfold ZkU
 have:=List.length_filter_le g (List.range n)
 simpa using this
theorem ZpO(l r:List Nat):Zcq (l++r)=Zcq l++Zcq r:=by simp[Zcq]
noncomputable def ZxQ(R:Re)(n i:Nat):List Nat:=ZkU (λj=>Zh1 R i j) n
noncomputable def Zyt(R:Re)(n j:Nat):List Nat:=ZkU (λi=>Zh1 R i j) n
def Zvq(l:List Nat):RT:=λv m' _=>∃a c,v=.slice a l.length c/\rowRd m' a (Zcq l)
theorem Zl5{l:List Nat}:∀(v:Value)(m':Mem) (css:List (List Value)),Zvq l v m' css->Shape.fits .slice v=true:=λv _ _ ⟨a,c,h,_⟩=>by rw[h];rfl
theorem Zm2{R:Re}{n:Nat}{cs:List Value}{sa:Option Addr}{sn sc:Nat}{m:Mem}(hl:cs.length=260)(hT:∀m',m.le m'->CX Try.prog 87 #[.agg cs.toArray,.slice sa sn sc] m' [] (Zm1 m' (Zh1 R) n)){i:Nat}(hi:i < n)(hn:n<=1000):
  CX Try.prog 65 #[.agg cs.toArray,.slice sa sn sc,.int .i64 i] m [] (Zvq (ZxQ R n i)):=by
 apply ZlS
 unfold ZhD ZxQ
 refine Zaa (by rw[hl];rfl) λb m1 aW _=>ZbL (hT m1 aW) λa1 c1 bs m2 aY dG cU=>?_
 have im:=mLt aW aY
 generalize hg:(λj=>Zh1 R i j)=g
 have rr:∀j,Zh1 R i j=g j:=λj=>by rw[<-hg]
 refine⟨λxs _ tvs m' q=>∃(k:Nat)(a:Option Addr)(c:Nat),k<=n/\xs=[.slice a (ZkU g k).length c,.int .i64 k]/\tvs=[.slice a (ZkU g k).length c]/\rowRd m' a (Zcq (ZkU g k))/\q=n - k,⟨_,0,none,0,Nat.zero_le _,rfl,rfl,.inl rfl,rfl⟩,?_⟩
 rintro a3 n1 c3 z a4 n3 c4 m3 q bN ⟨k,a,c,hk,hz,ht,bU,hq⟩
 simp only[List.cons.injEq,Value.slice.injEq,Value.int.injEq,true_and,and_true]at hz ht
 obtain⟨⟨rfl,rfl,rfl⟩,rfl⟩:=hz
 obtain⟨rfl,rfl,rfl⟩:=ht
 subst hq
 have mE:=Zof g k
 refine ZaG (λbB=>?_) (λcK=>?_)
 ·have aX:k < n:=by omega
  obtain⟨b6,o6,e6,h6⟩:=dG.get hi
  have h7:=dG.cell hi aX
  rw[rr]at h7
  rw[Int.toNat_natCast,Int.toNat_natCast]
  refine⟨b6,o6,e6,⟨by omega,by omega⟩,_,bN _ _ _ h6,Zaa rfl ⟨bs i,0,rfl,⟨by omega,by simp only[slN];omega⟩,_,bN _ _ _ h7,Zaa rfl (Zab (λhv=>?_) (λhv=>?_))⟩⟩
  ·rw[Zf6]at hv
   have e:ZkU g (k+1)=ZkU g k++[k]:=by rw[Zi7,hv];rfl
   have e2:(ZkU g (k+1)).length=(ZkU g k).length+1:=by rw[e];simp
   refine λb3 eN=>⟨.inl (by trivial),Zcq (ZkU g k),[Value.int .i64 k],by simp[Zcq],rfl,bU.mono (Mem.le_add eN _),ZpK,by simp[Value.oneCell'],by omega,by omega,λa7 c7 m7 dN ig=>⟨by trivial,n - (k+1),by omega,k+1,a7,c7,aX,?_,?_,?_,rfl⟩⟩
   ·rw[Zao (by omega) (by omega),e2];rfl
   ·rw[e2]
   ·rw[e,ZpO];exact ig
  ·rw[Zf6]at hv
   have e:ZkU g (k+1)=ZkU g k:=by rw[Zi7,hv];simp
   exact⟨by trivial,n - (k+1),by omega,k+1,_,_,aX,by rw[Zao (by omega) (by omega),e];rfl,by rw[e],by rw[e];exact bU,rfl⟩
 ·have:k=n:=by omega
  subst this
  exact⟨m3,mLt im bN,Mem.le_refl _,_,_,rfl,bU⟩
theorem ZnN{R:Re}{n:Nat}{cs:List Value}{sa:Option Addr}{sn sc:Nat}{m:Mem}(hl:cs.length=260)(hT:∀m',m.le m'->CX Try.prog 87 #[.agg cs.toArray,.slice sa sn sc] m' [] (Zm1 m' (Zh1 R) n)){j:Nat}(hj:j < n)(hn:n<=1000):
  CX Try.prog 66 #[.agg cs.toArray,.slice sa sn sc,.int .i64 j] m [] (Zvq (Zyt R n j)):=by
 apply ZiW
 unfold ZfA Zyt
 refine Zaa (by rw[hl];rfl) λb m1 aW _=>ZbL (hT m1 aW) λa1 c1 bs m2 aY dG cU=>?_
 have im:=mLt aW aY
 generalize hg:(λi=>Zh1 R i j)=g
 have rr:∀i,Zh1 R i j=g i:=λi=>by rw[<-hg]
 refine⟨λxs _ tvs m' q=>∃(k:Nat)(a:Option Addr)(c:Nat),k<=n/\xs=[.slice a (ZkU g k).length c,.int .i64 k]/\tvs=[.slice a (ZkU g k).length c]/\rowRd m' a (Zcq (ZkU g k))/\q=n - k,⟨_,0,none,0,Nat.zero_le _,rfl,rfl,.inl rfl,rfl⟩,?_⟩
 rintro a3 n1 c3 z a4 n3 c4 m3 q bN ⟨k,a,c,hk,hz,ht,bU,hq⟩
 simp only[List.cons.injEq,Value.slice.injEq,Value.int.injEq,true_and,and_true]at hz ht
 obtain⟨⟨rfl,rfl,rfl⟩,rfl⟩:=hz
 obtain⟨rfl,rfl,rfl⟩:=ht
 subst hq
 have mE:=Zof g k
 refine ZaG (λbB=>?_) (λcK=>?_)
 ·have aX:k < n:=by omega
  obtain⟨b6,o6,e6,h6⟩:=dG.get aX
  have h7:=dG.cell aX hj
  rw[rr]at h7
  rw[Int.toNat_natCast,Int.toNat_natCast]
  refine⟨b6,o6,e6,⟨by omega,by omega⟩,_,bN _ _ _ h6,Zaa rfl ⟨bs k,0,rfl,⟨by omega,by simp only[slN];omega⟩,_,bN _ _ _ h7,Zaa rfl (Zab (λhv=>?_) (λhv=>?_))⟩⟩
  ·rw[Zf6]at hv
   have e:ZkU g (k+1)=ZkU g k++[k]:=by rw[Zi7,hv];rfl
   have e2:(ZkU g (k+1)).length=(ZkU g k).length+1:=by rw[e];simp
   refine λb3 eN=>⟨.inl (by trivial),Zcq (ZkU g k),[Value.int .i64 k],by simp[Zcq],rfl,bU.mono (Mem.le_add eN _),ZpK,by simp[Value.oneCell'],by omega,by omega,λa7 c7 m7 dN ig=>⟨by trivial,n - (k+1),by omega,k+1,a7,c7,aX,?_,?_,?_,rfl⟩⟩
   ·rw[Zao (by omega) (by omega),e2];rfl
   ·rw[e2]
   ·rw[e,ZpO];exact ig
  ·rw[Zf6]at hv
   have e:ZkU g (k+1)=ZkU g k:=by rw[Zi7,hv];simp
   exact⟨by trivial,n - (k+1),by omega,k+1,_,_,aX,by rw[Zao (by omega) (by omega),e];rfl,by rw[e],by rw[e];exact bU,rfl⟩
 ·have:k=n:=by omega
  subst this
  exact⟨m3,mLt im bN,Mem.le_refl _,_,_,rfl,bU⟩
end Go.Proofs.Ythiefodednaikaa