/- Part of the proof: conditions and contracts of functions of this program. No condition of its own. -/
import Derived.Test.YtfgfahnakepegaaGreatPVRZ
import Derived.Test.YtfgfahnakepegaaGreatMr
import Derived.Test.YtfgfahnakepegaaGreatPVRT
set_option linter.unusedVariables false
set_option linter.unusedSimpArgs false
set_option linter.unusedSectionVars false
namespace Go.Proofs.YtfgfahnakepegaaGreat
open Go Go.Eng Go.Rx Go.Proofs Go.RowKit
set_option maxRecDepth 100000
theorem ZwS{m:Mem}{a:Option Addr}{L:List T}(h:rowRd m a (Rx.Zcx L)){k:Nat}{t:T}(ht:L[k]?=some t):∃b o,a=some ⟨b,o,none⟩/\m.reads b (o+k*8) t.cs:=by
 have aS:=(zA0 ht).1
 have e:Rx.Zcx L=Rx.Zcx (L.take k)++(t.cs++Rx.Zcx (L.drop (k+1))):=by
  have e1:L=L.take k++(t::L.drop (k+1)):=by
   have:=List.drop_eq_getElem_cons aS
   rw[(zA0 ht).2]at this
   rw[<-this,List.take_append_drop]
  conv=>lhs;rw[e1]
  rw[Za3];rfl
 have hl:(Rx.Zcx (L.take k)).length=k*8:=by rw[Zat,List.length_take,Nat.min_eq_left (by omega)]
 rcases h with h|⟨b,o,ha,h⟩
 ·have:=congrArg List.length h
  rw[Zat,List.length_nil]at this;omega
 ·refine⟨b,o,ha,λj v hj=>?_⟩
  have xr:=(zA0 hj).1
  have:=h (k*8+j) v (by rw[e,zA4 (by omega),hl,Nat.add_sub_cancel_left,zA5 xr];exact hj)
  rw[Nat.add_assoc];exact this
theorem ZAi(l:List T):∀u∈Rx.Zcx l,u.oneCell'=true:=by
 intro u hu
 simp only[Rx.Zcx,List.mem_flatten,List.mem_map]at hu
 obtain⟨_,⟨t,_,rfl⟩,h⟩:=hu
 simp only[T.cs,T.sl,List.mem_cons,List.not_mem_nil,or_false]at h
 rcases h with rfl|rfl|rfl|rfl|rfl|rfl|rfl|rfl <;> rfl
theorem ZrY(a:Option Addr)(c:Nat)(l:List T)(m:Mem)(h:rowRd m a (Rx.Zcx l))(hl:l.length<=1000000000000):CXT Tryz.prog 14 #[.slice a l.length c] m 8 (λv m' _=>∃a' c',v=.slice a' l.length c'/\rowRd m' a' (Rx.Zcx l)):=by
 apply Zbk
 have aU:=Zat l
 refine Zac (λha=>?_) (λha=>⟨⟨rfl,Int.le_refl _,by decide,by decide⟩,λb hf=>⟨.inl rfl,[],Rx.Zcx l,rfl,aU,.inl rfl,h,ZAi l,by omega,by omega,λa' c' m' hm aP pI=>⟨rfl,?_⟩⟩⟩)
 ·obtain rfl:a=none:=by simpa using ha
  have h0:l=[]:=by
   rcases h with h|⟨_,_,h,_⟩
   ·rw[h]at aU;exact List.eq_nil_of_length_eq_zero (by simp at aU;omega)
   ·cases h
  subst h0
  exact⟨rfl,none,0,rfl,.inl rfl⟩
 ·simp only[Nat.zero_add]at pI ⊢
  exact⟨a',c',rfl,aP⟩
theorem ZuX{M m:Mem}{b:Nat}{l:List T}(h:(m.add b (Rx.Zcx l)).le M)(hr:∀t∈l,Rep M t)(hl:l.length<=1000000000000000):RepL M (some ⟨b,0,none⟩) l:=
 Zcs (.inr ⟨b,0,rfl,λj v hj=>h _ _ _ (by rw[Nat.zero_add,Mem.add_same];exact hj)⟩) hr hl
theorem ZuY(m:Mem):CX Tryz.prog 52 #[.int .u64 1,.int .u64 121] m [] (Ret (.tuple #[.int .u64 0,.int .u64 121])):=by
 have yB:∀m:Mem,CX Tryz.prog 85 #[.int .u64 1,.int .u64 121] m [] (Ret (.tuple #[.int .u64 0,.int .u64 121])):=λm=>by
  apply Zfk
  refine⟨by decide,by decide,by decide,by decide,by decide,Zah (Mem.le_refl m) ?_⟩
  show _=_
  kernel_rfl
 apply Zhk
 refine Zae (yB m) (λv _ _ h=>by rw[h];rfl) ?_
 intro x y m1 aK h
 exact Zah aK h
theorem ZrZ(k:Nat)(t:T):(List.replicate k t.cs).flatten=Rx.Zcx (List.replicate k t):=by
 unfold Rx.Zcx
 rw[List.map_replicate]
def ZAY(t:T):Value->Mem->List (List Value)->Prop:=λv m' _=>∃b:Nat,v=.slice (some ⟨b,0,none⟩) 121 121/\m'.reads b 0 (Rx.Zcx (List.replicate 121 t))
theorem Zob(t:T)(b0:Nat)(m:Mem)(hb:m.reads b0 0 t.cs):CX Tryz.prog 16 #[.slice (some ⟨b0,0,none⟩) 1 1,.int .i64 121] m [] (ZAY t):=by
 apply Zb2
 refine Zf0 (by decide) ?_
 refine Zae (ZuY m) (λv _ _ h=>by rw[h];rfl) ?_
 intro x y m1 aK h
 obtain⟨rfl,rfl⟩:x=0/\y=121:=by simpa[Ret]using h
 have hw:IntKind.i64.wrap 121=121:=by decide
 have ht:Int.toNat 121=121:=rfl
 simp only[hw,ht]
 have hz:(List.replicate 121 [Value.int .u8 0,.int .u64 0,.int .u64 0,.int .u64 0,.int .u64 0,.int .i64 0,.int .i64 0,.slice none 0 0]).flatten=Rx.Zcx (List.replicate 121 T0):=ZrZ 121 T0
 rw[hz]
 have hl:∀(k:Nat)(u:T),(Rx.Zcx (List.replicate k u)).length=k*8:=λk u=>by rw[Zat,List.length_replicate]
 have rO:∀{k j:Nat} (u:Value),j<=k->∀i,(Rx.Zcx (List.replicate j t))[i]?=some u->(Rx.Zcx (List.replicate k t))[i]?=some u:=λ{k j} u Dt i hi=>by
  have yY:=(zA0 hi).1
  have e:List.replicate k t=List.replicate j t++List.replicate (k - j) t:=by rw[List.replicate_append_replicate];congr 1;omega
  rw[e,Za3,zA5 yY];exact hi
 refine⟨false,Zf0 (by decide) (by rw[decide_eq_false (by omega)]),Zf0 rfl ⟨⟨by omega,by omega,by decide,by omega⟩,λb hf=>⟨0,t.cs,rfl,rfl,by rw[hl];show 0+8<=968;decide,ZAi [t] |> λh u hu=>h u (by simpa[Rx.Zcx]using hu),.inl (.inr ⟨b0,0,rfl,hb.mono aK⟩),λxs css _ m' q=>∃(k:Nat)(cs':List Value),1<=k/\k<=121/\xs=[.int .i64 k]/\css=[cs']/\cs'.length=968/\cs'.take (k*8)=Rx.Zcx (List.replicate k t)/\q=121 - k,⟨_,1,_,by omega,by omega,rfl,rfl,by rw[ZbV (by rw[hl];show 0+8<=968;decide),hl],?_,rfl⟩,?_⟩⟩⟩
 ·unfold Zau
  simp[Rx.Zcx,T.cs]
 ·rintro n cs m2 q aO ⟨k,cs',iE,hk,hx,hc,aU,eD,hq⟩
  obtain rfl:n=k:=by simpa using hx
  obtain rfl:cs=cs':=by simpa using hc
  refine Za4 (λaS=>?_) (λbI=>?_)
  ·have aN:k < 121:=by omega
   rw[zA8]
   refine⟨⟨by omega,by omega⟩,⟨by omega,by omega⟩,λjG=>?_⟩
   generalize hj:min (k - 0) (121 - k)=j
   have w8:1<=j/\j<=k/\k+j<=121:=by omega
   refine⟨k*8,Rx.Zcx (List.replicate j t),?_,by rw[hl],by rw[hl,aU];omega,ZAi _,.inr ⟨0,rfl,λi u hi=>?_⟩,by trivial,121 - (k+j),by omega,k+j,_,by omega,by omega,?_,rfl,?_,?_,rfl⟩
   ·show ZaG (some ⟨b,0,none⟩) k 121 8=_
    unfold ZaG
    rw[Zar (by omega),Zar (by omega)]
    simp[Addr.add]
    try omega
   ·have yY:=(zA0 hi).1
    rw[hl]at yY
    have h2:=rO u w8.2.1 i hi
    rw[<-eD,List.getElem?_take_of_lt (by omega)]at h2
    show cs[0+i]?=_
    rw[Nat.zero_add];exact h2
   ·rw[Zas (by omega) (by omega)];simp
   ·rw[ZbV (by rw[hl,aU];omega),aU]
   ·unfold Zau
    rw[eD,<-Za3,List.replicate_append_replicate]
    exact List.take_left' (hl _ _)
  ·have uK:k=121:=by omega
   subst uK
   rw[List.take_of_length_le (by omega)]at eD
   subst eD
   refine⟨m1.add b (Rx.Zcx (List.replicate 121 t)),mLt aK (Mem.le_add hf _),λb' o v hv=>?_,b,rfl,λi v hi=>?_⟩
   ·unfold Mem.add at hv ⊢
    split at hv
    ·rename_i e;rw[if_pos e];exact hv
    ·rename_i e;rw[if_neg e];exact aO _ _ _ hv
   ·rw[Nat.zero_add,Mem.add_same];exact hi
theorem Zqn(m:Mem):CX Tryz.prog 11 #[.int .u8 97,.int .u8 98] m [] (Ret (ZAc abT)):=by
 apply ZlE
 intro b1 b2
 refine⟨λxs css tvs m' q=>∃k:Nat,k<=2/\xs=[.int .i64 (97+k:Nat)]/\css=[[.int .u64 0,.int .u64 (ZA7 k),.int .u64 0,.int .u64 0]]/\q=2 - k,⟨2,0,by omega,rfl,rfl,rfl⟩,?_⟩
 rintro n cs m1 q aK ⟨k,hk,hx,cE,hq⟩
 obtain rfl:n=((97+k:Nat):Int):=by simpa using hx
 obtain rfl:cs=_:=by simpa using cE
 have dR:k=0\/k=1\/k=2:=by omega
 rcases dR with rfl|rfl|rfl
 ·refine ZsS rfl ⟨by decide,⟨by decide,by decide⟩,Zap (v:=.int .u64 (ZA7 0)) rfl ⟨by decide,Zaa rfl ⟨⟨by decide,by decide⟩,Zaa rfl ⟨by trivial,1,by omega,1,by omega,rfl,rfl,rfl⟩⟩⟩⟩
 ·refine ZsS rfl ⟨by decide,⟨by decide,by decide⟩,Zap (v:=.int .u64 (ZA7 1)) rfl ⟨by decide,Zaa rfl ⟨⟨by decide,by decide⟩,Zaa rfl ⟨by trivial,0,by omega,2,by omega,rfl,rfl,rfl⟩⟩⟩⟩
 ·exact Zf0 rfl (Zaa rfl (Zah aK rfl))
theorem ZzG(m:Mem):Rep m abT:=by
 simp only[abT,Rep]
 exact⟨by simp,.inl trivial,⟨by omega,by omega,by omega,by omega,by omega,by omega,by omega⟩⟩
theorem Ztk{n:Nat}{t:T}(h:Sm n t)(hn:n<=9000):t.clean=true:=ZaO h.1 (by have:=h.2;omega)
theorem Zbo:∀l:List T,l.length<=szL l
 | []=>Nat.zero_le _
 | t::l=>by
  rw[ZaW,List.length_cons]
  have:=Zbo l
  have:1<=t.nodes.length:=by rw[Zbf];simp
  omega
theorem Zoc(L:List T)(a:Option Addr)(c n:Nat)(m:Mem)(hL:RepL m a L)(h:∀x∈L,x.good=true)(bN:L≠[])(hs:1+szL L<=n)(hn:n<=1000):CX Tryz.prog 7 #[.slice a L.length c] m [] (Za9 (Sm n)):=
 (Zyd L a c m hL (by have:=Zbo L;omega) λx hx=>ZaO (h x hx) (by have:=Zbq hx;omega)).mono λv m' css _ ⟨t,h1,h2,_,_,h3⟩=>⟨t,h1,h2,ZAI h bN hs (by omega) h3⟩
theorem Zeo(L:List T)(a:Option Addr)(c n:Nat)(m:Mem)(hL:RepL m a L)(h:∀x∈L,x.good=true)(hs:1+szL L<=n)(hn:n<=1000):CX Tryz.prog 6 #[.slice a L.length c] m [] (Za9 (Sm n)):=
 (Zrw L a c m hL (by have:=Zbo L;omega) λx hx=>ZaO (h x hx) (by have:=Zbq hx;omega)).mono λv m' css _ ⟨t,h1,h2,_,_,h3⟩=>⟨t,h1,h2,Zzm h hs (by omega) h3⟩
theorem Ztl(t:T)(n:Nat)(m:Mem)(hr:Rep m t)(h:Sm n t)(hn:n<=1000):CX Tryz.prog 9 #[t.v] m [] (Za9 (Sm (n+1))):=
 (Zm2 t m hr).mono λv m' css _ ⟨u,h1,h2,_,_,h3⟩=>⟨u,h1,h2,Zzn h3 h (by omega)⟩
theorem Zcq(t:T)(n:Nat)(m:Mem)(hr:Rep m t)(h:t.nodes.length<=n)(hn:n<=250):CX Tryz.prog 12 #[t.v] m [] (Ret (.bool true)):=ZrW t m hr (by omega)
theorem sm2{n1 n2 n:Nat}{x y:T}(hx:Sm n1 x)(hy:Sm n2 y)(hn:1+(n1+n2)<=n):(∀t∈[x,y],t.good=true)/\1+szL [x,y]<=n:=by
 refine⟨λt ht=>?_,?_⟩
 ·simp at ht
  rcases ht with rfl|rfl
  ·exact hx.1
  ·exact hy.1
 ·rw[ZaW,Zci]
  have:=hx.2
  have:=hy.2
  omega
theorem sm3{n1 n2 n3 n:Nat}{x y z:T}(hx:Sm n1 x)(hy:Sm n2 y)(hz:Sm n3 z)(hn:1+(n1+(n2+n3))<=n):(∀t∈[x,y,z],t.good=true)/\1+szL [x,y,z]<=n:=by
 refine⟨λt ht=>?_,?_⟩
 ·simp at ht
  rcases ht with rfl|rfl|rfl
  ·exact hx.1
  ·exact hy.1
  ·exact hz.1
 ·rw[ZaW,ZaW,Zci]
  have:=hx.2
  have:=hy.2
  have:=hz.2
  omega
theorem Zqy{m:Mem}{x y:T}(hx:Rep m x)(hy:Rep m y):∀t∈[x,y],Rep m t:=λt ht=>by
 simp at ht
 rcases ht with rfl|rfl
 ·exact hx
 ·exact hy
theorem ZyB{m:Mem}{x y z:T}(hx:Rep m x)(hy:Rep m y)(hz:Rep m z):∀t∈[x,y,z],Rep m t:=λt ht=>by
 simp at ht
 rcases ht with rfl|rfl|rfl
 ·exact hx
 ·exact hy
 ·exact hz
theorem Zqo{m:Mem}{a:Option Addr}{L:List T}{k:Nat}(h:rowRd m a (Rx.Zcx L)):rowRd m a (Rx.Zcx (L.take k)):=by
 have e:Rx.Zcx L=Rx.Zcx (L.take k)++Rx.Zcx (L.drop k):=by rw[<-Za3,List.take_append_drop]
 rcases h with h|⟨b,o,ha,h⟩
 ·rw[h]at e
  exact .inl (List.append_eq_nil_iff.1 e.symm).1
 ·exact .inr ⟨b,o,ha,λj v hj=>h j v (by rw[e,zA5 (zA0 hj).1];exact hj)⟩
theorem Zne{m:Mem}{a:Option Addr}{L:List T}{k:Nat}(h:RepL m a L):RepL m a (L.take k):=
 Zcs (Zqo (Zaw h)) (λt ht=>Zbb h t (List.mem_of_mem_take ht)) (by have:=h.1;rw[List.length_take];omega)
theorem Zr0{b:Bool}:∀(v:Value)(m':Mem) (css:List (List Value)),Ret (.bool b) v m' css->Shape.fits .bool v=true:=λv _ _ e=>by rw[show v=_ from e];rfl
theorem ZAZ:∀j:Fin 9,0<=IntKind.u8.wrap ((j.val:Nat):Int)/\IntKind.u8.wrap ((j.val:Nat):Int) < 256:=by decide
theorem ZzH:∀j:Fin 14,IntKind.u8.wrap (97+IntKind.u8.wrap (Int.tmod ((j.val:Nat):Int) 5))=((97+j.val % 5:Nat):Int):=by decide
theorem Ztm(s:ByteArray)(hs:(ZcG s).length<=3)(m:Mem):CX Tryz.prog 15 #[.string s] m [] (Za9 (Sm 4)):=
 (ZvC s (by omega) m).mono λv m' css _ ⟨t,h1,h2,h3,_⟩=>⟨t,h1,h2,by
  have hg:=Zna (Zis s)
  exact⟨ZcQ h3 hg.1,by rw[Zcv h3];omega⟩⟩
theorem ZvE(t:T)(k:Nat)(ht:Sm 1 t):szL (List.replicate k t)<=k:=by
 have:=Zul (n:=1) (l:=List.replicate k t) λx hx=>by rw[(List.mem_replicate.1 hx).2];exact ht
 rw[List.length_replicate]at this;omega
theorem ZA0{M:Mem}{a6:Option Addr}{L:List T}(hL:RepL M a6 L)(h9:L.length=9)(aV:∀x∈L,Sm 6 x):∀{m':Mem},M.le m'->∀i,i < 9->∃t:T,Sm 6 t/\Rep m' t/\∃b o,a6=some ⟨b,o,none⟩/\m'.reads b (o+i*8) t.cs:=λ{m'} hm i hi=>by
 obtain⟨t,ht⟩:=ZaQ (l:=L) (k:=i) (by omega)
 have nX:=zA2 ht
 exact⟨t,aV t nX,(Zbb hL t nX).mono hm,ZwS ((Zaw hL).mono hm) ht⟩
set_option maxHeartbeats 4000000 in
theorem ZjX(m:Mem):CX Tryz.prog 3 #[] m [] (Ret (.bool true)):=by
 apply Zes
 refine Zae (Zm5 97 (by omega) m) Zaj (ZaD λta m1 aK yZ vL=>?_)
 refine Zae (Zm5 98 (by omega) m1) Zaj (ZaD λtb m2 aO sI xi b b1=>?_)
 have kJ:=yZ.mono aO
 have fA:Sm 1 ta:=by rw[vL];exact Zlj 97 (by omega)
 have dD:Sm 1 tb:=by rw[xi];exact Zlj 98 (by omega)
 have bR:=mLt aK aO
 refine⟨λxs _ _ m'=>∃(L:List T)(a:Option Addr),L.length=9/\xs=[.slice a 9 9]/\RepL m' a L/\(∀x∈L,Sm 6 x)/\m2.le m',?_,?_⟩
 ·refine⟨λi _ _=>if i=30 then Ret (ZAc abT)else if i=31 then Za9 (λt=>t=abT)else if i=21\/i=27 then Za9 (Sm 2)else if i=14 then Za9 (Sm 3)else Za9 (Sm 6),?_⟩
  intro b2 jG
  refine⟨Za9 (Sm 6),rfl,Zeo [ta,tb] (some ⟨b2,0,none⟩) 2 6 _ (Za7 jG (Zqy kJ sI) (by simp)) (sm2 fA dD (by omega:1+(1+1)<=6)).1 (sm2 fA dD (by omega)).2 (by omega),Zaj,ZaD λt1 m3 aX dH h1=>?_⟩
  intro b3 nH V vX za zb
  refine⟨Za9 (Sm 6),rfl,Zeo [ta,tb,ta] (some ⟨b3,0,none⟩) 3 6 V (ZuX zb (ZyB (kJ.mono vX) (sI.mono vX) (kJ.mono vX)) (by simp)) (sm3 fA dD fA (by omega:1+(1+(1+1))<=6)).1 (sm3 fA dD fA (by omega)).2 (by omega),Zaj,ZaD λt2 m4 bB dQ h2=>?_⟩
  intro b4 oG V' zc Du CQ
  refine⟨Za9 (Sm 3),rfl,Zoc [ta,tb] (some ⟨b4,0,none⟩) 2 3 V' (ZuX CQ (Zqy (kJ.mono zc) (sI.mono zc)) (by simp)) (sm2 fA dD (by omega:1+(1+1)<=3)).1 (by simp) (sm2 fA dD (by omega)).2 (by omega),Zaj,ZaD λt3 m5 cC qK h3=>?_⟩
  have As:m2.le m5:=mLt zc cC
  intro b5 oN
  refine⟨Za9 (Sm 6),rfl,Zeo [ta,t3] (some ⟨b5,0,none⟩) 2 6 _ (Za7 oN (Zqy (kJ.mono As) qK) (by simp)) (sm2 fA h3 (by omega:1+(1+3)<=6)).1 (sm2 fA h3 (by omega)).2 (by omega),Zaj,ZaD λt4 m6 cI kP h4=>?_⟩
  have CR:m2.le m6:=mLt As (mLt (Mem.le_add oN _) cI)
  refine⟨Za9 (Sm 6),rfl,Zeo [] none 0 6 m6 ⟨by simp,.inl rfl⟩ (by simp) (by decide) (by omega),Zaj,ZaD λt5 m7 cB zd h5=>?_⟩
  have tp:=mLt CR cB
  refine⟨Za9 (Sm 6),rfl,(ZsT ta 0 1 m7 (kJ.mono tp) (Ztk fA (by omega))).mono (λv m' css _ ⟨u,h1,h2,h3⟩=>⟨u,h1,h2,(Zzo 97 (by omega) (by rw[<-vL];exact h3)).mono (by omega)⟩),Zaj,ZaD λt6 m8 dT uU h6=>?_⟩
  have At:=mLt tp dT
  refine⟨Za9 (Sm 2),rfl,Ztl ta 1 m8 (kJ.mono At) fA (by omega),Zaj,ZaD λt7 m9 kK eP h7=>?_⟩
  have Au:=mLt At kK
  intro b6 gP
  refine⟨Za9 (Sm 6),rfl,Zeo [t7,tb] (some ⟨b6,0,none⟩) 2 6 _ (Za7 gP (Zqy eP (sI.mono Au)) (by simp)) (sm2 h7 dD (by omega:1+(2+1)<=6)).1 (sm2 h7 dD (by omega)).2 (by omega),Zaj,ZaD λt8 m10 dY pO h8=>?_⟩
  have vq:m2.le m10:=mLt Au (mLt (Mem.le_add gP _) dY)
  refine⟨Za9 (Sm 2),rfl,Ztl tb 1 m10 (sI.mono vq) dD (by omega),Zaj,ZaD λt9 m11 eH pP h9=>?_⟩
  have ze:=mLt vq eH
  intro b7 fK
  refine⟨Za9 (Sm 6),rfl,Zeo [ta,t9] (some ⟨b7,0,none⟩) 2 6 _ (Za7 fK (Zqy (kJ.mono ze) pP) (by simp)) (sm2 fA h9 (by omega:1+(1+2)<=6)).1 (sm2 fA h9 (by omega)).2 (by omega),Zaj,ZaD λt10 m12 gQ mX lF=>?_⟩
  refine⟨Ret (ZAc abT),rfl,Zqn m12,(λv _ _ e=>by rw[e];rfl),?_⟩
  rintro n1 n2 n3 n4 m13 oR hv
  simp only[Ret,ZAc,ZcL,Value.agg.injEq,Array.mk.injEq,List.cons.injEq,Value.int.injEq,true_and,and_true]at hv
  obtain⟨rfl,rfl,rfl,rfl⟩:=hv
  refine⟨Za9 (λt=>t=abT),rfl,Zvx _ _ _ _ (by decide) m13 (ZzG m13),Zaj,ZaD λt11 m14 sB sJ u5=>?_⟩
  subst u5
  intro b8 mU M g1 g2 g3 g4 g5 g6 g7 g8 g9 g10 g11 g12 g13 g14 g15 g16 g17 g18 g19 g20
  refine⟨rfl,[ta,t1,t2,t4,t5,t6,t8,t10,abT],some ⟨b8,0,none⟩,rfl,rfl,ZuX g20 ?_ (by simp),?_,g1⟩
  ·intro t ht
   simp only[List.mem_cons,List.not_mem_nil,or_false]at ht
   rcases ht with rfl|rfl|rfl|rfl|rfl|rfl|rfl|rfl|rfl
   ·exact kJ.mono g1
   ·exact dH.mono g3
   ·exact dQ.mono g5
   ·exact kP.mono g9
   ·exact zd.mono g10
   ·exact uU.mono g11
   ·exact pO.mono g14
   ·exact mX.mono g17
   ·exact sJ.mono g19
  ·intro t ht
   simp only[List.mem_cons,List.not_mem_nil,or_false]at ht
   rcases ht with rfl|rfl|rfl|rfl|rfl|rfl|rfl|rfl|rfl
   ·exact fA.mono (by omega)
   ·exact h1
   ·exact h2
   ·exact h4
   ·exact h5
   ·exact h6
   ·exact h8
   ·exact lF
   ·exact ZAJ.mono (by omega)
 rintro a6 n16 c2 M - ⟨L,a,CS,aZ,hL,aV,vY⟩
 simp only[List.cons.injEq,Value.slice.injEq,and_true]at aZ
 obtain⟨rfl,rfl,rfl⟩:=aZ
 have cN:=@ZA0 M a6 L hL CS aV
 have jT:=mLt bR vY
 have hw:∀k:Nat,k < 1000->IntKind.i64.wrap ((k:Int)+1)=((k+1:Nat):Int):=λk hk=>by rw[Zas (by omega) (by omega)];rfl
 refine⟨λxs css tvs m' q=>∃i:Nat,i<=9/\xs=[.int .i64 i]/\q=9 - i/\M.le m',⟨_,0,by omega,rfl,rfl,Mem.le_refl _⟩,?_⟩
 rintro z M1 q - ⟨i,hi,hz,hq,cM⟩
 obtain rfl:z=i:=by simpa using hz
 subst hq
 refine Za4 (λaS=>?_) (λbI=>?_)
 ·have CT:i < 9:=by omega
  obtain⟨x,aZ,cO,b2,o2,kD,kT⟩:=cN cM i CT
  simp only[hw i (by omega),zA8]
  refine⟨b2,o2,kD,⟨by omega,by omega⟩,.int .u8 x.k,.int .u64 x.s0,.int .u64 x.s1,.int .u64 x.s2,.int .u64 x.s3,.int .i64 x.mn,.int .i64 x.mx,.slice x.a x.subs.length x.c,kT,λb3=>Zaa rfl ?_⟩
  refine⟨λxs css tvs m' q=>∃k:Nat,k<=9/\xs=[.int .i64 k]/\q=9 - k/\M1.le m',⟨_,0,by omega,rfl,rfl,Mem.le_refl _⟩,?_⟩
  rintro z M2 q - ⟨k,hk,hz,hq,cS⟩
  obtain rfl:z=k:=by simpa using hz
  subst hq
  refine Za4 (λeN=>?_) (λmF=>⟨by trivial,9 - (i+1),by omega,i+1,by omega,rfl,rfl,mLt cM cS⟩)
  have CU:k < 9:=by omega
  obtain⟨y,nU,nN,b4,o4,xA,mG⟩:=cN (mLt cM cS) k CU
  simp only[hw k (by omega),zA8]
  refine⟨b4,o4,xA,⟨by omega,by omega⟩,.int .u8 y.k,.int .u64 y.s0,.int .u64 y.s1,.int .u64 y.s2,.int .u64 y.s3,.int .i64 y.mn,.int .i64 y.mx,.slice y.a y.subs.length y.c,mG,λb5=>Zaa rfl ?_⟩
  refine⟨λxs css tvs m' q=>∃j:Nat,j<=9/\xs=[.int .i64 j]/\q=9 - j/\M2.le m',⟨_,0,by omega,rfl,rfl,Mem.le_refl _⟩,?_⟩
  rintro z M3 q - ⟨j,hj,hz,hq,dM⟩
  obtain rfl:z=j:=by simpa using hz
  subst hq
  have oS:=mLt cM (mLt cS dM)
  have Av:=cO.mono (mLt cS dM)
  have Aw:=nN.mono dM
  have zf:=kJ.mono (mLt vY oS)
  have gF:=sI.mono (mLt vY oS)
  have bQ:=mLt jT oS
  refine Za4 (λuR=>?_) (λuS=>?_)
  ·have Ax:j < 9:=by omega
   obtain⟨z,nY,xp,b6,o6,CV,sF⟩:=cN oS j Ax
   simp only[hw j (by omega),zA8]
   have next:∀{m'':Mem},M3.le m''->True/\∃n':Nat,n' < 9 - j/\∃j':Nat,j'<=9/\[Value.int .i64 ((j+1:Nat):Int)]=[.int .i64 j']/\n'=9 - j'/\M2.le m'':=λh=>⟨trivial,9 - (j+1),by omega,j+1,by omega,rfl,rfl,mLt dM h⟩
   refine⟨b6,o6,CV,⟨by omega,by omega⟩,.int .u8 z.k,.int .u64 z.s0,.int .u64 z.s1,.int .u64 z.s2,.int .u64 z.s3,.int .i64 z.mn,.int .i64 z.mx,.slice z.a z.subs.length z.c,sF,λb7=>Zaa rfl ⟨by decide,Zac (λ_=>next (Mem.le_refl _)) (λ_=>?_)⟩⟩
   intro b8 mU
   refine Zae (Zoc [x,y,z] (some ⟨b8,0,none⟩) 3 19 _ (Za7 mU (ZyB Av Aw xp) (by simp)) (sm3 aZ nU nY (by omega:1+(6+(6+6))<=19)).1 (by simp) (sm3 aZ nU nY (by omega)).2 (by omega)) Zaj (ZaD λtn m3 aX eR hn=>?_)
   have zg:M3.le m3:=mLt (Mem.le_add mU _) aX
   intro b9
   refine⟨λi _ _=>if i=1\/i=9\/i=25\/i=39\/i=45 then Ret (.bool true)else if i=31 then Za9 (Sm 21)else if i=35 then Za9 (Sm 3)else if i=38 then Za9 (λt=>t.nodes.length<=26)else Za9 (Sm 25),?_⟩
   refine⟨Ret (.bool true),rfl,Zcq tn 19 m3 eR hn.2 (by omega),Zr0,λbb m4 bB hv=>?_⟩
   obtain rfl:bb=true:=by cases hv;rfl
   have lD:=mLt zg bB
   refine Zf0 rfl ?_
   intro b11 vr
   refine⟨Za9 (Sm 25),rfl,Zeo [ta,tn,tb] (some ⟨b11,0,none⟩) 3 25 _ (Za7 vr (ZyB (zf.mono lD) (eR.mono bB) (gF.mono lD)) (by simp)) (sm3 fA hn dD (by omega:1+(1+(19+1))<=25)).1 (sm3 fA hn dD (by omega)).2 (by omega),Zaj,ZaD λt5 m5 cC zd h5=>?_⟩
   refine⟨Ret (.bool true),rfl,Zcq t5 25 m5 zd h5.2 (by omega),Zr0,λbb m6 cI hv=>?_⟩
   obtain rfl:bb=true:=by cases hv;rfl
   have lB:m4.le m6:=mLt (Mem.le_add vr _) (mLt cC cI)
   have vP:=mLt lD lB
   refine Zf0 rfl ⟨by decide,Zac (λ_=>?_) (λ_=>?_)⟩
   ·refine⟨Ret (.bool true),rfl,ZrX tn (0,0,2,1) (IntKind.u8.wrap (j:Int)) (ZAZ ⟨j,Ax⟩) m6 (eR.mono (mLt bB lB)) (by have:=hn.2;omega),Zr0,λbb m7 cB hv=>?_⟩
    obtain rfl:bb=true:=by cases hv;rfl
    have Ay:=mLt vP cB
    have kV:=mLt lB cB
    refine Zf0 rfl ?_
    intro b14 vt
    refine⟨Za9 (Sm 21),rfl,Zeo [ta,tn] (some ⟨b14,0,none⟩) 2 21 _ (Za7 vt (Zqy (zf.mono Ay) (eR.mono (mLt bB kV))) (by simp)) (sm2 fA hn (by omega:1+(1+19)<=21)).1 (sm2 fA hn (by omega)).2 (by omega),Zaj,ZaD λt8 m8 dT pO h8=>?_⟩
    intro b15 CW V vX za zb
    have Az:m7.le V:=mLt (Mem.le_add vt _) (mLt dT za)
    have AA:=mLt Ay Az
    refine⟨Za9 (Sm 3),rfl,Zeo [ta,tb] (some ⟨b15,0,none⟩) 2 3 V (ZuX zb (Zqy (zf.mono AA) (gF.mono AA)) (by simp)) (sm2 fA dD (by omega:1+(1+1)<=3)).1 (sm2 fA dD (by omega)).2 (by omega),Zaj,ZaD λt9 m9 kK pP h9=>?_⟩
    intro b16 vu
    refine⟨Za9 (Sm 25),rfl,Zoc [t8,t9] (some ⟨b16,0,none⟩) 2 25 _ (Za7 vu (Zqy (pO.mono (mLt za kK)) pP) (by simp)) (sm2 h8 h9 (by omega:1+(21+3)<=25)).1 (by simp) (sm2 h8 h9 (by omega)).2 (by omega),Zaj,ZaD λt10 m10 dY mX lF=>?_⟩
    have zh:m7.le m10:=mLt Az (mLt kK (mLt (Mem.le_add vu _) dY))
    refine⟨Za9 (λt=>t.nodes.length<=26),rfl,(ZsT t10 0 (-1) m10 mX (Ztk lF (by omega))).mono (λv m' css _ ⟨u,h1,h2,h3⟩=>⟨u,h1,h2,by have:=Zum h3;have:=lF.2;omega⟩),Zaj,ZaD λt11 m11 eH sJ u5=>?_⟩
    refine⟨Ret (.bool true),rfl,Zcq t11 26 m11 sJ u5 (by omega),Zr0,λbb m12 gQ hv=>?_⟩
    obtain rfl:bb=true:=by cases hv;rfl
    have zi:=mLt zh (mLt eH gQ)
    refine Zf0 rfl ?_
    refine⟨Za9 (Sm 25),rfl,(Ztl tn 19 m12 (eR.mono (mLt bB (mLt kV zi))) hn (by omega)).mono (λv m' css _ ⟨u,h1,h2,h3⟩=>⟨u,h1,h2,h3.mono (by omega)⟩),Zaj,ZaD λt13 m13 oR zj pM=>?_⟩
    refine⟨Ret (.bool true),rfl,Zcq t13 25 m13 zj pM.2 (by omega),Zr0,λbb m14 sB hv=>?_⟩
    obtain rfl:bb=true:=by cases hv;rfl
    intro N g1 g2 g3 g4 g5 g6 g7 g8 g9 g10 g11 g12 g13 g14 g15 g16
    exact Zf0 rfl (next (mLt zg g1))
   ·intro V _ _ _ N g1
    intros
    exact next (mLt zg g1)
  ·intro b6 gP
   refine Zae (Zoc [x,y] (some ⟨b6,0,none⟩) 2 13 _ (Za7 gP (Zqy Av Aw) (by simp)) (sm2 aZ nU (by omega:1+(6+6)<=13)).1 (by simp) (sm2 aZ nU (by omega)).2 (by omega)) Zaj (ZaD λtn m3 aX eR hn=>?_)
   refine Zai (Zcq tn 13 m3 eR hn.2 (by omega)) λm4 bB=>Zf0 rfl ⟨by trivial,9 - (k+1),by omega,k+1,by omega,rfl,rfl,?_⟩
   exact mLt cS (mLt dM (mLt (Mem.le_add gP _) (mLt aX bB)))
 ·refine⟨λxs css tvs m' q=>∃(k:Nat)(L:List T)(a:Option Addr)(c:Nat),k<=14/\L.length=k/\xs=[.slice a L.length c,.int .i64 k]/\tvs=[.slice a L.length c]/\RepL m' a L/\L.length<=c/\(∀x∈L,Sm 4 x)/\M1.le m'/\q=14 - k,⟨_,0,[],none,0,by omega,rfl,rfl,rfl,⟨by simp,.inl rfl⟩,by simp,by simp,Mem.le_refl _,rfl⟩,?_⟩
  rintro a1 n1 c1 z a2 n2 c2 M2 q - ⟨k,L2,a',c',hk,CZ,hx,ht,zk,s4,pR,cS,hq⟩
  simp only[List.cons.injEq,Value.slice.injEq,Value.int.injEq,and_true,true_and]at hx ht
  obtain⟨⟨rfl,rfl,rfl⟩,rfl⟩:=hx
  obtain⟨rfl,rfl,rfl⟩:=ht
  subst hq
  have sK:=mLt vY (mLt cM cS)
  refine Za4 (λaS=>?_) (λbI=>?_)
  ·have sL:k < 14:=by omega
   have lC:IntKind.u8.wrap (97+IntKind.u8.wrap (Int.tmod (k:Int) 5))=((97+k % 5:Nat):Int):=ZzH ⟨k,sL⟩
   simp only[lC,hw k (by omega)]
   refine⟨λi _ _=>if i=7 then Za9 (Sm 1)else Za9 (Sm 4),by decide,Za9 (Sm 1),rfl,(Zm5 (97+k % 5) (by omega) M2).mono (λv m' css _ ⟨u,h1,h2,h3⟩=>⟨u,h1,h2,by rw[h3];exact Zlj _ (by omega)⟩),Zaj,ZaD λtc m3 aX C0 hc=>?_⟩
   intro b2 jG
   refine⟨Za9 (Sm 4),rfl,Zeo [ta,tb,tc] (some ⟨b2,0,none⟩) 3 4 _ (Za7 jG (ZyB (kJ.mono (mLt sK aX)) (sI.mono (mLt sK aX)) C0) (by simp)) (sm3 fA dD hc (by omega:1+(1+(1+1))<=4)).1 (sm3 fA dD hc (by omega)).2 (by omega),Zaj,ZaD λt m4 bB oP nT=>?_⟩
   have rH:M2.le m4:=mLt aX (mLt (Mem.le_add jG _) bB)
   intro b3 nH
   have bC:=Mem.le_add nH t.cs
   refine⟨.inl trivial,Rx.Zcx L2,t.cs,Zat L2,rfl,(Zaw zk).mono (mLt rH bC),.inr ⟨b3,0,rfl,λj v hj=>by rw[Nat.zero_add,Mem.add_same];exact hj⟩,(λu hu=>ZAi [t] u (by simpa[Rx.Zcx]using hu)),by omega,by omega,λa' c' m5 cC aP pI N g1 g2 g3 g4 g5 g6=>?_⟩
   refine⟨by trivial,14 - (k+1),by omega,k+1,L2++[t],a',c',by omega,by simp;omega,by simp,by simp,Zcs ?_ ?_ (by simp;omega),by have:=pI.1;simp;omega,?_,mLt cS g1,rfl⟩
   ·rw[Za3,show Rx.Zcx [t]=t.cs by simp[Rx.Zcx]];exact aP.mono g6
   ·intro u hu
    rcases List.mem_append.1 hu with hu|hu
    ·exact(Zbb zk u hu).mono g1
    ·obtain rfl:u=t:=by simpa using hu
     exact oP.mono g4
   ·intro u hu
    rcases List.mem_append.1 hu with hu|hu
    ·exact pR u hu
    ·obtain rfl:u=t:=by simpa using hu
     exact nT
  ·have sL:k=14:=by omega
   subst sL
   refine⟨λxs css tvs m' q=>∃j:Nat,12<=j/\j<=15/\xs=[.int .i64 j]/\q=15 - j/\M2.le m',⟨_,12,by omega,by omega,rfl,rfl,Mem.le_refl _⟩,?_⟩
   rintro z M3 q - ⟨j,C1,hj,hz,hq,dM⟩
   obtain rfl:z=j:=by simpa using hz
   subst hq
   refine Za4 (λaS=>?_) (λbI=>?_)
   ·have C3:j<=14:=by omega
    have sM:(L2.take j).length=j:=by rw[List.length_take];omega
    have zl:=zk.mono dM
    have vb:∀x∈L2.take j,Sm 4 x:=λx hx=>pR x (List.mem_of_mem_take hx)
    have C5:=Zul vb
    rw[sM]at C5
    simp only[zA8,Nat.sub_zero,hw j (by omega)]
    have cU:(0:Int)<=(j:Int)/\(j:Int)<=(c2:Int):=⟨by omega,by omega⟩
    refine⟨cU,?_⟩
    have kE:=Zoc (L2.take j) a2 c2 100 M3 (Zne zl) (λx hx=>(vb x hx).1) (by intro e;rw[e]at sM;simp at sM;omega) (by omega) (by omega)
    rw[sM]at kE
    refine Zae kE Zaj (ZaD λtn m3 aX eR hn=>?_)
    refine Zai (Zcq tn 100 m3 eR hn.2 (by omega)) λm4 bB=>Zf0 rfl ⟨cU,?_⟩
    have lD:=mLt aX bB
    have dA:=ZrY a2 c2 (L2.take j) m4 (Zaw ((Zne zl).mono lD)) (by omega)
    rw[sM]at dA
    refine⟨_,dA,(λv _ _ ⟨_,_,e,_⟩=>by rw[e];rfl),?_⟩
    rintro a22 j c6 m5 cC ⟨a'',c'',hv,iV⟩
    simp only[Value.slice.injEq]at hv
    obtain⟨rfl,rfl,rfl⟩:=hv
    refine Zae (Ztm _ (by decide) m5) Zaj (ZaD λtx m6 cI bS hx=>?_)
    refine Zae (Ztm _ (by decide) m6) Zaj (ZaD λty m7 cB jV hy=>?_)
    intro b3 nH
    have uZ:=mLt cI cB
    have bC:=Mem.le_add nH (Rx.Zcx [tx,ty])
    refine⟨.inl trivial,Rx.Zcx (L2.take j),Rx.Zcx [tx,ty],by rw[Zat,sM],rfl,iV.mono (mLt uZ bC),.inr ⟨b3,0,rfl,λj v hj=>by rw[Nat.zero_add,Mem.add_same];exact hj⟩,ZAi _,by omega,by omega,λa' c' m8 dT aP pI=>?_⟩
    have AB:M3.le m8:=mLt lD (mLt cC (mLt uZ (mLt bC dT)))
    have fS:(L2.take j++[tx,ty]).length=j+2:=by rw[zA1,sM];rfl
    have C6:RepL m8 a' (L2.take j++[tx,ty]):=by
     refine Zcs (by rw[Za3];exact aP) ?_ (by omega)
     intro u hu
     rcases List.mem_append.1 hu with hu|hu
     ·exact(Zbb zl u (List.mem_of_mem_take hu)).mono AB
     ·simp at hu
      rcases hu with rfl|rfl
      ·exact bS.mono (mLt cB (mLt bC dT))
      ·exact jV.mono (mLt bC dT)
    have AC:∀x∈L2.take j++[tx,ty],Sm 4 x:=by
     intro u hu
     rcases List.mem_append.1 hu with hu|hu
     ·exact vb u hu
     ·simp at hu
      rcases hu with rfl|rfl
      ·exact hx
      ·exact hy
    have C7:=Zul AC
    rw[fS]at C7
    have kE:=Zoc (L2.take j++[tx,ty]) a' c' 100 m8 C6 (λx hx=>(AC x hx).1) (by simp) (by omega) (by omega)
    rw[fS]at kE
    refine Zae kE Zaj (ZaD λtn m9 kK eR hn=>?_)
    refine Zai (Zcq tn 100 m9 eR hn.2 (by omega)) λm10 dY=>Zf0 rfl ⟨by trivial,by trivial,15 - (j+1),by omega,j+1,by omega,by omega,rfl,rfl,?_⟩
    exact mLt dM (mLt AB (mLt kK dY))
   ·intro b2 jG
    have zm:=mLt sK dM
    refine Zae (Zob ta b2 _ (λj v hj=>by rw[Nat.zero_add,Mem.add_same];exact hj)) (λv _ _ ⟨_,e,_⟩=>by rw[e];rfl) ?_
    rintro a18 n25 c5 M4 jH ⟨bl,hv,vv⟩
    simp only[Value.slice.injEq]at hv
    obtain⟨rfl,rfl,rfl⟩:=hv
    have lD:M3.le M4:=mLt (Mem.le_add jG _) jH
    refine⟨λxs css tvs m' q=>∃j:Nat,117<=j/\j<=122/\xs=[.int .i64 j]/\q=122 - j/\M4.le m',⟨_,117,by omega,by omega,rfl,rfl,Mem.le_refl _⟩,?_⟩
    rintro z M5 q - ⟨j,C8,hj,hz,hq,tg⟩
    obtain rfl:z=j:=by simpa using hz
    subst hq
    have pS:∀{m':Mem},M5.le m'->∀k,k<=121->RepL m' (some ⟨bl,0,none⟩) (List.replicate k ta):=λ{m'} hm k hk=>by
     have h1:rowRd M4 (some ⟨bl,0,none⟩) (Rx.Zcx (List.replicate 121 ta)):=.inr ⟨bl,0,rfl,vv⟩
     have h2:=Zqo (k:=k) (h1.mono (mLt tg hm))
     rw[List.take_replicate,Nat.min_eq_left hk]at h2
     exact Zcs h2 (λt ht=>by rw[(List.mem_replicate.1 ht).2];exact kJ.mono (mLt zm (mLt lD (mLt tg hm)))) (by rw[List.length_replicate];omega)
    have mA:∀k,∀x∈List.replicate k ta,x.good=true:=λk x hx=>by rw[(List.mem_replicate.1 hx).2];exact fA.1
    refine Za4 (λaS=>?_) (λbI=>?_)
    ·have vA:j<=121:=by omega
     have C9:IntKind.i64.wrap (Int.tdiv (j:Int) 5)=((j / 5:Nat):Int):=by
      rw[show Int.tdiv (j:Int) 5=((j / 5:Nat):Int) from rfl,Zas (by omega) (by omega)]
     simp only[C9,zA8,Nat.sub_zero,hw j (by omega)]
     have iX:=Zeo (List.replicate j ta) (some ⟨bl,0,none⟩) 121 200 M5 (pS (Mem.le_refl _) j vA) (mA j) (by have:=ZvE ta j fA;omega) (by omega)
     rw[List.length_replicate]at iX
     refine⟨false,⟨⟨by omega,by omega⟩,Zae iX Zaj (ZaD λtn m3 aX eR hn=>?_)⟩,?_⟩
     ·refine Zai (Zcq tn 200 m3 eR hn.2 (by omega)) λm4 bB=>Zf0 rfl ⟨by decide,⟨by omega,by omega⟩,?_⟩
      have kE:=Zoc (List.replicate (j / 5) ta) (some ⟨bl,0,none⟩) 121 200 m4 (pS (mLt aX bB) (j / 5) (by omega)) (mA _) (by intro e;have:=congrArg List.length e;rw[List.length_replicate]at this;simp at this;omega) (by have:=ZvE ta (j / 5) fA;omega) (by omega)
      rw[List.length_replicate]at kE
      exact Zae kE Zaj (ZaD λtn m5 cC eR hn=>Zai (Zcq tn 200 m5 eR hn.2 (by omega)) λm6 cI=>⟨by trivial,by trivial,rfl⟩)
     ·exact Zf0 rfl ⟨by trivial,by trivial,122 - (j+1),by omega,j+1,by omega,by omega,rfl,rfl,tg⟩
    ·refine⟨true,?_,?_⟩
     ·have h9:Rep M5 (Zba 9 0 0 none 0 []):=Zc7 ⟨by simp,.inl rfl⟩ (by omega) (by omega) (by omega)
      refine Zai (Zcq T0 1 M5 (Zjn M5) (by decide) (by omega)) λm6 cI=>ZsS rfl ?_
      refine Zai (Zcq (Zba 9 0 0 none 0 []) 1 m6 (h9.mono cI) (by decide) (by omega)) λm7 cB=>ZsS rfl ?_
      exact Zai (ZrU m7) λm8 dT=>⟨rfl,rfl,rfl⟩
     ·exact Zah (mLt jT (mLt cM (mLt cS (mLt dM (mLt lD tg))))) rfl
end Go.Proofs.YtfgfahnakepegaaGreat
namespace Go.Proofs.YtfgfahnakepegaaGreat
open Go Go.Eng Go.Rx Go.Proofs Go.RowKit Go.ChangeShapes Go.WideShapes Go.ChangeAt
set_option maxRecDepth 100000
theorem Ziw(H:Type)(enc:TypeId×Value->H)(W:World)(base:Nat)(args:Array Value)(ds gs:List (DataW H))(before:List MemPlace)
  (vB:∀(j:Nat) t v,Tryz.f3.params[j]?=some t->args[j]?=some v->Value.okWide Tryz.prog W .any base t v)
  (hW:DataW.Whole enc Tryz.prog Tryz.f3.params.toList Rows.factorSmallSpec.vars false W args.toList ds gs before):
  Calls Tryz.prog 3 args W λe W'=>∃v,e=.returned v/\Rows.factorSmallSpec.post enc Tryz.prog Tryz.f3 false true false false W args v W':=by
 have hW':=hW
 obtain⟨p,q,Da,hV,rfl,jI,dP⟩:=hW
 have hA:DataW.TrodAll enc Tryz.prog W 0 (λ_=>true) true Tryz.f3.params.toList args.toList ds p:=Da
 rw[Tryz.params3]at hA
 obtain⟨ha,rfl,rfl⟩:=trodAll_nil hA
 obtain rfl:args=#[]:=by cases args;simp_all
 obtain⟨rfl,rfl⟩:=trodVars_none hV
 exact Zt1 (tb:=4) Zyn (by rw[Tryz.params3];intro t ht;simp at ht) hW' rfl rfl rfl rfl rfl Tryz.underlying4 (ZjX (ZzV W))
theorem Zmm(os:Os)(started:os.Started)(H:Type)(enc:TypeId×Value->H):
  ReturnsInHanded {} Tryz.checked os 3 .any (Rows.factorSmallSpec.pre6 enc Tryz.prog Tryz.f3 Rows.factorSmallRow.domain false) (Rows.factorSmallSpec.post enc Tryz.prog Tryz.f3 false true false false):=by
 refine returnsInHanded_of_change (C:=Tryz.checked) Zzs started (by kernel_rfl) Tryz.func3
  (ChangeSpec.witness6 (enc:=enc) (C:=Tryz.checked) false ⟨#[],#[],[]⟩ 8 (by kernel_rfl) (by kernel_rfl) (by kernel_rfl) (by kernel_rfl)) ?_
 intro W base args ds gs before vB hW _ _
 exact Ziw H enc W base args ds gs before vB hW
theorem fsmall_holds:Rows.FactorSmallSaid:=
 OpenClaim.holds_of_wide 3 Tryz.f3 rfl rfl rfl rfl rfl rfl rfl ⟨rfl,rfl,rfl,rfl,rfl⟩ rfl rfl rfl rfl rfl (by kernel_rfl) Tryz.func3 (by kernel_rfl)
  (zA6 (by kernel_rfl)) (by unfold Func.isWrapper;first|(rw[if_pos (by decide +kernel)];kernel_rfl)|(rw[if_neg (by decide +kernel)];exact⟨rfl,rfl⟩))
  (λos started H enc _=>Zmm os started H enc)
#print axioms fsmall_holds
end Go.Proofs.YtfgfahnakepegaaGreat