/- Part of the proof: conditions and contracts of functions of this program. No condition of its own. -/
import Derived.Test.YthiefodednaikaaPC13TK
import Derived.Test.YthiefodednaikaaPVRS
import Derived.Lib.MakeNoZero
import Derived.Test.YthiefodednaikaaPVRV
set_option linter.unusedVariables false
set_option linter.unusedSimpArgs false
set_option linter.unusedSectionVars false
namespace Go.Proofs.Ythiefodednaikaa
open Go Go.Eng Go.Rx Go.Proofs Go.RowKit
set_option maxRecDepth 100000
def ZvK(n:Nat):Value->Mem->List (List Value)->Prop:=λv m' _=>∃(s:List Nat)(a:Option Addr)(c:Nat),v=.slice a s.length c/\Byt m' a s/\s.length<=n
theorem Zog{n:Nat}:∀(v:Value)(m':Mem) (css:List (List Value)),ZvK n v m' css->Shape.fits .slice v=true:=λv m' css ⟨s,a,c,e,_⟩=>by rw[e];rfl
theorem Zr1(k:Nat)(hk:k < 1024)(m:Mem):CX Try.prog 40 #[.int .i64 k] m [] (ZvK 10):=by
 apply Zl9
 unfold ZhJ
 refine⟨λxs css tvs m' q=>∃(s:List Nat)(a:Option Addr)(c j:Nat),s.length<=10/\j < 2 ^ (10 - s.length)/\xs=[.slice a s.length c,.int .i64 j]/\tvs=[.slice a s.length c]/\rowRd m' a (s.map λx:Nat=>Value.int .u8 x)/\(∀x∈s,x < 256)/\q=j,⟨_,[],none,0,k,by simp,by simpa using hk,rfl,rfl,.inl rfl,(λx h=>nomatch h),rfl⟩,?_⟩
 rintro a n c j a1 n1 c1 m1 q aW ⟨s,a',c',j',bS,hj,hx,ht,bU,hs,hq⟩
 simp only[List.cons.injEq,Value.slice.injEq,Value.int.injEq,and_true,true_and]at hx ht
 obtain⟨⟨rfl,rfl,rfl⟩,rfl⟩:=hx
 obtain⟨rfl,rfl,rfl⟩:=ht
 refine ZaG (λbB=>?_) (λcK=>?_)
 ·have sx:2<=j':=by omega
  have tm:Int.tmod (j':Int) 2=((j' % 2:Nat):Int):=rfl
  have td:Int.tdiv (j':Int) 2=((j' / 2:Nat):Int):=rfl
  have wm:s.length < 10:=by
   rcases Nat.lt_or_ge s.length 10 with h|h
   ·exact h
   ·rw[show 10 - s.length=0 by omega]at hj;omega
  obtain⟨x,hx,jr⟩:∃x:Nat,ZtC (ByteArray.mk (Array.mk [(97:UInt8),(98:UInt8)])) (Int.toNat (Int.tmod (j':Int) 2))=(x:Int)/\x < 256:=by
   rw[tm,Int.toNat_natCast]
   rcases Nat.mod_two_eq_zero_or_one j' with h|h <;> rw[h]
   ·exact⟨97,by decide,by omega⟩
   ·exact⟨98,by decide,by omega⟩
  refine⟨by decide,⟨by rw[tm];omega,by rw[tm];show _ < (2:Int);omega⟩,λb hf=>⟨.inl rfl,s.map λx:Nat=>Value.int .u8 x,[.int .u8 x],by simp,rfl,bU.mono (Mem.le_add hf _),.inr ⟨b,0,rfl,λi v hi=>?_⟩,λu hu=>?_,by omega,by omega,λa2 c2 m2 aY hH=>⟨by decide,j' / 2,by omega,s++[x],a2,c2,j' / 2,by simp;omega,?_,?_,?_,?_,?_,rfl⟩⟩⟩
  ·rw[Nat.zero_add,Mem.add_same,hx];exact hi
  ·obtain rfl:u=.int .u8 x:=by simpa using hu
   rfl
  ·rw[List.length_append,List.length_singleton]
   have e:10 - s.length=(10 - (s.length+1))+1:=by omega
   rw[e,Nat.pow_succ]at hj
   omega
  ·rw[List.length_append,List.length_singleton,td,Zao (by omega) (by have:j' < 1024:=Nat.lt_of_lt_of_le hj (Nat.pow_le_pow_right (by omega) (by omega):2 ^ (10 - s.length)<=2 ^ 10);omega)]
  ·rw[List.length_append,List.length_singleton]
  ·rw[List.map_append];exact hH
  ·intro y hy
   rcases List.mem_append.1 hy with h|h
   ·exact hs y h
   ·obtain rfl:y=x:=by simpa using h
    exact jr
 ·exact Zrm aW ⟨s,a1,c1,rfl,⟨bU.imp (λh=>by simpa using h) id,hs⟩,bS⟩
theorem Ztt(m:Mem):CX Try.prog 96 #[.int .u64 1,.int .u64 513] m [] (Ret (.tuple #[.int .u64 0,.int .u64 513])):=by
 have vg:∀m:Mem,CX Try.prog 118 #[.int .u64 1,.int .u64 513] m [] (Ret (.tuple #[.int .u64 0,.int .u64 513])):=λm=>by
  apply Zf7
  unfold Zdu
  refine⟨by decide,by decide,by decide,by decide,by decide,Zac (Mem.le_refl m) ?_⟩
  show _=_
  kernel_rfl
 apply ZhT
 unfold ZeB
 refine Zal (vg m) (λv _ _ h=>by rw[h];rfl) ?_
 intro x y m1 aW h
 exact Zac aW h
theorem Zzu:Zyv Try.prog 97 5:=λn w hn=>by
 obtain⟨cs,h1,h2,_⟩:=Go.Lib.run_makeNoZero (P:=Try.prog) w #[3] 32 5 (by kernel_rfl) n hn
 refine⟨cs,?_,h2⟩
 rw[run_callFunc_extern Try.func97 (by kernel_rfl) (by kernel_rfl) (by kernel_rfl) (e:=Go.Extern.BytealgMakeNoZero.makeNoZero #[3] #[32]) (by kernel_rfl),h1]
 rfl
def ZwZ:Value->Mem->List (List Value)->Prop:=λv m' _=>∃b:Nat,v=.slice (some ⟨b,0,none⟩) 513 513/\m'.reads b 0 (List.replicate 513 (.int .u8 97))
theorem ZnP(b0 c0:Nat)(m:Mem)(hb:m.reads b0 0 [.int .u8 97]):CX Try.prog 81 #[.slice (some ⟨b0,0,none⟩) 1 c0,.int .i64 513] m [] ZwZ:=by
 apply Zeo
 unfold Zcw
 refine Zal (Ztt m) (λv _ _ h=>by rw[h];rfl) ?_
 intro x y m1 aW h
 have h:Value.tuple (Array.mk [Value.int .u64 x,Value.int .u64 y])=Value.tuple (Array.mk [Value.int .u64 0,Value.int .u64 513]):=h
 simp only[Value.tuple.injEq,Array.mk.injEq,List.cons.injEq,Value.int.injEq,and_true,true_and]at h
 obtain⟨rfl,rfl⟩:=h
 have hw:IntKind.i64.wrap 513=513:=by decide
 have ht:Int.toNat 513=513:=rfl
 simp only[hw,ht]
 refine⟨false,ZbV (by decide) (by rw[decide_eq_false (by omega)]),ZbV rfl (ZbV (by decide) ⟨513,5,rfl,by omega,Zzu,λb cs cV=>⟨⟨by omega,by omega⟩,⟨by omega,by omega⟩,λhf=>⟨0,[.int .u8 97],rfl,rfl,by simp;omega,λu hu=>?_,.inl (.inr ⟨b0,0,rfl,hb.mono aW⟩),λxs css _ m' q=>∃(k:Nat)(cs':List Value),1<=k/\k<=513/\xs=[.int .i64 k]/\css=[cs']/\cs'.length=cs.length/\(∀i,i < k->cs'[i]?=some (.int .u8 97))/\q=513 - k,⟨_,1,_,by omega,by omega,rfl,rfl,ZbB (by simp;omega),λi hi=>?_,rfl⟩,?_⟩⟩⟩)⟩
 ·obtain rfl:u=.int .u8 97:=by simpa using hu
  rfl
 ·obtain rfl:i=0:=by omega
  rfl
 ·rintro n cs1 m2 q aY ⟨k,cs',ip,hk,hx,hc,bS,bR,hq⟩
  obtain rfl:n=k:=by simpa using hx
  obtain rfl:cs1=cs':=by simpa using hc
  refine ZaG (λbB=>?_) (λcK=>?_)
  ·have aX:k < 513:=by omega
   rw[if_neg (by omega),Int.toNat_natCast]
   refine⟨⟨by omega,by omega⟩,⟨by omega,by omega⟩,λmA=>⟨k,List.replicate (min k (513 - k)) (.int .u8 97),?_,by simp,by simp;omega,λu hu=>?_,.inr ⟨0,rfl,λi u hi=>?_⟩,by trivial,513 - (k+min k (513 - k)),by omega,k+min k (513 - k),_,by omega,by omega,?_,rfl,(ZbB (by simp;omega)).trans bS,λi hi=>?_,rfl⟩⟩
   ·show Za4 (some ⟨b,0,none⟩) k (513 - 0) 1=_
    unfold Za4
    rw[Zas (by omega),Zas (by omega)]
    simp[Addr.add]
    try omega
   ·obtain⟨_,rfl⟩:=List.mem_replicate.1 hu
    rfl
   ·have hi':(List.replicate (min k (513 - k)) (Value.int .u8 97))[i]?=some u:=hi
    rw[List.getElem?_replicate]at hi'
    split at hi'
    ·rename_i h
     obtain rfl:=Option.some.inj hi'
     show cs1[0+i]?=_
     rw[Nat.zero_add];exact bR i (by omega)
    ·cases hi'
   ·rw[Zao (by omega) (by omega)];simp
   ·unfold Zam
    rcases Nat.lt_or_ge i k with h|h
    ·rw[List.append_assoc,List.getElem?_append_left (by simp;omega),List.getElem?_take_of_lt h];exact bR i h
    ·have e0:(cs1.take k).length=k:=by rw[List.length_take,Nat.min_eq_left (by omega)]
     have e1:i - k < min k (513 - k):=by generalize min k (513 - k)=mn at *;omega
     rw[List.append_assoc,List.getElem?_append_right (by rw[e0];exact h),e0,List.getElem?_append_left (by rw[List.length_replicate];exact e1),List.getElem?_replicate,if_pos e1]
  ·have nX:k=513:=by omega
   subst nX
   refine⟨m1.add b cs1,mLt aW (Mem.le_add hf _),λb' o v hv=>?_,b,rfl,λi v hi=>?_⟩
   ·unfold Mem.add at hv ⊢
    split at hv
    ·rename_i e;rw[if_pos e];exact hv
    ·rename_i e;rw[if_neg e];exact aY _ _ _ hv
   ·rw[Nat.zero_add,Mem.add_same]
    rw[List.getElem?_replicate]at hi
    split at hi
    ·rename_i h
     obtain rfl:=Option.some.inj hi
     exact bR i h
    ·cases hi
theorem ZpS(ga:Option Addr)(gc:Nat):T.matches (Zaw 5 0 (-1) ga gc [Zai 97]) (List.replicate 512 97)=true:=by kernel_rfl
theorem Zvv(ga:Option Addr)(gc:Nat):T.list (Zaw 5 0 (-1) ga gc [Zai 97]) (List.replicate 512 97) 500 false=List.range' 500 13:=by kernel_rfl
theorem Ztu(ga a:Option Addr)(gc c:Nat):ZdH [⟨false,true,Zaw 3 0 0 a c [Zai 97,Zaw 5 0 (-1) ga gc [Zai 97]]⟩] (List.replicate 512 97)=some (0,0,512):=by kernel_rfl
theorem Ztv:∀(v:Value)(m':Mem) (css:List (List Value)),ZwZ v m' css->Shape.fits .slice v=true:=λv m' css ⟨b,e,_⟩=>by rw[e];rfl
theorem Zym{m M:Mem}{b:Nat}(s:List Nat)(h:(m.add b (s.map λc:Nat=>Value.int .u8 c)).le M)(hs:∀c∈s,c < 256):Byt M (some ⟨b,0,none⟩) s:=(ZbZ s hs).mono h
theorem Zm9(l:List Rg)(al:Option Addr)(cl:Nat)(a:Option Addr)(len c:Nat)(e:Int)(m:Mem)(hl:l.length<=64->Rgs m al l)(hs:Za7 l len 0=e)(he:e≠0):CX Try.prog 20 #[.slice al l.length cl,.slice a len c] m [] (Ret (.tuple #[.agg #[.int .i64 0,.int .i64 0,.int .i64 0],.bool false,.int .i64 e])):=by
 have h:=ZfZ l al cl a (List.replicate len 0) c m hl (λh=>absurd h (by rw[List.length_replicate,hs];exact he))
 have e1:ZdH l (List.replicate len 0)=none:=by unfold ZdH;rw[if_neg (by rw[List.length_replicate,hs];exact he)]
 rw[e1,List.length_replicate,hs]at h;exact h
theorem Ztw(m:Mem):CX Try.prog 41 #[] m [] (Ret (.bool true)):=by
 apply Zja
 unfold ZfJ
 refine Zal (ZbK 97 (by omega) m) ZaA (Zbo λta m1 aW rA qG=>?_)
 refine Zal (ZrS ta m1 rA) ZaA (Zbo λst m2 aY iv jU b b1 l9=>?_)
 subst qG
 obtain⟨ga,gc,rfl⟩:=jU
 refine Zal (ZnP b1 1 (m2.add b1 [.int .u8 97]) (λj v hj=>by rw[Nat.zero_add,Mem.add_same];exact hj)) Ztv ?_
 rintro a6 n15 c1 m3 bN ⟨bl,nL,kU⟩
 simp only[Value.slice.injEq]at nL
 obtain⟨rfl,rfl,rfl⟩:=nL
 have ot:Byt m3 (some ⟨bl,0,none⟩) (List.replicate 513 97):=⟨.inr ⟨bl,0,rfl,by rw[List.map_replicate];exact kU⟩,λc hc=>by rw[(List.mem_replicate.1 hc).2];omega⟩
 have jz:Byt m3 (some ⟨bl,1,none⟩) (List.replicate 512 97):=⟨.inr ⟨bl,1,rfl,λj v hj=>by
  rw[List.map_replicate,List.getElem?_replicate]at hj
  split at hj
  ·rename_i hj'
   obtain rfl:=Option.some.inj hj
   have:=kU (1+j) (.int .u8 97) (by rw[List.getElem?_replicate,if_pos (by omega)])
   rw[Nat.zero_add]at this;exact this
  ·cases hj⟩,λc hc=>by rw[(List.mem_replicate.1 hc).2];omega⟩
 generalize iX:Zaw 5 0 (-1) ga gc [Zai 97]=st at *
 have rB:st.check=0:=by rw[<-iX];kernel_rfl
 have w1:T.wrong st (List.replicate 512 97).length 0=0:=by rw[<-iX];kernel_rfl
 have w2:T.wrong st (List.replicate 512 97).length 500=0:=by rw[<-iX];kernel_rfl
 have q1:T.matches st (List.replicate 512 97)=true:=by rw[<-iX];exact ZpS ga gc
 have q2:T.list st (List.replicate 512 97) 500 false=List.range' 500 13:=by rw[<-iX];exact Zvv ga gc
 have jA:Rep m3 st:=iv.mono (mLt (Mem.le_add l9 _) bN)
 have fD:Za4 (some ⟨bl,0,none⟩) (Int.toNat 1) 513 1=some ⟨bl,1,none⟩:=rfl
 refine⟨λ_ _ _ v m' _=>v=.tuple #[.bool true,.int .i64 0],⟨by decide,by decide⟩,_,rfl,?_,λv _ _ h=>by rw[h];rfl,?_⟩
 ·have:=ZdR st (some ⟨bl,1,none⟩) (List.replicate 512 97) 512 m3 jA (λ_=>jz)
  rw[w1,q1]at this;exact this
 intro b2 e2 m4 cE nM M cR cT
 simp only[Value.tuple.injEq,Array.mk.injEq,List.cons.injEq,Value.bool.injEq,Value.int.injEq,true_and,and_true]at nM
 obtain⟨rfl,rfl⟩:=nM
 refine⟨λ_ _ _=>Zt9 0 (List.range' 500 13),⟨by decide,by decide⟩,_,rfl,?_,ZdQ,?_⟩
 ·have:=ZrO st (some ⟨bl,1,none⟩) (List.replicate 512 97) 512 500 M (jA.mono cR) (λ_=>jz.mono cR)
  rw[w2,q2]at this;exact this
 rintro a5 n5 c5 e5 m5 cN ⟨a5',c5',s4,-⟩ M1 fV dM
 simp only[List.length_range',Value.tuple.injEq,Array.mk.injEq,List.cons.injEq,Value.slice.injEq,Value.int.injEq,true_and,and_true]at s4
 obtain⟨⟨rfl,rfl,rfl⟩,rfl⟩:=s4
 refine⟨λi _ _=>if i=0 then Zb1 (λt=>t=Zai 97)else if i=3 then Zb1 (λt=>∃a c,t=Zaw 3 0 0 a c [Zai 97,st])else Ret (.tuple #[.agg #[.int .i64 0,.int .i64 0,.int .i64 512],.bool true,.int .i64 0]),?_⟩
 refine⟨Zb1 (λt=>t=Zai 97),rfl,ZbK 97 (by omega) M1,ZaA,Zbo λla m6 dA ss ou b3 rC=>?_⟩
 subst ou
 have vh:Rep m6 st:=jA.mono (mLt cR (mLt fV dA))
 refine⟨Zb1 (λt=>∃a c,t=Zaw 3 0 0 a c [Zai 97,st]),rfl,(ZmX (some ⟨b3,0,none⟩) 2 [Zai 97,st] _ (Zf0 rC (by intro x hx;simp at hx;rcases hx with rfl|rfl;exact ss;exact vh) (by simp))).mono (by rintro v m' css _ ⟨u,h1,h2,h3⟩;exact⟨u,h1,h2,_,_,h3⟩),ZaA,Zbo λu2 m7 dN jM gB b4 jL=>⟨⟨by decide,by decide⟩,?_⟩⟩
 obtain⟨a1,c1',rfl⟩:=gB
 have mH:m3.le m7:=mLt cR (mLt fV (mLt dA (mLt (Mem.le_add rC _) dN)))
 have ov:=Mem.le_add jL (Rg.cs ⟨false,true,Zaw 3 0 0 a1 c1' [Zai 97,st]⟩)
 have vj:Rgs (m7.add b4 (Rg.cs ⟨false,true,Zaw 3 0 0 a1 c1' [Zai 97,st]⟩)) (some ⟨b4,0,none⟩) [⟨false,true,Zaw 3 0 0 a1 c1' [Zai 97,st]⟩]:=ZhP (λj v hj=>by rw[Nat.zero_add,Mem.add_same];exact hj) (by simp) (by intro r hr;simp at hr;subst hr;exact jM.mono ov)
 have q3:ZdH [⟨false,true,Zaw 3 0 0 a1 c1' [Zai 97,st]⟩] (List.replicate 512 97)=some (0,0,512):=by rw[<-iX];exact Ztu ga a1 gc c1'
 have w3:Za7 [⟨false,true,Zaw 3 0 0 a1 c1' [Zai 97,st]⟩] 512 0=0:=by rw[<-iX];kernel_rfl
 refine⟨_,rfl,?_,λv _ _ e=>by rw[show v=_ from e];rfl,?_⟩
 ·have:=ZfZ [⟨false,true,Zaw 3 0 0 a1 c1' [Zai 97,st]⟩] (some ⟨b4,0,none⟩) 1 (some ⟨bl,1,none⟩) (List.replicate 512 97) 512 _ (λ_=>vj) (λ_=>jz.mono (mLt mH ov))
  rw[q3,List.length_replicate,w3]at this;exact this
 intro i8 j8 k8 b8 e8 m8 jJ lX b9 M2 nU pf sN lV wn wo
 have lX:Value.tuple (Array.mk [Value.agg (Array.mk [Value.int .i64 i8,Value.int .i64 j8,Value.int .i64 k8]),Value.bool b8,Value.int .i64 e8])=.tuple #[.agg #[.int .i64 0,.int .i64 0,.int .i64 512],.bool true,.int .i64 0]:=lX
 simp only[Value.tuple.injEq,Value.agg.injEq,Array.mk.injEq,List.cons.injEq,Value.bool.injEq,Value.int.injEq,true_and,and_true]at lX
 obtain⟨⟨rfl,rfl,rfl⟩,rfl,rfl⟩:=lX
 have hB:∀{M':Mem},M2.le M'->Byt M' (some ⟨bl,0,none⟩) (List.replicate 513 97):=λh=>ot.mono (mLt mH (mLt lV h))
 have s5:Rep M2 st:=jA.mono (mLt mH lV)
 have w4:T.wrong st (List.replicate 513 97).length 0=3:=by rw[<-iX];kernel_rfl
 have w5:T.wrong st (List.replicate 513 97).length (-1)=3:=by rw[<-iX];kernel_rfl
 have q4:T.matches st (List.replicate 513 97)=false:=by unfold T.matches;rw[w4];rfl
 have q5:T.list st (List.replicate 513 97) (-1) false=[]:=by unfold T.list;rw[w5,if_neg (by decide)]
 refine Zal (R:=Ret (.tuple #[.bool false,.int .i64 3])) ?_ (λv _ _ e=>by rw[show v=_ from e];rfl) ?_
 ·have:=ZdR st (some ⟨bl,0,none⟩) (List.replicate 513 97) 513 M2 s5 (λh=>by rw[w4]at h;cases h)
  rw[w4,q4]at this;exact this
 intro b10 e10 m10 eA ow
 simp only[Value.tuple.injEq,Array.mk.injEq,List.cons.injEq,Value.bool.injEq,Value.int.injEq,true_and,and_true]at ow
 obtain⟨rfl,rfl⟩:=ow
 refine⟨⟨by decide,by decide,by decide,by decide⟩,λb11=>?_⟩
 refine Zal (Zm9 (List.replicate 65 ⟨false,false,T0⟩) (some ⟨b11,0,none⟩) 65 (some ⟨bl,0,none⟩) 513 513 5 m10 (λh=>absurd h (by rw[List.length_replicate];decide)) (by unfold Za7;rw[if_pos (by rw[List.length_replicate];decide)]) (by decide)) (λv _ _ e=>by rw[show v=_ from e];rfl) ?_
 intro i12 j12 k12 b12 e12 m12 fG oz b13
 simp only[Value.tuple.injEq,Value.agg.injEq,Array.mk.injEq,List.cons.injEq,Value.bool.injEq,Value.int.injEq,true_and,and_true]at oz
 obtain⟨⟨rfl,rfl,rfl⟩,rfl,rfl⟩:=oz
 refine⟨⟨by decide,by decide,by decide,by decide⟩,λb14 m13 eV cJ=>?_⟩
 refine Zal (Zm9 [⟨false,false,T0⟩] (some ⟨b14,0,none⟩) 1 (some ⟨bl,0,none⟩) 513 513 130 m13 (λ_=>ZhP cJ (by simp) (by intro r hr;simp at hr;subst hr;exact Zpc _)) (by kernel_rfl) (by decide)) (λv _ _ e=>by rw[show v=_ from e];rfl) ?_
 intro i15 j15 k15 b15 e15 m15 lN oA b16
 simp only[Value.tuple.injEq,Value.agg.injEq,Array.mk.injEq,List.cons.injEq,Value.bool.injEq,Value.int.injEq,true_and,and_true]at oA
 obtain⟨⟨rfl,rfl,rfl⟩,rfl,rfl⟩:=oA
 have oB:M2.le m15:=mLt eA (mLt fG (mLt eV lN))
 refine Zal (R:=Zt9 3 []) ?_ ZdQ ?_
 ·have:=ZrO st (some ⟨bl,0,none⟩) (List.replicate 513 97) 513 (-1) m15 (s5.mono oB) (λh=>by rw[w5]at h;cases h)
  rw[w5,q5]at this;exact this
 rintro a17 n17 c17 e17 m17 iB ⟨a17',c17',eK,-⟩
 simp only[List.length_nil,Value.tuple.injEq,Array.mk.injEq,List.cons.injEq,Value.slice.injEq,Value.int.injEq,true_and,and_true]at eK
 obtain⟨⟨rfl,rfl,rfl⟩,rfl⟩:=eK
 refine⟨false,ZbV rfl (ZbV (by decide) (ZbV rfl ⟨true,ZhQ _ _ _ _ _ _,ZbV rfl (ZbV (by decide) (ZbV (by decide) (ZbV (by decide) (ZbV (by decide) ⟨by trivial,rfl⟩))))⟩)),ZbV rfl λb18 lO=>?_⟩
 have oC:m3.le m17:=mLt mH (mLt lV (mLt oB iB))
 have rD:m.le m17:=mLt aW (mLt aY (mLt (Mem.le_add l9 _) (mLt bN oC)))
 have ko:=jA.mono oC
 have kt:st.nodes.length=2:=by rw[<-iX];kernel_rfl
 have kr:st.nodes.length<=60:=by omega
 have bAAB:∀c∈[97,97,98],c < 256:=by decide
 have bA:∀c∈[97],c < 256:=by decide
 refine⟨λxs css tvs m' q=>∃k:Nat,k<=7/\xs=[.int .i64 k]/\q=7 - k,⟨_,0,by omega,rfl,rfl⟩,?_⟩
 rintro z N q hN ⟨k,hk,hz,hq⟩
 obtain rfl:z=k:=by simpa using hz
 subst hq
 have jB:m17.le N:=mLt (Mem.le_add lO _) hN
 refine ZaG (λbB=>?_) (λcK=>?_)
 ·have pm:k < 7:=by omega
  have kh:IntKind.i64.wrap ((k:Int)+1)=((k+1:Nat):Int):=by rw[Zao (by omega) (by omega)];rfl
  simp only[kh,Int.toNat_natCast,Nat.mul_one]
  obtain⟨z,hz⟩:∃z:Int,([.int .i64 (-9223372036854775808),.int .i64 (-1),.int .i64 0,.int .i64 1,.int .i64 3,.int .i64 4,.int .i64 9223372036854775807]:List Value)[k]?=some (.int .i64 z):=by
   have h5:k=0\/k=1\/k=2\/k=3\/k=4\/k=5\/k=6:=by omega
   rcases h5 with rfl|rfl|rfl|rfl|rfl|rfl|rfl <;> exact⟨_,rfl⟩
  refine⟨⟨by omega,by omega⟩,Zah hz ⟨λi _ _=>if i=28 then Zb1 (λt=>t=Zai 98)else Ret (.bool true),λb16 kd=>?_⟩⟩
  have kV:=Mem.le_add kd ([97,97,98].map λc:Nat=>Value.int .u8 c)
  refine⟨Ret (.bool true),rfl,Zl8 st [97,97,98] (some ⟨b16,0,none⟩) 3 z _ (ko.mono (mLt jB kV)) (by omega) (ZbZ _ bAAB) (by decide),λv _ _ e=>by rw[show v=_ from e];rfl,λb17 N1 mI hv=>?_⟩
  obtain rfl:b17=true:=by cases hv;rfl
  refine ZbV rfl λb18' oD=>?_
  refine⟨Ret (.bool true),rfl,Zl8 T0 [97,97,98] (some ⟨b18',0,none⟩) 3 z _ (Zpc _) (by decide) (ZbZ _ bAAB) (by decide),λv _ _ e=>by rw[show v=_ from e];rfl,λb19 N2 pn hv=>?_⟩
  obtain rfl:b19=true:=by cases hv;rfl
  have vk:N.le N2:=mLt kV (mLt mI (mLt (Mem.le_add oD _) pn))
  refine ZbV rfl λb20 eW b21 kf V mB pd mC=>?_
  have vm:Rep V st:=ko.mono (mLt jB mB)
  have vn:Rgs V (some ⟨b20,0,none⟩) [⟨false,false,st⟩,⟨false,false,T0⟩]:=ZhP (λj v hj=>pd _ _ _ (by rw[Nat.zero_add,Mem.add_same];exact hj)) (by simp) (by intro r hr;simp at hr;rcases hr with rfl|rfl;exact vm;exact Zpc _)
  refine⟨Ret (.bool true),rfl,ZcC [⟨false,false,st⟩,⟨false,false,T0⟩] (some ⟨b20,0,none⟩) 2 [97,97,98] (some ⟨b21,0,none⟩) 3 z V vn (Nat.le_refl _) (by simp) (by intro r hr;simp at hr;rcases hr with rfl|rfl;exact kr;decide) (Zym _ mC bAAB) (by decide),λv _ _ e=>by rw[show v=_ from e];rfl,λb22 N3 rE hv=>?_⟩
  obtain rfl:b22=true:=by cases hv;rfl
  refine ZbV rfl ⟨Zb1 (λt=>t=Zai 98),rfl,ZbK 98 (by omega) N3,ZaA,Zbo λlb N4 vo s6 rF b23 gD b24 ib V2 mJ rG oE=>?_⟩
  subst rF
  have rH:Rep V2 st:=ko.mono (mLt jB mJ)
  have rI:Rgs V2 (some ⟨b23,0,none⟩) [⟨false,false,st⟩,⟨false,false,Zai 98⟩]:=ZhP (λj v hj=>rG _ _ _ (by rw[Nat.zero_add,Mem.add_same];exact hj)) (by simp) (by intro r hr;simp at hr;rcases hr with rfl|rfl;exact rH;exact Zcc _ _)
  refine⟨Ret (.bool true),rfl,ZcC [⟨false,false,st⟩,⟨false,false,Zai 98⟩] (some ⟨b23,0,none⟩) 2 [97,97,98] (some ⟨b24,0,none⟩) 3 z V2 rI (Nat.le_refl _) (by simp) (by intro r hr;simp at hr;rcases hr with rfl|rfl;exact kr;decide) (Zym _ oE bAAB) (by decide),λv _ _ e=>by rw[show v=_ from e];rfl,λb25 N5 s7 hv=>?_⟩
  obtain rfl:b25=true:=by cases hv;rfl
  intro M3 _ _ _ _ _ _ _ _ _ _ _ _
  exact ZbV rfl ⟨by trivial,7 - (k+1),by omega,k+1,by omega,rfl,rfl⟩
 ·refine⟨λi _ _=>if i=4 then Zb1 (λu=>∃a c,u=Zaw 3 0 0 a c [st])else if i=8 then Zb1 (λu=>∃a c,u=Zaw 3 0 0 a c [T0,st])else Zb1 (λt=>t=Zai 97),λb16 kd=>?_⟩
  have s8:=ko.mono jB
  refine⟨Zb1 (λu=>∃a c,u=Zaw 3 0 0 a c [st]),rfl,(ZmX (some ⟨b16,0,none⟩) 1 [st] _ (Zf0 kd (by intro x hx;simp at hx;subst hx;exact s8) (by simp))).mono (by rintro v m' css _ ⟨u,h1,h2,h3⟩;exact⟨u,h1,h2,_,_,h3⟩),ZaA,Zbo λu1 N1 mI dU eM b17 qV V mB pd mC=>?_⟩
  refine⟨Zb1 (λu=>∃a c,u=Zaw 3 0 0 a c [T0,st]),rfl,(ZmX (some ⟨b17,0,none⟩) 2 [T0,st] V (Ziv (.inr ⟨b17,0,rfl,λj v hj=>mC _ _ _ (by rw[Nat.zero_add,Mem.add_same];exact hj)⟩) (by intro x hx;simp at hx;rcases hx with rfl|rfl;exact Zpc _;exact s8.mono mB) (by simp))).mono (by rintro v m' css _ ⟨u,h1,h2,h3⟩;exact⟨u,h1,h2,_,_,h3⟩),ZaA,Zbo λu2 N2 pn eT gB=>?_⟩
  refine⟨Zb1 (λt=>t=Zai 97),rfl,ZbK 97 (by omega) N2,ZaA,Zbo λla N3 rE qU ou b18 lO b19 lQ b20 eW b21 kf W mJ rG oE wp vp wq vq vr vt vu=>?_⟩
  subst ou
  obtain⟨xa,xc,rfl⟩:=eM
  obtain⟨ya,yc,rfl⟩:=gB
  have l1:Rep W (Zaw 5 0 2 (some ⟨b18,0,none⟩) 1 [Zai 97]):=ZbO (Ziv (.inr ⟨b18,0,rfl,λj v hj=>vq _ _ _ (by rw[Nat.zero_add,Mem.add_same];exact hj)⟩) (by intro x hx;simp at hx;subst hx;exact Zcc _ _) (by simp)) (by omega) (by omega) (by omega)
  have l2:Rep W (Zaw 5 16 16 (some ⟨b19,0,none⟩) 1 [Zaw 5 0 2 (some ⟨b18,0,none⟩) 1 [Zai 97]]):=ZbO (Ziv (.inr ⟨b19,0,rfl,λj v hj=>vr _ _ _ (by rw[Nat.zero_add,Mem.add_same];exact hj)⟩) (by intro x hx;simp at hx;subst hx;exact l1) (by simp)) (by omega) (by omega) (by omega)
  have l3:Rep W (Zaw 5 16 16 (some ⟨b20,0,none⟩) 1 [Zaw 5 16 16 (some ⟨b19,0,none⟩) 1 [Zaw 5 0 2 (some ⟨b18,0,none⟩) 1 [Zai 97]]]):=ZbO (Ziv (.inr ⟨b20,0,rfl,λj v hj=>vt _ _ _ (by rw[Nat.zero_add,Mem.add_same];exact hj)⟩) (by intro x hx;simp at hx;subst hx;exact l2) (by simp)) (by omega) (by omega) (by omega)
  have l4:Rep W (.node 0 0 0 0 0 1 0 none 0 []):=Zwe (by simp[T.subs]) (.inl rfl) (by constructor <;> decide)
  have l5:Rep W (.node 9 0 0 0 0 0 0 none 0 []):=Zwe (by simp[T.subs]) (.inl rfl) (by constructor <;> decide)
  generalize hX:Zau _ _ _ _ _ _ _ _ _ _ _ _ _ _ _ _ _ _ _ _ _=XX
  have vv:N.le W:=mJ
  refine⟨λxs css tvs m' q=>∃k:Nat,k<=5/\xs=[.int .i64 k]/\q=5 - k,⟨_,0,by omega,rfl,rfl⟩,?_⟩
  rintro z O q hO ⟨k,hk,hz,hq⟩
  obtain rfl:z=k:=by simpa using hz
  subst hq
  refine ZaG (λbB=>?_) (λcK=>?_)
  ·have nX:k < 5:=by omega
   have kh:IntKind.i64.wrap ((k:Int)+1)=((k+1:Nat):Int):=by rw[Zao (by omega) (by omega)];rfl
   obtain⟨tk,bU,fT,bW⟩:∃tk:T,List.take 8 (List.drop (k*8) XX)=tk.cs/\Rep O tk/\tk.nodes.length<=60:=by
    rw[<-hX]
    have h5:k=0\/k=1\/k=2\/k=3\/k=4:=by omega
    rcases h5 with rfl|rfl|rfl|rfl|rfl
    ·exact⟨.node 0 0 0 0 0 1 0 none 0 [],rfl,l4.mono hO,by decide⟩
    ·exact⟨.node 9 0 0 0 0 0 0 none 0 [],rfl,l5.mono hO,by decide⟩
    ·refine⟨Zaw 3 0 0 xa xc [st],rfl,dU.mono (mLt oE hO),?_⟩
     have:(Zaw 3 0 0 xa xc [st]).nodes.length=3:=by rw[<-iX];kernel_rfl
     omega
    ·refine⟨Zaw 3 0 0 ya yc [T0,st],rfl,eT.mono (mLt vp hO),?_⟩
     have:(Zaw 3 0 0 ya yc [T0,st]).nodes.length=4:=by rw[<-iX];kernel_rfl
     omega
    ·refine⟨_,rfl,l3.mono hO,?_⟩
     have:(Zaw 5 16 16 (some ⟨b20,0,none⟩) 1 [Zaw 5 16 16 (some ⟨b19,0,none⟩) 1 [Zaw 5 0 2 (some ⟨b18,0,none⟩) 1 [Zai 97]]]).nodes.length=4:=by kernel_rfl
     omega
   simp only[kh,Int.toNat_natCast,bU]
   refine⟨⟨by omega,by omega⟩,Zaa (by rw[Nat.ble_eq];omega) λb22=>Zaa rfl λb23 gD=>?_⟩
   refine Zan (Zl8 tk [97] (some ⟨b23,0,none⟩) 1 0 _ (fT.mono (Mem.le_add gD _)) (by omega) (ZbZ _ bA) (by decide)) λO1 rJ=>ZbV rfl (Zaa rfl (Zaa rfl λb25 rK b26 rL=>?_))
   have vA:O.le O1:=mLt (Mem.le_add gD _) rJ
   have hR:Rgs ((O1.add b25 (Rg.cs ⟨false,false,tk⟩)).add b26 [.int .u8 97]) (some ⟨b25,0,none⟩) [⟨false,false,tk⟩]:=(ZhP (m:=O1.add b25 (Rg.cs ⟨false,false,tk⟩)) (λj v hj=>by rw[Nat.zero_add,Mem.add_same];exact hj) (by simp) (by intro r hr;simp at hr;subst hr;exact fT.mono (mLt vA (Mem.le_add rK _)))).mono (Mem.le_add rL _)
   refine Zan (ZcC [⟨false,false,tk⟩] (some ⟨b25,0,none⟩) 1 [97] (some ⟨b26,0,none⟩) 1 0 _ hR (Nat.le_refl _) (by simp) (by intro r hr;simp at hr;subst hr;exact bW) (ZbZ _ bA) (by decide)) λO2 vB=>ZbV rfl ⟨by trivial,5 - (k+1),by omega,k+1,by omega,rfl,rfl⟩
  ·refine⟨⟨by decide,by decide,by decide,by decide⟩,λb22 P hP cJ=>?_⟩
   have rM:Rgs P (some ⟨b22,0,none⟩) (List.replicate 65 ⟨false,false,T0⟩):=ZhP cJ (by simp) (by intro r hr;rw[(List.mem_replicate.1 hr).2];exact Zpc _)
   refine Zan (ZcC (List.replicate 65 ⟨false,false,T0⟩) (some ⟨b22,0,none⟩) 65 [] none 0 (-1) P rM (by simp) (by simp) (by intro r hr;rw[(List.mem_replicate.1 hr).2];decide) ⟨.inl rfl,by simp⟩ (by simp)) λP1 oF=>Zys rfl λb23 gD=>?_
   refine Zan (ZcC [] none 0 [97] (some ⟨b23,0,none⟩) 1 1 _ ⟨by simp,.inl rfl,by simp⟩ (by simp) (by simp) (by simp) (ZbZ _ bA) (by decide)) λP2 pp=>Zys rfl λb24 ib=>?_
   refine Zan (ZcC [] none 0 [97] (some ⟨b24,0,none⟩) 1 2 _ ⟨by simp,.inl rfl,by simp⟩ (by simp) (by simp) (by simp) (ZbZ _ bA) (by decide)) λP3 rN=>?_
   exact Zac (mLt rD (mLt jB (mLt vv (mLt hO (mLt hP (mLt oF (mLt (Mem.le_add gD _) (mLt pp (mLt (Mem.le_add ib _) rN))))))))) rfl
theorem Zvw{m:Mem}{a:Option Addr}{L:List T}(h:rowRd m a (Rx.ZcD L)){k:Nat}{t:T}(ht:L[k]?=some t):∃b o,a=some ⟨b,o,none⟩/\m.reads b (o+k*8) t.cs:=by
 have bB:=(List.getElem?_eq_some_iff.1 ht).1
 have e:Rx.ZcD L=Rx.ZcD (L.take k)++(t.cs++Rx.ZcD (L.drop (k+1))):=by
  have e1:L=L.take k++(t::L.drop (k+1)):=by
   have:=List.drop_eq_getElem_cons bB
   rw[(List.getElem?_eq_some_iff.1 ht).2]at this
   rw[<-this,List.take_append_drop]
  conv=>lhs;rw[e1]
  rw[Zdi];rfl
 have hl:(Rx.ZcD (L.take k)).length=k*8:=by rw[Zcd,List.length_take,Nat.min_eq_left (by omega)]
 rcases h with h|⟨b,o,ha,h⟩
 ·have:=congrArg List.length h
  rw[Zcd,List.length_nil]at this;omega
 ·refine⟨b,o,ha,λj v hj=>?_⟩
  have qQ:=(List.getElem?_eq_some_iff.1 hj).1
  have:=h (k*8+j) v (by rw[e,List.getElem?_append_right (by omega),hl,Nat.add_sub_cancel_left,List.getElem?_append_left qQ];exact hj)
  rw[Nat.add_assoc];exact this
theorem ZyZ(l:List T):∀u∈Rx.ZcD l,u.oneCell'=true:=by
 intro u hu
 simp only[Rx.ZcD,List.mem_flatten,List.mem_map]at hu
 obtain⟨_,⟨t,_,rfl⟩,h⟩:=hu
 simp only[T.cs,T.sl,List.mem_cons,List.not_mem_nil,or_false]at h
 rcases h with rfl|rfl|rfl|rfl|rfl|rfl|rfl|rfl <;> rfl
theorem ZqY(a:Option Addr)(c:Nat)(l:List T)(m:Mem)(h:rowRd m a (Rx.ZcD l))(hl:l.length<=1000000000000):CXT Try.prog 39 #[.slice a l.length c] m 8 (λv m' _=>∃a' c',v=.slice a' l.length c'/\rowRd m' a' (Rx.ZcD l)):=by
 apply ZbS
 unfold Zbc
 have bS:=Zcd l
 refine Zab (λha=>?_) (λha=>⟨⟨rfl,Int.le_refl _,by decide,by decide⟩,λb hf=>⟨.inl rfl,[],Rx.ZcD l,rfl,bS,.inl rfl,h,ZyZ l,by omega,by omega,λa' c' m' hm bU kS=>⟨rfl,?_⟩⟩⟩)
 ·obtain rfl:a=none:=by simpa using ha
  have h0:l=[]:=by
   rcases h with h|⟨_,_,h,_⟩
   ·rw[h]at bS;exact List.eq_nil_of_length_eq_zero (by simp at bS;omega)
   ·cases h
  subst h0
  exact⟨rfl,none,0,rfl,.inl rfl⟩
 ·simp only[Nat.zero_add]at kS ⊢
  exact⟨a',c',rfl,bU⟩
theorem Zma{k mn mx:Int}{a:Option Addr}{c:Nat}{x:T}:(Zaw k mn mx a c [x]).nodes.length=1+x.nodes.length:=by
 rw[Zbi]
 show(_::Zaz [x]).length=_
 rw[List.length_cons,Zaz,Zaz,List.append_nil];omega
theorem Zg3{k mn mx:Int}{a:Option Addr}{c:Nat}{x y:T}:(Zaw k mn mx a c [x,y]).nodes.length=1+x.nodes.length+y.nodes.length:=by
 rw[Zbi]
 show(_::Zaz [x,y]).length=_
 rw[List.length_cons,Zaz,Zaz,Zaz,List.append_nil,List.length_append];omega
theorem Ztx{M m:Mem}{b:Nat}{l:List T}(h:(m.add b (Rx.ZcD l)).le M)(hr:∀t∈l,Rep M t)(hl:l.length<=1000000000000000):RepL M (some ⟨b,0,none⟩) l:=
 Ziv (.inr ⟨b,0,rfl,λj v hj=>h _ _ _ (by rw[Nat.zero_add,Mem.add_same];exact hj)⟩) hr hl
theorem Zkj(m:Mem):CX Try.prog 10 #[] m [] (Ret (.bool true)):=by
 apply ZeW
 unfold ZcM
 refine Zal (ZbK 97 (by omega) m) ZaA (Zbo λla m1 aW rA ou=>?_)
 refine Zal (ZbK 98 (by omega) m1) ZaA (Zbo λlb m2 aY s6 rF b b1=>?_)
 refine⟨λi _ _=>if i=6 then Zb1 (λu=>∃a c,u=Zaw 4 0 0 a c [la,lb])else if i=7 then Zb1 (λt=>∃a c,t=Zaw 3 0 0 a c ([97,98].map Zai))else if i=9 then Zb1 (λu=>∃a c,u=Zaw 5 0 (-1) a c [la])else Zb1 (λu=>∃a c,u=Zaw 4 0 0 a c [T1,la]),λb2 mA=>?_⟩
 have lY:=rA.mono aY
 refine⟨Zb1 (λu=>∃a c,u=Zaw 4 0 0 a c [la,lb]),rfl,(ZmY (some ⟨b2,0,none⟩) 2 [la,lb] _ (Zf0 mA (by intro x hx;simp at hx;rcases hx with rfl|rfl;exact lY;exact s6) (by simp))).mono (by rintro v m' css _ ⟨u,h1,h2,h3⟩;exact⟨u,h1,h2,_,_,h3⟩),ZaA,Zbo λu1 m3 bN qj eM=>?_⟩
 have oG:(Zdo ⟨#[97,98]⟩)=[97,98]:=by rfl
 refine⟨Zb1 (λt=>∃a c,t=Zaw 3 0 0 a c ([97,98].map Zai)),rfl,by have:=Zm0 ⟨#[97,98]⟩ (by decide) m3;rw[oG]at this;exact this,ZaA,Zbo λu2 m4 cE mq gB=>?_⟩
 have ph:m2.le m4:=mLt (Mem.le_add mA _) (mLt bN cE)
 refine⟨Zb1 (λu=>∃a c,u=Zaw 5 0 (-1) a c [la]),rfl,ZrS la m4 (lY.mono ph),ZaA,Zbo λu3 m5 cN qX vC b3 rC V mB pd mC=>?_⟩
 refine⟨Zb1 (λu=>∃a c,u=Zaw 4 0 0 a c [T1,la]),rfl,(ZmY (some ⟨b3,0,none⟩) 2 [T1,la] V (Ztx mC (by intro x hx;simp at hx;rcases hx with rfl|rfl;exact ZuK _;exact lY.mono mB) (by simp))).mono (by rintro v m' css _ ⟨u,h1,h2,h3⟩;exact⟨u,h1,h2,_,_,h3⟩),ZaA,Zbo λu4 m6 dA qY vD b4 jL M cR cT fV dM kN iz lP kQ=>?_⟩
 obtain⟨x1,y1,rfl⟩:=eM
 obtain⟨x2,y2,rfl⟩:=gB
 obtain⟨x3,y3,rfl⟩:=vC
 obtain⟨x4,y4,rfl⟩:=vD
 subst ou rF
 have iK:∀t∈[T1,Zai 97,Zai 98,Zaw 4 0 0 x1 y1 [Zai 97,Zai 98],Zaw 3 0 0 x2 y2 ([97,98].map Zai),Zaw 5 0 (-1) x3 y3 [Zai 97],Zaw 4 0 0 x4 y4 [T1,Zai 97]],Rep M t/\t.nodes.length<=5:=by
  intro t ht
  simp only[List.mem_cons,List.not_mem_nil,or_false]at ht
  rcases ht with rfl|rfl|rfl|rfl|rfl|rfl|rfl
  ·exact⟨ZuK _,by decide⟩
  ·exact⟨Zcc _ _,by decide⟩
  ·exact⟨Zcc _ _,by decide⟩
  ·exact⟨qj.mono fV,by rw[Zg3];decide⟩
  ·exact⟨mq.mono dM,by show(Zaw 3 0 0 x2 y2 [Zai 97,Zai 98]).nodes.length<=5;rw[Zg3];decide⟩
  ·exact⟨qX.mono kN,by rw[Zma];decide⟩
  ·exact⟨qY.mono lP,by rw[Zg3];decide⟩
 generalize rO:[T1,Zai 97,Zai 98,Zaw 4 0 0 x1 y1 [Zai 97,Zai 98],Zaw 3 0 0 x2 y2 ([97,98].map Zai),Zaw 5 0 (-1) x3 y3 [Zai 97],Zaw 4 0 0 x4 y4 [T1,Zai 97]]=L7 at iK
 have jC:L7.length=7:=by rw[<-rO];rfl
 have ig:rowRd M (some ⟨b4,0,none⟩) (Rx.ZcD L7):=.inr ⟨b4,0,rfl,λj v hj=>kQ _ _ _ (by rw[Nat.zero_add,Mem.add_same];rw[<-rO]at hj;exact hj)⟩
 generalize hX:Zad _ _ _ _ _ _ _ _ _ _ _ _ _ _ _ _ _ _ _ _ _ _ _ _ _ _ _ _ _ _ _ _ _ _ _ _ _ _ _ _ _ _ _ _ _ _ _ _ _ _ _ _ _ _ _ _ _ _ _ _=XX
 have rP:∀k,k < 7->∃x:T,List.take 8 (List.drop (k*8) XX)=x.cs/\Rep M x/\x.nodes.length<=5:=by
  intro k hk
  have key:∃x∈L7,List.take 8 (List.drop (k*8) XX)=x.cs:=by
   rw[<-hX,<-rO]
   have h7:k=0\/k=1\/k=2\/k=3\/k=4\/k=5\/k=6:=by omega
   rcases h7 with rfl|rfl|rfl|rfl|rfl|rfl|rfl
   ·exact⟨T1,by simp,rfl⟩
   ·exact⟨Zai 97,by simp,rfl⟩
   ·exact⟨Zai 98,by simp,rfl⟩
   ·exact⟨Zaw 4 0 0 x1 y1 [Zai 97,Zai 98],by simp,rfl⟩
   ·exact⟨Zaw 3 0 0 x2 y2 ([97,98].map Zai),by simp,rfl⟩
   ·exact⟨Zaw 5 0 (-1) x3 y3 [Zai 97],by simp,rfl⟩
   ·exact⟨Zaw 4 0 0 x4 y4 [T1,Zai 97],by simp,rfl⟩
  obtain⟨x,hx,e⟩:=key
  exact⟨x,e,iK x hx⟩
 have s9:=ZqY (some ⟨b4,0,none⟩) 7 L7 M ig (by omega)
 rw[jC]at s9
 refine⟨_,s9,λv _ _ ⟨a',c',e,_⟩=>by rw[e];rfl,?_⟩
 rintro a8 n8 c8 m8 jJ ⟨a8',c8',lX,oH⟩
 simp only[Value.slice.injEq]at lX
 obtain⟨rfl,rfl,rfl⟩:=lX
 have wt:(((7:Nat):Int))=7:=rfl
 refine⟨λxs css tvs m' q=>∃(k:Nat)(L:List T)(a:Option Addr)(c:Nat),k<=7/\L.length=7+8*k/\xs=[.slice a L.length c,.int .i64 k]/\tvs=[.slice a L.length c]/\rowRd m' a (Rx.ZcD L)/\(∀t∈L,Rep m' t/\t.nodes.length<=20)/\q=7 - k,⟨_,0,L7,a8,c8,by omega,by omega,by rw[jC];rfl,by rw[jC],oH,λt ht=>⟨(iK t ht).1.mono jJ,by have:=(iK t ht).2;omega⟩,rfl⟩,?_⟩
 rintro a9 n9 c9 z a10 n10 c10 m9 q iO ⟨k,L,a9',c9',hk,wu,hx,ht,kW,gJ,hq⟩
 simp only[List.cons.injEq,Value.slice.injEq,Value.int.injEq,and_true,true_and]at hx ht
 obtain⟨⟨rfl,rfl,rfl⟩,rfl⟩:=hx
 obtain⟨rfl,rfl,rfl⟩:=ht
 subst hq
 have jp:M.le m9:=mLt jJ iO
 refine ZaG (λbB=>?_) (λcK=>?_)
 ·have pm:k < 7:=by omega
  obtain⟨x,vE,ik,sE⟩:=rP k pm
  obtain⟨y,vF,jP,ww⟩:=rP ((k+3) % 7) (by omega)
  obtain⟨z,vG,qO,oU⟩:=rP ((k+2) % 7) (by omega)
  have kh:IntKind.i64.wrap ((k:Int)+1)=((k+1:Nat):Int):=by rw[Zao (by omega) (by omega)];rfl
  have sF:Int.tmod (IntKind.i64.wrap ((k:Int)+3)) 7=(((k+3) % 7:Nat):Int):=by rw[Zao (by omega) (by omega)];rfl
  have gS:Int.tmod (IntKind.i64.wrap ((k:Int)+2)) 7=(((k+2) % 7:Nat):Int):=by rw[Zao (by omega) (by omega)];rfl
  simp only[kh,sF,gS,Int.toNat_natCast,vE,vF,vG]
  refine⟨⟨by omega,by omega⟩,Zaa (by rw[Nat.ble_eq];omega) λb5=>Zaa rfl λb6 lM=>?_⟩
  refine⟨λxs css tvs m' q=>∃(j:Nat)(L':List T)(a:Option Addr)(c:Nat),j<=5/\L'.length=7+8*k+j/\xs=[.slice a L'.length c,.int .i64 j]/\tvs=[.slice a L'.length c]/\m9.le m'/\rowRd m' a (Rx.ZcD L')/\(∀t∈L',Rep m' t/\t.nodes.length<=20)/\q=5 - j,⟨_,0,L,a10,c10,by omega,by omega,rfl,rfl,Mem.le_add lM _,kW.mono (Mem.le_add lM _),λt ht=>⟨(gJ t ht).1.mono (Mem.le_add lM _),(gJ t ht).2⟩,rfl⟩,?_⟩
  rintro a11 n11 c11 w a12 n12 c12 m11 q fW ⟨j,L',a11',c11',hj,vH,hx',ht',oI,jD,gO,hq⟩
  simp only[List.cons.injEq,Value.slice.injEq,Value.int.injEq,and_true,true_and]at hx' ht'
  obtain⟨⟨rfl,rfl,rfl⟩,rfl⟩:=hx'
  obtain⟨rfl,rfl,rfl⟩:=ht'
  subst hq
  have iR:M.le m11:=mLt jp oI
  refine ZaG (λvI=>?_) (λvJ=>?_)
  ·have tc:j < 5:=by omega
   have vK:IntKind.i64.wrap ((j:Int)+1)=((j+1:Nat):Int):=by rw[Zao (by omega) (by omega)];rfl
   obtain⟨p,r,fF,sq,fJ,dU,eT⟩:∃p r:Int,List.take 2 (List.drop (j*2) [.int .i64 0,.int .i64 1,.int .i64 2,.int .i64 3,.int .i64 0,.int .i64 (-1),.int .i64 1,.int .i64 (-1),.int .i64 2,.int .i64 2])=[Value.int .i64 p,.int .i64 r]/\-2<=p/\p<=9/\-2<=r/\r<=9:=by
    have h5:j=0\/j=1\/j=2\/j=3\/j=4:=by omega
    rcases h5 with rfl|rfl|rfl|rfl|rfl <;> exact⟨_,_,rfl,by decide,by decide,by decide,by decide⟩
   simp only[vK,Int.toNat_natCast,fF]
   refine⟨⟨by omega,by omega⟩,Zaa (by rw[Nat.ble_eq];omega) λb7=>Zaa rfl ⟨⟨by decide,by decide⟩,Zah rfl ⟨⟨by decide,by decide⟩,Zah rfl (Zaa rfl λb8 j9=>Zaa rfl (Zaa rfl (Zaa rfl (Zaa rfl λb9 mK=>⟨.inl trivial,Rx.ZcD L',(Zaw 5 p r (some ⟨b8,0,none⟩) 1 [x]).cs,Zcd L',rfl,jD.mono (mLt (Mem.le_add j9 _) (Mem.le_add mK _)),.inr ⟨b9,0,rfl,λj v hj=>by rw[Nat.zero_add,Mem.add_same];exact hj⟩,λu hu=>?_,by omega,by omega,λa13 c13 m13 eV lZ=>⟨trivial,trivial,5 - (j+1),by omega,j+1,L'++[Zaw 5 p r (some ⟨b8,0,none⟩) 1 [x]],a13,c13,by omega,by rw[List.length_append,List.length_singleton];omega,by rw[List.length_append,List.length_singleton],by rw[List.length_append,List.length_singleton],?_,?_,?_,rfl⟩⟩))))⟩⟩⟩
   ·exact ZyZ [Zaw 5 p r (some ⟨b8,0,none⟩) 1 [x]] u (by simpa[Rx.ZcD]using hu)
   ·exact mLt oI (mLt (Mem.le_add j9 _) (mLt (Mem.le_add mK _) eV))
   ·rw[Zpd];exact lZ
   ·have vL:x.cs=Rx.ZcD [x]:=by simp[Rx.ZcD]
    have l6:(m11.add b8 (Rx.ZcD [x])).le m13:=by rw[<-vL];exact mLt (Mem.le_add mK _) eV
    intro t ht
    rcases List.mem_append.1 ht with ht|ht
    ·exact⟨(gO t ht).1.mono (mLt (Mem.le_add j9 _) l6),(gO t ht).2⟩
    ·obtain rfl:t=_:=by simpa using ht
     exact⟨ZbO (Ztx l6 (by intro t ht;simp at ht;subst ht;exact ik.mono (mLt iR (mLt (Mem.le_add j9 _) l6))) (by simp)) (by omega) (by omega) (by omega),by rw[Zma];omega⟩
  ·have tc:j=5:=by omega
   subst tc
   have e1:x.cs=Rx.ZcD [x]:=by simp[Rx.ZcD]
   refine⟨λi _ _=>if i=9 then Zb1 (λu=>∃a c,u=Zaw 3 0 0 a c [x,y])else Zb1 (λu=>∃a c,u=Zaw 4 0 0 a c [z,x]),by decide,⟨by omega,by omega⟩,Zaa (by rw[Nat.ble_eq];omega) (Zaa rfl λb7 vM=>?_)⟩
   have rQ:=ik.mono iR
   have vN:=jP.mono iR
   have vO:=qO.mono iR
   refine⟨Zb1 (λu=>∃a c,u=Zaw 3 0 0 a c [x,y]),rfl,(ZmX (some ⟨b7,0,none⟩) 2 [x,y] _ (Zf0 vM (by intro t ht;simp at ht;rcases ht with rfl|rfl;exact rQ;exact vN) (by simp))).mono (by rintro v m' css _ ⟨u,h1,h2,h3⟩;exact⟨u,h1,h2,_,_,h3⟩),ZaA,Zbo λw1 m12 fG rR jR=>⟨by decide,⟨by omega,by omega⟩,Zaa (by rw[Nat.ble_eq];omega) (Zaa rfl λb8 j9 V2 mJ rG oE=>?_)⟩⟩
   refine⟨Zb1 (λu=>∃a c,u=Zaw 4 0 0 a c [z,x]),rfl,(ZmY (some ⟨b8,0,none⟩) 2 [z,x] V2 (Ztx oE (by intro t ht;simp at ht;rcases ht with rfl|rfl;exact vO.mono mJ;exact rQ.mono mJ) (by simp))).mono (by rintro v m' css _ ⟨u,h1,h2,h3⟩;exact⟨u,h1,h2,_,_,h3⟩),ZaA,Zbo λw2 m14 hC rS gS=>Zaa rfl λb9 mK V3 vP wx wy b10 iA=>?_⟩
   obtain⟨p1,r1,rfl⟩:=jR
   obtain⟨p2,r2,rfl⟩:=gS
   refine⟨.inl rfl,Rx.ZcD L',Rx.ZcD [Zaw 3 0 0 p1 r1 [x,y],Zaw 4 0 0 p2 r2 [z,x],Zaw 6 0 0 (some ⟨b9,0,none⟩) 1 [x]],Zcd L',rfl,jD.mono (mLt vP (Mem.le_add iA _)),.inr ⟨b10,0,rfl,λj v hj=>by rw[Nat.zero_add,Mem.add_same];exact hj⟩,ZyZ _,by omega,by omega,λa15 c15 m15 lN l7 N mI pn rE vo s7 vQ wz vR=>⟨trivial,trivial,7 - (k+1),by omega,k+1,L'++[Zaw 3 0 0 p1 r1 [x,y],Zaw 4 0 0 p2 r2 [z,x],Zaw 6 0 0 (some ⟨b9,0,none⟩) 1 [x]],a15,c15,by omega,by rw[List.length_append];simp;omega,by rw[List.length_append];rfl,by rw[List.length_append];rfl,?_,?_,rfl⟩⟩
   ·rw[Zdi];exact l7.mono vR
   ·intro t ht
    rcases List.mem_append.1 ht with ht|ht
    ·exact⟨(gO t ht).1.mono mI,(gO t ht).2⟩
    ·simp only[List.mem_cons,List.not_mem_nil,or_false]at ht
     rcases ht with rfl|rfl|rfl
     ·exact⟨rR.mono rE,by rw[Zg3];omega⟩
     ·exact⟨rS.mono s7,by rw[Zg3];omega⟩
     ·exact⟨ZbO (Ztx (m:=m11) (b:=b9) (by rw[<-e1];exact vQ) (by intro t ht;simp at ht;subst ht;exact rQ.mono mI) (by simp)) (by omega) (by omega) (by omega),by rw[Zma];omega⟩
 ·have pm:k=7:=by omega
  subst pm
  have rT:L.length=63:=by omega
  have iO:m.le m9:=mLt aW (mLt aY (mLt cR jp))
  have iq:∀{t:T},(∀u∈t.cs,u.oneCell'=true):=λ{t} u hu=>ZyZ [t] u (by simpa[Rx.ZcD]using hu)
  have kX:∀{N:Mem},m9.le N->∀j,j < 63->∃t∈L,L[j]?=some t/\∃b o,a10=some ⟨b,o,none⟩/\N.reads b (o+j*8) t.cs:=λ{N} hN j hj=>by
   obtain⟨t,ht⟩:=Zbx (l:=L) (k:=j) (by omega)
   obtain⟨b,o,e,h⟩:=Zvw (kW.mono hN) ht
   exact⟨t,List.mem_of_getElem? ht,ht,b,o,e,h⟩
  refine⟨λxs css tvs m' q=>∃k:Nat,k<=63/\xs=[.int .i64 k]/\q=63 - k,⟨_,0,by omega,rfl,rfl⟩,?_⟩
  rintro z N q hN ⟨k,hk,hz,hq⟩
  obtain rfl:z=k:=by simpa using hz
  subst hq
  rw[rT]
  refine ZaG (λbB=>?_) (λcK=>?_)
  ·have rU:k < 63:=by omega
   obtain⟨t,lu,fO,b5,o5,ha,cJ⟩:=kX hN k rU
   have kh:IntKind.i64.wrap ((k:Int)+1)=((k+1:Nat):Int):=by rw[Zao (by omega) (by omega)];rfl
   have te:=(gJ t lu).1.mono hN
   have oL:=(gJ t lu).2
   have h5:Int.tmod (IntKind.i64.wrap (IntKind.i64.wrap ((k:Int)*5)+2)) ((63:Nat):Int)=(((k*5+2) % 63:Nat):Int):=by
    rw[Zao (n:=(k:Int)*5) (by omega) (by omega),Zao (by omega) (by omega)];rfl
   have h4:IntKind.i64.wrap (1+Int.tmod (k:Int) 4)=((1+k % 4:Nat):Int):=by
    rw[show Int.tmod (k:Int) 4=((k % 4:Nat):Int) from rfl,Zao (by omega) (by omega)];omega
   have vS:IntKind.i64.wrap (40+Int.tmod (k:Int) 20)=((40+k % 20:Nat):Int):=by
    rw[show Int.tmod (k:Int) 20=((k % 20:Nat):Int) from rfl,Zao (by omega) (by omega)];omega
   simp only[kh,h5,h4,vS,Int.toNat_natCast]
   refine⟨b5,o5,ha,⟨by omega,by omega⟩,.int .u8 t.k,.int .u64 t.s0,.int .u64 t.s1,.int .u64 t.s2,.int .u64 t.s3,.int .i64 t.mn,.int .i64 t.mx,.slice t.a t.subs.length t.c,cJ,λb6=>Zaa rfl ?_⟩
   refine⟨λxs css tvs m' q=>∃j:Nat,1<=j/\j<=70/\xs=[.int .i64 j]/\q=70 - j,⟨_,1,by omega,by omega,rfl,rfl⟩,?_⟩
   rintro z O q hO ⟨j,sr,hj,hz,hq⟩
   obtain rfl:z=j:=by simpa using hz
   subst hq
   refine ZaG (λtf=>?_) (λtg=>?_)
   ·have vT:j < 64:=by omega
    refine Zal (Zr1 j (by omega) O) Zog ?_
    rintro a43 n57 c9 O1 rJ ⟨s,sa,sc,hv,hs,fD⟩
    simp only[Value.slice.injEq]at hv
    obtain⟨rfl,rfl,rfl⟩:=hv
    have vU:IntKind.i64.wrap ((s.length:Int)+1)=((s.length+1:Nat):Int):=by rw[Zao (by omega) (by omega)];rfl
    rw[vU]
    refine⟨λ_ _ _=>Ret (.bool true),by omega,_,rfl,Zl8 t s a43 c9 _ O1 (te.mono (mLt hO rJ)) (by omega) hs (by omega),λv _ _ e=>by rw[show v=_ from e];rfl,λb7 O2 vB hv P oF pp=>?_⟩
    obtain rfl:b7=true:=by cases hv;rfl
    refine ZbV rfl ⟨by decide,by trivial,by trivial,70 - (j+(1+k % 4)),by omega,j+(1+k % 4),by omega,by omega,by rw[Zao (by omega) (by omega)];rfl,rfl⟩
   ·obtain⟨u,ti,wA,b7,o7,vV,rV⟩:=kX (mLt hN hO) ((k*5+2) % 63) (by omega)
    have vW:=(gJ u ti).1.mono (mLt hN hO)
    have gN:=(gJ u ti).2
    refine⟨by decide,b7,o7,vV,⟨by omega,by omega⟩,.int .u8 u.k,.int .u64 u.s0,.int .u64 u.s1,.int .u64 u.s2,.int .u64 u.s3,.int .i64 u.mn,.int .i64 u.mx,.slice u.a u.subs.length u.c,rV,λb8=>Zaa rfl ?_⟩
    refine⟨λxs css tvs m' q=>∃w:Nat,w<=16/\xs=[.int .i64 w]/\q=16 - w,⟨_,0,by omega,rfl,rfl⟩,?_⟩
    rintro z P q hP ⟨w,hw,hz,hq⟩
    obtain rfl:z=w:=by simpa using hz
    subst hq
    refine ZaG (λtj=>?_) (λtn=>⟨by trivial,by trivial,63 - (k+1),by omega,k+1,by omega,rfl,rfl⟩)
    have vX:w < 16:=by omega
    have vY:IntKind.i64.wrap ((w:Int)+1)=((w+1:Nat):Int):=by rw[Zao (by omega) (by omega)];rfl
    have rW:IntKind.i64.wrap (17+IntKind.i64.wrap ((w:Int)*3))=((17+w*3:Nat):Int):=by
     rw[Zao (n:=(w:Int)*3) (by omega) (by omega),Zao (by omega) (by omega)];omega
    simp only[vY,rW]
    intro b9 mK
    obtain⟨e1,e2,e3,e4,rX⟩:∃e1 e2 e3 e4:Bool,ZaR (.int .u8 t.k) (.int .u64 t.s0) (.int .u64 t.s1) (.int .u64 t.s2) (.int .u64 t.s3) (.int .i64 t.mn) (.int .i64 t.mx) (.slice t.a t.subs.length t.c) (.int .u8 u.k) (.int .u64 u.s0) (.int .u64 u.s1) (.int .u64 u.s2) (.int .u64 u.s3) (.int .i64 u.mn) (.int .i64 u.mx) (.slice u.a u.subs.length u.c) (w:Int)=([⟨e1,e2,t⟩,⟨e3,e4,u⟩].map Rg.cs).flatten:=⟨_,_,_,_,rfl⟩
    rw[rX]
    have rY:=Mem.le_add mK (([⟨e1,e2,t⟩,⟨e3,e4,u⟩]:List Rg).map Rg.cs).flatten
    have vZ:N.le P:=mLt hO hP
    have rZ:=vW.mono hP
    refine⟨λi _ _=>if i=4\/i=15 then ZvK 10 else Ret (.bool true),ZvK 10,rfl,Zr1 (17+w*3) (by omega) _,Zog,?_⟩
    rintro a46 n59 c9 P1 oF ⟨s,sa,sc,hv,hs,fD⟩
    simp only[Value.slice.injEq]at hv
    obtain⟨rfl,rfl,rfl⟩:=hv
    have oJ:=mLt rY oF
    have hR:Rgs P1 (some ⟨b9,0,none⟩) [⟨e1,e2,t⟩,⟨e3,e4,u⟩]:=ZhP (λj v hj=>oF _ _ _ (by rw[Nat.zero_add,Mem.add_same];exact hj)) (by simp) (by intro r hr;simp at hr;rcases hr with rfl|rfl;exact te.mono (mLt vZ oJ);exact rZ.mono oJ)
    refine⟨by decide,Ret (.bool true),rfl,ZcC [⟨e1,e2,t⟩,⟨e3,e4,u⟩] (some ⟨b9,0,none⟩) 2 s a46 c9 _ P1 hR (Nat.le_refl _) (by simp) (by intro r hr;simp at hr;rcases hr with rfl|rfl;exact Nat.le_trans oL (by omega);exact Nat.le_trans gN (by omega)) hs (by omega),λv _ _ e=>by rw[show v=_ from e];rfl,λb10 P2 pp hv=>?_⟩
    obtain rfl:b10=true:=by cases hv;rfl
    refine ZbV rfl ⟨⟨by decide,by decide⟩,by decide,ZvK 10,rfl,Zr1 (40+k % 20) (by omega) _,Zog,?_⟩
    rintro a51 n60 c10 P3 rN ⟨s',sa',sc',hv',hs',v3⟩
    simp only[Value.slice.injEq]at hv'
    obtain⟨rfl,rfl,rfl⟩:=hv'
    have km:=hR.mono (mLt pp rN)
    have v4:Rgs P3 (some ⟨b9,10,none⟩) [⟨e3,e4,u⟩]:=by
     refine⟨by simp,.inr ⟨b9,10,rfl,λi r hi=>?_⟩,λr hr=>km.2.2 r (by simp at hr ⊢;exact .inr hr)⟩
     rcases km.2.1 with h|⟨b',o',h1,h2⟩
     ·cases h
     ·cases h1
      have:=h2 (i+1) r (by simpa using hi)
      rw[show 10+i*10=0+(i+1)*10 by omega];exact this
    refine⟨by decide,Ret (.bool true),rfl,ZcC [⟨e3,e4,u⟩] (some ⟨b9,10,none⟩) 1 s' a51 c10 _ P3 v4 (Nat.le_refl _) (by simp) (by intro r hr;simp at hr;subst hr;exact Nat.le_trans gN (by omega)) hs' (by omega),λv _ _ e=>by rw[show v=_ from e];rfl,λb11 P4 wB hv Q wC wD wE wF wG=>?_⟩
    obtain rfl:b11=true:=by cases hv;rfl
    exact ZbV rfl ⟨by trivial,by trivial,16 - (w+1),by omega,w+1,by omega,rfl,rfl⟩
  ·refine⟨true,?_,Zac (mLt iO hN) rfl⟩
   refine Zan (Ztw N) λN1 mI=>Zys rfl ?_
   exact Zan (Zvh N1) λN2 pn=>⟨by trivial,by trivial,rfl⟩
end Go.Proofs.Ythiefodednaikaa
namespace Go.Proofs.Ythiefodednaikaa
open Go Go.Eng Go.Rx Go.Proofs Go.RowKit Go.ChangeShapes Go.WideShapes Go.ChangeAt
set_option maxRecDepth 100000
theorem Zjb(H:Type)(enc:TypeId×Value->H)(W:World)(base:Nat)(args:Array Value)(ds gs:List (DataW H))(before:List MemPlace)
  (oK:∀(j:Nat) t v,Try.f10.params[j]?=some t->args[j]?=some v->Value.okWide Try.prog W .any base t v)
  (hW:DataW.Whole enc Try.prog Try.f10.params.toList Rows.denoteSmallSpec.vars false W args.toList ds gs before):
  Calls Try.prog 10 args W λe W'=>∃v,e=.returned v/\Rows.denoteSmallSpec.post enc Try.prog Try.f10 false true false false W args v W':=by
 have hW':=hW
 obtain⟨p,q,v5,hV,rfl,iY,dT⟩:=hW
 have hA:DataW.TrodAll enc Try.prog W 0 (λ_=>true) true Try.f10.params.toList args.toList ds p:=v5
 rw[Try.params10]at hA
 obtain⟨ha,rfl,rfl⟩:=trodAll_nil hA
 obtain rfl:args=#[]:=by cases args;simp_all
 obtain⟨rfl,rfl⟩:=trodVars_none hV
 exact ZsG (tb:=4) ZwQ (by rw[Try.params10];intro t ht;simp at ht) hW' rfl rfl rfl rfl rfl Try.underlying4 (Zkj (Zx9 W))
theorem Zmb(os:Os)(started:os.Started)(H:Type)(enc:TypeId×Value->H):
  ReturnsInHanded {} Try.checked os 10 .any (Rows.denoteSmallSpec.pre6 enc Try.prog Try.f10 Rows.denoteSmallRow.domain false) (Rows.denoteSmallSpec.post enc Try.prog Try.f10 false true false false):=by
 refine returnsInHanded_of_change (C:=Try.checked) ZxK started (by kernel_rfl) Try.func10
  (ChangeSpec.witness6 (enc:=enc) (C:=Try.checked) false ⟨#[],#[],[]⟩ 8 (by kernel_rfl) (by kernel_rfl) (by kernel_rfl) (by kernel_rfl)) ?_
 intro W base args ds gs before oK hW _ _
 exact Zjb H enc W base args ds gs before oK hW
theorem dsmall_holds:Rows.DenoteSmallSaid:=
 OpenClaim.holds_of_wide 10 Try.f10 rfl rfl rfl rfl rfl rfl rfl ⟨rfl,rfl,rfl,rfl,rfl⟩ rfl rfl rfl rfl rfl (by kernel_rfl) Try.func10 (by kernel_rfl)
  (of_decide_eq_true (by kernel_rfl)) (by unfold Func.isWrapper;first|(rw[if_pos (by decide +kernel)];kernel_rfl)|(rw[if_neg (by decide +kernel)];exact⟨rfl,rfl⟩))
  (λos started H enc _=>Zmb os started H enc)
#print axioms dsmall_holds
end Go.Proofs.Ythiefodednaikaa