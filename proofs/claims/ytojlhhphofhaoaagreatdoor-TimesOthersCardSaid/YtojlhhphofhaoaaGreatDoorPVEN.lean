/- Part of the proof: functions of the program. No condition. -/
import Derived.Test.YtojlhhphofhaoaaGreatDoorPC25I
import Derived.Test.YtojlhhphofhaoaaGreatDoorMr
import Derived.Test.YtojlhhphofhaoaaGreatDoorPEnv
set_option linter.unusedVariables false
set_option linter.unusedSimpArgs false
set_option linter.unusedSectionVars false
noncomputable section
namespace Go.Proofs.YtojlhhphofhaoaaGreatDoor
open Go Go.Eng Go.Rx Go.Proofs Go.RowKit
set_option maxRecDepth 100000
theorem Znw(r:Ru):0<=sizeR r/\sizeR r<=10001:=by
 have:=Zjs r.t
 unfold sizeR;split <;> omega
theorem Zyg{α:Type}(f:α->Int)(B:Int)(l:List α)(hf:∀x∈l,f x<=B):ZbF (l.map f)<=l.length*B:=by
 induction l with
 | nil=>simp[ZbF]
 | cons x l ih=>
  have h1:=hf x (by simp)
  have h2:=ih λy hy=>hf y (by simp[hy])
  simp only[List.map_cons,ZbF,List.length_cons]
  push_cast
  rw[Int.add_mul];omega
def ZtZ(x:Sta):Int:=ZbF (x.rules.map sizeR)
def T0s(s:Sc)(i:Nat):Int:=ZbF ((s.states.take i).map ZtZ)
theorem Zt0{s:Sc}{i:Nat}{x:Sta}(h:s.states[i]?=some x)(k:Nat):totals s i k=T0s s i+ZbF ((x.rules.take (k+1)).map sizeR):=by
 unfold totals;rw[h];rfl
theorem Znx{m:Mem}{x:Sta}(hx:RepS m x)(k:Nat):0<=ZbF ((x.rules.take k).map sizeR)/\ZbF ((x.rules.take k).map sizeR)<=1000100000:=by
 have hl:=hx.len
 unfold few at hl
 refine⟨Zfh _ (λr=>(Znw r).1) _,?_⟩
 have:=Zyg sizeR 10001 (x.rules.take k) λr _=>(Znw r).2
 rw[List.length_take]at this
 omega
theorem ZBb{m:Mem}{s:Sc}(hs:RepC m s)(i:Nat):0<=T0s s i/\T0s s i<=100010000000000:=by
 have hl:=hs.len
 unfold few at hl
 refine⟨Zfh _ (λx=>Zfh _ (λr=>(Znw r).1) _) _,?_⟩
 have:=Zyg ZtZ 1000100000 (s.states.take i) λx hx=>by
  have:=(Znx (hs.all x (List.mem_of_mem_take hx)) x.rules.length).2
  rw[List.take_length]at this;exact this
 rw[List.length_take]at this
 unfold T0s;omega
def Zxa(s:Sc)(i n:Nat):List Value:=(List.range n).map λj=>.int .i64 (totals s i j)
theorem Zws(s:Sc)(i n:Nat):(Zxa s i n).length=n:=by simp[Zxa]
theorem Zt1(s:Sc)(i n:Nat):Zxa s i (n+1)=Zxa s i n++[.int .i64 (totals s i n)]:=by simp[Zxa,List.range_succ]
def TotI(s:Sc)(i:Nat)(a:Option Addr)(vs:List Value)(m:Mem):Prop:=vs.length=i/\rowRd m a vs/\∀(k:Nat)(x:Sta),k < i->s.states[k]?=some x->∃ak ck,vs[k]?=some (.slice ak x.rules.length ck)/\rowRd m ak (Zxa s k x.rules.length)
theorem TotI.mono{s:Sc}{i:Nat}{a:Option Addr}{vs:List Value}{m m':Mem}(h:TotI s i a vs m)(hm:m.le m'):TotI s i a vs m':=⟨h.1,h.2.1.mono hm,λk x hk hx=>by
 obtain⟨ak,ck,h1,h2⟩:=h.2.2 k x hk hx
 exact⟨ak,ck,h1,h2.mono hm⟩⟩
def ZBD(s:Sc):Value->Mem->List (List Value)->Prop:=λv m _=>∃a c vs,v=.slice a s.states.length c/\TotI s s.states.length a vs m
theorem Zwt{s}:∀(v:Value)(m':Mem) (css:List (List Value)),ZBD s v m' css->Shape.fits .slice v=true:=λv _ _ ⟨_,_,_,e,_⟩=>by rw[e];rfl
set_option maxHeartbeats 1000000 in
theorem Zt2(s:Sc)(m:Mem)(hr:RepC m s):CX Tryz.prog 117 #[s.v] m [] (ZBD s):=by
 apply Zht
 intro b m1 aB _
 have fX:=hr.len
 unfold few at fX
 refine⟨λxs _ tks m' q=>∃(i:Nat)(a:Option Addr)(c:Nat)(vs:List Value),i<=s.states.length/\xs=[.int .i64 (T0s s i),.slice a i c,.int .i64 i]/\tks=[.slice a i c]/\m1.le m'/\TotI s i a vs m'/\q=s.states.length - i,
  ⟨s.states.length,0,none,0,[],by omega,rfl,rfl,Mem.le_refl _,⟨rfl,.inl rfl,λk x hk=>absurd hk (by omega)⟩,rfl⟩,?_⟩
 rintro n a n1 c n2 a1 n3 c1 m2 q aN ⟨i,A,C,vs,hi,hx,ht,bJ,hT,hq⟩
 simp only[List.cons.injEq,Value.int.injEq,Value.slice.injEq,and_true,true_and]at hx ht
 obtain⟨rfl,⟨ea,en,ec⟩,rfl⟩:=hx
 obtain⟨ea',en',ec'⟩:=ht
 subst a1 n3 c1 a n1 c
 subst hq
 have dH:=mLt aB aN
 have hw:∀k:Nat,k<=100000->IntKind.i64.wrap ((k:Int)+1)=((k+1:Nat):Int):=λk hk=>by rw[Zam (by omega) (by omega)];rfl
 refine Zau (λaO=>?_) (λbM=>?_)
 ·have aO:(i:Int) < (s.states.length:Int):=aO
  have aW:i < s.states.length:=by omega
  obtain⟨x,hx⟩:=ZcG aW
  have cS:=hr.all x (zA2 hx)
  have jS:=cS.len
  unfold few at jS
  obtain⟨b2,o2,ha,gW⟩:=Zan Sta.len (hr.row.mono dH) hx (by omega)
  refine⟨b2,o2,ha,⟨by omega,by omega⟩,_,_,by rw[zA8];exact gW,λb3=>Zaa rfl (Zaa rfl ?_)⟩
  refine⟨λxs _ tks m' q=>∃(k:Nat)(ak:Option Addr)(ck:Nat),k<=x.rules.length/\xs=[.int .i64 (T0s s i+ZbF ((x.rules.take k).map sizeR)),.slice ak k ck,.int .i64 k]/\tks=[.slice ak k ck]/\rowRd m' ak (Zxa s i k)/\q=x.rules.length - k,
   ⟨x.rules.length,0,none,0,by omega,by simp[ZbF],rfl,.inl rfl,rfl⟩,?_⟩
  rintro n a4 n5 c2 n6 a5 n7 c3 m3 q aX ⟨k,ak,ck,hk,kH,tV,aM,hq⟩
  simp only[List.cons.injEq,Value.int.injEq,Value.slice.injEq,and_true,true_and]at kH tV
  obtain⟨rfl,⟨ea,en,ec⟩,rfl⟩:=kH
  obtain⟨ea',en',ec'⟩:=tV
  subst a5 n7 c3 a4 n5 c2
  subst hq
  have cV:=mLt dH aX
  refine Zau (λeG=>?_) (λeN=>?_)
  ·have eG:(k:Int) < (x.rules.length:Int):=eG
   obtain⟨r,gF⟩:=ZcG (show k < x.rules.length by omega)
   have fM:=cS.all r (zA2 gF)
   obtain⟨b4,o4,nq,lG⟩:=Zan Ru.len (cS.row.mono cV) gF (by omega)
   have xI:=ZBb hr i
   have gv:=Znx cS k
   have vX:=Znx cS (k+1)
   have cU:=ZeF sizeR gF
   have pj:=Zt0 hx k
   have next:∀{M M2:Mem} {b5:Nat} {z:Int} {Q:Option Addr->Nat->Mem->Prop},m3.le M->M.free b5->z=totals s i k->(∀(a':Option Addr)(c':Nat)(m':Mem),M.le m'->rowRd m' a' (Zxa s i (k+1))->Q a' c' m')->
     (Tok.mk (.slice ak k ck) 1=Tok.mk (.slice ak k ck) 1\/Value.slice ak k ck=.slice none 0 0\/ck < k+1)/\∃xs ys:List Value,xs.length=k*1/\ys.length=1*1/\rowRd (M.add b5 [.int .i64 z]) ak xs/\rowRd (M.add b5 [.int .i64 z]) (some ⟨b5,0,none⟩) ys/\(∀u∈ys,u.oneCell'=true)/\
      (k+1)*8<=140737488355328/\k+1<=9223372036854775807/\∀(a':Option Addr)(c':Nat)(m':Mem),(M.add b5 [.int .i64 z]).le m'->rowRd m' a' (xs++ys)->Q a' c' m':=λ{M M2 b5 z Q} hM hf hz hQ=>
    ⟨.inl rfl,Zxa s i k,[.int .i64 z],by rw[Zws];omega,rfl,aM.mono (mLt hM (Mem.le_add hf _)),.inr ⟨b5,0,rfl,ZbD M b5 _⟩,by simp[Value.oneCell'],by omega,by omega,λa' c' m' hm' hr'=>hQ a' c' m' (mLt (Mem.le_add hf _) hm') (by rw[Zt1,<-hz];exact hr')⟩
   refine Zaa rfl ⟨b4,o4,nq,⟨by omega,eG⟩,_,_,_,_,_,_,_,_,_,_,_,_,_,_,_,_,by rw[zA8];exact lG,λb5=>Zaa rfl (Zaa rfl (Zab (λiu=>?_) (λiu b6 hf=>?_)))⟩
   ·have iu:r.k=1:=eq_of_beq (show(r.k == 1)=true from iu)
    have hz:sizeR r=r.t.size:=by unfold sizeR;rw[if_pos iu]
    refine Zax (ZrZ r.t m3 (fM.t.mono cV)) λm4 bI b6 hf=>?_
    have bH:=Zjs r.t
    rw[Zam (n:=_+r.t.size) (by omega) (by omega)]
    refine next (M2:=m4) bI hf (by rw[pj,cU,hz];omega) λa' c' m' hm' hr'=>⟨rfl,rfl,x.rules.length - (k+1),by omega,k+1,a',c',by omega,?_,rfl,hr',rfl⟩
    rw[hw k (by omega),cU,hz]
    simp only[Int.add_assoc]
   ·have iu:¬r.k=1:=λe=>by
     have:(r.k == 1)=false:=iu
     rw[e]at this;simp at this
    have hz:sizeR r=0:=by unfold sizeR;rw[if_neg iu]
    refine next (M2:=m3) (Mem.le_refl _) hf (by rw[pj,cU,hz];omega) λa' c' m' hm' hr'=>⟨rfl,rfl,x.rules.length - (k+1),by omega,k+1,a',c',by omega,?_,rfl,hr',rfl⟩
    rw[hw k (by omega),cU,hz,Int.add_zero]
  ·have eN:¬(k:Int) < (x.rules.length:Int):=eN
   obtain rfl:k=x.rules.length:=by omega
   intro b3 hf
   have tW:=hT.mono (mLt aX (Mem.le_add hf [.slice ak x.rules.length ck]))
   refine⟨.inl rfl,vs,[.slice ak x.rules.length ck],by rw[hT.1];omega,rfl,tW.2.1,.inr ⟨b3,0,rfl,ZbD m3 b3 _⟩,by simp[Value.oneCell'],by omega,by omega,λa' c' m' hm' hr'=>⟨rfl,s.states.length - (i+1),by omega,i+1,a',c',vs++[.slice ak x.rules.length ck],by omega,?_,rfl,mLt bJ (mLt aX (mLt (Mem.le_add hf _) hm')),⟨by rw[zA1,hT.1];rfl,hr',λj y hj hy=>?_⟩,rfl⟩⟩
   ·rw[hw i (by omega),List.take_length]
    have:T0s s (i+1)=T0s s i+ZtZ x:=ZeF ZtZ hx
    rw[this];rfl
   ·by_cases nK:j < i
    ·obtain⟨aj,cj,h1,h2⟩:=tW.2.2 j y nK hy
     exact⟨aj,cj,by rw[zA5 (by rw[hT.1];omega)];exact h1,h2.mono hm'⟩
    ·obtain rfl:j=i:=by omega
     obtain rfl:x=y:=by rw[hx]at hy;exact Option.some.inj hy
     exact⟨ak,ck,by rw[zA4 (by rw[hT.1];omega),hT.1];simp,aM.mono (mLt (Mem.le_add hf _) hm')⟩
 ·have bM:¬(i:Int) < (s.states.length:Int):=bM
  obtain rfl:i=s.states.length:=by omega
  exact⟨m2,dH,Mem.le_refl _,A,C,vs,rfl,hT⟩
theorem ZBc{m:Mem}{a:Option Addr}{vs:List Value}(h:rowRd m a vs){k:Nat}{v:Value}(hk:vs[k]?=some v):∃b o,a=some ⟨b,o,none⟩/\m.c b (o+k*1)=some v:=by
 rcases h with h|⟨b,o,ha,h⟩
 ·rw[h]at hk;simp at hk
 ·exact⟨b,o,ha,by rw[Nat.mul_one];exact h k v hk⟩
theorem ZBd(s:Sc)(ta:Option Addr)(tc:Nat)(vs:List Value)(p:Pl)(m:Mem)(hr:RepC m s)(hT:TotI s s.states.length ta vs m)(hp:ZBu s p):
  CX Tryz.prog 119 #[s.v,.slice ta s.states.length tc,.agg p.cs.toArray] m [] (Ret (.int .i64 (atS s p))):=by
 obtain⟨pv,ps,pr,pa,pp⟩:=p
 dsimp only[ZBu]at hp
 dsimp only[Pl.cs]
 show CX Tryz.prog 119 #[s.v,.slice ta s.states.length tc,.agg #[.int .i64 pv,.int .i64 ps,.int .i64 pr,.int .i64 pa,.int .i64 pp]] m [] _
 apply ZoZ
 intro b m1 aB _ b1 m2 aN _
 have hm:=mLt aB aN
 have gu:=hr.vlen
 have fX:=hr.len
 unfold few at gu fX
 rcases hp with⟨i,rfl,v,hv⟩|⟨hv,hp⟩
 ·refine ZpX (decide_eq_true (Int.natCast_nonneg i)) (Zax (Zpo s i v m2 (hr.mono hm) hv) λm3 aX=>Zac (mLt hm aX) ?_)
  show Value.int _ _=Value.int _ _
  unfold atS;rw[if_pos (Int.natCast_nonneg i),zA8,hv]
 have hv:pv < 0:=hv
 refine ZdK (decide_eq_false (by omega)) ?_
 rcases hp with hs|⟨i,rfl,x,hx,hp⟩
 ·have hs:ps < 0:=hs
  refine ZpX (decide_eq_true hs) (Zax (Zwk s (hr.mono hm)) λm3 aX=>Zac (mLt hm aX) ?_)
  show Value.int _ _=Value.int _ _
  unfold atS;rw[if_neg (by show ¬pv ≥ 0;omega),if_pos hs]
 refine ZdK (decide_eq_false (by omega)) ?_
 have vY:=(zA0 hx).1
 have at0:∀q:Pl,q.v=pv->q.s=i->atS s q=if q.r < 0 then Zfj s i x else match x.rules[q.r.toNat]? with
   | none=>0
   | some r=>if q.a < 0 then ZgF s r (totals s i q.r.toNat)else match r.acts[q.a.toNat]? with
    | none=>0
    | some a=>if q.p < 0 then ZbS s r a else match a.parts[q.p.toNat]? with
     | none=>0
     | some z=>Zfk s r a.parts q.p.toNat z:=λq h1 h2=>by
  unfold atS;rw[h1,h2,if_neg (by omega),if_neg (by omega),zA8,hx]
  rfl
 rcases hp with hs|⟨k,rfl,r,gF,hp⟩
 ·have hs:pr < 0:=hs
  refine ZpX (decide_eq_true hs) (Zax (Zwl s i x m2 (hr.mono hm) hx) λm3 aX=>Zac (mLt hm aX) ?_)
  show Value.int _ _=Value.int _ _
  rw[at0 _ rfl rfl,if_pos hs]
 refine ZdK (decide_eq_false (by omega)) ?_
 have jR:=zA2 hx
 have cS:=(hr.all x jR).mono hm
 have jS:=cS.len
 unfold few at jS
 have nL:=(zA0 gF).1
 have qq:=zA2 gF
 have fM:=cS.all r qq
 have o8:=fM.len
 unfold few at o8
 obtain⟨b2,o2,nr,gW⟩:=Zan Sta.len (hr.row.mono hm) hx (by omega)
 obtain⟨b3,o3,gq,kH⟩:=Zan Ru.len cS.row gF (by omega)
 have at1:∀q:Pl,q.v=pv->q.s=i->q.r=k->atS s q=if q.a < 0 then ZgF s r (totals s i k)else match r.acts[q.a.toNat]? with
    | none=>0
    | some a=>if q.p < 0 then ZbS s r a else match a.parts[q.p.toNat]? with
     | none=>0
     | some z=>Zfk s r a.parts q.p.toNat z:=λq h1 h2 h3=>by
  rw[at0 q h1 h2,h3,if_neg (by omega),zA8,gF]
 refine⟨b2,o2,nr,⟨by omega,by omega⟩,_,gW 1 _ rfl,Zaa rfl ⟨b3,o3,gq,⟨by omega,by show(k:Int) < (x.rules.length:Int);omega⟩,_,_,_,_,_,_,_,_,_,_,_,_,_,_,_,_,kH,λb4=>Zaa rfl ?_⟩⟩
 rcases hp with hs|⟨j,rfl,a,jT,hp⟩
 ·have hs:pa < 0:=hs
  refine ZpX (decide_eq_true hs) ?_
  obtain⟨ak,ck,oz,pk⟩:=hT.2.2 i x vY hx
  obtain⟨b5,o5,lf,r5⟩:=ZBc (hT.2.1.mono hm) oz
  have dJ:(Zxa s i x.rules.length)[k]?=some (.int .i64 (totals s i k)):=by
   unfold Zxa;rw[List.getElem?_map,List.getElem?_range nL];rfl
  obtain⟨b6,o6,iS,nt⟩:=ZBc (pk.mono hm) dJ
  refine⟨λ_ _ _=>Ret (.int .i64 (ZgF s r (totals s i k))),b5,o5,lf,⟨by omega,by omega⟩,_,r5,Zaa rfl ⟨b6,o6,iS,⟨by omega,by show(k:Int) < (x.rules.length:Int);omega⟩,_,nt,_,rfl,Zyd s r (totals s i k) m2 (hr.mono hm) fM,λv _ _ e=>by rw[show v=_ from e];rfl,λn m3 aX hn M hM _=>Zac (mLt hm hM) ?_⟩⟩
  obtain rfl:n=ZgF s r (totals s i k):=by cases hn;rfl
  show Value.int _ _=Value.int _ _
  rw[at1 _ rfl rfl rfl,if_pos hs]
 refine ZdK (decide_eq_false (by omega)) ?_
 have tX:=(zA0 jT).1
 have vZ:=zA2 jT
 have kK:=fM.all a vZ
 obtain⟨b5,o5,lf,qs⟩:=Zan Ac.len fM.row jT (by omega)
 rcases hp with hs|⟨n,rfl,z,hz⟩
 ·have hs:pp < 0:=hs
  refine ZpX (decide_eq_true hs) ⟨λ_ _ _=>Ret (.int .i64 (ZbS s r a)),Zaa rfl ⟨b5,o5,lf,⟨by omega,by show(j:Int) < (r.acts.length:Int);omega⟩,_,_,_,_,_,_,_,_,qs,_,rfl,ZtY s r a m2 (hr.mono hm) fM kK,λv _ _ e=>by rw[show v=_ from e];rfl,λn m3 aX hn M hM _=>Zac (mLt hm hM) ?_⟩⟩
  obtain rfl:n=ZbS s r a:=by cases hn;rfl
  show Value.int _ _=Value.int _ _
  have pm:¬(j:Int) < 0:=by omega
  have qv:r.acts[(j:Int).toNat]?=some a:=by rw[zA8];exact jT
  rw[at1 _ rfl rfl rfl]
  simp only[pm,qv,hs,if_true,if_false]
 ·refine ZdK (decide_eq_false (by omega)) ⟨λ_ _ _=>Ret (.int .i64 (Zfk s r a.parts n z)),Zaa rfl ⟨b5,o5,lf,⟨by omega,by show(j:Int) < (r.acts.length:Int);omega⟩,_,qs 2 _ rfl,_,rfl,Zyf s r a.parts a.pa a.pc n z m2 (hr.mono hm) fM kK.n kK.row kK.all hz,λv _ _ e=>by rw[show v=_ from e];rfl,λn' m3 aX hn M hM _=>Zac (mLt hm hM) ?_⟩⟩
  obtain rfl:n'=Zfk s r a.parts n z:=by cases hn;rfl
  show Value.int _ _=Value.int _ _
  have pm:¬(j:Int) < 0:=by omega
  have qv:r.acts[(j:Int).toNat]?=some a:=by rw[zA8];exact jT
  have tY:¬(n:Int) < 0:=by omega
  have mF:a.parts[(n:Int).toNat]?=some z:=by rw[zA8];exact hz
  rw[at1 _ rfl rfl rfl]
  simp only[pm,qv,tY,mF,if_false]
  rw[zA8]
theorem ZqX(L:List Pl):(L.map Pl.cs).flatten.length=L.length*5:=by
 induction L with
 | nil=>rfl
 | cons x l ih=>rw[List.map_cons,List.flatten_cons,zA1,ih,List.length_cons,Nat.succ_mul];show 5+_=_;omega
def PI(L:List Pl)(v t:Value)(m:Mem):Prop:=∃a c a1 n1 c1,v=.slice a L.length c/\t=.slice a1 n1 c1/\((a1=a/\n1=L.length/\c1=c)\/c < L.length+1)/\rowRd m a (L.map Pl.cs).flatten
theorem PI.mono{L:List Pl}{v t:Value}{m m':Mem}(h:PI L v t m)(hm:m.le m'):PI L v t m':=by
 obtain⟨a,c,a1,n1,c1,h1,h2,h3,h4⟩:=h
 exact⟨a,c,a1,n1,c1,h1,h2,h3,h4.mono hm⟩
theorem PI.app{L:List Pl}{a a1:Option Addr}{n c n1 c1:Nat}{m:Mem}{b:Nat}{Q:Option Addr->Nat->Mem->Prop}(z:Pl)(h:PI L (.slice a n c) (.slice a1 n1 c1) m)(hb:L.length<=30000)(hf:m.free b)
  (k:∀(a':Option Addr)(c':Nat)(m':Mem),m.le m'->PI (L++[z]) (.slice a' (n+1) c') (.slice a' (n+1) c') m'->Q a' c' m'):
  (Tok.mk (.slice a1 n1 c1) 5=Tok.mk (.slice a n c) 5\/Value.slice a n c=.slice none 0 0\/c < n+1)/\∃xs ys:List Value,xs.length=n*5/\ys.length=1*5/\rowRd (m.add b z.cs) a xs/\rowRd (m.add b z.cs) (some ⟨b,0,none⟩) ys/\(∀u∈ys,u.oneCell'=true)/\
   (n+1)*40<=140737488355328/\n+1<=9223372036854775807/\∀(a':Option Addr)(c':Nat)(m':Mem),(m.add b z.cs).le m'->rowRd m' a' (List.append xs ys)->Q a' c' m':=by
 obtain⟨a0,c0,a10,n10,c10,h1,h2,h3,h4⟩:=h
 simp only[Value.slice.injEq]at h1 h2
 obtain⟨rfl,rfl,rfl⟩:=h1
 obtain⟨rfl,rfl,rfl⟩:=h2
 have bJ:m.le (m.add b z.cs):=Mem.le_add hf _
 refine⟨?_,(L.map Pl.cs).flatten,z.cs,ZqX L,rfl,h4.mono bJ,.inr ⟨b,0,rfl,ZbD m b _⟩,?_,by omega,by omega,λa' c' m' hm' hr'=>k a' c' m' (mLt bJ hm') ⟨a',c',a',L.length+1,c',?_,rfl,.inl ⟨rfl,?_,rfl⟩,?_⟩⟩
 ·rcases h3 with⟨e1,e2,e3⟩|h3
  ·rw[e1,e2,e3];exact .inl rfl
  ·exact .inr (.inr h3)
 ·intro u hu
  simp only[Pl.cs,List.mem_cons,List.not_mem_nil,or_false]at hu
  rcases hu with rfl|rfl|rfl|rfl|rfl <;> rfl
 ·rw[zA1];rfl
 ·rw[zA1];rfl
 ·rw[List.map_append,List.flatten_append]
  have:(List.map Pl.cs [z]).flatten=z.cs:=by simp
  rw[this];exact hr'
def Zvd(s:Sc):Value->Mem->List (List Value)->Prop:=λv m _=>∃a c,v=.slice a s.places.length c/\rowRd m a (s.places.map Pl.cs).flatten
theorem Zpp{s}:∀(v:Value)(m':Mem) (css:List (List Value)),Zvd s v m' css->Shape.fits .slice v=true:=λv _ _ ⟨_,_,e,_⟩=>by rw[e];rfl
set_option maxHeartbeats 4000000 in
theorem Zt3(s:Sc)(m:Mem)(hr:RepC m s):CX Tryz.prog 118 #[s.v] m [] (Zvd s):=by
 apply Zks
 intro b m1 aB _
 have gu:=hr.vlen
 have fX:=hr.len
 unfold few at gu fX
 refine Zah (ZfB s m1 (hr.mono aB)) λm2 aN=>Zab (λhl=>?_) (λhl b2 rQ=>?_)
 ·have hl:s.light=false:=by simpa using hl
  have he:s.places=[]:=by unfold Sc.places;rw[hl];rfl
  exact Zac (mLt aB aN) ⟨none,0,by rw[he];rfl,by rw[he];exact .inl rfl⟩
 have hl:s.light=true:=by simpa using hl
 have gL:m2.le (m2.add b2 (Pl.cs top)):=Mem.le_add rQ _
 have dH:=mLt aB (mLt aN gL)
 have lD:=ZlK s
 have qi:=Zj5 hl
 rw[qi,List.length_cons,zA1,show(Zdv s.vars.length Vf).length=s.vars.length from Zf3 _ _]at lD
 have hw:∀k:Nat,k<=100000->IntKind.i64.wrap ((k:Int)+1)=((k+1:Nat):Int):=λk hk=>by rw[Zam (by omega) (by omega)];rfl
 have start:PI [top] (.slice (some ⟨b2,0,none⟩) 1 1) (.slice none 0 0) (m2.add b2 (Pl.cs top)):=⟨_,1,_,_,_,rfl,rfl,.inr (by decide),.inr ⟨b2,0,rfl,by simpa using ZbD m2 b2 (Pl.cs top)⟩⟩
 refine⟨λxs _ tks m' q=>∃(i:Nat)(v t:Value),i<=s.vars.length/\xs=[v,.int .i64 i]/\tks=[t]/\PI (top::Zdv i Vf) v t m'/\q=s.vars.length - i,⟨s.vars.length,0,_,_,by omega,rfl,rfl,start,rfl⟩,?_⟩
 rintro a n c i' a1 n2 c1 m3 q aX ⟨i,v,t,hi,hx,ht,hP,rfl⟩
 simp only[List.cons.injEq,Value.int.injEq,and_true,true_and]at hx ht
 obtain⟨rfl,rfl⟩:=hx
 subst ht
 have cV:=mLt dH aX
 have tZ:(Zdv i Vf).length=i:=Zf3 _ _
 refine Zau (λaO b3 iQ=>?_) (λbM=>?_)
 ·have aO:(i:Int) < (s.vars.length:Int):=aO
  refine PI.app ⟨i,-1,-1,-1,-1⟩ hP (by rw[List.length_cons,tZ];omega) iQ λa' c' m' hm' hP'=>⟨rfl,s.vars.length - (i+1),by omega,i+1,_,_,by omega,by rw[hw i (by omega)],rfl,?_,rfl⟩
  rw[Zca];exact hP'
 have bM:¬(i:Int) < (s.vars.length:Int):=bM
 obtain rfl:i=s.vars.length:=by omega
 generalize hB:top::Zdv s.vars.length Vf=B at hP
 have xJ:B.length=s.vars.length+1:=by rw[<-hB,List.length_cons,tZ]
 refine⟨λxs _ tks m' q=>∃(i:Nat)(v t:Value),i<=s.states.length/\xs=[v,.int .i64 i]/\tks=[t]/\PI (B++Zdv i (Ff s)) v t m'/\q=s.states.length - i,⟨s.states.length,0,_,_,by omega,rfl,rfl,by simpa[Zdv]using hP,rfl⟩,?_⟩
 rintro a n c i' a1 n2 c1 m4 q bI ⟨i,v,t,hi,hx,ht,hP,rfl⟩
 simp only[List.cons.injEq,Value.int.injEq,and_true,true_and]at hx ht
 obtain⟨rfl,rfl⟩:=hx
 subst ht
 have jn:=mLt cV bI
 refine Zau (λaO=>?_) (λbM=>?_)
 ·have aO:(i:Int) < (s.states.length:Int):=aO
  obtain⟨x,hx⟩:=ZcG (show i < s.states.length by omega)
  have cS:=hr.all x (zA2 hx)
  have jS:=cS.len
  unfold few at jS
  have hF:Ff s i=plS i x:=by unfold Ff;rw[hx]
  have cG:(Zdv i (Ff s)).length+(plS i x).length<=(Zdv s.states.length (Ff s)).length:=by
   have:=Zrz (show i+1<=s.states.length by omega) (Ff s)
   rw[Zca,zA1,hF]at this;exact this
  rw[Ztd,List.length_cons]at cG
  obtain⟨b3,o3,gq,kH⟩:=Zan Sta.len (hr.row.mono jn) hx (by omega)
  refine⟨b3,o3,gq,⟨by omega,aO⟩,_,_,kH,λb4=>Zaa rfl λb5 jo=>?_⟩
  refine PI.app ⟨-1,i,-1,-1,-1⟩ hP (by rw[zA1];omega) jo λa' c' m5 cP hP=>Zaa rfl ?_
  have pf:=mLt jn cP
  generalize pn:B++Zdv i (Ff s)=L1 at hP
  have j1:L1.length=B.length+(Zdv i (Ff s)).length:=by rw[<-pn,zA1]
  refine⟨λxs _ tks m' q=>∃(k:Nat)(v t:Value),k<=x.rules.length/\xs=[v,.int .i64 k]/\tks=[t]/\PI (L1++(⟨-1,i,-1,-1,-1⟩::Zdv k (Gf i x))) v t m'/\q=x.rules.length - k,⟨x.rules.length,0,_,_,by omega,rfl,rfl,by simpa[Zdv]using hP,rfl⟩,?_⟩
  rintro a n c k' a1 n2 c1 m6 q iR ⟨k,v,t,hk,hy,ht,hP,rfl⟩
  simp only[List.cons.injEq,Value.int.injEq,and_true,true_and]at hy ht
  obtain⟨rfl,rfl⟩:=hy
  subst ht
  have j3:=mLt pf iR
  refine Zau (λeG=>?_) (λeN=>?_)
  ·have eG:(k:Int) < (x.rules.length:Int):=eG
   obtain⟨r,gF⟩:=ZcG (show k < x.rules.length by omega)
   have fM:=cS.all r (zA2 gF)
   have o8:=fM.len
   unfold few at o8
   have hG:Gf i x k=plR i k r:=by unfold Gf;rw[gF]
   have eV:(Zdv k (Gf i x)).length+(plR i k r).length<=(Zdv x.rules.length (Gf i x)).length:=by
    have:=Zrz (show k+1<=x.rules.length by omega) (Gf i x)
    rw[Zca,zA1,hG]at this;exact this
   rw[Ztc,List.length_cons]at eV
   obtain⟨b6,o6,iS,nk⟩:=Zan Ru.len (cS.row.mono j3) gF (by omega)
   refine Zaa rfl ⟨b6,o6,iS,⟨by omega,eG⟩,_,_,_,_,_,_,_,_,_,_,_,_,_,_,_,_,nk,λb7=>Zaa rfl λb8 wa=>?_⟩
   refine PI.app ⟨-1,i,k,-1,-1⟩ hP (by rw[zA1,List.length_cons];omega) wa λa' c' m7 jm hP=>Zaa rfl ?_
   have r6:=mLt j3 jm
   generalize t5:L1++(⟨-1,i,-1,-1,-1⟩::Zdv k (Gf i x))=L2 at hP
   have nS:L2.length=L1.length+1+(Zdv k (Gf i x)).length:=by rw[<-t5,zA1,List.length_cons];omega
   refine⟨λxs _ tks m' q=>∃(j:Nat)(v t:Value),j<=r.acts.length/\xs=[v,.int .i64 j]/\tks=[t]/\PI (L2++(⟨-1,i,k,-1,-1⟩::Zdv j (Hf i k r))) v t m'/\q=r.acts.length - j,⟨r.acts.length,0,_,_,by omega,rfl,rfl,by simpa[Zdv]using hP,rfl⟩,?_⟩
   rintro a n c j' a1 n2 c1 m8 q gZ ⟨j,v,t,hj,hy,ht,hP,rfl⟩
   simp only[List.cons.injEq,Value.int.injEq,and_true,true_and]at hy ht
   obtain⟨rfl,rfl⟩:=hy
   subst ht
   have ph:=mLt r6 gZ
   refine Zau (λkJ=>?_) (λlH=>?_)
   ·have kJ:(j:Int) < (r.acts.length:Int):=kJ
    obtain⟨y,jT⟩:=ZcG (show j < r.acts.length by omega)
    have kK:=fM.all y (zA2 jT)
    have r7:=kK.n
    unfold few at r7
    have hH:Hf i k r j=plA i k j y:=by unfold Hf;rw[jT]
    have eQ:(Zdv j (Hf i k r)).length+(plA i k j y).length<=(Zdv r.acts.length (Hf i k r)).length:=by
     have:=Zrz (show j+1<=r.acts.length by omega) (Hf i k r)
     rw[Zca,zA1,hH]at this;exact this
    rw[Ztb,List.length_cons,show(Zdv y.parts.length (Pf i k j)).length=y.parts.length from Zf3 _ _]at eQ
    obtain⟨b9,o9,po,wb⟩:=Zan Ac.len (fM.row.mono ph) jT (by omega)
    refine Zaa rfl ⟨b9,o9,po,⟨by omega,kJ⟩,_,_,_,_,_,_,_,_,wb,λb10=>Zaa rfl λb11 r8=>?_⟩
    refine PI.app ⟨-1,i,k,j,-1⟩ hP (by rw[zA1,List.length_cons];omega) r8 λa' c' m9 nX hP=>Zaa rfl ?_
    generalize qw:L2++(⟨-1,i,k,-1,-1⟩::Zdv j (Hf i k r))=L3 at hP
    have rB:L3.length=L2.length+1+(Zdv j (Hf i k r)).length:=by rw[<-qw,zA1,List.length_cons];omega
    refine⟨λxs _ tks m' q=>∃(w:Nat)(v t:Value),w<=y.parts.length/\xs=[v,.int .i64 w]/\tks=[t]/\PI (L3++(⟨-1,i,k,j,-1⟩::Zdv w (Pf i k j))) v t m'/\q=y.parts.length - w,⟨y.parts.length,0,_,_,by omega,rfl,rfl,by simpa[Zdv]using hP,rfl⟩,?_⟩
    rintro a n c w' a1 n2 c1 m10 q iT ⟨w,v,t,xK,hy,ht,hP,rfl⟩
    simp only[List.cons.injEq,Value.int.injEq,and_true,true_and]at hy ht
    obtain⟨rfl,rfl⟩:=hy
    subst ht
    have wc:(Zdv w (Pf i k j)).length=w:=Zf3 _ _
    refine Zau (λlI b12 nu=>?_) (λlJ=>?_)
    ·have lI:(w:Int) < (y.parts.length:Int):=lI
     refine PI.app ⟨-1,i,k,j,w⟩ hP (by rw[zA1,List.length_cons,wc];omega) nu λa' c' m' hm' hP'=>⟨rfl,rfl,y.parts.length - (w+1),by omega,w+1,_,_,by omega,by rw[hw w (by omega)],rfl,?_,rfl⟩
     rw[Zca]
     simpa[Pf]using hP'
    ·have lJ:¬(w:Int) < (y.parts.length:Int):=lJ
     obtain rfl:w=y.parts.length:=by omega
     refine⟨rfl,rfl,r.acts.length - (j+1),by omega,j+1,_,_,by omega,by rw[hw j (by omega)],rfl,?_,rfl⟩
     rw[Zca,hH,Ztb]
     rw[<-qw]at hP
     simpa using hP
   ·have lH:¬(j:Int) < (r.acts.length:Int):=lH
    obtain rfl:j=r.acts.length:=by omega
    refine⟨rfl,rfl,x.rules.length - (k+1),by omega,k+1,_,_,by omega,by rw[hw k (by omega)],rfl,?_,rfl⟩
    rw[Zca,hG,Ztc]
    rw[<-t5]at hP
    simpa using hP
  ·have eN:¬(k:Int) < (x.rules.length:Int):=eN
   obtain rfl:k=x.rules.length:=by omega
   refine⟨rfl,rfl,s.states.length - (i+1),by omega,i+1,_,_,by omega,by rw[hw i (by omega)],rfl,?_,rfl⟩
   rw[Zca,hF,Ztd]
   rw[<-pn]at hP
   simpa using hP
 ·have bM:¬(i:Int) < (s.states.length:Int):=bM
  obtain rfl:i=s.states.length:=by omega
  obtain⟨a0,c0,a10,n10,c10,h1,h2,h3,h4⟩:=hP
  have he:B++Zdv s.states.length (Ff s)=s.places:=by rw[qi,<-hB];rfl
  rw[he]at h1 h4
  rw[h1]
  exact⟨m4,jn,Mem.le_refl _,a0,c0,rfl,h4⟩
def Zpq(s:Sc)(l:List Pl):List (Pl×Int):=l.filterMap λp=>if atS s p=0 then none else some (p,atS s p)
theorem Zjv(s:Sc):s.problems=Zpq s s.places:=rfl
def Zve(z:Pl×Int):Value:=.agg #[.int .i64 z.1.v,.int .i64 z.1.s,.int .i64 z.1.r,.int .i64 z.1.a,.int .i64 z.1.p,.int .i64 z.2]
theorem Zpr(s:Sc)(m:Mem):CX Tryz.prog 88 #[s.v] m [] (λv m' _=>∃b,v=.func (.func 116) #[] #[.pointer (some ⟨b,0,none⟩)]/\m'.reads b 0 s.cs):=by
 apply Zfx
 intro b m' hm hb
 exact⟨m',hm,Mem.le_refl _,b,rfl,hb⟩
theorem Zm1(s:Sc)(m:Mem)(c0b:Nat)(hr:RepC m s)(hb:m.reads c0b 0 s.cs):IX Tryz.prog 116 [] [.pointer (some ⟨c0b,0,none⟩)] m (s.problems.map λz=>[Zve z]):=by
 apply Zen 0 [] [] c0b 0
 intro l
 refine⟨_,_,_,hb,Zai (Zt2 s m hr) Zwt ?_⟩
 rintro a n c m1 aB ⟨a',c',vs,hv,hT⟩
 simp only[Value.slice.injEq]at hv
 obtain⟨rfl,rfl,rfl⟩:=hv
 refine⟨_,_,_,hb.mono aB,Zai (Zt3 s m1 (hr.mono aB)) Zpp ?_⟩
 rintro a3 n1 c1 m2 aN ⟨a',c',hv,aM⟩
 simp only[Value.slice.injEq]at hv
 obtain⟨rfl,rfl,rfl⟩:=hv
 have lD:=ZlK s
 have dH:=mLt aB aN
 refine⟨λxs _ _ m' q=>∃i:Nat,i<=s.places.length/\xs=[.int .i64 ((Zpq s (s.places.take i)).length:Nat),.int .i64 i]/\q=s.places.length - i,⟨s.places.length,0,by omega,rfl,rfl⟩,?_⟩
 rintro y n2 m3 q aX ⟨i,hi,hx,rfl⟩
 simp only[List.cons.injEq,Value.int.injEq,and_true,true_and]at hx
 obtain⟨rfl,rfl⟩:=hx
 have cV:=mLt dH aX
 have hw:i<=20001->IntKind.i64.wrap ((i:Int)+1)=((i+1:Nat):Int):=λhi=>by rw[Zam (by omega) (by omega)];rfl
 have hw:=hw (by omega)
 refine Zau (λaO=>?_) (λbM=>?_)
 ·have aO:(i:Int) < (s.places.length:Int):=aO
  obtain⟨p,hp⟩:=ZcG (show i < s.places.length by omega)
  have fE:Zpq s (s.places.take (i+1))=Zpq s (s.places.take i)++(if atS s p=0 then[]else[(p,atS s p)]):=by
   unfold Zpq
   rw[List.take_add_one,hp,List.filterMap_append]
   congr 1
   by_cases h:atS s p=0
   ·simp[h]
   ·simp[h]
  obtain⟨b1,o1,ha,eA⟩:=Zan (cs:=Pl.cs) (n:=5) (λ_=>rfl) (aM.mono aX) hp (by omega)
  refine⟨b1,o1,ha,⟨by omega,aO⟩,_,_,_,_,_,eA,λb2=>Zaa rfl ⟨_,_,_,hb.mono cV,?_⟩⟩
  refine Zax (ZBd s a c vs p m3 (hr.mono cV) (hT.mono (mLt aN aX)) (Zj6 s p (zA2 hp))) λm4 bI=>Zab (λh=>?_) (λh=>?_)
  ·have h:¬atS s p=0:=by
    intro e;rw[e]at h;simp at h
   rw[if_neg h]at fE
   refine⟨⟨rfl,Int.natCast_nonneg _,?_⟩,⟨s.places.length - (i+1),by omega,i+1,by omega,?_,rfl⟩,.inr rfl⟩
   ·rw[zA8]
    show(List.map (λz=>[Zve z]) s.problems)[(Zpq s (s.places.take i)).length]?=some [Zve (p,atS s p)]
    rw[List.getElem?_map]
    have:s.problems[(Zpq s (s.places.take i)).length]?=some (p,atS s p):=by
     have e:s.problems=Zpq s (s.places.take (i+1))++Zpq s (s.places.drop (i+1)):=by
      rw[Zjv];unfold Zpq;rw[<-List.filterMap_append,List.take_append_drop]
     rw[e,fE,List.append_assoc,zA4 (Nat.le_refl _)]
     simp
    rw[this];rfl
   ·rw[hw,fE,zA1];rfl
  ·have h:atS s p=0:=by simpa using h
   rw[if_pos h,List.append_nil]at fE
   exact⟨s.places.length - (i+1),by omega,i+1,by omega,by rw[hw,fE],rfl⟩
 ·have bM:¬(i:Int) < (s.places.length:Int):=bM
  obtain rfl:i=s.places.length:=by omega
  left
  rw[List.take_length,<-Zjv,List.length_map]
def Zps(z:Pl×Int):Value:=.tuple #[.agg z.1.cs.toArray,.int .i64 z.2]
theorem Zt4(s:Sc)(m:Mem)(hr:RepC m s):CX Tryz.prog 51 #[s.v] m [] (Ret (Zps s.check)):=by
 apply ZiI
 intro b m1 aB _ b1 b2 b3
 refine Zah (ZfB s m1 (hr.mono aB)) λm2 aN=>Zab (λhl=>Zac (mLt aB aN) ?_) (λhl=>?_)
 ·have hl:s.light=false:=by simpa using hl
  show _=Zps s.check
  unfold Sc.check;rw[hl];rfl
 have hl:s.light=true:=by simpa using hl
 refine Zai (Zpr s m2) (λv m' css h=>by obtain⟨_,rfl,_⟩:=h;rfl) ?_
 rintro g fi ca m3 aX ⟨b4,hv,nV⟩
 obtain⟨rfl,rfl,rfl⟩:=Zcx hv
 have bJ:=mLt aB (mLt aN aX)
 refine⟨_,Zm1 s m3 b4 (hr.mono bJ) nV,λy hy=>?_,λ_ _ _ m' q=>q=0,rfl,?_,?_⟩
 ·obtain⟨z,_,rfl⟩:=List.mem_map.1 hy;rfl
 ·rintro n n1 n2 n3 n4 n5 cs cs1 m4 q bI hq rfl b5
  have hq:(List.map (λz=>[Zve z]) s.problems)[0]?=some [Value.agg #[.int .i64 n,.int .i64 n1,.int .i64 n2,.int .i64 n3,.int .i64 n4,.int .i64 n5]]:=hq
  rw[List.getElem?_map]at hq
  obtain⟨z,hz,i6⟩:=Option.map_eq_some_iff.1 hq
  refine⟨rfl,Zac (mLt bJ bI) ?_⟩
  have hz':s.check=z:=by
   unfold Sc.check;rw[hl,if_pos rfl]
   cases hs:s.problems with
   | nil=>rw[hs]at hz;simp at hz
   | cons x l=>rw[hs]at hz;simpa using hz
  show _=Zps s.check
  rw[hz']
  simp only[Zve,List.cons.injEq,Value.agg.injEq,Array.mk.injEq,Value.int.injEq,true_and,and_true]at i6
  obtain⟨rfl,rfl,rfl,rfl,rfl,rfl⟩:=i6
  rfl
 ·rintro cs cs1 m4 bI hq
  refine Zac (mLt bJ bI) ?_
  have hs:s.problems=[]:=by
   have hq:(List.map (λz=>[Zve z]) s.problems).length=0:=hq
   rw[List.length_map]at hq
   exact List.eq_nil_of_length_eq_zero hq
  show _=Zps s.check
  unfold Sc.check;rw[hl,if_pos rfl,hs];rfl
theorem Zpt(s:Sc)(m:Mem)(hr:RepC m s):CX Tryz.prog 22 #[s.v] m [] (Ret (.bool (s.check.2 == 0))):=by
 apply ZiJ
 intro b m1 aB _
 refine Zai (Zt4 s m1 (hr.mono aB)) (λv _ _ e=>by rw[show v=_ from e];rfl) ?_
 intro n n1 n2 n3 n4 n5 m2 aN hv
 have hv:Value.tuple #[.agg #[.int .i64 n,.int .i64 n1,.int .i64 n2,.int .i64 n3,.int .i64 n4],.int .i64 n5]=Zps s.check:=hv
 simp only[Zps,Value.tuple.injEq,Array.mk.injEq,List.cons.injEq,Value.int.injEq,true_and,and_true]at hv
 intro b2
 refine Zac (mLt aB aN) ?_
 show Value.bool _=Value.bool _
 rw[hv.2]
end Go.Proofs.YtojlhhphofhaoaaGreatDoor
namespace Go.Proofs.YtojlhhphofhaoaaGreatDoor
open Go Go.Eng Go.Proofs Go.RowKit
open Go.Value (int slice agg bool string tuple func)
open Go.IntKind (u8 u64 i64)
set_option maxRecDepth 100000
def ZhG:Env:=EB
theorem Zgv  (m:Mem)(R:RT)(h:
 ∀(b:Nat),m.free b->rtM m (m.add b [string (ByteArray.mk (Array.mk [120])),string (ByteArray.mk (Array.mk [121])),string (ByteArray.mk (Array.mk [122,95,49])),string (ByteArray.mk (Array.mk [97,98,99,100,101,102,103,104,105,106,107,108,
 109,110,111,112]))]) R (slice (some (Addr.mk b 0 none)) 4 4)):CX Tryz.prog 32 #[] m [] R:=
 Zae (E:=ZhG) Zal mix Tryz.func32 [] [] (by kernel_rfl) (Eq.mp (by kernel_rfl) h)
def ZkP:Env:=EB
theorem ZiT  (m:Mem)(R:RT)(h:
 ∀(b:Nat),m.free b->rtM m (m.add b [string (ByteArray.mk (Array.mk [115])),string (ByteArray.mk (Array.mk [116]))]) R (slice (some (Addr.mk b 0 none)) 2 2)):CX Tryz.prog 33 #[] m [] R:=
 Zae (E:=ZkP) Zal mix Tryz.func33 [] [] (by kernel_rfl) (Eq.mp (by kernel_rfl) h)
def ZkQ:Env:=EB
theorem ZiU  (m:Mem)(R:RT)(h:
 ∀(b:Nat),m.free b->rtM m (m.add b [string (ByteArray.mk (Array.mk [97])),string (ByteArray.mk (Array.mk [98])),string (ByteArray.mk (Array.mk [99])),string (ByteArray.mk
 (Array.mk [100]))]) R (slice (some (Addr.mk b 0 none)) 4 4)):CX Tryz.prog 34 #[] m [] R:=
 Zae (E:=ZkQ) Zal mix Tryz.func34 [] [] (by kernel_rfl) (Eq.mp (by kernel_rfl) h)
def ZiV:Env:={ EB with
 dr:=(λi=>bif Nat.beq i 3 then[⟨0,[],[],none,[],[]⟩,⟨1,[],[],none,[0],[]⟩,⟨2,[],[],none,[],[]⟩,⟨3,[],[],none,[],[]⟩,⟨4,[],[],none,[3],[]⟩,⟨5,[],[],none,[3,4],[]⟩,⟨6,[],[],none,[2,3,4,5],[]⟩,⟨7,[],[],none,[0,1,2,3,4,5,6],[]⟩,⟨8,[],[],none,[0,1,2,3,4,5,6,7],[]⟩,⟨9,[],[],none,[0,1,2,3,4,5,6,7,8],[]⟩,⟨10,[],[],none,[0,1,2,3,4,5,6,7,8,9],[]⟩]else[])
 ldF:=(λi=>bif Nat.beq i 16 then some (.int .u8)else none) }
theorem ZhH(p0:Int)(c0b c0o:Nat)(m:Mem)(R:RT)(h:
 ∃(v:Value),lE (m c0b (c0o+1)) λyL=>yL=some v/\chk (Zbd v) (br ((↑(slN v):Int) == (0:Int)) (rtM m m R (int i64 0)) (∃(v:Value),yL=some v/\∃(v_1:Value),lE (↑(slN v_1):Int) λyL_1=>yL =
 some v_1/\chk (Zbd v_1) (yL_1≠(0:Int)/\chk (Zbd v) (atA (slA v) λb o=>Zag (Int.tmod p0 yL_1) (slN v)/\∃(v:Value),m b (o+Int.toNat (Int.tmod p0 yL_1)*1)=some v/\∃(n:Int),v=int u8 n/\
 rtM m m R (int i64 (i64.wrap n))))))):CX Tryz.prog 31 #[.int .i64 p0,.pointer (some ⟨c0b,c0o,none⟩)] m [] R:=
 Zae (E:=ZiV) Zal mix Tryz.func31 [.v (.int .i64 p0),.v (.pointer (some ⟨c0b,c0o,none⟩))] [] (by kernel_rfl) (Eq.mp (by kernel_rfl) h)
def ZiW:Env:={ EB with
 loops:=(λi=>bif Nat.beq i 5 then⟨[(3,.int .i64),(14,.int .i64)],[],[],false⟩ else⟨[],[],[],false⟩)
 frzNew:=[1] }
theorem ZhI(aA aC aD aE aU aT aS:Int)(aQ:Option Addr)(aP aR:Nat)(m:Mem)(R:RT)(h:
 lV [int u8 aA,int u64 aC,int u64 aD,int u64 aE,int u64 aU,int i64 aT,int i64 aS,slice aQ aP aR] λxL=>fzM m xL λb m'=>lE [some (Box.mk b xL 52 8 true true)] λxL=>br (aA ==
 (6:Int)) (∃(I:IT),inI I [int i64 (i64.wrap ((0:Int)+(1:Int))),int i64 0] [] [] m'/\∀(n n_1:Int)(m'_1:Mem)(n_2:Nat),m'.le m'_1->I [int i64 n,int i64 n_1] [] [] m'_1 n_2->br (decide
 (n_1 < (↑aP:Int))) (atA aQ λb o=>Zag n_1 aP/\∃v v_1 v_2 v_3 v_4 v_5 v_6 v_7:Value,lV [v,v_1,v_2,
 v_3,v_4,v_5,v_6,v_7] λxL_1=>m'_1.reads b (o+Int.toNat n_1*8) xL_1/\∀(b:Nat),chk (v.oneCell'&&(v_1.oneCell'&&(v_2.oneCell'&&(v_3.oneCell'&&(v_4.oneCell' &&
 (v_5.oneCell'&&(v_6.oneCell'&&(v_7.oneCell'&&true)))))))) (kI Tryz.prog 66 [agg (Array.mk xL_1)] m'_1 λn_3 m'=>Zad xL/\nxI n_2 I [int i64 (i64.wrap (n+n_3)),int i64
 (i64.wrap (n_1+(1:Int)))] [] [] m')) (rtM m m'_1 R (int i64 n))) (∃(I:IT),inI I [int i64 0,int i64 0] [] [] m'/\∀(n n_1:Int)(m'_1:Mem)(n_2:Nat),m'.le m'_1->I [int i64 n,int i64 n_1] []
 [] m'_1 n_2->br (decide (n_1 < (↑aP:Int))) (atA aQ λb o=>Zag n_1 aP/\∃v v_1 v_2 v_3 v_4 v_5 v_6 v_7:Value,lV [v,v_1,v_2,v_3,v_4,v_5,v_6,v_7] λxL_1=>m'_1.reads b (o+Int.toNat n_1*8) xL_1/\∀(b:Nat),chk (v.oneCell'&&(v_1.oneCell'&&(v_2.oneCell'&&(v_3.oneCell' &&
 (v_4.oneCell'&&(v_5.oneCell'&&(v_6.oneCell'&&(v_7.oneCell'&&true)))))))) (kI Tryz.prog 66 [agg (Array.mk xL_1)] m'_1 λn_3 m'=>Zad xL/\nxI n_2 I [int i64 (i64.wrap (n +
 n_3)),int i64 (i64.wrap (n_1+(1:Int)))] [] [] m')) (rtM m m'_1 R (int i64 n)))):CX Tryz.prog 66 #[.agg #[.int .u8 aA,.int .u64 aC,.int .u64 aD,.int .u64 aE,.int .u64 aU,.int .i64 aT,.int .i64 aS,.slice aQ aP aR]] m [] R:=
 Zae (E:=ZiW) Zal mix Tryz.func66 [.v (.agg #[.int .u8 aA,.int .u64 aC,.int .u64 aD,.int .u64 aE,.int .u64 aU,.int .i64 aT,.int .i64 aS,.slice aQ aP aR])] [] (by kernel_rfl) (Eq.mp (by kernel_rfl) h)
def ZhJ:Env:={ EB with
 loops:=(λi=>bif Nat.beq i 6 then⟨[(23,.int .i64)],[2],[(33,5)],false⟩ else⟨[],[],[],false⟩)
 joins:=(λi=>bif Nat.beq i 1 then some [(16,.bool)]else none)
 dr:=(λi=>bif Nat.beq i 8 then[⟨0,[2],[],none,[],[]⟩,⟨1,[2],[],none,[0],[]⟩,⟨2,[7],[],none,[],[]⟩,⟨3,[],[],none,[],[]⟩,⟨4,[],[],none,[2,3],[]⟩,⟨5,[32],[32],none,[2,3,4],[4]⟩,⟨6,[32],[],some 33,[0,1,2,3,4,5],[5]⟩,⟨7,[2],[],none,[0,1,2,3,4,5,6],[]⟩,⟨8,[2],[2],none,[0,1,2,3,4,5,6,7],[]⟩]else[])
 tokOf:=(λi=>bif Nat.beq i 33 then 33 else 0) }
theorem Zgw(aA:Int)(aC:Value)(aD:ByteArray)(aE:Int)(aY:Option Addr)(aV bA:Nat)(p1:Int)(m:Mem)(R:RT)(h:
 ∀(b b_1:Nat),∃(b_2:Bool),lE (some (Box.mk b_1 [int u8 0,Value.float .f64 0,string bE0,int i64 0,slice none 0 0] 133 5 false true)) λyL=>lE [yL,some (Box.mk b [int u8
 aA,aC,string aD,int i64 aE,slice aY aV bA] 133 5 false true)] λxL=>br (aA == (10:Int)) (Zad xL/\[bool (decide (aE > p1))]=[bool b_2]) (Zad xL/\[bool false]=[bool b_2])/\br
 b_2 (rtM m m R (agg (Array.mk [int u8 9,Value.float .f64 0,string (ByteArray.mk (Array.mk [121])),int i64 0,slice none 0 0]))) (∃(I:IT),inI I [int i64 0] [[int u8 aA,aC,string aD,int
 i64 aE,slice none 0 0]] [slice none 0 0] m/\∀(n:Int)(cs:List Value)(a:Option Addr)(n_1 c:Nat)(m':Mem)(n_2:Nat),m.le m'->I [int i64 n] [cs] [slice a n_1 c] m' n_2->br (decide (n < (↑aV:
 Int))) (atA aY λb_3 o=>Zag n aV/\∃v v_1 v_2 v_3 v_4:Value,lV [agg (Array.mk [v,v_1,v_2,v_3,v_4]),int i64 p1] λxL=>m'.reads b_3 (o +
 Int.toNat n*5) [v,v_1,v_2,v_3,v_4]/\∀(b_4:Nat),chk (v.oneCell'&&(v_1.oneCell'&&(v_2.oneCell'&&(v_3.oneCell'&&(v_4.oneCell'&&true))))) (∃(f:Fx),Eng.Zvs cs 4 λv
 => ∃(R:RT),lE (slN v+1) λyL_1=>R=f 4 xL m'/\CX Tryz.prog 104 (Array.mk xL) m' [] R/\Za1 (Shape.agg [Shape.int u8,Shape.any,Shape.str,Shape.int i64,Shape.slice]) R/\∀(n_3:Int)(v_5:Value) (s:
 ByteArray) (n_4:Int) (a_3:Option Addr) (n_5 c_1:Nat) (m'_1:Mem),lV [int u8 n_3,v_5,string s,int i64 n_4,slice a_3 n_5 c_1] λxL=>m'.le m'_1->R (agg (Array.mk xL)) m'_1 []->∀(b_5:Nat),lM
 (m'_1.add b_5 xL) λmL=>m'_1.free b_5->chk (Zbd v&&true) ((Tok.mk (slice a n_1 c) 5=Tok.mk v 5\/v=slice none 0 0\/slC v < yL_1)/\∃(xs:List Value),∃(ys:List Value),xs.length=slN v *
 5/\ys.length=1*5/\rowRd mL (slA v) xs/\rowRd mL (some (Addr.mk b_5 0 none)) ys/\(∀(u:Value),u∈ys->u.oneCell'=true)/\yL_1*64<=140737488355328/\yL_1<=9223372036854775807/\∀(a':Option
 Addr) (c':Nat) (m'_2:Mem),mL.le m'_2->rowRd m'_2 a' (List.append xs ys)->chk (Nat.ble 5 (cs.length)) (∀(M:Mem),m'.le M->m'_1.le M->mL.le M->m'_2.le M->Zad [yL,some (Box.mk b
 [] 133 5 false true)]/\nxI n_2 I [int i64 (i64.wrap (n+(1:Int)))] [ZaC cs 4 [slice a' yL_1 c']] [slice a' yL_1 c'] M)))) (chk (Nat.beq (cs.length) 5&&Zdq cs) (rtM m m' R (agg (Array.mk cs)))))):CX Tryz.prog 104 #[.agg #[.int .u8 aA,aC,.string aD,.int .i64 aE,.slice aY aV bA],.int .i64 p1] m [] R:=
 Zae (E:=ZhJ) Zal mix Tryz.func104 [.v (.agg #[.int .u8 aA,aC,.string aD,.int .i64 aE,.slice aY aV bA]),.v (.int .i64 p1)] [] (by kernel_rfl) (Eq.mp (by kernel_rfl) h)
def Zgx:Env:={ EB with
 loops:=(λi=>bif Nat.beq i 3 then⟨[(7,.slice),(18,.int .i64)],[],[(56,8)],false⟩ else⟨[],[],[],false⟩)
 joins:=(λi=>bif Nat.beq i 11 then some [(47,.bool)]else none)
 tokOf:=(λi=>bif Nat.beq i 34 then 56 else bif Nat.beq i 56 then 56 else bif Nat.beq i 68 then 56 else bif Nat.beq i 79 then 56 else bif Nat.beq i 93 then 56 else 0)
 frzNew:=[4]
 cuts:=(λi=>bif Nat.beq i 11 then some ⟨[(35,.bool)],[],[],false⟩ else bif Nat.beq i 15 then some ⟨[(57,.bool)],[],[],false⟩ else bif Nat.beq i 20 then some ⟨[(80,.bool)],[],[],false⟩ else none)
 ldF:=(λi=>bif Nat.beq i 53 then some (.str)else bif Nat.beq i 65 then some (.str)else bif Nat.beq i 76 then some (.str)else bif Nat.beq i 21 then some (.int .u8)else bif Nat.beq i 45 then some (.int .u8)else none) }
theorem ZfC(p0a:Option Addr)(p0n p0c:Nat)(bK:Int)(bL:Value)(bN:ByteArray)(bO:Int)(cD:Option Addr)(cA cH:Nat)(p2:Int)(m:Mem)(R:RT)(h:
 lV [int u8 bK,bL,string bN,int i64 bO,slice cD cA cH] λxL=>lV (int u8 4::string bE0::int i64 0::xL) λaw=>lE (if(5:Int) < (↑p0n:Int)then(5:Int)else
 (↑p0n:Int)) λyL=>lE (i64.wrap ((if(9:Int) < p2 then(9:Int)else p2)+(1:Int))) λav=>fzM m xL λb m'=>lE [some (Box.mk b xL 133 5 true true)] λxL=>((0:Int)<=yL/\yL<=(↑p0c:
 Int))/\∃(I:IT),inI I [slice none 0 0,int i64 0] [] [slice none 0 0] m'/\∀(a:Option Addr)(n c:Nat)(aj:Int)(ax:Option Addr)(ay az:Nat)(ae:Mem)(ad:Nat),lX (slice ax ay az) λao=>lX (slice a
 n c) λac=>lE (Tok.mk ac 8) λak=>lE (n*8) λal=>lE (n+1) λaa=>lE (aa*96) λam=>lE (i64.wrap ((↑n:Int) - (1:Int))) λap=>lE (Tok.mk ao 8) λai=>lV [int i64 (i64.wrap (aj+(1:Int)))] λaf=>lE [some ai] λab=>m'.le ae->I [ac,int i64 aj] [] [ao] ae ad->br (decide (aj < (↑(Int.toNat yL - 0):Int))) (atA (ZaS p0a 0 p0c 1) λb o=>Zag aj (Int.toNat yL - 0)
 /\ ∃(v:Value),ae b (o+Int.toNat aj*1)=some v/\∃(aq:Int),lE (Int.tmod aq (8:Int)) λyL=>lE (i64.wrap (Int.tdiv (i64.wrap aq) (8:Int))) λag=>lV [int u8 3,string bE0,int i64 (Int.tmod ag av),int u8 0,Value.float .f64 0,string bE0,int i64 0,slice none 0 0] λa0=>v=int u8 aq/\(8:Int)≠(0:Int)/\(8:Int)≠(0:Int)/\
 ∃(J:JT),br (yL == (0:Int)) (Zad xL/\ab=ab/\J [bool (yL == (0:Int))] [] [] ae) (Zad xL/\ab=ab/\J [bool (yL == (1:Int))] [] [] ae)/\∀(b:Bool)(m':Mem),ae.le m'->J [bool b] [] [] m'->br
 b (∃(b:Bool),br (decide (ap < (0:Int))) (Zad xL/\ab=ab/\[bool true]=[bool b]) (atA a λa1 o=>Zag ap n/\∃(v:Value),m' a1 (o+Int.toNat ap*8+0)=some v/\∃(n:Int),v=int u8 n/\
 Zad xL/\ab=ab/\[bool !n == (1:Int)]=[bool b])/\br b (∀(b:Nat),lM (m'.add b [string (ByteArray.mk (Array.mk [97])),string (ByteArray.mk (Array.mk [45])),string (ByteArray.mk
 (Array.mk [97,98,32])),string (ByteArray.mk (Array.mk [0,255])),string (ByteArray.mk (Array.mk [49,50]))]) λmL=>m'.free b->(5:Int)
 ≠ (0:Int)/\Zag (Int.tmod ag (5:Int)) 5/\Eng.Zvs [string (ByteArray.mk (Array.mk [97])),string (ByteArray.mk (Array.mk [45])),string (ByteArray.mk (Array.mk [97,98,
 32])),string (ByteArray.mk (Array.mk [0,255])),string (ByteArray.mk (Array.mk [49,50]))] (Int.toNat (Int.tmod ag (5:Int))*1) λv=>∃(s:ByteArray),lV [int
 u8 1,string s,int i64 0,int u8 0,Value.float .f64 0,string bE0,int i64 0,slice none 0 0] λan=>v=string s/\∀(b:Nat),lM (mL.add b an) λar=>mL.free b->(ai
 = ak\/ac=slice none 0 0\/c < aa)/\∃(xs:List Value),∃(ys:List Value),xs.length=al/\ys.length=1*8/\rowRd ar a xs/\rowRd ar (some (Addr.mk b 0 none)) ys/\(∀(u:Value),u∈ys->
 u.oneCell'=true)/\am<=140737488355328/\aa<=9223372036854775807/\∀(a':Option Addr)(c':Nat)(m':Mem),ar.le m'->rowRd m' a' (List.append xs ys)->Zad xL/\nxI ad I (slice a' aa c'::af) []
 [slice a' aa c'] m') (Zad xL/\nxI ad I (ac::af) [] [ao] m')) (∃(J:JT),br (yL == (2:Int)) (Zad xL/\ab=ab/\J [bool (yL == (2:Int))] [] [] m') (Zad xL/\ab=ab/\J [bool (yL == (3:Int))] [] []
 m')/\∀(b:Bool)(ah:Mem),m'.le ah->J [bool b] [] [] ah->br b (kS Tryz.prog 33 [] ah λau n a2 m'=>(2:Int)≠(0:Int)/\atA au λb o=>Zag (Int.tmod ag (2:Int)) n/\∃(v:Value),m' b (o +
 Int.toNat (Int.tmod ag (2:Int))*1)=some v/\∃(s:ByteArray),lV [int u8 2,string s,int i64 0,int u8 0,Value.float .f64 0,string bE0,int i64 0,slice none 0 0] λan=>v
 = string s/\∀(b:Nat),lM (m'.add b an) λmL=>m'.free b->(ai=ak\/ac=slice none 0 0\/c < aa)/\∃(xs:List Value),∃(ys:List Value),xs.length=al/\ys.length=1*8/\rowRd mL a xs
 /\ rowRd mL (some (Addr.mk b 0 none)) ys/\(∀(u:Value),u∈ys->u.oneCell'=true)/\am<=140737488355328/\aa<=9223372036854775807/\∀(a':Option Addr)(c':Nat)(m':Mem),mL.le m'->rowRd m' a'
 (List.append xs ys)->Zad xL/\nxI ad I (slice a' aa c'::af) [] [slice a' aa c'] m') (br (yL == (4:Int)) (kS Tryz.prog 32 [] ah λau n a2 m'=>(4:Int)≠(0:Int)/\atA au λb o=>Zag (Int.tmod ag (4
 : Int)) n/\∃(v:Value),m' b (o+Int.toNat (Int.tmod ag (4:Int))*1)=some v/\∃(s:ByteArray),lV [int u8 2,string s,int i64 0,int u8 0,Value.float .f64 0,string bE0,
 int i64 0,slice none 0 0] λan=>v=string s/\∀(b:Nat),lM (m'.add b an) λmL=>m'.free b->(ai=ak\/ac=slice none 0 0\/c < aa)/\∃(xs:List Value),∃(ys:List Value),xs.length=al/\
 ys.length=1*8/\rowRd mL a xs/\rowRd mL (some (Addr.mk b 0 none)) ys/\(∀(u:Value),u∈ys->u.oneCell'=true)/\am<=140737488355328/\aa<=9223372036854775807/\∀(a':Option Addr)(c':Nat) (m'
 : Mem),mL.le m'->rowRd m' a' (List.append xs ys)->Zad xL/\nxI ad I (slice a' aa c'::af) [] [slice a' aa c'] m') (∃(J:JT),br (yL == (5:Int)) (Zad xL/\ab=ab/\J [bool (yL == (5:Int))] [] [] ah)
 (Zad xL/\ab=ab/\J [bool (yL == (6:Int))] [] [] ah)/\∀(b:Bool)(m':Mem),ah.le m'->J [bool b] [] [] m'->br b (br (decide (p2 ≥ (0:Int))) (av≠(0:Int)/\∀(b:Nat),lM (m'.add b a0) λmL
 => m'.free b->(ai=ak\/ac=slice none 0 0\/c < aa)/\∃(xs:List Value),∃(ys:List Value),xs.length=al/\ys.length=1*8/\rowRd mL a xs/\rowRd mL (some (Addr.mk b 0 none)) ys/\(∀(u:
 Value),u∈ys->u.oneCell'=true)/\am<=140737488355328/\aa<=9223372036854775807/\∀(a':Option Addr)(c':Nat)(m':Mem),mL.le m'->rowRd m' a' (List.append xs ys)->Zad xL/\nxI ad I (slice a'
 aa c'::af) [] [slice a' aa c'] m') (Zad xL/\nxI ad I (ac::af) [] [ao] m')) (∀(b:Nat),lM (m'.add b aw) λmL=>m'.free b->(ai=ak\/ac=slice none 0 0\/c < aa)/\∃(xs:List Value),∃(ys:
 List Value),xs.length=al/\ys.length=1*8/\rowRd mL a xs/\rowRd mL (some (Addr.mk b 0 none)) ys/\(∀(u:Value),u∈ys->u.oneCell'=true)/\am<=140737488355328/\aa<=9223372036854775807/\∀
 (a':Option Addr) (c':Nat) (m':Mem),mL.le m'->rowRd m' a' (List.append xs ys)->Zad xL/\nxI ad I (slice a' aa c'::af) [] [slice a' aa c'] m'))))) (rtM m ae R ac)):CX Tryz.prog 106 #[.slice p0a p0n p0c,.agg #[.int .u8 bK,bL,.string bN,.int .i64 bO,.slice cD cA cH],.int .i64 p2] m [] R:=
 Zae (E:=Zgx) Zal mix Tryz.func106 [.v (.slice p0a p0n p0c),.v (.agg #[.int .u8 bK,bL,.string bN,.int .i64 bO,.slice cD cA cH]),.v (.int .i64 p2)] [] (by kernel_rfl) (Eq.mp (by kernel_rfl) h)
def ZiX:Env:={ EB with
 dr:=(λi=>bif Nat.beq i 4 then[⟨0,[],[],none,[],[]⟩,⟨1,[2],[],none,[],[]⟩,⟨2,[2],[],none,[1],[]⟩,⟨3,[],[],none,[1,2],[]⟩,⟨4,[],[],none,[0,1,2,3],[]⟩,⟨5,[],[],none,[0,1,2,3,4],[0]⟩,⟨6,[2],[],none,[],[]⟩,⟨7,[2],[],none,[6],[]⟩,⟨8,[5],[],none,[],[]⟩,⟨9,[],[],none,[],[]⟩,⟨10,[],[],none,[0,6,7,8,9],[0]⟩,⟨11,[],[],none,[0,1,2,3,4,5,6,7,8,9,10],[]⟩,⟨12,[4],[4],none,rg 0 12,[]⟩]else bif Nat.beq i 6 then[⟨0,[],[],none,[],[]⟩,⟨1,[2],[],none,[],[]⟩,⟨2,[2],[],none,[1],[]⟩,⟨3,[],[],none,[1,2],[]⟩,⟨4,[],[],none,[0,1,2,3],[]⟩,⟨5,[],[],none,[0,1,2,3,4],[0]⟩,⟨6,[5],[],none,[],[]⟩,⟨7,[],[],none,[0,1,2,3,4,5,6],[]⟩,⟨8,[4],[4],none,[0,1,2,3,4,5,6,7],[]⟩]else[])
 frzNew:=[2]
 ldF:=(λi=>bif Nat.beq i 26 then some (.str)else bif Nat.beq i 40 then some (.str)else none) }
theorem ZhK(aA aC:Int)(aJ:Option Addr)(aG aK:Nat)(jD:Option Addr)(iU ip:Nat)(p1:Int)(m:Mem)(R:RT)(h:
 lX (slice aJ aG aK) λyL=>lV [int i64 p1] λxL=>lE (if(8:Int) < (↑iU:Int)then(8:Int)else(↑iU:Int)) λac=>fzM m [int u8 aA,int u8 aC,yL,slice jD iU ip] λb m'=>
 ∀(b:Nat),((0:Int)<=ac/\ac<=(↑ip:Int))/\∃(R_1:RT),True/\CX Tryz.prog 105 (Array.mk [slice (ZaS jD 0 ip 3) (Int.toNat ac - 0) (ip - 0)]) m' [] R_1/\Za1 (Shape.agg [Shape.int u8,
 Shape.any,Shape.str,Shape.int i64,Shape.slice]) R_1/\∀(n:Int)(v:Value)(s:ByteArray)(ah:Int)(a:Option Addr)(ai c:Nat)(ab:Mem),lX (agg (Array.mk [int u8 n,v,string s,int i64 ah,slice a ai
 c])) λaf=>m'.le ab->R_1 af ab []->∃(R_2:RT),True/\CX Tryz.prog 104 (Array.mk (af::xL)) ab [] R_2/\Za1 (Shape.agg [Shape.int u8,Shape.any,Shape.str,Shape.int i64,Shape.slice]) R_2/\∀(n:Int) (v
 : Value) (s:ByteArray) (aj:Int) (a:Option Addr) (ak c:Nat) (m':Mem),lV [int u8 n,v,string s,int i64 aj,slice a ak c] λad=>lV (yL::agg (Array.mk ad)::xL) λxL=>ab.le m'->R_2 (agg
 (Array.mk ad)) m' []->∀(b:Nat),chk (v.oneCell'&&true) ((4:Int)≠(0:Int)/\br (Int.tmod aA (4:Int) == (2:Int)) (∃(f:Fx),∃(R_3:RT),R_3=f 0 [] m'/\CX Tryz.prog 33 (Array.mk []) m' [] R_3
 /\ Za1 Shape.slice R_3/\∀(a:Option Addr)(n c:Nat)(aa:Mem),m'.le aa->R_3 (slice a n c) aa []->(2:Int)≠(0:Int)/\atA a λb o=>Zag (Int.tmod aC (2:Int)) n/\∃(v:Value),aa b (o +
 Int.toNat (Int.tmod aC (2:Int))*1)=some v/\∃(s:ByteArray),v=string s/\∃(R_4:RT),R_4=f 10 xL aa/\CX Tryz.prog 106 (Array.mk xL) aa [] R_4/\Za1 Shape.slice R_4/\∀(a:Option Addr)(n c:Nat)
 (ae:Mem),aa.le ae->R_4 (slice a n c) ae []->∀(M:Mem),m'.le M->aa.le M->ae.le M->rtM m M R (agg (Array.mk [int u8 2,string s,slice a n c,int u8 0,Value.float .f64 0,string
 bE0,int i64 0,slice none 0 0]))) (br (Int.tmod aA (4:Int) == (3:Int)) (∃(f:Fx),∃(R_3:RT),R_3=f 0 [] m'/\CX Tryz.prog 32 (Array.mk []) m' [] R_3/\Za1 Shape.slice R_3/\∀(a:
 Option Addr) (n c:Nat) (aa:Mem),m'.le aa->R_3 (slice a n c) aa []->(4:Int)≠(0:Int)/\atA a λb o=>Zag (Int.tmod aC (4:Int)) n/\∃(ag:Value),aa b (o+Int.toNat (Int.tmod aC (4:Int))
 * 1)=some ag/\∃(s:ByteArray),ag=string s/\chk (v.oneCell'&&true) (∀(M:Mem),m'.le M->aa.le M->rtM m M R (agg (Array.mk (int u8 3::string s::slice none 0 0::ad))))) (kS Tryz.prog 106
 xL m' λa n c m'=>rtM m m' R (agg (Array.mk [int u8 1,string bE0,slice a n c,int u8 0,Value.float .f64 0,string bE0,int i64 0,slice none 0 0])))))):CX Tryz.prog 67 #[.agg #[.int .u8 aA,.int .u8 aC,.slice aJ aG aK,.slice jD iU ip],.int .i64 p1] m [] R:=
 Zae (E:=ZiX) Zal mix Tryz.func67 [.v (.agg #[.int .u8 aA,.int .u8 aC,.slice aJ aG aK,.slice jD iU ip]),.v (.int .i64 p1)] [] (by kernel_rfl) (Eq.mp (by kernel_rfl) h)
def Zm2:Env:={ EB with
 loops:=(λi=>bif Nat.beq i 18 then⟨[(65,.int .i64)],[5],[(75,8)],false⟩ else⟨[],[],[],false⟩)
 dr:=(λi=>bif Nat.beq i 4 then[⟨0,[2],[],none,[],[]⟩,⟨1,[2],[],none,[0],[]⟩,⟨2,[],[],none,[0,1],[]⟩,⟨3,[],[],none,[0,1,2],[]⟩,⟨4,[],[],none,[0,1,2,3],[]⟩,⟨5,[5],[],none,[],[]⟩,⟨6,[5],[5],none,[5],[]⟩,⟨7,[5],[],none,[0,1,2,3,4,5,6],[]⟩,⟨8,[5],[5],none,[0,1,2,3,4,5,6,7],[]⟩]else bif Nat.beq i 9 then[⟨0,[2],[],none,[],[]⟩,⟨1,[2],[],none,[0],[]⟩,⟨2,[],[],none,[0,1],[]⟩,⟨3,[],[],none,[0,1,2],[]⟩,⟨4,[2],[],none,[],[]⟩,⟨5,[2],[],none,[4],[]⟩,⟨6,[],[],none,[4,5],[]⟩,⟨7,[],[],none,[4,5,6],[]⟩,⟨8,[2],[],none,[],[]⟩,⟨9,[2],[],none,[8],[]⟩,⟨10,[],[],none,[8,9],[]⟩,⟨11,[],[],none,[0,1,2,3,4,5,6,7,8,9,10],[]⟩,⟨12,[5],[],none,rg 0 12,[]⟩,⟨13,[5],[5],none,rg 0 13,[]⟩]else bif Nat.beq i 13 then[⟨0,[46],[46],none,[],[]⟩,⟨1,[2],[],none,[],[]⟩,⟨2,[2],[],none,[1],[]⟩,⟨3,[],[],none,[1,2],[]⟩,⟨4,[46],[],none,[0,1,2,3],[]⟩,⟨5,[46],[],none,[0,1,2,3,4],[0]⟩,⟨6,[5],[],none,[],[]⟩,⟨7,[5],[5],none,[6],[]⟩,⟨8,[5],[],none,[0,1,2,3,4,5,6,7],[]⟩,⟨9,[5],[5],none,[0,1,2,3,4,5,6,7,8],[]⟩]else bif Nat.beq i 20 then[⟨0,[5],[],none,[],[]⟩,⟨1,[5],[],none,[0],[]⟩,⟨2,[8],[],none,[],[]⟩,⟨3,[],[],none,[],[]⟩,⟨4,[],[],none,[2,3],[]⟩,⟨5,[74],[74],none,[2,3,4],[4]⟩,⟨6,[74],[],some 75,[0,1,2,3,4,5],[5]⟩,⟨7,[5],[],none,[0,1,2,3,4,5,6],[]⟩,⟨8,[5],[5],none,[0,1,2,3,4,5,6,7],[]⟩]else bif Nat.beq i 24 then[⟨0,[],[],none,[],[]⟩,⟨1,[],[],none,[],[]⟩,⟨2,[],[],none,[],[]⟩,⟨3,[],[],none,[1,2],[]⟩,⟨4,[],[],none,[0,1,2,3],[]⟩,⟨5,[],[],none,[0,1,2,3,4],[0]⟩,⟨6,[5],[],none,[0,1,2,3,4,5],[]⟩,⟨7,[5],[5],none,[0,1,2,3,4,5,6],[]⟩]else[])
 tokOf:=(λi=>bif Nat.beq i 75 then 75 else 0)
 frzNew:=[2]
 cuts:=(λi=>bif Nat.beq i 8 then some ⟨[(21,.bool)],[],[],false⟩ else bif Nat.beq i 13 then some ⟨[(43,.bool)],[],[],false⟩ else bif Nat.beq i 17 then some ⟨[(6,.int .i64)],[5],[],false⟩ else bif Nat.beq i 26 then some ⟨[],[5],[],false⟩ else none)
 ldF:=(λi=>bif Nat.beq i 12 then some (.int .u8)else bif Nat.beq i 27 then some (.int .u8)else bif Nat.beq i 31 then some (.int .u8)else bif Nat.beq i 48 then some (.int .u8)else bif Nat.beq i 15 then some (.int .u8)else bif Nat.beq i 79 then some (.int .u8)else bif Nat.beq i 51 then some (.str)else bif Nat.beq i 89 then some (.str)else none) }
theorem ZkR(aA aC aD aE:Int)(aY:Option Addr)(aV bA:Nat)(jE:Option Addr)(iV iW:Nat)(p1:Int)(m:Mem)(R:RT)(h:
 lX (slice aY aV bA) λyL=>lX (int u8 aC) λaf=>lE (if(3:Int) < (↑iV:Int)then(3:Int)else(↑iV:Int)) λag=>lV [int u8 aA,af,int u8 aD,int u8 aE,yL,slice jE iV
 iW] λxL=>fzM m xL λb m'=>∀(az aw:Nat),∃(J:JT),lE [some (Box.mk az [int u8 0,bool false,bool false,int u8 0,int u64 0,int u64 0,int u64 0,int u64 0,int i64 0,int i64 0,slice none 0 0,
 string bE0,int i64 0,slice none 0 0,string bE0,int i64 0] 57 16 false true),some (Box.mk b xL 96 6 true true)] λxL=>lE (some (Box.mk aw [] 57 16 false true) ::
 xL) λad=>lE (some (Box.mk aw [int u8 0,bool false,bool false,int u8 0,int u64 0,int u64 0,int u64 0,int u64 0,int i64 0,int i64 0,slice none 0 0,string bE0,int i64 0,slice none
 0 0,string bE0,int i64 0] 57 16 false true)::xL) λxL=>(∃(n:Int),lE (Int.tmod n (8:Int)) λaa=>int u8 aA=int u8 n/\(8:Int)≠(0:Int)/\∃(ah:JT),br (aa == (0:
 Int)) (Zad xL/\ah [bool (aa == (0:Int))] [] [] m') (br (aa == (1:Int)) (Zad xL/\ah [bool (aa == (1:Int))] [] [] m') (Zad xL/\ah [bool (aa == (2:Int))] [] [] m'))/\∀(b:Bool)(ab:Mem),m'.le ab->ah [bool b] [] [] ab->br b (∃(f:Fx),∃(n:Int),af=int u8 n/\(5:Int)≠(0:Int)/\∃(ai:Int),af=int u8 ai/\(7:Int)≠(0:Int)/\∃(R:RT),R=f 10 [yL] ab/\CX Tryz.prog 65 (Array.mk [yL]) ab
 [] R/\Za1 (shT) R/\∀(ae aj ak al am an ax:Int)(a:Option Addr)(ay c:Nat)(m':Mem),lX (agg (Array.mk [int u8 ae,int u64 aj,int u64 ak,int u64 al,int u64 am,int i64 an,int i64 ax,slice a ay c])) fun
 yL=>ab.le m'->R yL m' []->∀(M:Mem),ab.le M->m'.le M->kI Tryz.prog 66 [yL] M λa0 m'=>Zad ad/\J [int i64 a0] [[int u8 1,bool (Int.tmod n (5:Int) == (4:Int)),bool (Int.tmod ai (7:Int)
 == (6:Int)),int u8 ae,int u64 aj,int u64 ak,int u64 al,int u64 am,int i64 an,int i64 ax,slice a ay c,string bE0,int i64 0,slice none 0 0,string bE0,int
 i64 0]] [] m') (∃(ap:JT),br (aa == (3:Int)) (Zad xL/\ap [bool (aa == (3:Int))] [] [] ab) (Zad xL/\ap [bool (aa == (4:Int))] [] [] ab)/\∀(b:Bool)(m':Mem),ab.le m'->ap [bool b] [] [] m'->br
 b (∀(b:Nat),m'.free b->∃(n:Int),af=int u8 n/\(6:Int)≠(0:Int)/\Zag (Int.tmod n (6:Int)) 6/\Eng.Zvs [string (ByteArray.mk (Array.mk [97])),string (ByteArray.mk (Array.mk [98])),string (ByteArray.mk (Array.mk [97,98])),string (ByteArray.mk (Array.mk [98,97])),string (ByteArray.mk (Array.mk [97,97,98])),
 string (ByteArray.mk (Array.mk [99]))] (Int.toNat (Int.tmod n (6:Int))*1) λv=>∃(s:ByteArray),v=string s/\∀(M:Mem),m'.le M->Mem.le (m'.add b [string (ByteArray.mk (Array.mk [97])),string (ByteArray.mk (Array.mk [98])),string (ByteArray.mk (Array.mk [97,98])),string (ByteArray.mk (Array.mk [98,97])),string (ByteArray.mk (Array.mk
 [97,97,98])),string (ByteArray.mk (Array.mk [99]))]) M->Zad ad/\J [int i64 0] [[int u8 2,bool false,bool false,int u8 0,int u64 0,int u64 0,int u64 0,int u64 0,int
 i64 0,int i64 0,slice none 0 0,string s,int i64 0,slice none 0 0,string bE0,int i64 0]] [] M) (br (aa == (5:Int)) (Zad ad/\J [int i64 (-1:Int)] [[int u8 3,bool false,bool false,
 int u8 0,int u64 0,int u64 0,int u64 0,int u64 0,int i64 0,int i64 0,slice none 0 0,string bE0,int i64 0,slice none 0 0,string bE0,int i64 0]] [] m') (∃(n:
 Int),int u8 aD=int u8 n/\(8:Int)≠(0:Int)/\Zad ad/\J [int i64 (-1:Int)] [[int u8 4,bool false,bool false,int u8 0,int u64 0,int u64 0,int u64 0,int u64 0,int i64 0,int i64 0,slice none 0 0,
 string bE0,int i64 (i64.wrap ((1:Int)+i64.wrap (Int.tmod n (8:Int)))),slice none 0 0,string bE0,int i64 0]] [] m'))))/\∀(n:Int) (cs:List
 Value) (ab:Mem),lV [int i64 n] λxL=>m'.le ab->J xL [cs] [] ab->((0:Int)<=ag/\ag<=(↑iW:Int))/\∃(I:IT),inI I [int i64 0] [cs] [slice none 0 0] ab/\∀(n:Int)(cs:List Value) (a:Option
 Addr) (ai c:Nat) (m':Mem) (ae:Nat),lX (slice a ai c) λyL=>lE [some (Tok.mk yL 8)] λao=>ab.le m'->I [int i64 n] [cs] [yL] m' ae->br (decide (n < (↑(Int.toNat ag - 0):Int))) (atA (ZaS jE 0
 iW 4) λb o=>Zag n (Int.toNat ag - 0)/\∃v aq ar au:Value,lV (agg (Array.mk [v,aq,ar,au])::xL) λxL=>m'.reads b (o+Int.toNat n*4) [v,aq,ar,au]
 /\ ∀(b:Nat),chk (v.oneCell'&&(aq.oneCell'&&(ar.oneCell'&&(au.oneCell'&&true)))) (∃(f:Fx),Eng.Zvs cs 13 λv=>∃(R:RT),lE (slN v+1) λaa=>R=f 4 xL m'/\CX Tryz.prog
 67 (Array.mk xL) m' [] R/\Za1 (Shape.agg [Shape.int u8,Shape.str,Shape.slice,Shape.int u8,Shape.any,Shape.str,Shape.int i64,Shape.slice]) R/\∀(aj:Int)(s:ByteArray)(a:Option Addr)(ak c:Nat) (al:
 Int) (a1:Value) (a2:ByteArray) (am:Int) (a3:Option Addr) (an a4:Nat) (ac:Mem),lV [int u8 aj,string s,slice a ak c,int u8 al,a1,string a2,int i64 am,slice a3 an a4] λxL=>m'.le ac->R (agg
 (Array.mk xL)) ac []->∀(b:Nat),lM (ac.add b xL) λmL=>ac.free b->chk (Zbd v&&true) ((Tok.mk yL 8=Tok.mk v 8\/v=slice none 0 0\/slC v < aa)/\∃(xs:List Value),∃(ys:List Value),
 xs.length=slN v*8/\ys.length=1*8/\rowRd mL (slA v) xs/\rowRd mL (some (Addr.mk b 0 none)) ys/\(∀(u:Value),u∈ys->u.oneCell'=true)/\aa*112<=140737488355328/\aa <=
 9223372036854775807/\∀(a':Option Addr)(c':Nat)(av:Mem),mL.le av->rowRd av a' (List.append xs ys)->chk (Nat.ble 14 (cs.length)) (∀(M:Mem),m'.le M->ac.le M->mL.le M->av.le M->
 Zad ad/\nxI ae I [int i64 (i64.wrap (n+(1:Int)))] [ZaC cs 13 [slice a' aa c']] [slice a' aa c'] M)))) (∃(J:JT),(∃(n:Int),lE (i64.wrap (Int.tmod n (8:Int))) λyL=>int u8 aE =
 int u8 n/\(8:Int)≠(0:Int)/\br (decide (yL < (6:Int))) (∃(f:Fx),∃(R:RT),R=f 0 [] m'/\CX Tryz.prog 34 (Array.mk []) m' [] R/\Za1 Shape.slice R/\∀(a:Option Addr)(n c:Nat)(ac:Mem),m'.le ac->R (slice a n c) ac []->p1≠(0:Int)/\atA a λb o=>Zag (Int.tmod yL p1) n/\∃(v:Value),ac b (o+Int.toNat (Int.tmod yL p1)*1)=some v/\∃(s:ByteArray),v=string s/\chk (Nat.ble 15
 (cs.length)) (∀(M:Mem),m'.le M->ac.le M->Zad ad/\ao=ao/\J [] [ZaC cs 14 [string s]] [] M)) ((256:Int)≠(0:Int)/\chk (Nat.ble 16 (cs.length)) (Zad ad/\ao=ao/\J [] [ZaC cs
 15 [int i64 (Int.tmod (i64.wrap (yL*(41:Int))) (256:Int))]] [] m')))/\∀(cs:List Value)(ac:Mem),m'.le ac->J [] [cs] [] ac->chk (Nat.beq (cs.length) 16&&Zdq cs) (rtM m ac R (agg
 (Array.mk cs))))):CX Tryz.prog 35 #[.agg #[.int .u8 aA,.int .u8 aC,.int .u8 aD,.int .u8 aE,.slice aY aV bA,.slice jE iV iW],.int .i64 p1] m [] R:=
 Zae (E:=Zm2) Zal mix Tryz.func35 [.v (.agg #[.int .u8 aA,.int .u8 aC,.int .u8 aD,.int .u8 aE,.slice aY aV bA,.slice jE iV iW]),.v (.int .i64 p1)] [] (by kernel_rfl) (Eq.mp (by kernel_rfl) h)
def Zm3:Env:={ EB with
 loops:=(λi=>bif Nat.beq i 4 then⟨[(24,.int .i64)],[3],[(41,4)],false⟩ else bif Nat.beq i 9 then⟨[(46,.int .i64)],[3],[(41,4)],false⟩ else bif Nat.beq i 15 then⟨[(77,.int .i64)],[3],[(111,2)],false⟩ else bif Nat.beq i 19 then⟨[(93,.int .i64)],[12],[(104,16)],false⟩ else⟨[],[],[],false⟩)
 dr:=(λi=>bif Nat.beq i 6 then[⟨0,[3],[],none,[],[]⟩,⟨1,[3],[],none,[0],[]⟩,⟨2,[],[],none,[],[]⟩,⟨3,[],[],none,[],[]⟩,⟨4,[],[],none,[],[]⟩,⟨5,[],[],none,[3,4],[]⟩,⟨6,[],[],none,[3,4,5],[]⟩,⟨7,[],[],none,[3,4,5,6],[]⟩,⟨8,[],[],none,[3,4,5,6,7],[]⟩,⟨9,[],[],none,[3,4,5,6,7,8],[]⟩,⟨10,[],[],none,[2,3,4,5,6,7,8,9],[]⟩,⟨11,[40],[40],none,[2,3,4,5,6,7,8,9,10],[5]⟩,⟨12,[40],[],some 41,rg 0 12,[11]⟩,⟨13,[3],[],none,rg 0 13,[]⟩,⟨14,[3],[3],none,rg 0 14,[]⟩]else bif Nat.beq i 11 then[⟨0,[3],[],none,[],[]⟩,⟨1,[3],[],none,[0],[]⟩,⟨2,[],[],none,[],[]⟩,⟨3,[54],[54],none,[],[]⟩,⟨4,[],[],none,[],[]⟩,⟨5,[],[],none,[],[]⟩,⟨6,[],[],none,[5],[]⟩,⟨7,[],[],none,[4,5,6],[]⟩,⟨8,[],[],none,[4,5,6,7],[]⟩,⟨9,[54],[],none,[3,4,5,6,7,8],[]⟩,⟨10,[54],[],none,[3,4,5,6,7,8,9],[3,7]⟩,⟨11,[],[],none,[3,4,5,6,7,8,9,10],[]⟩,⟨12,[],[],none,[2,3,4,5,6,7,8,9,10,11],[]⟩,⟨13,[64],[64],none,[2,3,4,5,6,7,8,9,10,11,12],[3,7]⟩,⟨14,[64],[],some 41,rg 0 14,[13]⟩,⟨15,[3],[],none,rg 0 15,[]⟩,⟨16,[3],[3],none,rg 0 16,[]⟩]else bif Nat.beq i 21 then[⟨0,[12],[],none,[],[]⟩,⟨1,[12],[],none,[0],[]⟩,⟨2,[14],[],none,[],[]⟩,⟨3,[],[],none,[],[]⟩,⟨4,[],[],none,[3],[]⟩,⟨5,[],[],none,[2,3,4],[]⟩,⟨6,[103],[103],none,[2,3,4,5],[5]⟩,⟨7,[103],[],some 104,[0,1,2,3,4,5,6],[6]⟩,⟨8,[12],[],none,[0,1,2,3,4,5,6,7],[]⟩,⟨9,[12],[12],none,[0,1,2,3,4,5,6,7,8],[]⟩]else[])
 tokOf:=(λi=>bif Nat.beq i 41 then 41 else bif Nat.beq i 65 then 41 else bif Nat.beq i 104 then 104 else bif Nat.beq i 111 then 111 else 0)
 frzNew:=[1]
 capF:=true
 ldF:=(λi=>bif Nat.beq i 28 then some (.str)else bif Nat.beq i 50 then some (.str)else bif Nat.beq i 61 then some (.str)else bif Nat.beq i 85 then some (.str)else bif Nat.beq i 16 then some (.int .u8)else none) }
theorem ZkS(aA:Int)(aH:Option Addr)(aF aI:Nat)(aJ:Option Addr)(aG aK:Nat)(m:Mem)(R:RT)(h:
 lE (if(4:Int) < (↑aG:Int)then(4:Int)else(↑aG:Int)) λyL=>lE (Int.toNat yL - 0) λap=>lV [int u8 aA,slice aH aF aI,slice aJ aG aK] λxL=>fzM m xL λb m'=>∀(bb:
 Nat),∃(n:Int),lV [Value.pointer (some (Addr.mk b 0 none))] λaq=>lE [some (Box.mk bb [int i64 0,slice none 0 0,slice none 0 0] 30 3 false true),some (Box.mk b xL 25 3 true true)] λxL=>int u8 aA=int
 u8 n/\(11:Int)≠(0:Int)/\∀(b:Nat),lE (some (Box.mk b [] 30 3 false true)::xL) λar=>kS Tryz.prog 32 [] m' λa a4 c m'=>∃(I:IT),inI I [int i64 0] [[int i64 (i64.wrap ((2:Int) +
 i64.wrap (Int.tmod n (11:Int)))),slice none 0 0,slice none 0 0]] [slice none 0 0] m'/\∀(n:Int)(cs:List Value)(bc:Option Addr)(bd c:Nat)(ag:Mem)(a5:Nat),lX (int i64 n) λau=>lX (slice
 bc bd c) λav=>m'.le ag->I [au] [cs] [av] ag a5->br (decide (n < (↑a4:Int))) (atA a λb o=>Zag n a4/\∃(v:Value),ag b (o+Int.toNat n*1)=some v/\∃(s:ByteArray),lX (string s) λyL=>v
 = yL/\∃(f:Fx),Eng.Zvs cs 1 λv=>∃(R:RT),lE (slN v+1) λae=>R=f 5 (au::aq) ag/\CX Tryz.prog 31 (Array.mk (au::aq)) ag [] R/\Za1 (Shape.int i64) R/\∀(af:Int)(m':Mem),ag.le m'->R
 (int i64 af) m' []->(5:Int)≠(0:Int)/\∃(u:Value),ConvIs Tryz.prog 3 87 (int i64 (Int.tmod af (5:Int))) u/\∃(ai:Value),lV (Array.toList (Value.cells ai)) λxL=>lV (List.append xL (List.drop (2 +
 xL.length) [bool true,string bE0,Value.float .f64 0])) λaj=>lV (List.append aj (List.drop (Nat.add 1 (aj.length)) [string bE0,Value.float
 FloatKind.f64 0])) λal=>lV (yL::bool true::string bE0::List.append al []) λan=>BinIs Tryz.prog BinOp.quo 87 u (Value.float .f64 4611686018427387904) ai/\chk (Nat.beq
 (xL.length) 1&&true) (chk (Nat.beq (aj.length) (nat_lit 1)&&true) (chk (Nat.beq (al.length) (nat_lit 1)&&true) (∀(b:Nat),lM (m'.add b an) λmL=>m'.free b->chk (Zbd v&&true)
 ((Tok.mk av 4=Tok.mk v 4\/v=slice none 0 0\/slC v < ae)/\∃(xs:List Value),∃(ys:List Value),xs.length=slN v*4/\ys.length=1*4/\rowRd mL (slA v) xs/\rowRd mL (some (Addr.mk b 0 none)) ys
 /\ (∀(u:Value),u∈ys->u.oneCell'=true)/\ae*48<=140737488355328/\ae<=9223372036854775807/\∀(a':Option Addr)(c':Nat)(aa:Mem),mL.le aa->rowRd aa a' (List.append xs ys)->ae<=c'->chk
 (Nat.ble 2 (cs.length)) (∀(M:Mem),ag.le M->m'.le M->mL.le M->aa.le M->Zad ar/\nxI a5 I [int i64 (i64.wrap (n+(1:Int)))] [ZaC cs 1 [slice a' ae c']] [slice a' ae c']
 M)))))) (kS Tryz.prog 33 [] ag λa n c m'=>∃(I:IT),inI I [int i64 0] [cs] [av] m'/\∀(af:Int)(cs:List Value)(be:Option Addr)(bf c:Nat)(aa:Mem)(a6:Nat),lX (slice be bf c) λae=>lV (int i64
 (i64.wrap (af+(4:Int)))::aq) λaj=>lE (some (Tok.mk ae 4)) λah=>m'.le aa->I [int i64 af] [cs] [ae] aa a6->br (decide (af < (↑n:Int))) (atA a λb o=>Zag af n/\∃(v:Value),aa b
 (o+Int.toNat af*1)=some v/\∃(s:ByteArray),lX (string s) λyL=>v=yL/\∃(f:Fx),Eng.Zvs cs 1 λv=>∀(b:Nat),lE (slN v+1) λad=>lM (aa.add b [string bE0,
 string (ByteArray.mk (Array.mk [97])),string (ByteArray.mk (Array.mk [98,98])),string (ByteArray.mk (Array.mk [49])),string (ByteArray.mk (Array.mk [48,46,53]))]) λmL=>aa.free b->∃(R:RT),R=f 7 aj aa/\CX Tryz.prog 31 (Array.mk aj) aa [] R/\Za1 (Shape.int i64) R/\∀(n:Int)(m':Mem),aa.le m'->R (int i64 n) m' []->(5:Int) ≠
 (0:Int)/\Zag (Int.tmod n (5:Int)) 5/\∀(V:Mem),aa.le V->mL.le V->m'.le V->Eng.Zvs [string bE0,string (ByteArray.mk (Array.mk [97])),string (ByteArray.mk
 (Array.mk [98,98])),string (ByteArray.mk (Array.mk [49])),string (ByteArray.mk (Array.mk [48,46,53]))] (Int.toNat (Int.tmod n (5:Int))*1) λai=>∃
 (s:ByteArray),lV [yL,bool false,string s,Value.float .f64 0] λxL=>ai=string s/\∀(V:Mem),aa.le V->mL.le V->m'.le V->∀(b:Nat),lM (V.add b xL) λao=>V.free b->chk
 (Zbd v&&true) ((Tok.mk ae 4=Tok.mk v 4\/v=slice none 0 0\/slC v < ad)/\∃(xs:List Value),∃(ys:List Value),xs.length=slN v*4/\ys.length=1*4/\rowRd ao (slA v) xs/\rowRd ao (some
 (Addr.mk b 0 none)) ys/\(∀(u:Value),u∈ys->u.oneCell'=true)/\ad*48<=140737488355328/\ad<=9223372036854775807/\∀(a':Option Addr)(c':Nat)(ab:Mem),ao.le ab->rowRd ab a' (List.append xs
 ys)->ad<=c'->chk (Nat.ble 2 (cs.length)) (∀(M:Mem),aa.le M->mL.le M->m'.le M->ao.le M->ab.le M->Zad ar/\([none]:List (Option Tok))=[none]/\nxI a6 I [int i64 (i64.wrap (af+(1:Int)))] [ZaC cs 1 [slice a' ad c']] [slice a' ad c'] M))) (((0:Int)<=yL/\yL<=(↑aK:Int))/\∃(I:IT),inI I [int i64 0] [cs] [slice none 0 0] aa/\∀(n:Int)(cs:List Value) (a:Option
 Addr) (a7 c:Nat) (m':Mem) (a8:Nat),lE (Tok.mk (slice a a7 c) 2) λyL=>aa.le m'->I [int i64 n] [cs] [slice a a7 c] m' a8->br (decide (n < (↑ap:Int))) (atA (ZaS aJ 0 aK 1) λbg o=>Zag n
 ap/\∃(v:Value),lE (if(5:Int) < (↑(slN v):Int)then(5:Int)else(↑(slN v):Int)) λad=>m' bg (o+Int.toNat n*1)=some v/\kS Tryz.prog 34 [] m' λa bh c m'=>atA a λbi o=>Zag n bh/\∃
 (ai:Value),m' bi (o+Int.toNat n*1)=some ai/\∃(s:ByteArray),ai=string s/\∀(bj:Nat),chk (Zbd v) (chk (Zbd v) (((0:Int)<=ad/\ad<=(↑(slC v):Int))/\∃(aw:IT),inI aw [int i64 0] [[string s,
 slice none 0 0]] [slice none 0 0] m'/\∀(am:Int)(ak:List Value)(a:Option Addr)(a9 c:Nat)(ab:Mem)(ba:Nat),m'.le ab->aw [int i64 am] [ak] [slice a a9 c] ab ba->br (decide (am < (↑(Int.toNat ad -
 0):Int))) (atA (ZaS (slA v) 0 (slC v) 6) λbk o=>Zag am (Int.toNat ad - 0)/\∃v ax ay az a0 a1:Value,lV [agg (Array.mk [v,ax,ay,az,
 a0,a1]),int i64 (↑ap:Int)] λal=>ab.reads bk (o+Int.toNat am*6) [v,ax,ay,az,a0,a1]/\∀(cf:Nat),chk (v.oneCell'&&(ax.oneCell'&&(ay.oneCell'&&(az.oneCell' &&
 (a0.oneCell'&&(a1.oneCell'&&true)))))) (∃(f:Fx),Eng.Zvs ak 1 λv=>∃(R:RT),lE (slN v+1) λac=>R=f 5 al ab/\CX Tryz.prog 35 (Array.mk al) ab [] R/\Za1 (Shape.agg [Shape.int u8,
 Shape.bool,Shape.bool,Shape.int u8,Shape.int u64,Shape.int u64,Shape.int u64,Shape.int u64,Shape.int i64,Shape.int i64,Shape.slice,Shape.str,Shape.int i64,Shape.slice,Shape.str,Shape.int i64]) R/\∀(n:
 Int) (bl bm:Bool) (bn bo bp bq bs bt bu:Int) (bv:Option Addr) (bw bx:Nat) (s:ByteArray) (bz:Int) (ca:Option Addr) (cb cc:Nat) (cd:ByteArray) (ce:Int) (m':Mem),lV [int u8 n,bool bl,bool bm,int
 u8 bn,int u64 bo,int u64 bp,int u64 bq,int u64 bs,int i64 bt,int i64 bu,slice bv bw bx,string s,int i64 bz,slice ca cb cc,string cd,int i64 ce] λan=>ab.le m'->R (agg (Array.mk an)) m' []->∀(a2:
 Nat),lM (m'.add a2 an) λmL=>m'.free a2->chk (Zbd v&&true) ((Tok.mk (slice a a9 c) 16=Tok.mk v 16\/v=slice none 0 0\/slC v < ac)/\∃(xs:List Value),∃(ys:List Value),xs.length=slN v
 * 16/\ys.length=1*16/\rowRd mL (slA v) xs/\rowRd mL (some (Addr.mk a2 0 none)) ys/\(∀(u:Value),u∈ys->u.oneCell'=true)/\ac*168<=140737488355328/\ac<=9223372036854775807/\∀(a':Option
 Addr) (c':Nat) (a3:Mem),mL.le a3->rowRd a3 a' (List.append xs ys)->ac<=c'->chk (Nat.ble 2 (ak.length)) (∀(M:Mem),ab.le M->m'.le M->mL.le M->a3.le M->Zad (some (Box.mk bj []
 42 2 false true)::some (Box.mk b cs 30 3 false true)::xL)/\[some yL,ah,ah]=[some yL,ah,ah]/\nxI ba aw [int i64 (i64.wrap (am+(1:Int)))] [ZaC ak 1 [slice a' ac c']] [slice a' ac c'] M))))
 (Eng.Zvs cs 2 λv=>lE (slN v+1) λac=>chk (Nat.beq (ak.length) 2&&true) (∀(b:Nat),lM (ab.add b (List.append ak [])) λmL=>ab.free b->chk (Zbd v&&true) ((yL=Tok.mk v 2\/v=slice
 none 0 0\/slC v < ac)/\∃(xs:List Value),∃(ys:List Value),xs.length=slN v*2/\ys.length=1*2/\rowRd mL (slA v) xs/\rowRd mL (some (Addr.mk b 0 none)) ys/\(∀(u:Value),u∈ys->
 u.oneCell'=true)/\ac*40<=140737488355328/\ac<=9223372036854775807/\∀(a':Option Addr)(c':Nat)(m':Mem),mL.le m'->rowRd m' a' (List.append xs ys)->ac<=c'->chk (Nat.ble 3 (cs.length))
 (Zad ar/\[ah,ah]=[ah,ah]/\nxI a8 I [int i64 (i64.wrap (n+(1:Int)))] [ZaC cs 2 [slice a' ac c']] [slice a' ac c'] m'))))))) (Eng.Zvs cs 2 λv=>chk (Zbd v) (br ((↑(slN v):Int) == (0:Int))
 (∀(b:Nat),lV (ZaC cs 2 [slice (some (Addr.mk b 0 none)) 1 1]) λxL=>m'.free b->chk (Nat.ble 3 (cs.length)) (chk (Nat.beq (xL.length) 3&&Zdq xL) (rtM m (m'.add b [string (ByteArray.mk
 (Array.mk [97])),slice none 0 0]) R (agg (Array.mk xL))))) (chk (Nat.beq (cs.length) 3&&Zdq cs) (rtM m m' R (agg (Array.mk cs))))))))):CX Tryz.prog 9 #[.agg #[.int .u8 aA,.slice aH aF aI,.slice aJ aG aK]] m [] R:=
 Zae (E:=Zm3) Zal mix Tryz.func9 [.v (.agg #[.int .u8 aA,.slice aH aF aI,.slice aJ aG aK])] [] (by kernel_rfl) (Eq.mp (by kernel_rfl) h)
end Go.Proofs.YtojlhhphofhaoaaGreatDoor
end
