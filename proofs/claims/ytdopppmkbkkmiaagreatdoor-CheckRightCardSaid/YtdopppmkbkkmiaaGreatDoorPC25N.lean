/- Part of the proof: functions of the program. No condition. -/
import Derived.Test.YtdopppmkbkkmiaaGreatDoorPVGM
import Derived.Test.YtdopppmkbkkmiaaGreatDoorMr
import Derived.Test.YtdopppmkbkkmiaaGreatDoorPEnv
import Derived.Test.YtdopppmkbkkmiaaGreatDoorPC25H
import Derived.Test.YtdopppmkbkkmiaaGreatDoorPC25F
import Derived.Test.YtdopppmkbkkmiaaGreatDoorPC25MA
set_option linter.unusedVariables false
set_option linter.unusedSimpArgs false
set_option linter.unusedSectionVars false
noncomputable section
namespace Go.Proofs.YtdopppmkbkkmiaaGreatDoor
open Go Go.Eng Go.Rx Go.Proofs Go.RowKit
set_option maxRecDepth 100000
theorem ZDH{l:List Int}{k:Nat}{u:Int}(h:l[k]?=some u):l.take (k+1)=l.take k++[u]:=by rw[List.take_add_one,h];rfl
theorem Zvv(l:List Int)(a:Option Addr)(c:Nat)(x:Int)(m:Mem)(h:rowRd m a (ZcX l))(hl:l.length<=1000000000000000):CX Tryz.prog 83 #[.slice a l.length c,.int .i64 x] m [] (λv _ _=>∃z:Int,v=.int .i64 z/\(z ≥ 0↔x∈l)):=by
 apply Zdo
 refine⟨λxs css _ m' q=>∃k:Nat,k<=l.length/\xs=[.int .i64 k]/\x ∉ l.take k/\q=l.length - k,⟨_,0,by omega,rfl,by simp,rfl⟩,?_⟩
 rintro z m1 q aB ⟨k,hk,hz,eT,hq⟩
 obtain rfl:z=k:=by simpa using hz
 refine Zax (λaH=>?_) (λbL=>⟨m1,aB,Mem.le_refl _,_,rfl,?_⟩)
 ·have aH:(k:Int) < (l.length:Nat):=aH
  obtain⟨u,hu⟩:=Zcq (show k < l.length by omega)
  have ik:IntKind.i64.wrap ((k:Int)+1)=((k+1:Nat):Int):=by rw[Zam (by omega) (by omega)];rfl
  obtain⟨b,o,ha,hv⟩:=ZCb (h.mono aB) (show(ZcX l)[k]?=some (.int .i64 u) by unfold ZcX;rw[List.getElem?_map,hu];rfl)
  refine⟨b,o,ha,⟨by omega,aH⟩,_,hv,Zaa rfl (Zab (λhc=>⟨m1,aB,Mem.le_refl _,_,rfl,?_⟩) (λhc=>⟨l.length - (k+1),by omega,k+1,by omega,by rw[ik],?_,rfl⟩))⟩
  ·have hc:(x == u)=true:=hc
   obtain rfl:x=u:=beq_iff_eq.1 hc
   exact⟨λ_=>zA2 hu,λ_=>by omega⟩
  ·have hc:(x == u)=false:=hc
   rw[ZDH hu,List.mem_append]
   rintro(h|h)
   ·exact eT h
   ·exact beq_eq_false_iff_ne.1 hc (by simpa using h)
 ·have bL:¬(k:Int) < (l.length:Nat):=bL
  obtain rfl:k=l.length:=by omega
  rw[List.take_length]at eT
  exact⟨λh=>by omega,λh=>absurd h eT⟩
theorem ZnQ(l:List Int)(a:Option Addr)(c:Nat)(x:Int)(m:Mem)(h:rowRd m a (ZcX l))(hl:l.length<=1000000000000000):CX Tryz.prog 56 #[.slice a l.length c,.int .i64 x] m [] (Ret (.bool (decide (x∈l)))):=by
 apply ZcI
 refine Zaj (Zvv l a c x m h hl) (λv _ _ ⟨z,e,_⟩=>by rw[e];rfl) ?_
 rintro z m1 aB ⟨z',hz,hx⟩
 cases hz
 exact Zac aB (by unfold Ret;congr 1;exact decide_eq_decide.2 hx)
def Zmy(ns:List Nat):List Int:=ns.map λz:Nat=>(z:Int)
theorem ZqC(ns:List Nat):(Zmy ns).length=ns.length:=List.length_map _
theorem ZqD{ns:List Nat}{z:Nat}:(z:Int)∈Zmy ns↔z∈ns:=by
 unfold Zmy
 rw[List.mem_map]
 exact⟨λ⟨y,h1,h2⟩=>(show y=z by omega) ▸ h1,λh=>⟨z,h,rfl⟩⟩
def kC(z:Nat):List Value:=[.int .i64 (z:Int)]
theorem ZCe(z:Nat):(kC z).length=1:=rfl
theorem ZCf(z:Nat):∀u∈kC z,u.oneCell'=true:=λu hu=>by
 obtain rfl:u=.int .i64 (z:Int):=by simpa[kC]using hu
 rfl
theorem ZtD:∀l:List Nat,(l.map kC).flatten=ZcX (Zmy l)
 | []=>rfl
 | z::l=>by
  have:=ZtD l
  simp only[List.map_cons,List.flatten_cons,this];rfl
structure Rch (s:Sc)(ns:List Nat)(i:Nat):Prop where
 nd:ns.Nodup
 lt:∀z∈ns,z < s.states.length
 ne:ns≠[]
 cl:∀j,j < i->∀l,ns[j]?=some l->∀x,s.states[l]?=some x->∀y∈x.rules.filterMap ZkI,∃k∈ns,y=(k:Nat)
theorem Rch.closed{s:Sc}{ns:List Nat}(h:Rch s ns ns.length):Closed s ns:=⟨h.nd,h.lt,h.ne,λi hi x hx y hy=>by
 obtain⟨j,hj⟩:=List.getElem?_of_mem hi
 exact h.cl j (zA0 hj).1 i hj x hx y hy⟩
theorem Rch.len{s:Sc}{ns:List Nat}{i:Nat}(h:Rch s ns i):ns.length<=s.states.length:=ZkJ h.nd h.lt
theorem Rch.grow{s:Sc}{ns:List Nat}{i:Nat}(h:Rch s ns i)(hi:i<=ns.length){k:Nat}(hk:k < s.states.length)(hn:k ∉ ns):Rch s (ns++[k]) i:=by
 refine⟨?_,λz hz=>?_,by simp,λj hj l hl x hx y hy=>?_⟩
 ·rw[List.nodup_append]
  exact⟨h.nd,by simp,λa ha b hb e=>by simp at hb;subst hb;subst e;exact hn ha⟩
 ·rcases List.mem_append.1 hz with hz|hz
  ·exact h.lt z hz
  ·simp at hz;omega
 ·rw[zA5 (by omega)]at hl
  obtain⟨q,hq,e⟩:=h.cl j hj l hl x hx y hy
  exact⟨q,List.mem_append_left _ hq,e⟩
def Zys(s:Sc):Value->Mem->List (List Value)->Prop:=λv m' _=>∃(ns:List Nat)(a:Option Addr)(c:Nat),v=.slice a ns.length c/\rowRd m' a (ZcX (Zmy ns))/\Closed s ns
theorem Zr8{s:Sc}:∀(v:Value)(m':Mem) (css:List (List Value)),Zys s v m' css->Shape.fits .slice v=true:=λv _ _ ⟨_,_,_,e,_⟩=>by rw[e];rfl
theorem ZtE{s:Sc}{n:Int}{a a1:Option Addr}{p c p1 c1:Nat}(h:Value.agg #[.int .i64 n,.slice a p c,.slice a1 p1 c1]=s.v):n=s.n/\a=s.va/\p=s.vars.length/\c=s.vc/\a1=s.sa/\p1=s.states.length/\c1=s.sc:=by
 simpa[Sc.v,and_assoc]using h
set_option maxHeartbeats 1000000 in
theorem Zr9(s:Sc)(m:Mem)(hr:RepC m s)(hk:MkC s):CX Tryz.prog 26 #[s.v] m [] (Zys s):=by
 have eR:=hk.len
 apply ZgR
 intro b m1 aB _
 refine Zaj (Zr7 s m1 (hr.mono aB)) Zyr ?_
 rintro aT nT cT m2 aO ⟨a1,c1,T,hv,hT,yw,yx⟩ b1 oh
 simp only[Value.slice.injEq]at hv
 obtain⟨rfl,rfl,rfl⟩:=hv
 rw[hk.light,if_pos rfl]at hT
 have zN:T.length=s.states.length:=by have:=congrArg List.length hT;simpa using this
 have dU:=mLt aB (mLt aO (Mem.le_add oh [.int .i64 0]))
 have lx:=Mem.le_add oh [.int .i64 0]
 refine⟨λxs _ tvs mm q=>∃(i:Nat)(ns:List Nat)(a:Option Addr)(c:Nat)(tv:Value),i<=ns.length/\xs=[.slice a ns.length c,.int .i64 i]/\tvs=[tv]/\(tv=.slice a ns.length c\/tv=.slice none 0 0/\c=ns.length)/\rowRd mm a (ZcX (Zmy ns))/\Rch s ns i/\q=s.states.length - i,⟨_,0,[0],_,_,_,by omega,rfl,rfl,.inr ⟨rfl,rfl⟩,ZcT,⟨by simp,by simp;omega,by simp,by simp⟩,rfl⟩,?_⟩
 rintro a n c z a3 n3 c3 mm q lm ⟨i,ns,a',c',tv,hi,cN,dF,bB,aC,hR,rfl⟩
 simp only[List.cons.injEq,Value.slice.injEq,Value.int.injEq,true_and,and_true]at cN
 obtain⟨⟨rfl,rfl,rfl⟩,rfl⟩:=cN
 obtain rfl:tv=_:=by simpa using dF.symm
 have aP:=hR.len
 have kV:IntKind.i64.wrap ((i:Int)+1)=((i+1:Nat):Int):=by rw[Zam (by omega) (by omega)];rfl
 have j1:=mLt dU lm
 refine Zax (λaH=>?_) (λbL=>?_)
 ·have aH:(i:Int) < (ns.length:Nat):=aH
  obtain⟨l,hl⟩:=Zcq (show i < ns.length by omega)
  have ip:=hR.lt l (zA2 hl)
  obtain⟨b2,o2,kX,sD⟩:=ZCb aC (show(ZcX (Zmy ns))[i]?=some (.int .i64 (l:Int)) by unfold ZcX Zmy;rw[List.getElem?_map,List.getElem?_map,hl];rfl)
  obtain⟨y,hy⟩:=Zcq (show l < T.length by omega)
  obtain⟨x,hx⟩:=Zcq ip
  have gO:y.l=Zwp (x.rules.filterMap ZkI):=by
   have h:=ZB0 hk hx
   rw[<-hT,List.getElem?_map,hy]at h
   exact Option.some.inj h
  have fU:y.l.length<=5:=by
   have h1:=Zxq (x.rules.filterMap ZkI)
   have h2:=List.length_filterMap_le ZkI x.rules
   have h3:=(hk.all l x hx).len
   rw[gO];omega
  obtain⟨b3,o3,gH,jJ⟩:=Zan Il.len (yw.mono (mLt lx lm)) hy (by omega)
  refine⟨b2,o2,kX,⟨by omega,aH⟩,_,sD,Zaa rfl (ZcF (decide_eq_false (show ¬(l:Int) ≥ (T.length:Nat) by omega)) ⟨b2,o2,kX,⟨by omega,aH⟩,_,sD,Zaa rfl ⟨b3,o3,gH,⟨by show(0:Int)<=(l:Int);omega,by show(l:Int) < (T.length:Nat);omega⟩,_,jJ 0 _ rfl,Zaa rfl ⟨λxs _ tvs mn q=>∃(j:Nat)(ns':List Nat)(a:Option Addr)(c:Nat)(tv:Value),j<=y.l.length/\xs=[.slice a ns'.length c,.int .i64 j]/\tvs=[tv]/\(tv=.slice a ns'.length c\/tv=.slice none 0 0/\c=ns'.length)/\rowRd mn a (ZcX (Zmy ns'))/\Rch s ns' i/\ns'[i]?=some l/\(∀z∈y.l.take j,∃k∈ns',z=(k:Nat))/\q=y.l.length - j,⟨_,0,ns,_,_,_,by omega,rfl,rfl,bB,aC,hR,hl,by simp,rfl⟩,?_⟩⟩⟩)⟩
  rintro a n c z a6 n6 c6 mn q yy ⟨j,ns',a',c',tv,hj,cN,uH,lP,kx,hR',hl',eW,rfl⟩
  simp only[List.cons.injEq,Value.slice.injEq,Value.int.injEq,true_and,and_true]at cN
  obtain⟨⟨rfl,rfl,rfl⟩,rfl⟩:=cN
  obtain rfl:tv=_:=by simpa using uH.symm
  have lQ:=hR'.len
  have uI:=(zA0 hl').1
  have sG:IntKind.i64.wrap ((j:Int)+1)=((j+1:Nat):Int):=by rw[Zam (by omega) (by omega)];rfl
  refine Zax (λdR=>?_) (λdV=>?_)
  ·have dR:(j:Int) < (y.l.length:Nat):=dR
   obtain⟨t,ht⟩:=Zcq (show j < y.l.length by omega)
   have cM:y.l.take (j+1)=y.l.take j++[t]:=by rw[List.take_add_one,ht];rfl
   have tl:t∈x.rules.filterMap ZkI:=by
    have:=zA2 ht
    rw[gO]at this
    exact Zs7.1 this
   obtain⟨ru,ko,hw⟩:=List.mem_filterMap.1 tl
   obtain⟨p,hp,rfl⟩:∃p:Nat,p < s.states.length/\t=(p:Int):=by
    rcases((hk.all l x hx).all ru ko).go with⟨⟨q,hq,hn⟩,_⟩|⟨hg,_⟩
    ·rw[Zof hn]at hw
     exact⟨q,hq,(Option.some.inj hw).symm⟩
    ·rw[Zmo hg]at hw;cases hw
   have iV:=(yx y (zA2 hy)).mono (mLt lx (mLt lm yy))
   obtain⟨b4,o4,mK,sH⟩:=ZCb iV (show(ZcX y.l)[j]?=some (.int .i64 (p:Int)) by unfold ZcX;rw[List.getElem?_map,ht];rfl)
   refine Zaa rfl ⟨b4,o4,mK,⟨by omega,dR⟩,_,sH,?_⟩
   have ww:=ZnQ (Zmy ns') a c (p:Int) mn kx (by rw[ZqC];omega)
   rw[ZqC]at ww
   refine Zah ww λm5 cE=>?_
   by_cases eG:p∈ns'
   ·rw[decide_eq_true (ZqD.2 eG)]
    exact ZcF rfl ⟨rfl,rfl,_,by omega,j+1,ns',a,c,_,by omega,by rw[sG],rfl,lP,kx.mono cE,hR',hl',λz hz=>by
     rw[cM]at hz
     rcases List.mem_append.1 hz with hz|hz
     ·exact eW z hz
     ·exact⟨p,eG,by simpa using hz⟩,rfl⟩
   ·rw[decide_eq_false λh=>eG (ZqD.1 h)]
    refine Zmq rfl (Zaa rfl λb5 jY=>?_)
    have rh:=hR'.grow (by omega) hp eG
    have pA:=rh.len
    rw[zA1]at pA
    refine Zgl ZCe ZCf (ts:=ns') jY p (by rw[ZtD];exact kx.mono cE) 8 (by simp at pA;omega) (by simp at pA;omega) (lP.elim (λh=>.inl (by rw[h])) λh=>.inr (.inr (by rw[h.2];omega))) λa5 c5 m6 ig jC=>⟨rfl,rfl,_,by omega,j+1,ns'++[p],a5,c5,_,by omega,by rw[sG,zA1];rfl,rfl,.inl (by rw[zA1];rfl),by rw[<-ZtD];exact jC,rh,by rw[zA5 uI];exact hl',λz hz=>?_,rfl⟩
    rw[cM]at hz
    rcases List.mem_append.1 hz with hz|hz
    ·obtain⟨k,h1,h2⟩:=eW z hz
     exact⟨k,List.mem_append_left _ h1,h2⟩
    ·exact⟨p,by simp,by simpa using hz⟩
  ·have dV:¬(j:Int) < (y.l.length:Nat):=dV
   obtain rfl:j=y.l.length:=by omega
   rw[List.take_length]at eW
   refine⟨rfl,_,by omega,i+1,ns',a,c,_,by omega,by rw[kV],rfl,lP,kx,⟨hR'.nd,hR'.lt,hR'.ne,λj hj l' jS x' hx' y' hy'=>?_⟩,rfl⟩
   by_cases e:j=i
   ·subst e
    rw[hl']at jS;cases jS
    rw[hx]at hx';cases hx'
    exact eW y' (by rw[gO];exact Zs7.2 hy')
   ·exact hR'.cl j (by omega) l' jS x' hx' y' hy'
 ·have bL:¬(i:Int) < (ns.length:Nat):=bL
  obtain rfl:i=ns.length:=by omega
  exact ZaD j1 ⟨ns,a,c,rfl,aC,hR.closed⟩
end Go.Proofs.YtdopppmkbkkmiaaGreatDoor
namespace Go.Proofs.YtdopppmkbkkmiaaGreatDoor
open Go Go.Eng Go.Proofs Go.RowKit
open Go.Value (int slice agg bool string tuple func)
open Go.IntKind (u8 u64 i64)
set_option maxRecDepth 100000
def ZqE:Env:={ EB with
 joins:=swI none [(1,some [(6,.bool)])]
 frzNew:=[3] }
theorem ZnR(aA:Int)(aI:Option Addr)(aF aM:Nat)(aG:Option Addr)(aD aN:Nat)(p1 p2:Int)(m:Mem)(R:RT)(h:
 lV [int i64 aA,slice aI aF aM,slice aG aD aN] λxL=>fzM m xL λb m'=>∃(b_1:Bool),lV [bool b_1] λxL_1=>lE [some (Box.mk b xL 30 3 true true)] λxL_2=>(kB pG 39 [agg (.mk xL)] m' λb m'
 => br b (br (decide (p1 ≥ 0)) (br (decide (p1 < (↑aD:Int))) (br (decide (p2 ≥ 0)) (atA aG λb o=>Zaf p1 aD/\∃(v:Value),m' b (o+Int.toNat p1*2+1)=some v/\chk (Za5 v) (Zae xL_2/\[bool (decide
 (p2 < (↑(slN v):Int)))]=xL_1)) (Zae xL_2/\[bool false]=xL_1)) (Zae xL_2/\[bool false]=xL_1)) (Zae xL_2/\[bool false]=xL_1)) (Zae xL_2/\[bool false]=xL_1))/\rtM m m' R (bool b_1)):CX Tryz.prog 42 #[.agg #[.int .i64 aA,.slice aI aF aM,.slice aG aD aN],.int .i64 p1,.int .i64 p2] m [] R:=
 Zad (E:=ZqE) Zal mix Tryz.func42 (by kernel_rfl) (Eq.mp (by kernel_rfl) h)
def Zsa:Env:={ EB with
 dr:=swI [] [(4,[⟨0,[8],[],none,[],[]⟩,⟨1,[8],[],none,[0],[]⟩,dO 2 [],⟨3,[8],[],none,[],[]⟩,⟨4,[8],[],none,[3],[]⟩,dO 5 [],dO 6 [3,4,5],dO 7 [3,4,5,6],dO 8 [3,4,5,6,7],dO 9 [],dO 10 [],dO 11 [10],⟨12,[200],[200],none,[3,4,5,6,7,8,9,10,11],[]⟩])]
 borrow:=swI [] [(29,[200])]
 frzNew:=[3]
 acqB:=swI none [(4,some 200)]
 thaw:=true
 stAt:=swI none [(31,some 999)]
 last:=swI false [(4,true)]
 lastK:=swI 1 [(4,3)]
 frz:=[200]
 kF:=true }
theorem ZqF(aA:Int)(aI:Option Addr)(aF aM:Nat)(aG:Option Addr)(aD aN:Nat)(p1 p2:Int)(m:Mem)(R:RT)(h:
 lV [int i64 p2,int i64 (i64.wrap (p2+1))] λxL=>lE (Int.toNat p1*2) λyL=>lV [int i64 aA,slice aI aF aM,slice aG aD aN] λxL_1=>fzM m xL_1 λb m'=>m.free b->(∀(b' o:Nat)(u:Value),
 m' b' o=some u->m b' o=some u\/b'=b)->Mem.k m b=none->∀(b_1:Nat),kB pG 42 [agg (.mk xL_1),int i64 p1,int i64 p2] m' λb_2 m'=>br (!b_2) (rtM m m' R (tuple (.mk [agg (.mk [int i64 0,slice none 0 0,slice none
 0 0]),int i64 250]))) (∃R_1,True/\CX pG 13 (.mk [agg (.mk xL_1)]) m' [] R_1/\ZaU (.agg [.int i64,.slice,.slice]) R_1/\∀n a n_1 c a_1 n_2 c_1 m'_1,lX (agg (.mk [int i64 n,slice a n_1 c,slice a_1 n_2 c_1])) λyL_1=>
 m'.le m'_1->R_1 yL_1 m'_1 []->∀(b_3:Nat),∃(b_4:Nat),∃(cs:List Value),lM (Mem.off m'_1 λk=>k=b_4) λmL=>cs≠[]/\m'_1.reads b_4 0 cs/\m.free b_4/\(b≠b_4/\True)/\∀(T:TypeId)(cap:Nat),∃(f:
 Fx),atA a_1 λb_5 o=>Zaf p1 n_2/\∃(v:Value),mL b_5 (o+yL+1)=some v/\∃R_2,R_2=f 12 (v::xL) mL/\CX pG 53 (.mk (v::xL)) mL [Box.mk b_4 cs T cap false false] R_2/\ZaU .slice R_2/\∀a n c m',lX (slice
 a n c) λyL_2=>mL.le m'->∀(cs:List Value),R_2 yL_2 m' [cs]->∀M,mL.le M->m'.le M->atA a_1 λb_6 o=>lM (Mem.upd M b_6 (o+yL+1) [yL_2]) λmL=>Zaf p1 n_2/\(∃(vs:List Value),vs.length=1/\M.reads
 b_6 (o+yL+1) vs)/\m.free b_6/\true=true/\b≠b_6/\(mL.free b_4->Mem.k mL b_4=none->rtM m (mL.add b_4 cs) R (tuple (.mk [yL_1,int i64 0]))))):CX Tryz.prog 21 #[.agg #[.int .i64 aA,.slice aI aF aM,.slice aG aD aN],.int .i64 p1,.int .i64 p2] m [] R:=
 Zad (E:=Zsa) Zal mix Tryz.func21 (by kernel_rfl) (Eq.mp (by kernel_rfl) h)
end Go.Proofs.YtdopppmkbkkmiaaGreatDoor
namespace Go.Proofs.YtdopppmkbkkmiaaGreatDoor
open Go Go.Eng Go.Rx Go.Proofs Go.RowKit Go.Shelf
set_option maxRecDepth 100000
def zRu:Value:=.agg #[.int .u8 0,.bool false,.bool false,.int .u8 0,.int .u64 0,.int .u64 0,.int .u64 0,.int .u64 0,.int .i64 0,.int .i64 0,.slice none 0 0,.string .empty,.int .i64 0,.slice none 0 0,.string .empty,.int .i64 0]
def ZCg:Ren:=⟨fun|45=>53|n=>n,fun|0=>0|3=>3|4=>4|22=>32|23=>45|n=>n,λn=>n⟩
theorem ZAG:DelLay Tryz.prog ZCg 16 zRu:=
 {mixed:=mix,f45:=⟨Tryz.f53.name,by kernel_rfl,by kernel_rfl⟩
  t0:=by kernel_rfl,a0:=Tryz.isAgg0,z0:=Tryz.sizeOf0,v0:=Tryz.zeroValue0
  t3:=Tryz.underlying3,a3:=Tryz.isAgg3,z3:=Tryz.sizeOf3,v3:=Tryz.zeroValue3
  t4:=Tryz.underlying4,a4:=Tryz.isAgg4,z4:=Tryz.sizeOf4,v4:=Tryz.zeroValue4
  t22:=Tryz.underlying32,a22:=Tryz.isAgg32,z22:=Tryz.sizeOf32,v22:=Tryz.zeroValue32
  z23:=Tryz.sizeOf45,v23:=Tryz.zeroValue45 }
theorem ZAH(m:Nat):∀u∈(Builtin.zeroCells zRu.cells m).toList,u.oneCell'=true:=by
 have pU:∀i,i < 16->(zRu.cells[i]!).oneCell'=true:=by decide
 intro u hu
 simp only[Builtin.zeroCells,Array.toList_map,List.mem_map]at hu
 obtain⟨i,_,rfl⟩:=hu
 exact pU _ (Nat.mod_lt _ (by decide))
theorem ZAI(l:List Ru)(b c i:Nat)(T:TypeId)(cap:Nat)(m:Mem)(hi:i < l.length)(hc:l.length<=c)(hm:l.length<=9223372036854775807):
  CX Tryz.prog 53 #[.slice (some ⟨b,0,none⟩) l.length c,.int .i64 i,.int .i64 (i+1:Nat)] m [⟨b,(l.map Ru.cs).flatten,T,cap,false,false⟩] (λv m' css=>v=.slice (some ⟨b,0,none⟩) (l.length - 1) c/\css=[((l.eraseIdx i).map Ru.cs).flatten++zRu.cells.toList]):=by
 obtain⟨i0,h1,h2⟩:∃i0,Tryz.prog.info? 45=some i0/\i0.size=16:=by
  obtain⟨x,h1,h2,_⟩:=(Zal 45 _ rfl).info
  exact⟨x,h1,h2⟩
 exact ZuT ZAG i0 h1 h2 rfl (Go.Eng.ZgZ Tryz.func53 (by kernel_rfl) (by kernel_rfl)) (by decide) (by kernel_rfl) ZAH Ru.len Ru.one l b c i T cap m hi hc hm
end Go.Proofs.YtdopppmkbkkmiaaGreatDoor
namespace Go.Proofs.YtdopppmkbkkmiaaGreatDoor
open Go Go.Eng Go.Rx Go.Proofs Go.RowKit
set_option maxRecDepth 100000
theorem ZtF(s:Sc)(i k:Int)(m:Mem)(hr:RepC m s):CX Tryz.prog 42 #[s.v,.int .i64 i,.int .i64 k] m [] (Ret (.bool (Zgv s i k))):=by
 apply ZnR
 intro b m1 aB _
 refine⟨Zgv s i k,Zah (Zcw s m1 (hr.mono aB)) λm2 aO=>?_,Zac aB rfl⟩
 refine Zab (λh1=>Zab (λh2=>Zab (λh3=>Zab (λh4=>?_) (λh4=>⟨rfl,?_⟩)) (λh3=>⟨rfl,?_⟩)) (λh2=>⟨rfl,?_⟩)) (λh1=>⟨rfl,?_⟩)
 ·have h2':0<=i:=zA6 h2
  have h3':i < s.states.length:=zA6 h3
  obtain⟨x,hx⟩:=ZaM (l:=s.states) (k:=i.toNat) (by omega)
  obtain⟨bs,o,ha,cC⟩:=Zan Sta.len (hr.mono (mLt aB aO)).row hx (by omega)
  refine⟨bs,o,ha,⟨h2',h3'⟩,_,cC 1 _ rfl,Zaa rfl ⟨rfl,?_⟩⟩
  simp only[Zgv,h1,h2,h3,h4,hx,Bool.true_and]
  rfl
 ·simp only[Zgv,h1,h2,h3,h4,Bool.true_and,Bool.false_and]
 ·simp only[Zgv,h1,h2,h3,Bool.true_and,Bool.false_and]
 ·simp only[Zgv,h1,h2,Bool.true_and,Bool.false_and]
 ·simp only[Zgv,h1,Bool.false_and]
def ZCR(s:Sc)(i k:Nat):Value->Mem->List (List Value)->Prop:=λv m' _=>∃s':Sc,v=.tuple #[s'.v,.int .i64 0]/\s'.er=(Zwl s i k).er/\RepC m' s'
theorem Zvw{s:Sc}{i k:Nat}:∀(v:Value)(m':Mem) (css:List (List Value)),ZCR s i k v m' css->Shape.fits (.tup [.agg [.int .i64,.slice,.slice],.int .i64]) v=true:=λv _ _ ⟨t,e,_⟩=>by rw[e];rfl
theorem Zvx{s:Sc}{n:Int}{a a1:Option Addr}{p c p1 c1:Nat}(h:Value.agg #[.int .i64 n,.slice a p c,.slice a1 p1 c1]=s.v):n=s.n/\a=s.va/\p=s.vars.length/\c=s.vc/\a1=s.sa/\p1=s.states.length/\c1=s.sc:=by
 simpa[Sc.v,and_assoc]using h
theorem ZAJ(s:Sc)(i k:Nat)(m:Mem)(hr:RepC m s)(hl:s.light=true){x:Sta}(hx:s.states[i]?=some x)(hk:k < x.rules.length):CX Tryz.prog 21 #[s.v,.int .i64 i,.int .i64 k] m [] (ZCR s i k):=by
 have hi:=(zA0 hx).1
 have eR:s.states.length<=100000:=hr.len
 have jh:x.rules.length<=100000:=(hr.all x (zA2 hx)).len
 have io:Zgv s i k=true:=by
  simp only[Zgv,hl,zA8,hx,Bool.true_and,zA7,decide_eq_true_eq]
  omega
 apply ZqF
 intro b m1 aB kU iu uC fZ b1
 have hc:=ZtF s i k m1 (hr.mono aB)
 rw[io]at hc
 refine Zah hc λm2 aO=>ZcF rfl ?_
 have dU:=mLt aB aO
 refine Zaj (Zqv s m2 (hr.mono dU) hl) Zlq ?_
 rintro n a p c a1 p1 c1 m3 aQ ⟨s',hv,jl,bP,bK⟩ b3
 obtain⟨rfl,rfl,rfl,rfl,rfl,rfl,rfl⟩:=Zvx hv
 obtain⟨x',hx',kM⟩:=ZBr jl hx
 obtain⟨cN,dJ,ss⟩:=Zix kM
 have hk':k < x'.rules.length:=by omega
 have hi':=(zA0 hx').1
 rcases bK with h0|⟨bS,μ,bK⟩
 ·rw[h0]at hi';simp at hi'
 obtain⟨jL,⟨wx,oC⟩,bG,nD⟩:=bK.all i x' hx'
 rcases oC with h0|⟨bR,fP,ky,sI,ko⟩
 ·rw[h0]at hk';simp at hk'
 have aC:(μ i).reads bR 0 (x'.rules.map Ru.cs).flatten:=by
  rcases jL.row with h|⟨b',o',ha,h⟩
  ·have:=congrArg List.length h
   rw[ZaH Ru.len]at this;simp at this;omega
  ·rw[fP]at ha;cases ha;exact h
 have lR:(x'.rules.map Ru.cs).flatten.length=x'.rules.length*16:=ZaH Ru.len _
 have iz:¬(μ i).free bR:=λhf=>by
  have:=aC 0 _ (zA3 (by omega))
  rw[hf]at this;cases this
 have ph:bS≠bR:=λe=>iz (e ▸ nD)
 have eH:¬m2.free b:=λhf=>by
  have:=aO _ _ _ (kU 0 _ rfl)
  rw[hf]at this;cases this
 have iw:=mLt bG (ZdF m2 m3)
 obtain⟨bs0,o0,j0,cM⟩:=Zan Sta.len bP.row hx' (by omega)
 rw[bK.sa]at j0
 simp only[Option.some.injEq,Addr.mk.injEq,and_true]at j0
 obtain⟨rfl,rfl⟩:=j0
 have bM:∀M:Mem,(m3.off λq=>q=bR).le M->M bS (0+i*2+1)=some (.slice x'.ra x'.rules.length x'.rc):=λM hM=>hM _ _ _ (by
  rw[Mem.off_at (Y:=λq=>q=bR) ph];exact(ZdF m2 m3) _ _ _ (cM 1 _ rfl))
 have lx:m.le (m3.off λq=>q=bR):=Zho (mLt dU aQ) λq e=>⟨e ▸ Zbd dU ky,e ▸ Zd0 dU sI⟩
 have hw:IntKind.i64.wrap ((k:Int)+1)=((k+1:Nat):Int):=by rw[Zam (by omega) (by omega)];rfl
 refine⟨bR,(x'.rules.map Ru.cs).flatten,λe=>?_,aC.mono iw,Zbd dU ky,⟨λe=>eH (e ▸ ky),trivial⟩,λT cap=>?_⟩
 ·rw[e]at lR;simp at lR;omega
 rw[hw]
 have hd:=ZAI x'.rules bR x'.rc k T cap (m3.off λq=>q=bR) hk' wx (by omega)
 rw[<-fP]at hd
 refine⟨λ_ _ _=>_,bS,0,bK.sa,⟨by omega,by omega⟩,_,bM _ (Mem.le_refl _),_,rfl,hd,(λv _ _ h=>by rw[h.1];rfl),?_⟩
 rintro a4 n4 c4 m4 bN cs4 ⟨sH,q6⟩ M hM jM
 simp only[Value.slice.injEq]at sH
 obtain⟨rfl,rfl,rfl⟩:=sH
 simp only[List.cons.injEq,and_true]at q6
 subst q6
 refine⟨bS,0,bK.sa,⟨by omega,by omega⟩,⟨[.slice x'.ra x'.rules.length x'.rc],rfl,λj v hj=>?_⟩,Zbd dU bK.free.1,rfl,λe=>eH (e ▸ bK.free.1),λwy _=>⟨_,mLt (Mem.le_upd (mLt lx hM) (Zbd dU bK.free.1) _ _) (Mem.le_add wy _),Mem.le_refl _,⟨s'.n,s'.va,s'.vc,s'.vars,s'.sa,s'.sc,s'.states.set i (ZgT x' k)⟩,?_,?_,Zxk bP bK hx' fP hk' ko hM wy⟩⟩
 ·cases j with
  | zero=>simp at hj;subst hj;exact bM M hM
  | succ j=>simp at hj
 ·simp only[Sc.v,List.length_set]
 ·have h1:=ZpD jl
  have h2:Zwl s i k=⟨s.n,s.va,s.vc,s.vars,s.sa,s.sc,s.states.set i (ZgT x k)⟩:=by unfold Zwl;rw[hx]
  rw[h2]
  exact Ziy h1.1 h1.2 (by rw[List.map_set,List.map_set,ZfD jl,Zxi kM])
end Go.Proofs.YtdopppmkbkkmiaaGreatDoor
namespace Go.Proofs.YtdopppmkbkkmiaaGreatDoor
open Go Go.Eng Go.Proofs Go.RowKit
open Go.Value (int slice agg bool string tuple func)
open Go.IntKind (u8 u64 i64)
set_option maxRecDepth 100000
def Zyt:Env:={ EB with
 frzNew:=[1] }
theorem Zvy(aA:Int)(aE aJ:Bool)(aK bA aX aW dY dZ eM:Int)(cH:Option Addr)(cI cJ:Nat)(dC:ByteArray)(cY:Int)(cR:Option Addr)(cS cU:Nat)(dN:ByteArray)(dP:Int)(m:Mem)(R:RT)(h:
 lV [int u8 aA,bool aE,bool aJ,int u8 aK,int u64 bA,int u64 aX,int u64 aW,int u64 dY,int i64 dZ,int i64 eM,slice cH cI cJ,string dC,int i64 cY,slice cR cS cU,string
 dN,int i64 dP] λxL=>fzM m xL λb m'=>∀(b:Nat) b,m'.free b->∀(b_1:Nat),Mem.free (m'.add b xL) b_1->rtM m (Mem.add (m'.add b xL) b_1 [string bE0,slice (some (Addr.mk b 0 none)) 1 1]) R (agg (.mk [int i64
 0,slice none 0 0,slice (some (Addr.mk b_1 0 none)) 1 1]))):CX Tryz.prog 40 #[.agg #[.int .u8 aA,.bool aE,.bool aJ,.int .u8 aK,.int .u64 bA,.int .u64 aX,.int .u64 aW,.int .u64 dY,.int .i64 dZ,.int .i64 eM,.slice cH cI cJ,.string dC,.int .i64 cY,.slice cR cS cU,.string dN,.int .i64 dP]] m [] R:=
 Zad (E:=Zyt) Zal mix Tryz.func40 (by kernel_rfl) (Eq.mp (by kernel_rfl) h)
end Go.Proofs.YtdopppmkbkkmiaaGreatDoor
namespace Go.Proofs.YtdopppmkbkkmiaaGreatDoor
open Go Go.Eng Go.Rx Go.Proofs Go.RowKit
set_option maxRecDepth 100000
theorem ZCh(r:Ru)(m:Mem)(hr:RepR m r):CX Tryz.prog 40 #[.agg r.cs.toArray] m [] (λv m' _=>∃s:Sc,v=s.v/\RepC m' s/\s.light=Zm4 r):=by
 apply Zvy
 intro b m1 aB _ b1 b2 jV b3 ir
 have h2:m1.le (m1.add b2 r.cs):=Mem.le_add jV _
 have h3:(m1.add b2 r.cs).le ((m1.add b2 r.cs).add b3 [.string ⟨#[]⟩,.slice (some ⟨b2,0,none⟩) 1 1]):=Mem.le_add ir _
 have wz:=mLt aB (mLt h2 h3)
 refine⟨_,wz,Mem.le_refl _,⟨0,none,0,[],some ⟨b3,0,none⟩,1,[⟨⟨#[]⟩,some ⟨b2,0,none⟩,1,[r]⟩]⟩,rfl,⟨by show I64 0;unfold I64;omega,by show 0<=few;omega,.inl rfl,by simp,by show 1<=few;unfold few;omega,ZcT,λx hx=>?_,Nat.le_refl _,Nat.le_refl _⟩,?_⟩
 ·simp only[List.mem_singleton]at hx
  subst hx
  have aC:rowRd (m1.add b2 r.cs) (some ⟨b2,0,none⟩) ([r].map Ru.cs).flatten:=by simpa using(ZcT (m:=m1) (b:=b2) (cs:=r.cs))
  exact⟨by show(ByteArray.mk #[]).size<=_;decide,by show 1<=few;unfold few;omega,aC.mono h3,λp hp=>by
   simp only[List.mem_singleton]at hp;subst hp;exact hr.mono wz⟩
 ·unfold Sc.light Sc.weight Zm4
  simp only[List.length_nil,List.length_singleton,List.map_cons,List.map_nil,ZbF,wS]
  congr 1
  refine propext ?_
  constructor <;> intro h <;> simp only[Int.add_zero]at h ⊢ <;> omega
theorem Zyu{r:Ru}:∀(v:Value)(m':Mem) (css:List (List Value)),(∃s:Sc,v=s.v/\RepC m' s/\s.light=Zm4 r)->Shape.fits (.agg [.int .i64,.slice,.slice]) v=true:=λv _ _ ⟨t,e,_⟩=>by rw[e];rfl
end Go.Proofs.YtdopppmkbkkmiaaGreatDoor
namespace Go.Proofs.YtdopppmkbkkmiaaGreatDoor
open Go Go.Eng Go.Proofs Go.RowKit
open Go.Value (int slice agg bool string tuple func)
open Go.IntKind (u8 u64 i64)
set_option maxRecDepth 100000
def Zsb:Env:={ EB with
 loops:=swI nLa [(7,⟨[(27,.int .i64)],[4,7],[(61,2)],false⟩)]
 joins:=swI none [(10,some [(48,.bool)])]
 dr:=swI [] [(13,[⟨0,[7],[],none,[],[]⟩,⟨1,[7],[],none,[0],[]⟩,⟨2,[6],[],none,[],[]⟩,⟨3,[6],[],none,[2],[]⟩,dO 4 [],dO 5 [2,3,4],dO 6 [2,3,4,5],⟨7,[60],[60],none,[2,3,4,5,6],[]⟩,⟨8,[60],[],some 61,[0,1,2,3,4,5,6,7],[7]⟩,⟨9,[7],[],none,[0,1,2,3,4,5,6,7,8],[]⟩,⟨10,[7],[7],none,[0,1,2,3,4,5,6,7,8,9],[]⟩])]
 tokOf:=swI 0 [(61,61)]
 frzNew:=[2]
 thaw:=true
 kF:=true }
theorem ZqG(aA:Int)(aI:Option Addr)(aF aM:Nat)(aG:Option Addr)(aD aN:Nat)(p1a:Option Addr)(p1n p1c:Nat)(m:Mem)(R:RT)(h:
 lV [int i64 aA,slice aI aF aM,slice aG aD aN] λxL=>fzM m xL λb m'=>lE [some (Box.mk b xL 30 3 true true)] λan=>m.free b->(∀(b' o:Nat)(u:Value),m' b' o=some u->m b' o=some u\/b' =
 b)->Mem.k m b=none->∀b,kB pG 39 [agg (.mk xL)] m' λax m'=>br (!ax) (rtM m m' R (tuple (.mk [agg (.mk [int i64 0,slice none 0 0,slice none 0 0]),int i64 250]))) (∃R_1,True/\CX pG 13 (.mk [agg (.mk xL)]) m' [] R_1/\
 ZaU (.agg [.int i64,.slice,.slice]) R_1/\∀n a ao c ap ai ay ad,lV [int i64 n,slice a ao c,slice ap ai ay] λxL=>m'.le ad->R_1 (agg (.mk xL)) ad []->∀az aq ae,lE (some (Box.mk az xL 30 3 false true)) λyL=>
 ad.free ae->Mem.k ad ae=none->∃I,inI I [int i64 0] [[int i64 0,slice none 0 0,slice none 0 0],[int i64 n,slice a ao c,slice none 0 0]] [slice none 0 0] (Mem.updK ad ae [])/\∀n (cs aa:List Value) a a0 c (m':Mem)
 (ar:Nat),lX (slice a a0 c) λaj=>lE [some (Tok.mk aj 2)] λxL=>lE (some (Box.mk aq aa 30 3 false true)::yL::some (Box.mk b cs 30 3 false true)::an) λa1=>True->I [int i64 n] [cs,aa] [aj] m' ar->br (decide
 (n < (↑p1n:Int))) (atA p1a λa2 o=>Zaf n p1n/\∃(v:Value),lE (ZaS i64 v&&decide (i64=i64)) λau=>m' a2 (o+Int.toNat n*1)=some v/\∃(av:Nat),∃(es:List (Value×Value)),∃(aw:Value),∃(o:
 Bool),lV (Array.toList (Value.cells aw)) λak=>Value.map (some ae)=Value.map (some av)/\Mem.k m' av=some es/\ZqS pG 3 v/\LookIs pG 3 v es (agg (.mk [])) aw o/\∀a3,lE (some (Box.mk a3 ak 126 0 false true)::a1)
 λal=>chk (Nat.beq (ak.length) 0&&Zdq ak) (∃(ag:Bool),br o (Zae al/\xL=xL/\[bool true]=[bool ag]) (chk au (br (decide (RowKit.intOf v < 0)) (Zae al/\xL=xL/\[bool true]=[bool ag]) (chk au (Zae al/\
 xL=xL/\[bool (decide (RowKit.intOf v ≥ (↑ai:Int)))]=[bool ag]))))/\br ag (rtM m m' R (tuple (.mk [agg (.mk [int i64 0,slice none 0 0,slice none 0 0]),int i64 250]))) (∃(ah:Nat),∃(es:List (Value×Value)),∃(es'
 : List (Value×Value)),lM (Mem.updK m' ah es') λmL=>Value.map (some ae)=Value.map (some ah)/\Mem.k m' ah=some es/\ZqS pG 3 v/\ZiK pG 3 v (agg (.mk [])) es es'/\Mem.k m ah=none/\Eng.ZvQ aa 2 λab=>lE
 (slN ab+1) λac=>chk (Zb7 v) (atA ap λa4 o=>Zaf (RowKit.intOf v) ai/\∃a5 a6:Value,lV [a5,a6] λxL=>mL.reads a4 (o+Int.toNat (RowKit.intOf v)*2) xL/\∀am,lM (mL.add am xL) λaf=>mL.free am->
 chk (Za5 ab&&true) ((Tok.mk aj 2=Tok.mk ab 2\/ab=slice none 0 0\/slC ab < ac)/\∃(xs:List Value),∃(ys:List Value),xs.length=slN ab*2/\ys.length=1*2/\rowRd af (slA ab) xs/\rowRd af (some (Addr.mk am 0
 none)) ys/\(∀(u:Value),u∈ys->u.oneCell'=true)/\ac*40<=140737488355328/\ac<=9223372036854775807/\∀(a':Option Addr)(c':Nat) m',af.le m'->rowRd m' a' (List.append xs ys)->TokFact af (slA ab) a' ac c'->chk
 (Nat.ble 3 (aa.length)) (∀M,mL.le M->af.le M->m'.le M->Zae (some (Box.mk aq [] 30 3 false true)::yL::some (Box.mk b [] 30 3 false true)::an)/\nxI ar I [int i64 (i64.wrap (n+1))] [cs,ZaF aa 2 [slice a' ac c']]
 [slice a' ac c'] M)))))) (chk (Nat.beq (aa.length) 3&&Zdq aa) (rtM m m' R (tuple (.mk [agg (.mk aa),int i64 0])))))):CX Tryz.prog 25 #[.agg #[.int .i64 aA,.slice aI aF aM,.slice aG aD aN],.slice p1a p1n p1c] m [] R:=
 Zad (E:=Zsb) Zal mix Tryz.func25 (by kernel_rfl) (Eq.mp (by kernel_rfl) h)
end Go.Proofs.YtdopppmkbkkmiaaGreatDoor
namespace Go.Proofs.YtdopppmkbkkmiaaGreatDoor
open Go Go.Eng Go.Rx Go.Proofs Go.RowKit
set_option maxRecDepth 100000
theorem ZCi(a b:Int):EqIs Tryz.prog 3 (.int .i64 a) (.int .i64 b) (decide (a=b)):=Zsp Tryz.underlying3 (by simp[Instr.sameNow];rfl) (λop ox oy w=>by cases op <;> simp[eqGuard])
end Go.Proofs.YtdopppmkbkkmiaaGreatDoor
namespace Go.Proofs.YtdopppmkbkkmiaaGreatDoor
open Go Go.Eng Go.Proofs Go.RowKit
open Go.Value (int slice agg bool string tuple func)
open Go.IntKind (u8 u64 i64)
set_option maxRecDepth 100000
def Zvz:Env:={ EB with
 dr:=swI [] [(4,[⟨0,[10],[],none,[],[]⟩,⟨1,[10],[],none,[0],[]⟩,dO 2 [],dO 3 [0,1,2],dO 4 [0,1,2,3],dO 5 [0,1,2,3,4],dO 6 [],⟨7,[7],[],none,[],[]⟩]),(7,[⟨0,[10],[],none,[],[]⟩,⟨1,[10],[],none,[0],[]⟩,dO 2 [],dO 3 [0,1,2],dO 4 [0,1,2,3],dO 5 [0,1,2,3,4],dO 6 [],⟨7,[7],[],none,[],[]⟩,dO 8 [7]])]
 frzNew:=[4,7]
 thaw:=true
 stAt:=swI none [(27,some 999),(41,some 999)]
 last:=swI false [(4,true),(7,true)]
 lastK:=swI 1 [(4,2),(7,2)]
 kF:=true }
theorem Zsc(aA:Int)(aI:Option Addr)(aF aM:Nat)(aG:Option Addr)(aD aN:Nat)(p1 p2 ri:Int)(rj rn:Bool)(rp rq rr rv rx ry rz:Int)(lS:Option Addr)(lT lU:Nat)(ol:ByteArray)(om:Int)(lW:Option Addr)(lY lZ:Nat)(oq:ByteArray)(ot:Int)(m:Mem)(R:RT)(h:
 lE (Int.toNat p2*16) λyL=>lV [int i64 aA,slice aI aF aM,slice aG aD aN] λxL=>lV [int u8 ri,bool rj,bool rn,int u8 rp,int u64 rq,int u64 rr,int u64 rv,int u64 rx,int i64
 ry,int i64 rz,slice lS lT lU,string ol,int i64 om,slice lW lY lZ,string oq,int i64 ot] λae=>fzM m xL λb m'=>m.free b->(∀(b' o:Nat)(u:Value),m' b' o=some u->m b' o
 = some u\/b'=b)->Mem.k m b=none->fzM m' ae λaa aj=>m'.free aa->(∀(b' o:Nat)(u:Value),aj b' o=some u->m' b' o=some u\/b'=aa)->Mem.k m' aa=none->∀(a8:Nat),kB pG 42 [agg (.mk xL),int i64 p1,int
 i64 p2] aj λak m'=>br (!ak) (rtM m m' R (tuple (.mk [agg (.mk [int i64 0,slice none 0 0,slice none 0 0]),int i64 250]))) (∃R_1,True/\CX pG 13 (.mk [agg (.mk xL)]) m' [] R_1/\ZaU (.agg [.int i64,.slice,.slice]) R_1/\
 ∀n a al c af ag am ab,lX (agg (.mk [int i64 n,slice a al c,slice af ag am])) λah=>m'.le ab->R_1 ah ab []->∀(a9:Nat),atA af λan o=>Zaf p1 ag/\∃(v:Value),ab an (o+Int.toNat p1*2+1)=some v/\chk
 (Za5 v) (atA (slA v) λac o=>Zaf p2 (slN v)/\(∃(vs:List Value),vs.length=16/\ab.reads ac (o+yL) vs)/\m.free ac/\true=true/\aa≠ac/\b≠ac/\kB pG 39 [ah] (Mem.upd ab ac (o+yL) ae) λao m'=>br (!ao)
 (rtM m m' R (tuple (.mk [agg (.mk [int i64 0,slice none 0 0,slice none 0 0]),int i64 5]))) (∃(f:Fx),atA af λap o=>Zaf p1 ag/\∃(v:Value),m' ap (o+Int.toNat p1*2+1)=some v/\∃R_2,R_2=f 8 [agg (.mk
 ae)] m'/\CX pG 41 (.mk [agg (.mk ae)]) m' [] R_2/\ZaU (.agg [.int u8,.bool,.bool,.int u8,.int u64,.int u64,.int u64,.int u64,.int i64,.int i64,.slice,.str,.int i64,.slice,.str,.int i64]) R_2/\∀n (aq ar:Bool)
 au av aw ax ay az a0 a a1 c s a2 a3 a4 a5 a6 a7 ai,lV [int u8 n,bool aq,bool ar,int u8 au,int u64 av,int u64 aw,int u64 ax,int u64 ay,int i64 az,int i64 a0,slice a a1 c,string s,int i64 a2,slice a3 a4 a5,string a6,
 int i64 a7] λxL=>m'.le ai->R_2 (agg (.mk xL)) ai []->∀M,m'.le M->ai.le M->chk (Za5 v) (atA (slA v) λad o=>Zaf p2 (slN v)/\(∃(vs:List Value),vs.length=16/\M.reads ad (o+yL) vs)/\m.free ad/\true =
 true/\aa≠ad/\b≠ad/\rtM m (Mem.upd M ad (o+yL) xL) R (tuple (.mk [ah,int i64 0]))))))):CX Tryz.prog 11 #[.agg #[.int .i64 aA,.slice aI aF aM,.slice aG aD aN],.int .i64 p1,.int .i64 p2,.agg #[.int .u8 ri,.bool rj,.bool rn,.int .u8 rp,.int .u64 rq,.int .u64 rr,.int .u64 rv,.int .u64 rx,.int .i64 ry,.int .i64 rz,.slice lS lT lU,.string ol,.int .i64 om,.slice lW lY lZ,.string oq,.int .i64 ot]] m [] R:=
 Zad (E:=Zvz) Zal mix Tryz.func11 (by kernel_rfl) (Eq.mp (by kernel_rfl) h)
end Go.Proofs.YtdopppmkbkkmiaaGreatDoor
namespace Go.Proofs.YtdopppmkbkkmiaaGreatDoor
open Go Go.Eng Go.Rx Go.Proofs Go.RowKit
set_option maxRecDepth 100000
def ZCS(s:Sc)(i k:Nat)(r:Ru):Value->Mem->List (List Value)->Prop:=λv m' _=>∃s':Sc,v=.tuple #[s'.v,.int .i64 0]/\s'.er=(ZjY s i k r).er/\RepC m' s'
theorem Zsd{s:Sc}{i k:Nat}{r:Ru}:∀(v:Value)(m':Mem) (css:List (List Value)),ZCS s i k r v m' css->Shape.fits (.tup [.agg [.int .i64,.slice,.slice],.int .i64]) v=true:=λv _ _ ⟨t,e,_⟩=>by rw[e];rfl
theorem ZtG{s:Sc}{n e e':Int}{a a1:Option Addr}{p c p1 c1:Nat}(h:Value.tuple #[.agg #[.int .i64 n,.slice a p c,.slice a1 p1 c1],.int .i64 e']=.tuple #[s.v,.int .i64 e]):(n=s.n/\a=s.va/\p=s.vars.length/\c=s.vc/\a1=s.sa/\p1=s.states.length/\c1=s.sc)/\e'=e:=by
 simpa[Sc.v,and_assoc]using h
set_option maxHeartbeats 1000000 in
theorem ZCj(s:Sc)(i k:Nat)(r:Ru)(m:Mem)(hr:RepC m s)(hl:s.light=true){x:Sta}(hx:s.states[i]?=some x)(hk:k < x.rules.length)(hq:RepR m r)(sx:(ZjY s i k r).light=true):CX Tryz.prog 11 #[s.v,.int .i64 i,.int .i64 k,.agg r.cs.toArray] m [] (ZCS s i k r):=by
 have hi:=(zA0 hx).1
 have eR:s.states.length<=100000:=hr.len
 have jh:x.rules.length<=100000:=(hr.all x (zA2 hx)).len
 have io:Zgv s i k=true:=by
  simp only[Zgv,hl,zA8,hx,Bool.true_and,zA7,decide_eq_true_eq]
  omega
 have aH:LtR r:=by
  have h2:ZjY s i k r=⟨s.n,s.va,s.vc,s.vars,s.sa,s.sc,s.states.set i (ZrG x k r)⟩:=by unfold ZjY;rw[hx]
  refine Zxg sx (ZrG x k r) (by rw[h2];exact List.mem_iff_getElem?.2 ⟨i,List.getElem?_set_self hi⟩) r ?_
  exact List.mem_iff_getElem?.2 ⟨k,List.getElem?_set_self hk⟩
 apply Zsc
 intro b m1 aB kU iu uC fZ b1 m2 aO lN yz yA yB b2
 have dU:=mLt aB aO
 have hc:=ZtF s i k m2 (hr.mono dU)
 rw[io]at hc
 refine Zah hc λm3 aQ=>ZcF rfl ?_
 have cO:=mLt dU aQ
 refine Zaj (Zqv s m3 (hr.mono cO) hl) Zlq ?_
 rintro n a p c a1 p1 c1 m4 bN ⟨s',hv,jl,bP,bK⟩ b4
 obtain⟨rfl,rfl,rfl,rfl,rfl,rfl,rfl⟩:=Zvx hv
 obtain⟨x',hx',kM⟩:=ZBr jl hx
 obtain⟨cN,dJ,ss⟩:=Zix kM
 have hk':k < x'.rules.length:=by omega
 have hi':=(zA0 hx').1
 rcases bK with h0|⟨bS,μ,bK⟩
 ·rw[h0]at hi';simp at hi'
 obtain⟨jL,⟨wx,oC⟩,bG,nD⟩:=bK.all i x' hx'
 rcases oC with h0|⟨bR,fP,ky,sI,ko⟩
 ·rw[h0]at hk';simp at hk'
 have aC:(μ i).reads bR 0 (x'.rules.map Ru.cs).flatten:=by
  rcases jL.row with h|⟨b',o',ha,h⟩
  ·have:=congrArg List.length h
   rw[ZaH Ru.len]at this;simp at this;omega
  ·rw[fP]at ha;cases ha;exact h
 have lR:(x'.rules.map Ru.cs).flatten.length=x'.rules.length*16:=ZaH Ru.len _
 have iz:¬(μ i).free bR:=λhf=>by
  have:=aC 0 _ (zA3 (by omega))
  rw[hf]at this;cases this
 have ph:bS≠bR:=λe=>iz (e ▸ nD)
 have eI:¬m3.free b:=λhf=>by
  have:=aQ _ _ _ (aO _ _ _ (kU 0 _ rfl))
  rw[hf]at this;cases this
 have rA:¬m3.free b1:=λhf=>by
  have:=aQ _ _ _ (lN 0 _ rfl)
  rw[hf]at this;cases this
 have uJ:=mLt bG (ZdF m3 m4)
 have cW:rowRd m4 (some ⟨bR,0,none⟩) (x'.rules.map Ru.cs).flatten:=.inr ⟨bR,0,rfl,aC.mono uJ⟩
 obtain⟨bs0,o0,j0,cM⟩:=Zan Sta.len bP.row hx' (by omega)
 rw[bK.sa]at j0
 simp only[Option.some.injEq,Addr.mk.injEq,and_true]at j0
 obtain⟨rfl,rfl⟩:=j0
 have bM:∀M:Mem,(m4.off λq=>q=bR).le M->M bS (0+i*2+1)=some (.slice x'.ra x'.rules.length x'.rc):=λM hM=>hM _ _ _ (by
  rw[Mem.off_at (Y:=λq=>q=bR) ph];exact(ZdF m3 m4) _ _ _ (cM 1 _ rfl))
 have lx:m.le (m4.off λq=>q=bR):=Zho (mLt cO bN) λq e=>⟨e ▸ Zbd cO ky,e ▸ Zd0 cO sI⟩
 have l5:∀(M:Mem)(o:Nat)(vs:List Value),(M.off λq=>q=bR).le (M.upd bR o vs):=λM o vs=>⟨λb o v hv=>by
  by_cases hb:b=bR
  ·rw[Mem.off_free (Y:=λq=>q=bR) hb]at hv;cases hv
  ·rw[Mem.upd_other _ hb];exact Mem.off_le M _ _ _ _ hv,λb e he=>(Mem.off_le M (λq=>q=bR)).k b e he⟩
 obtain⟨bs1,o1,ls,pq⟩:=Zan Ru.len cW (zA3 hk') (by omega)
 cases ls
 refine⟨bS,0,bK.sa,⟨by omega,by omega⟩,_,bM m4 (Mem.off_le _ _),Zaa rfl ⟨bR,0,fP,⟨by show(0:Int)<=k;omega,by show(k:Int) < (x'.rules.length:Nat);omega⟩,⟨_,Ru.len _,pq⟩,Zbd cO ky,rfl,λe=>rA (e ▸ ky),λe=>eI (e ▸ ky),?_⟩⟩
 obtain⟨M1,iy⟩:∃M,M=m4.upd bR (0+k*16) r.cs:=⟨_,rfl⟩
 have l6:(m4.off λq=>q=bR).le M1:=by rw[iy];exact l5 m4 _ _
 have jG:rowRd M1 (some ⟨bR,0,none⟩) ((x'.rules.set k r).map Ru.cs).flatten:=by rw[iy];exact Ztb Ru.len (by omega) cW hk'
 have rB:=Zwq bP bK hx' fP hk' ko l6 jG (hq.mono (mLt lx l6))
 have uK:=Ztc jl hx kM (r:=r) (r':=r) rfl k
 have yC:s'.v=(⟨s'.n,s'.va,s'.vc,s'.vars,s'.sa,s'.sc,s'.states.set i (ZrG x' k r)⟩:Sc).v:=by simp only[Sc.v,List.length_set]
 have hL:=Zcw _ M1 rB
 rw[Zpz uK,sx,<-yC,iy]at hL
 refine Zah hL λm5 cE=>ZcF rfl ?_
 have cE:M1.le m5:=by rw[iy];exact cE
 have kA:=mLt l6 cE
 have pV:=mLt lx kA
 refine⟨λ_ _ _=>_,bS,0,bK.sa,⟨by omega,by omega⟩,_,bM m5 kA,_,rfl,Zyc r m5 (hq.mono pV) aH,(λv _ _ ⟨y,h,_⟩=>by rw[h];rfl),?_⟩
 intros
 refine Zr2 λys=>?_
 rintro ig ⟨r',hv',uL,uM⟩ M hM yD
 obtain rfl:ys=r'.cs:=by simpa using hv'
 have j1:=mLt pV hM
 have ou:=(jG.mono cE).mono hM
 obtain⟨bs2,o2,kX,kL⟩:=Zan Ru.len ou (show(x'.rules.set k r)[k]?=some r from List.getElem?_set_self hk') (by omega)
 cases kX
 refine Zaa rfl ⟨bR,0,fP,⟨by show(0:Int)<=k;omega,by show(k:Int) < (x'.rules.length:Nat);omega⟩,⟨_,Ru.len _,kL⟩,Zbd cO ky,rfl,λe=>rA (e ▸ ky),λe=>eI (e ▸ ky),?_⟩
 have rC:(m4.off λq=>q=bR).le (M.off λq=>q=bR):=by
  refine⟨λb o v hv=>?_,λb e he=>?_⟩
  ·by_cases hb:b=bR
   ·rw[Mem.off_free (Y:=λq=>q=bR) hb]at hv;cases hv
   ·rw[Mem.off_at (Y:=λq=>q=bR) hb];exact(mLt kA hM) _ _ _ hv
  ·by_cases hb:b=bR
   ·rw[Mem.off_kn (Y:=λq=>q=bR) hb]at he;cases he
   ·rw[Mem.off_k (Y:=λq=>q=bR) hb];exact(mLt kA hM).k _ _ he
 have ov:=mLt rC (l5 M (0+k*16) r'.cs)
 have uN:¬m5.free bR:=λhf=>by
  rcases jG.mono cE with h|⟨b',o',ha,h⟩
  ·have:=congrArg List.length h
   rw[ZaH Ru.len,List.length_set]at this;simp at this;omega
  ·cases ha
   have:=h 0 _ (zA3 (by rw[ZaH Ru.len,List.length_set];omega))
   rw[hf]at this;cases this
 have hr':RepR (M.upd bR (0+k*16) r'.cs) r':=uM.mono (mLt (Zho (Y:=λq=>q=bR) (mLt (ZdF _ _) yD) λq e=>⟨by rw[show q=bR from e];exact ZrD uN,rfl⟩) (l5 M _ _))
 have dD:rowRd (M.upd bR (0+k*16) r'.cs) (some ⟨bR,0,none⟩) ((x'.rules.set k r').map Ru.cs).flatten:=by
  have:=Ztb (y:=r') (k:=k) Ru.len (by omega) ou (by rw[List.length_set];exact hk')
  rwa [List.set_set]at this
 have rD:=Zwq bP bK hx' fP hk' ko ov dD hr'
 exact ZaD (mLt lx ov) ⟨_,by simp only[Sc.v,List.length_set],Ztc jl hx kM uL k,rD⟩
theorem Zse(L:List Pl):(L.map Pl.cs).flatten.length=L.length*5:=by
 induction L with
 | nil=>rfl
 | cons x l ih=>rw[List.map_cons,List.flatten_cons,zA1,ih,List.length_cons,Nat.succ_mul];show 5+_=_;omega
def PI(L:List Pl)(v t:Value)(m:Mem):Prop:=∃a c a1 n1 c1,v=.slice a L.length c/\t=.slice a1 n1 c1/\((a1=a/\n1=L.length/\c1=c)\/c < L.length+1)/\rowRd m a (L.map Pl.cs).flatten
theorem PI.mono{L:List Pl}{v t:Value}{m m':Mem}(h:PI L v t m)(hm:m.le m'):PI L v t m':=by
 obtain⟨a,c,a1,n1,c1,h1,h2,h3,h4⟩:=h
 exact⟨a,c,a1,n1,c1,h1,h2,h3,h4.mono hm⟩
theorem PI.app{L:List Pl}{a a1:Option Addr}{n c n1 c1:Nat}{m:Mem}{b:Nat}{Q:Option Addr->Nat->Mem->Prop}(z:Pl)(h:PI L (.slice a n c) (.slice a1 n1 c1) m)(hb:L.length<=30000)(hf:m.free b)
  (k:∀(a':Option Addr)(c':Nat)(m':Mem),m.le m'->PI (L++[z]) (.slice a' (n+1) c') (.slice a' (n+1) c') m'->Q a' c' m'):
  (Tok.mk (.slice a1 n1 c1) 5=Tok.mk (.slice a n c) 5\/Value.slice a n c=.slice none 0 0\/c < n+1)/\∃xs ys:List Value,xs.length=n*5/\ys.length=1*5/\rowRd (m.add b z.cs) a xs/\rowRd (m.add b z.cs) (some ⟨b,0,none⟩) ys/\(∀u∈ys,u.oneCell'=true)/\
   (n+1)*40<=140737488355328/\n+1<=9223372036854775807/\∀(a':Option Addr)(c':Nat)(m':Mem),(m.add b z.cs).le m'->rowRd m' a' (List.append xs ys)->Q a' c' m':=by
 obtain⟨a0,c0,a10,n10,c10,h1,h2,h3,h4⟩:=h
 simp only[Value.slice.injEq]at h1 h2
 obtain⟨rfl,rfl,rfl⟩:=h1
 obtain⟨rfl,rfl,rfl⟩:=h2
 have bG:m.le (m.add b z.cs):=Mem.le_add hf _
 refine⟨?_,(L.map Pl.cs).flatten,z.cs,Zse L,rfl,h4.mono bG,.inr ⟨b,0,rfl,Zay m b _⟩,?_,by omega,by omega,λa' c' m' hm' hr'=>k a' c' m' (mLt bG hm') ⟨a',c',a',L.length+1,c',?_,rfl,.inl ⟨rfl,?_,rfl⟩,?_⟩⟩
 ·rcases h3 with⟨e1,e2,e3⟩|h3
  ·rw[e1,e2,e3];exact .inl rfl
  ·exact .inr (.inr h3)
 ·intro u hu
  simp only[Pl.cs,List.mem_cons,List.not_mem_nil,or_false]at hu
  rcases hu with rfl|rfl|rfl|rfl|rfl <;> rfl
 ·rw[zA1];rfl
 ·rw[zA1];rfl
 ·rw[List.map_append,List.flatten_append]
  have:(List.map Pl.cs [z]).flatten=z.cs:=by simp
  rw[this];exact hr'
def ZtH(s:Sc):Value->Mem->List (List Value)->Prop:=λv m _=>∃a c,v=.slice a s.places.length c/\rowRd m a (s.places.map Pl.cs).flatten
theorem ZjV{s}:∀(v:Value)(m':Mem) (css:List (List Value)),ZtH s v m' css->Shape.fits .slice v=true:=λv _ _ ⟨_,_,e,_⟩=>by rw[e];rfl
set_option maxHeartbeats 4000000 in
theorem ZqH(s:Sc)(m:Mem)(hr:RepC m s):CX Tryz.prog 73 #[s.v] m [] (ZtH s):=by
 apply Zld
 intro b m1 aB _
 have gS:=hr.vlen
 have eR:=hr.len
 unfold few at gS eR
 refine Zah (Zcw s m1 (hr.mono aB)) λm2 aO=>Zab (λhl=>?_) (λhl b2 jV=>?_)
 ·have hl:s.light=false:=by simpa using hl
  have he:s.places=[]:=by unfold Sc.places;rw[hl];rfl
  exact Zac (mLt aB aO) ⟨none,0,by rw[he];rfl,by rw[he];exact .inl rfl⟩
 have hl:s.light=true:=by simpa using hl
 have lp:m2.le (m2.add b2 (Pl.cs top)):=Mem.le_add jV _
 have dU:=mLt aB (mLt aO lp)
 have mH:=Zfx s
 have pL:=Zhm hl
 rw[pL,List.length_cons,zA1,show(ZdE s.vars.length Vf).length=s.vars.length from Zgg _ _]at mH
 have hw:∀k:Nat,k<=100000->IntKind.i64.wrap ((k:Int)+1)=((k+1:Nat):Int):=λk hk=>by rw[Zam (by omega) (by omega)];rfl
 have start:PI [top] (.slice (some ⟨b2,0,none⟩) 1 1) (.slice none 0 0) (m2.add b2 (Pl.cs top)):=⟨_,1,_,_,_,rfl,rfl,.inr (by decide),.inr ⟨b2,0,rfl,by simpa using Zay m2 b2 (Pl.cs top)⟩⟩
 refine⟨λxs _ tks m' q=>∃(i:Nat)(v t:Value),i<=s.vars.length/\xs=[v,.int .i64 i]/\tks=[t]/\PI (top::ZdE i Vf) v t m'/\q=s.vars.length - i,⟨s.vars.length,0,_,_,by omega,rfl,rfl,start,rfl⟩,?_⟩
 rintro a n c i' a1 n2 c1 m3 q aQ ⟨i,v,t,hi,hx,ht,hP,rfl⟩
 simp only[List.cons.injEq,Value.int.injEq,and_true,true_and]at hx ht
 obtain⟨rfl,rfl⟩:=hx
 subst ht
 have cO:=mLt dU aQ
 have wB:(ZdE i Vf).length=i:=Zgg _ _
 refine Zax (λaH b3 ir=>?_) (λbL=>?_)
 ·have aH:(i:Int) < (s.vars.length:Int):=aH
  refine PI.app ⟨i,-1,-1,-1,-1⟩ hP (by rw[List.length_cons,wB];omega) ir λa' c' m' hm' hP'=>⟨rfl,s.vars.length - (i+1),by omega,i+1,_,_,by omega,by rw[hw i (by omega)],rfl,?_,rfl⟩
  rw[ZbG];exact hP'
 have bL:¬(i:Int) < (s.vars.length:Int):=bL
 obtain rfl:i=s.vars.length:=by omega
 generalize hB:top::ZdE s.vars.length Vf=B at hP
 have zO:B.length=s.vars.length+1:=by rw[<-hB,List.length_cons,wB]
 refine⟨λxs _ tks m' q=>∃(i:Nat)(v t:Value),i<=s.states.length/\xs=[v,.int .i64 i]/\tks=[t]/\PI (B++ZdE i (Ff s)) v t m'/\q=s.states.length - i,⟨s.states.length,0,_,_,by omega,rfl,rfl,by simpa[ZdE]using hP,rfl⟩,?_⟩
 rintro a n c i' a1 n2 c1 m4 q bN ⟨i,v,t,hi,hx,ht,hP,rfl⟩
 simp only[List.cons.injEq,Value.int.injEq,and_true,true_and]at hx ht
 obtain⟨rfl,rfl⟩:=hx
 subst ht
 have kN:=mLt cO bN
 refine Zax (λaH=>?_) (λbL=>?_)
 ·have aH:(i:Int) < (s.states.length:Int):=aH
  obtain⟨x,hx⟩:=Zcq (show i < s.states.length by omega)
  have dJ:=hr.all x (zA2 hx)
  have lG:=dJ.len
  unfold few at lG
  have hF:Ff s i=plS i x:=by unfold Ff;rw[hx]
  have cB:(ZdE i (Ff s)).length+(plS i x).length<=(ZdE s.states.length (Ff s)).length:=by
   have:=ZsO (show i+1<=s.states.length by omega) (Ff s)
   rw[ZbG,zA1,hF]at this;exact this
  rw[Zpq,List.length_cons]at cB
  obtain⟨b3,o3,gH,lH⟩:=Zan Sta.len (hr.row.mono kN) hx (by omega)
  refine⟨b3,o3,gH,⟨by omega,aH⟩,_,_,lH,λb4=>Zaa rfl λb5 jY=>?_⟩
  refine PI.app ⟨-1,i,-1,-1,-1⟩ hP (by rw[zA1];omega) jY λa' c' m5 cE hP=>Zaa rfl ?_
  have pV:=mLt kN cE
  generalize rE:B++ZdE i (Ff s)=L1 at hP
  have iP:L1.length=B.length+(ZdE i (Ff s)).length:=by rw[<-rE,zA1]
  refine⟨λxs _ tks m' q=>∃(k:Nat)(v t:Value),k<=x.rules.length/\xs=[v,.int .i64 k]/\tks=[t]/\PI (L1++(⟨-1,i,-1,-1,-1⟩::ZdE k (Gf i x))) v t m'/\q=x.rules.length - k,⟨x.rules.length,0,_,_,by omega,rfl,rfl,by simpa[ZdE]using hP,rfl⟩,?_⟩
  rintro a n c k' a1 n2 c1 m6 q ig ⟨k,v,t,hk,hy,ht,hP,rfl⟩
  simp only[List.cons.injEq,Value.int.injEq,and_true,true_and]at hy ht
  obtain⟨rfl,rfl⟩:=hy
  subst ht
  have mO:=mLt pV ig
  refine Zax (λdR=>?_) (λdV=>?_)
  ·have dR:(k:Int) < (x.rules.length:Int):=dR
   obtain⟨r,fX⟩:=Zcq (show k < x.rules.length by omega)
   have iB:=dJ.all r (zA2 fX)
   have pR:=iB.len
   unfold few at pR
   have hG:Gf i x k=plR i k r:=by unfold Gf;rw[fX]
   have eH:(ZdE k (Gf i x)).length+(plR i k r).length<=(ZdE x.rules.length (Gf i x)).length:=by
    have:=ZsO (show k+1<=x.rules.length by omega) (Gf i x)
    rw[ZbG,zA1,hG]at this;exact this
   rw[Zpp,List.length_cons]at eH
   obtain⟨b6,o6,jA,px⟩:=Zan Ru.len (dJ.row.mono mO) fX (by omega)
   refine Zaa rfl ⟨b6,o6,jA,⟨by omega,dR⟩,_,_,_,_,_,_,_,_,_,_,_,_,_,_,_,_,px,λb7=>Zaa rfl λb8 yE=>?_⟩
   refine PI.app ⟨-1,i,k,-1,-1⟩ hP (by rw[zA1,List.length_cons];omega) yE λa' c' m7 kP hP=>Zaa rfl ?_
   have yF:=mLt mO kP
   generalize wC:L1++(⟨-1,i,-1,-1,-1⟩::ZdE k (Gf i x))=L2 at hP
   have jS:L2.length=L1.length+1+(ZdE k (Gf i x)).length:=by rw[<-wC,zA1,List.length_cons];omega
   refine⟨λxs _ tks m' q=>∃(j:Nat)(v t:Value),j<=r.acts.length/\xs=[v,.int .i64 j]/\tks=[t]/\PI (L2++(⟨-1,i,k,-1,-1⟩::ZdE j (Hf i k r))) v t m'/\q=r.acts.length - j,⟨r.acts.length,0,_,_,by omega,rfl,rfl,by simpa[ZdE]using hP,rfl⟩,?_⟩
   rintro a n c j' a1 n2 c1 m8 q iS ⟨j,v,t,hj,hy,ht,hP,rfl⟩
   simp only[List.cons.injEq,Value.int.injEq,and_true,true_and]at hy ht
   obtain⟨rfl,rfl⟩:=hy
   subst ht
   have sF:=mLt yF iS
   refine Zax (λlK=>?_) (λmQ=>?_)
   ·have lK:(j:Int) < (r.acts.length:Int):=lK
    obtain⟨y,kR⟩:=Zcq (show j < r.acts.length by omega)
    have lL:=iB.all y (zA2 kR)
    have uO:=lL.n
    unfold few at uO
    have hH:Hf i k r j=plA i k j y:=by unfold Hf;rw[kR]
    have eI:(ZdE j (Hf i k r)).length+(plA i k j y).length<=(ZdE r.acts.length (Hf i k r)).length:=by
     have:=ZsO (show j+1<=r.acts.length by omega) (Hf i k r)
     rw[ZbG,zA1,hH]at this;exact this
    rw[ZrB,List.length_cons,show(ZdE y.parts.length (Pf i k j)).length=y.parts.length from Zgg _ _]at eI
    obtain⟨b9,o9,yG,yH⟩:=Zan Ac.len (iB.row.mono sF) kR (by omega)
    refine Zaa rfl ⟨b9,o9,yG,⟨by omega,lK⟩,_,_,_,_,_,_,_,_,yH,λb10=>Zaa rfl λb11 uP=>?_⟩
    refine PI.app ⟨-1,i,k,j,-1⟩ hP (by rw[zA1,List.length_cons];omega) uP λa' c' m9 qW hP=>Zaa rfl ?_
    generalize sy:L2++(⟨-1,i,k,-1,-1⟩::ZdE j (Hf i k r))=L3 at hP
    have tI:L3.length=L2.length+1+(ZdE j (Hf i k r)).length:=by rw[<-sy,zA1,List.length_cons];omega
    refine⟨λxs _ tks m' q=>∃(w:Nat)(v t:Value),w<=y.parts.length/\xs=[v,.int .i64 w]/\tks=[t]/\PI (L3++(⟨-1,i,k,j,-1⟩::ZdE w (Pf i k j))) v t m'/\q=y.parts.length - w,⟨y.parts.length,0,_,_,by omega,rfl,rfl,by simpa[ZdE]using hP,rfl⟩,?_⟩
    rintro a n c w' a1 n2 c1 m10 q yI ⟨w,v,t,zP,hy,ht,hP,rfl⟩
    simp only[List.cons.injEq,Value.int.injEq,and_true,true_and]at hy ht
    obtain⟨rfl,rfl⟩:=hy
    subst ht
    have yJ:(ZdE w (Pf i k j)).length=w:=Zgg _ _
    refine Zax (λmR b12 uQ=>?_) (λmS=>?_)
    ·have mR:(w:Int) < (y.parts.length:Int):=mR
     refine PI.app ⟨-1,i,k,j,w⟩ hP (by rw[zA1,List.length_cons,yJ];omega) uQ λa' c' m' hm' hP'=>⟨rfl,rfl,y.parts.length - (w+1),by omega,w+1,_,_,by omega,by rw[hw w (by omega)],rfl,?_,rfl⟩
     rw[ZbG]
     simpa[Pf]using hP'
    ·have mS:¬(w:Int) < (y.parts.length:Int):=mS
     obtain rfl:w=y.parts.length:=by omega
     refine⟨rfl,rfl,r.acts.length - (j+1),by omega,j+1,_,_,by omega,by rw[hw j (by omega)],rfl,?_,rfl⟩
     rw[ZbG,hH,ZrB]
     rw[<-sy]at hP
     simpa using hP
   ·have mQ:¬(j:Int) < (r.acts.length:Int):=mQ
    obtain rfl:j=r.acts.length:=by omega
    refine⟨rfl,rfl,x.rules.length - (k+1),by omega,k+1,_,_,by omega,by rw[hw k (by omega)],rfl,?_,rfl⟩
    rw[ZbG,hG,Zpp]
    rw[<-wC]at hP
    simpa using hP
  ·have dV:¬(k:Int) < (x.rules.length:Int):=dV
   obtain rfl:k=x.rules.length:=by omega
   refine⟨rfl,rfl,s.states.length - (i+1),by omega,i+1,_,_,by omega,by rw[hw i (by omega)],rfl,?_,rfl⟩
   rw[ZbG,hF,Zpq]
   rw[<-rE]at hP
   simpa using hP
 ·have bL:¬(i:Int) < (s.states.length:Int):=bL
  obtain rfl:i=s.states.length:=by omega
  obtain⟨a0,c0,a10,n10,c10,h1,h2,h3,h4⟩:=hP
  have he:B++ZdE s.states.length (Ff s)=s.places:=by rw[pL,<-hB];rfl
  rw[he]at h1 h4
  rw[h1]
  exact⟨m4,kN,Mem.le_refl _,a0,c0,rfl,h4⟩
def ZqI(s:Sc)(l:List Pl):List (Pl×Int):=l.filterMap λp=>if atS s p=0 then none else some (p,atS s p)
theorem Zgq(s:Sc):s.problems=ZqI s s.places:=rfl
def Zn0(z:Pl×Int):Value:=.agg #[.int .i64 z.1.v,.int .i64 z.1.s,.int .i64 z.1.r,.int .i64 z.1.a,.int .i64 z.1.p,.int .i64 z.2]
theorem ZjW(s:Sc)(m:Mem):CX Tryz.prog 44 #[s.v] m [] (λv m' _=>∃b,v=.func (.func 71) #[] #[.pointer (some ⟨b,0,none⟩)]/\m'.reads b 0 s.cs):=by
 apply ZfQ
 intro b m' hm hb
 exact⟨m',hm,Mem.le_refl _,b,rfl,hb⟩
theorem Zia(s:Sc)(m:Mem)(c0b:Nat)(hr:RepC m s)(hb:m.reads c0b 0 s.cs):IX Tryz.prog 71 [] [.pointer (some ⟨c0b,0,none⟩)] m (s.problems.map λz=>[Zn0 z]):=by
 apply ZeF 0 [] [] c0b 0
 intro l
 refine⟨_,_,_,hb,Zaj (Zqz s m hr) ZtB ?_⟩
 rintro a n c m1 aB ⟨a',c',vs,hv,hT⟩
 simp only[Value.slice.injEq]at hv
 obtain⟨rfl,rfl,rfl⟩:=hv
 refine⟨_,_,_,hb.mono aB,Zaj (ZqH s m1 (hr.mono aB)) ZjV ?_⟩
 rintro a3 n1 c1 m2 aO ⟨a',c',hv,aC⟩
 simp only[Value.slice.injEq]at hv
 obtain⟨rfl,rfl,rfl⟩:=hv
 have mH:=Zfx s
 have dU:=mLt aB aO
 refine⟨λxs _ _ m' q=>∃i:Nat,i<=s.places.length/\xs=[.int .i64 ((ZqI s (s.places.take i)).length:Nat),.int .i64 i]/\q=s.places.length - i,⟨s.places.length,0,by omega,rfl,rfl⟩,?_⟩
 rintro y n2 m3 q aQ ⟨i,hi,hx,rfl⟩
 simp only[List.cons.injEq,Value.int.injEq,and_true,true_and]at hx
 obtain⟨rfl,rfl⟩:=hx
 have cO:=mLt dU aQ
 have hw:i<=20001->IntKind.i64.wrap ((i:Int)+1)=((i+1:Nat):Int):=λhi=>by rw[Zam (by omega) (by omega)];rfl
 have hw:=hw (by omega)
 refine Zax (λaH=>?_) (λbL=>?_)
 ·have aH:(i:Int) < (s.places.length:Int):=aH
  obtain⟨p,hp⟩:=Zcq (show i < s.places.length by omega)
  have eZ:ZqI s (s.places.take (i+1))=ZqI s (s.places.take i)++(if atS s p=0 then[]else[(p,atS s p)]):=by
   unfold ZqI
   rw[List.take_add_one,hp,List.filterMap_append]
   congr 1
   by_cases h:atS s p=0
   ·simp[h]
   ·simp[h]
  obtain⟨b1,o1,ha,eA⟩:=Zan (cs:=Pl.cs) (n:=5) (λ_=>rfl) (aC.mono aQ) hp (by omega)
  refine⟨b1,o1,ha,⟨by omega,aH⟩,_,_,_,_,_,eA,λb2=>Zaa rfl ⟨_,_,_,hb.mono cO,?_⟩⟩
  refine ZaB (ZCQ s a c vs p m3 (hr.mono cO) (hT.mono (mLt aO aQ)) (Zfy s p (zA2 hp))) λm4 bN=>Zab (λh=>?_) (λh=>?_)
  ·have h:¬atS s p=0:=by
    intro e;rw[e]at h;simp at h
   rw[if_neg h]at eZ
   refine⟨⟨rfl,Int.natCast_nonneg _,?_⟩,⟨s.places.length - (i+1),by omega,i+1,by omega,?_,rfl⟩,.inr rfl⟩
   ·rw[zA8]
    show(List.map (λz=>[Zn0 z]) s.problems)[(ZqI s (s.places.take i)).length]?=some [Zn0 (p,atS s p)]
    rw[List.getElem?_map]
    have:s.problems[(ZqI s (s.places.take i)).length]?=some (p,atS s p):=by
     have e:s.problems=ZqI s (s.places.take (i+1))++ZqI s (s.places.drop (i+1)):=by
      rw[Zgq];unfold ZqI;rw[<-List.filterMap_append,List.take_append_drop]
     rw[e,eZ,List.append_assoc,zA4 (Nat.le_refl _)]
     simp
    rw[this];rfl
   ·rw[hw,eZ,zA1];rfl
  ·have h:atS s p=0:=by simpa using h
   rw[if_pos h,List.append_nil]at eZ
   exact⟨s.places.length - (i+1),by omega,i+1,by omega,by rw[hw,eZ],rfl⟩
 ·have bL:¬(i:Int) < (s.places.length:Int):=bL
  obtain rfl:i=s.places.length:=by omega
  left
  rw[List.take_length,<-Zgq,List.length_map]
def Zly(z:Pl×Int):Value:=.tuple #[.agg z.1.cs.toArray,.int .i64 z.2]
theorem Zib(s:Sc)(m:Mem)(hr:RepC m s):CX Tryz.prog 20 #[s.v] m [] (Ret (Zly s.check)):=by
 apply Zjl
 intro b m1 aB _ b1 b2 b3
 refine Zah (Zcw s m1 (hr.mono aB)) λm2 aO=>Zab (λhl=>Zac (mLt aB aO) ?_) (λhl=>?_)
 ·have hl:s.light=false:=by simpa using hl
  show _=Zly s.check
  unfold Sc.check;rw[hl];rfl
 have hl:s.light=true:=by simpa using hl
 refine Zaj (ZjW s m2) (λv m' css h=>by obtain⟨_,rfl,_⟩:=h;rfl) ?_
 rintro g fi ca m3 aQ ⟨b4,hv,nC⟩
 obtain⟨rfl,rfl,rfl⟩:=ZcB hv
 have bG:=mLt aB (mLt aO aQ)
 refine⟨_,Zia s m3 b4 (hr.mono bG) nC,λy hy=>?_,λ_ _ _ m' q=>q=0,rfl,?_,?_⟩
 ·obtain⟨z,_,rfl⟩:=List.mem_map.1 hy;rfl
 ·rintro n n1 n2 n3 n4 n5 cs cs1 m4 q bN hq rfl b5
  have hq:(List.map (λz=>[Zn0 z]) s.problems)[0]?=some [Value.agg #[.int .i64 n,.int .i64 n1,.int .i64 n2,.int .i64 n3,.int .i64 n4,.int .i64 n5]]:=hq
  rw[List.getElem?_map]at hq
  obtain⟨z,hz,jc⟩:=Option.map_eq_some_iff.1 hq
  refine⟨rfl,Zac (mLt bG bN) ?_⟩
  have hz':s.check=z:=by
   unfold Sc.check;rw[hl,if_pos rfl]
   cases hs:s.problems with
   | nil=>rw[hs]at hz;simp at hz
   | cons x l=>rw[hs]at hz;simpa using hz
  show _=Zly s.check
  rw[hz']
  simp only[Zn0,List.cons.injEq,Value.agg.injEq,Array.mk.injEq,Value.int.injEq,true_and,and_true]at jc
  obtain⟨rfl,rfl,rfl,rfl,rfl,rfl⟩:=jc
  rfl
 ·rintro cs cs1 m4 bN hq
  refine Zac (mLt bG bN) ?_
  have hs:s.problems=[]:=by
   have hq:(List.map (λz=>[Zn0 z]) s.problems).length=0:=hq
   rw[List.length_map]at hq
   exact List.eq_nil_of_length_eq_zero hq
  show _=Zly s.check
  unfold Sc.check;rw[hl,if_pos rfl,hs];rfl
theorem ZfS(s:Sc)(m:Mem)(hr:RepC m s):CX Tryz.prog 22 #[s.v] m [] (Ret (.bool (s.check.2 == 0))):=by
 apply Zjm
 intro b m1 aB _
 refine Zaj (Zib s m1 (hr.mono aB)) (λv _ _ e=>by rw[show v=_ from e];rfl) ?_
 intro n n1 n2 n3 n4 n5 m2 aO hv
 have hv:Value.tuple #[.agg #[.int .i64 n,.int .i64 n1,.int .i64 n2,.int .i64 n3,.int .i64 n4],.int .i64 n5]=Zly s.check:=hv
 simp only[Zly,Value.tuple.injEq,Array.mk.injEq,List.cons.injEq,Value.int.injEq,true_and,and_true]at hv
 intro b2
 refine Zac (mLt aB aO) ?_
 show Value.bool _=Value.bool _
 rw[hv.2]
def ZqJ:List ByteArray:=[⟨#[98,117,102,102,101,114]⟩,⟨#[118,97,114,105,97,98,108,101]⟩,⟨#[115,116,97,116,101,115]⟩,⟨#[115,116,97,116,101]⟩,⟨#[114,117,108,101]⟩,⟨#[114,101,103,101,120]⟩,⟨#[101,110,100]⟩,⟨#[97,99,116,105,111,110]⟩,⟨#[110,97,109,101]⟩,⟨#[99,97,112,116,117,114,101]⟩]
def ZwF(e:Int):ByteArray:=if e=5 then⟨#[108,111,110,103]⟩ else if e ≥ 300/\e<=309 then ZqJ.getD (e - 300).toNat ⟨#[]⟩ else⟨#[]⟩
theorem ZAK(e:Int)(m:Mem):CX Tryz.prog 31 #[.int .i64 e] m [] (Ret (.string (ZwF e))):=by
 apply Zlo
 intro b hf
 have bG:=Mem.le_add hf (ZqJ.map Value.string)
 refine Zab (λh=>Zac bG ?_) (λh=>?_)
 ·have h:e=5:=by simpa using h
  show Value.string _=Value.string _
  unfold ZwF;rw[if_pos h]
 have h:¬e=5:=by simpa using h
 by_cases h1:e ≥ 300
 ·by_cases h2:e<=309
  ·refine⟨true,Zmq (decide_eq_true h1) ⟨by trivial,Zag (decide_eq_true h2)⟩,Zmq rfl ?_⟩
   have hw:IntKind.i64.wrap (e - 300)=e - 300:=Zam (by omega) (by omega)
   rw[hw]
   obtain⟨w,hw'⟩:=Zcq (show(e - 300).toNat < ZqJ.length by show(e - 300).toNat < 10;omega)
   refine⟨⟨by omega,by omega⟩,Zap (v:=.string w) ?_ (Zac bG ?_)⟩
   ·show(ZqJ.map Value.string)[(e - 300).toNat*1]?=_
    rw[Nat.mul_one,List.getElem?_map,hw'];rfl
   ·show Value.string _=Value.string _
    unfold ZwF;rw[if_neg h,if_pos ⟨h1,h2⟩,List.getD_eq_getElem?_getD,hw'];rfl
  ·refine⟨false,Zmq (decide_eq_true h1) ⟨by trivial,Zag (decide_eq_false h2)⟩,ZcF rfl (Zac bG ?_)⟩
   show Value.string _=Value.string _
   unfold ZwF;rw[if_neg h,if_neg (by omega)]
 ·refine⟨false,ZcF (decide_eq_false h1) ⟨by trivial,rfl⟩,ZcF rfl (Zac bG ?_)⟩
  show Value.string _=Value.string _
  unfold ZwF;rw[if_neg h,if_neg (by omega)]
theorem Zyv(m:Mem):Rep m ZyS:=by simp only[ZyS,Rep];exact⟨by simp,.inl trivial,by constructor <;> decide⟩
theorem Zyw(m:Mem):Rep m ZA0:=by simp only[ZA0,Rep];exact⟨by simp,.inl trivial,by constructor <;> decide⟩
theorem ZAL(m:Mem):CX Tryz.prog 57 #[.int .u8 120] m [] (Ret ZyS.v):=by
 apply Zfd
 intro b b1
 exact⟨by decide,by decide,by decide,⟨by decide,by decide⟩,Zaa (by kernel_rfl) (Zaa (by kernel_rfl) (Zac (Mem.le_refl m) (by show _=ZyS.v;kernel_rfl)))⟩
theorem ZAM(m:Mem):CX Tryz.prog 57 #[.int .u8 121] m [] (Ret ZA0.v):=by
 apply Zfd
 intro b b1
 exact⟨by decide,by decide,by decide,⟨by decide,by decide⟩,Zaa (by kernel_rfl) (Zaa (by kernel_rfl) (Zac (Mem.le_refl m) (by show _=ZA0.v;kernel_rfl)))⟩
def Zsf:Value->Mem->List (List Value)->Prop:=λv m' _=>∃a1 a2,v=ZDx false false (rxT a1 a2)/\Rep m' (rxT a1 a2)
theorem Zmz:∀(v:Value)(m':Mem) (css:List (List Value)),Zsf v m' css->Shape.fits (.agg [.bool,.bool,.int .u8,.int .u64,.int .u64,.int .u64,.int .u64,.int .i64,.int .i64,.slice]) v=true:=λv _ _ ⟨_,_,e,_⟩=>by rw[e];rfl
theorem ZtI(m:Mem):CX Tryz.prog 29 #[] m [] Zsf:=by
 apply Zjo
 intro b
 refine Zaj (ZAL m) (λv _ _ e=>by rw[show v=_ from e];rfl) ?_
 intro n n1 n2 n3 n4 n5 n6 a n7 c m1 aB hv
 simp only[Ret,ZyS,T.v,T.k,T.s0,T.s1,T.s2,T.s3,T.mn,T.mx,T.a,T.c,T.subs,Value.agg.injEq,Array.mk.injEq,List.cons.injEq,Value.int.injEq,Value.slice.injEq,true_and,and_true,List.length_nil]at hv
 obtain⟨rfl,rfl,rfl,rfl,rfl,rfl,rfl,rfl,rfl,rfl⟩:=hv
 intro b1 oh
 have iP:m1.le (m1.add b1 ZyS.cs):=Mem.le_add oh _
 refine Zaj (ZAM _) (λv _ _ e=>by rw[show v=_ from e];rfl) ?_
 intro n n1 n2 n3 n4 n5 n6 a n7 c m2 aO hv
 simp only[Ret,ZA0,T.v,T.k,T.s0,T.s1,T.s2,T.s3,T.mn,T.mx,T.a,T.c,T.subs,Value.agg.injEq,Array.mk.injEq,List.cons.injEq,Value.int.injEq,Value.slice.injEq,true_and,and_true,List.length_nil]at hv
 obtain⟨rfl,rfl,rfl,rfl,rfl,rfl,rfl,rfl,rfl,rfl⟩:=hv
 intro b2 jV
 have hg:Rep m2 (ZbQ 6 0 0 (some ⟨b1,0,none⟩) 1 [ZyS]):=ZdD (Zn7 ((Zay m1 b1 ZyS.cs).mono aO) (Zyv m2)) (by omega) (by omega) (by omega)
 have jS:=Mem.le_add jV ((ZbQ 6 0 0 (some ⟨b1,0,none⟩) 1 [ZyS]).cs++ZA0.cs)
 refine⟨_,mLt aB (mLt iP (mLt aO jS)),Mem.le_refl _,some ⟨b1,0,none⟩,some ⟨b2,0,none⟩,rfl,?_⟩
 have hR:=Zay m2 b2 ((ZbQ 6 0 0 (some ⟨b1,0,none⟩) 1 [ZyS]).cs++ZA0.cs)
 refine ZdD (k:=3) (l:=[ZbQ 6 0 0 (some ⟨b1,0,none⟩) 1 [ZyS],ZA0]) ⟨by simp,.inr ⟨b2,0,rfl,?_⟩⟩ (by omega) (by omega) (by omega)
 simp only[RepAt]
 exact⟨Zb0 hR 0 8,hg.mono jS,Zb0 hR 8 8,Zyw _,trivial⟩
def ZA3(P:Ru->Prop):Value->Mem->List (List Value)->Prop:=λv m' _=>∃va sa ra r,P r/\v=(Zht va sa ra r).v/\RepC m' (Zht va sa ra r)
theorem Zd7{P}:∀(v:Value)(m':Mem) (css:List (List Value)),ZA3 P v m' css->Shape.fits (.agg [.int .i64,.slice,.slice]) v=true:=λv _ _ ⟨_,_,_,_,_,e,_⟩=>by rw[e];rfl
theorem Zlz{P:Ru->Prop}(r:Ru)(hP:P r)(m:Mem)(hr:RepR m r):CX Tryz.prog 28 #[.agg r.cs.toArray] m [] (ZA3 P):=by
 apply ZnM
 intro b m1 aB _ b0 b1 oh b2 jV b3 ir
 have l1:m1.le _:=Mem.le_add oh (ZiH.map Va.cs).flatten
 have l2:=Mem.le_add jV r.cs
 have l3:=Mem.le_add ir [.string ⟨#[97]⟩,.slice (some ⟨b2,0,none⟩) 1 1]
 have r1:=Zay m1 b1 (ZiH.map Va.cs).flatten
 have r2:=Zay (m1.add b1 (ZiH.map Va.cs).flatten) b2 r.cs
 have r3:=Zay ((m1.add b1 (ZiH.map Va.cs).flatten).add b2 r.cs) b3 [.string ⟨#[97]⟩,.slice (some ⟨b2,0,none⟩) 1 1]
 refine⟨_,mLt aB (mLt l1 (mLt l2 l3)),Mem.le_refl _,some ⟨b1,0,none⟩,some ⟨b3,0,none⟩,some ⟨b2,0,none⟩,r,hP,rfl,?_⟩
 refine⟨by show(-9223372036854775808:Int)<=9/\(9:Int)<=9223372036854775807;decide,by show 2<=few;decide,.inr ⟨b1,0,rfl,r1.mono (mLt l2 l3)⟩,λv hv=>?_,by show 1<=few;decide,.inr ⟨b3,0,rfl,r3⟩,λx hx=>?_,Nat.le_refl 2,Nat.le_refl 1⟩
 ·simp only[Zht,ZiH,List.mem_cons,List.not_mem_nil,or_false]at hv
  rcases hv with rfl|rfl <;> exact⟨by decide,by decide⟩
 ·simp only[Zht,List.mem_cons,List.not_mem_nil,or_false]at hx
  subst hx
  refine⟨by show ByteArray.size ⟨#[97]⟩<=_;decide,by show 1<=few;decide,.inr ⟨b2,0,rfl,?_⟩,λz hz=>?_⟩
  ·have:(List.map Ru.cs [r]).flatten=r.cs:=by simp
   rw[this];exact r2.mono l3
  ·simp only[List.mem_cons,List.not_mem_nil,or_false]at hz
   subst hz
   exact hr.mono (mLt aB (mLt l1 (mLt l2 l3)))
def ZwG(l:List Int):Value->Mem->List (List Value)->Prop:=λv m' _=>∃pa pc b,v=.slice (some ⟨b,0,none⟩) 1 1/\m'.reads b 0 (ZnY pa pc l).cs/\RepA m' (ZnY pa pc l)
theorem Zic{l}:∀(v:Value)(m':Mem) (css:List (List Value)),ZwG l v m' css->Shape.fits .slice v=true:=λv _ _ ⟨_,_,_,e,_⟩=>by rw[e];rfl
theorem Zyx(n:Int)(hn:I64 n)(m:Mem):RepP m (Zwt n):=⟨by show(0:Int)<=3/\(3:Int) < 256;decide,by show ByteArray.size ⟨#[]⟩<=_;decide,hn,ZqV m⟩
theorem ZqK(l:List Int)(a:Option Addr)(c:Nat)(m:Mem)(hl:l.length<=2)(hn:∀n∈l,I64 n)(aC:rowRd m a (l.map (Value.int .i64))):CX Tryz.prog 30 #[.slice a l.length c] m [] (ZwG l):=by
 apply Zlt
 intro b
 refine⟨λxs css tks m' q=>∃(i:Nat)(pa:Option Addr)(pc:Nat),i<=l.length/\xs=[.int .i64 i]/\css=[[.int .u8 1,.string ⟨#[]⟩,.slice pa i pc,.int .u8 0,.float .f64 0,.string ⟨#[]⟩,.int .i64 0,.slice none 0 0]]/\tks=[.slice pa i pc]/\rowRd m' pa (((l.take i).map Zwt).map Pt.cs).flatten/\q=l.length - i,
  ⟨l.length,0,none,0,by omega,rfl,rfl,rfl,.inl rfl,rfl⟩,?_⟩
 rintro n cs a1 n1 c1 m1 q aB ⟨i,pa,pc,hi,hx,cF,ht,hr,rfl⟩
 simp only[List.cons.injEq,Value.int.injEq,and_true,true_and]at hx
 subst hx
 obtain rfl:cs=_:=by simpa using cF
 obtain⟨rfl,rfl,rfl⟩:a1=pa/\n1=i/\c1=pc:=by simpa using ht
 refine Zax (λaH=>?_) (λbL=>?_)
 ·have aH:(n1:Int) < (l.length:Int):=aH
  obtain⟨n,oQ⟩:=Zcq (show n1 < l.length by omega)
  obtain⟨b2,o2,ha,hc⟩:=ZCb (aC.mono aB) (show(l.map (Value.int .i64))[n1]?=some (.int .i64 n) by rw[List.getElem?_map,oQ];rfl)
  refine⟨b2,o2,ha,⟨by omega,aH⟩,_,hc,Zap (v:=.slice a1 n1 c1) rfl (Zaa rfl (Zaa rfl λb3 ir=>Zaa rfl ?_))⟩
  have bG:m1.le (m1.add b3 (Zwt n).cs):=Mem.le_add ir _
  have aP:(((l.take n1).map Zwt).map Pt.cs).flatten.length=n1*8:=by
   have:∀L:List Int,((L.map Zwt).map Pt.cs).flatten.length=L.length*8:=λL=>by
    induction L with
    | nil=>rfl
    | cons x L ih=>rw[List.map_cons,List.map_cons,List.flatten_cons,zA1,ih,List.length_cons,Nat.succ_mul];show 8+_=_;omega
   rw[this,List.length_take,Nat.min_eq_left (by omega)]
  refine⟨.inl rfl,(((l.take n1).map Zwt).map Pt.cs).flatten,(Zwt n).cs,aP,rfl,hr.mono bG,.inr ⟨b3,0,rfl,Zay m1 b3 _⟩,?_,by show(n1+1)*96<=_;omega,by show n1+1<=_;omega,λa' c' m2 aO ic=>Zaa rfl ⟨rfl,l.length - (n1+1),by omega,n1+1,a',c',by omega,?_,rfl,rfl,?_,rfl⟩⟩
  ·intro u hu
   simp only[Zwt,Pt.cs,List.mem_cons,List.not_mem_nil,or_false]at hu
   rcases hu with rfl|rfl|rfl|rfl|rfl|rfl|rfl|rfl <;> rfl
  ·rw[Zam (by omega) (by omega)];rfl
  ·rw[List.take_add_one,oQ,List.map_append,List.map_append,List.flatten_append]
   have:(List.map Pt.cs (List.map Zwt (some n).toList)).flatten=(Zwt n).cs:=by simp
   rw[this];exact ic
 ·have bL:¬(n1:Int) < (l.length:Int):=bL
  obtain rfl:n1=l.length:=by omega
  refine Zaa rfl λb2 jV=>?_
  have bG:m1.le (m1.add b2 (ZnY a1 c1 l).cs):=Mem.le_add jV _
  have mU:(l.map Zwt).length=l.length:=List.length_map _
  have cF:(ZnY a1 c1 l).cs=[.int .u8 1,.string ⟨#[]⟩,.slice a1 l.length c1,.int .u8 0,.float .f64 0,.string ⟨#[]⟩,.int .i64 0,.slice none 0 0]:=by
   show[Value.int .u8 1,.string ⟨#[]⟩,.slice a1 (l.map Zwt).length c1,.int .u8 0,.float .f64 0,.string .empty,.int .i64 0,.slice none 0 0]=_
   rw[mU];rfl
  rw[cF]at bG
  refine⟨_,mLt aB bG,Mem.le_refl _,a1,c1,b2,rfl,?_,?_⟩
  ·rw[cF];exact Zay m1 b2 _
  ·rw[List.take_length]at hr
   refine⟨by show(0:Int)<=1/\(1:Int) < 256;decide,by show ByteArray.size ⟨#[]⟩<=_;decide,?_,hr.mono bG,λp hp=>?_,ZqV _⟩
   ·show(l.map Zwt).length<=few
    rw[mU];unfold few;omega
   ·obtain⟨n,hn',rfl⟩:=List.mem_map.1 hp
    exact Zyx n (hn n hn') _
theorem Zdp(p0 p1 p2 p3:Int)(m:Mem):CX Tryz.prog 27 #[.int .i64 p0,.int .i64 p1,.int .i64 p2,.int .i64 p3] m [] (Ret (.agg #[.int .i64 (-1),.int .i64 p0,.int .i64 p1,.int .i64 p2,.int .i64 p3])):=by
 apply ZgP
 exact λb=>Zac (Mem.le_refl m) rfl
end Go.Proofs.YtdopppmkbkkmiaaGreatDoor
end
