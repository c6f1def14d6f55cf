/- Part of the proof: conditions and contracts of functions of this program. No condition of its own. -/
import Derived.Test.YtfgfahnakepegaaGreatPC15K
import Derived.Test.YtfgfahnakepegaaGreatPVRK
import Derived.Test.YtfgfahnakepegaaGreatMc
import Derived.Test.YtfgfahnakepegaaGreatPEnv
set_option linter.unusedVariables false
set_option linter.unusedSimpArgs false
set_option linter.unusedSectionVars false
noncomputable section
namespace Go.Proofs.YtfgfahnakepegaaGreat
open Go Go.Eng Go.Rx Go.Proofs Go.RowKit
set_option maxRecDepth 100000
theorem Zql(k:C4)(m:Mem):CX Tryz.prog 80 #[k.v,k.v] m [] (Ret (.bool true)):=by
 apply Ze1
 intro b m1 aK _ b2 m2 aO _
 refine⟨_,Ztd _ _ _ _ _ _ _ _,Zah (mLt aK aO) ?_⟩
 simp[Ret]
theorem ZuU(L:List C4)(a1 a2:Option Addr)(c1 c2:Nat)(m:Mem)(h1:rowRd m a1 (ZaI L))(h2:rowRd m a2 (ZaI L))(hl:L.length<=1000000):
  CX Tryz.prog 79 #[.slice a1 L.length c1,.slice a2 L.length c2,.func (.func 80) #[] #[]] m [] (Ret (.bool true)):=by
 apply ZaK a1 L.length c1 a2 L.length c2 80 [] []
 refine ZaM (by simp) ⟨λxs _ _ m' q=>∃i:Nat,i<=L.length/\xs=[.int .i64 i]/\q=L.length - i,⟨_,0,Nat.zero_le _,rfl,rfl⟩,?_⟩
 rintro z m1 q aK ⟨i,hi,aZ,hq⟩
 obtain rfl:z=i:=by simpa using aZ
 subst hq
 refine Za4 (λaS=>?_) (λbI=>Zah aK rfl)
 have aN:i < L.length:=by omega
 obtain⟨k,hk⟩:=ZaQ aN
 obtain⟨b,o,rfl,bA⟩:=Zi9 (h1.mono aK) hk
 obtain⟨b',o',rfl,iT⟩:=Zi9 (h2.mono aK) hk
 have hw:IntKind.i64.wrap ((i:Int)+1)=((i+1:Nat):Int):=by rw[Zas (by omega) (by omega)];rfl
 rw[hw]
 simp only[zA8]
 exact⟨b,o,rfl,⟨by omega,by omega⟩,_,_,_,_,bA,λb3=>Zaa rfl ⟨b',o',rfl,⟨by omega,by omega⟩,_,_,_,_,iT,λb4=>Zaa rfl (Zai (Zql k m1) λm2 aO=>ZaM rfl ⟨L.length - (i+1),by omega,i+1,aN,rfl,rfl⟩)⟩⟩
theorem ZkA(L:List C4)(a1 a2:Option Addr)(c1 c2:Nat)(m:Mem)(h1:rowRd m a1 (ZaI L))(h2:rowRd m a2 (ZaI L))(hl:L.length<=1000000):
  CX Tryz.prog 42 #[.slice a1 L.length c1,.slice a2 L.length c2] m [] (Ret (.bool true)):=by
 apply Zgc
 exact Zai (ZuU L a1 a2 c1 c2 m h1 h2 hl) λm1 aK=>Zah aK rfl
theorem Zmk{m:Mem}{a:Option Addr}{L:List T}(h:rowRd m a (ZbW L)){i:Nat}{k:T}(hk:L[i]?=some k):∃b o,a=some ⟨b,o,none⟩/\m.reads b (o+i*4) (ZcL k):=by
 have key:∀{L:List T} {i:Nat},L[i]?=some k->∀j v,(ZcL k)[j]?=some v->(ZbW L)[i*4+j]?=some v:=by
  intro L
  induction L with
  | nil=>intro i h;simp at h
  | cons x L ih=>
   intro i h j v hv
   have hj:j < 4:=(zA0 hv).1
   have e:ZbW (x::L)=ZcL x++ZbW L:=rfl
   cases i with
   | zero=>
    simp at h;subst h
    rw[e,Nat.zero_mul,Nat.zero_add,zA5 hj];exact hv
   | succ i=>
    rw[e,zA4 (by show 4<=_;omega),show(i+1)*4+j - (ZcL x).length=i*4+j from by show(i+1)*4+j - 4=_;omega]
    exact ih (by simpa using h) j v hv
 rcases h with h|⟨b,o,e,h⟩
 ·have h1:=ZgO L
  have h2:=(zA0 hk).1
  rw[h]at h1;simp at h1;omega
 ·exact⟨b,o,e,λj v hv=>by have:=h _ v (key hk j v hv);rwa [<-Nat.add_assoc]at this⟩
theorem Zqm(x:T)(hq:QOk x.q)(m:Mem):CX Tryz.prog 46 #[.agg (ZcL x).toArray,.agg (ZaB x.q).toArray] m [] (Ret (.bool true)):=by
 apply Zhj
 intro b m1 aK _
 refine Zaa (by rw[Zal];rfl) λb2 m2 aO _=>⟨λ_ _ _=>Ret (.agg (ZaB x.q).toArray),_,rfl,Zs3 x.q hq m2,λv _ _ h=>by rw[h];rfl,?_⟩
 intro cs m3 aX hv
 have hv:Value.agg (Array.mk cs)=.agg (ZaB x.q).toArray:=hv
 simp only[Value.agg.injEq,Array.mk.injEq]at hv
 subst hv
 refine⟨_,ZAN hq hq,λM cM cS=>Zah (mLt aK (mLt aO cM)) ?_⟩
 simp[Ret]
theorem ZuV(L:List T)(a1 a2:Option Addr)(c1 c2:Nat)(m:Mem)(h1:rowRd m a1 (ZbW L))(h2:rowRd m a2 (ZgV L))(hl:L.length<=1000000)(hq:∀x∈L,QOk x.q):
  CX Tryz.prog 44 #[.slice a1 L.length c1,.slice a2 L.length c2,.func (.func 46) #[] #[]] m [] (Ret (.bool true)):=by
 apply ZaS a1 L.length c1 a2 L.length c2 46 [] []
 refine ZaM (by simp) ⟨λxs _ _ m' q=>∃i:Nat,i<=L.length/\xs=[.int .i64 i]/\q=L.length - i,⟨_,0,Nat.zero_le _,rfl,rfl⟩,?_⟩
 rintro z m1 q aK ⟨i,hi,aZ,CK⟩
 obtain rfl:z=i:=by simpa using aZ
 subst CK
 refine Za4 (λaS=>?_) (λbI=>Zah aK rfl)
 have aN:i < L.length:=by omega
 obtain⟨k,hk⟩:=ZaQ aN
 obtain⟨b,o,rfl,bA⟩:=Zmk (h1.mono aK) hk
 obtain⟨b',o',rfl,iT⟩:=Zin (h2.mono aK) hk
 have hw:IntKind.i64.wrap ((i:Int)+1)=((i+1:Nat):Int):=by rw[Zas (by omega) (by omega)];rfl
 rw[hw]
 simp only[zA8]
 exact⟨b,o,rfl,⟨by omega,by omega⟩,_,_,_,_,bA,λb3=>Zaa rfl ⟨b',o',rfl,⟨by omega,by omega⟩,ZaB k.q,Zal _,iT,λb4=>Zaa (by rw[Zal,Zku];rfl) (Zai (Zqm k (hq k (zA2 hk)) m1) λm2 aO=>ZaM rfl ⟨L.length - (i+1),by omega,i+1,aN,rfl,rfl⟩)⟩⟩
theorem Zyw{M m:Mem}{Y:Nat->Prop}(h:M.le m)(hY:∀b,Y b->M.free b):M.le (m.off Y):=λb o v hv=>by
 rw[Mem.off_at λhy=>by rw[hY b hy o]at hv;cases hv]
 exact h _ _ _ hv
theorem ZrV{m:Mem}{t:T}(h:NewT m t){b:Nat}(hb:YT t b):m.free b:=by
 obtain⟨x,hx,bN,e⟩:=hb
 rcases h x hx with h|⟨b',e',hf⟩
 ·exact absurd h bN
 ·rw[e]at e'
  cases e'
  exact hf
theorem Znd{t:T}{n:Nat}(h:t.nodes.length<=n):∀y∈t.nodes,y.subs.length<=n:=λy hy=>by
 have h1:=ZsO t y hy
 have h2:=Zpp y
 omega
theorem ZBN{P:Nat->Prop}(h0:P 0)(h1:P 1)(h2:P 2)(h3:P 3)(h4:P 4):∀i,i < 5->P i
 | 0,_=>h0
 | 1,_=>h1
 | 2,_=>h2
 | 3,_=>h3
 | 4,_=>h4
set_option maxHeartbeats 4000000 in
theorem ZrW(t:T)(m:Mem)(hr:Rep m t)(hz:t.nodes.length<=250):CX Tryz.prog 12 #[t.v] m [] (Ret (.bool true)):=by
 apply ZjU
 intro b m1 aK rZ yw _
 refine⟨λi _ _=>bif Nat.beq i 1 then(Za9 λt'=>t'.er=t.er/\t'.caps)else ZrM t,_,rfl,Zkx t m1 (hr.mono aK) (by omega),Zaj,ZaD λown m2 aO jP dU=>?_⟩
 obtain⟨jF,fO⟩:=dU
 refine⟨_,rfl,Zig t m2 (hr.mono (mLt aK aO)) (by omega),Za5,Ze4 λcs m3 aX cE b1 b2=>cE.chk1 λM cM cS dM=>?_⟩
 have jT:=mLt aK cM
 have CL:own.nodes.length<=250:=by have:=Zcv jF;rw[ZdF]at this;omega
 have eG:=jP.mono cS
 have eQ:RefT M own cs:=(cE.mono dM).of_er jF.symm
 clear jP cE aX dM aO cS
 have bK:=Zi6 (t:=own) (by omega)
 have fin:∀(m':Mem),M.le m'->∃R_11:Value->Mem->List (List Value)->Prop,True/\CX Tryz.prog 41 #[own.v,.agg cs.toArray] m' [] R_11/\(∀(v:Value)(m':Mem) (css:List (List Value)),R_11 v m' css->Shape.fits .bool v=true)/\∀(b:Bool)(m'':Mem),m'.le m''->R_11 (.bool b) m'' []->∃m3,m.le m3/\m3.le m''/\Ret (.bool true) (.bool b) m3 []:=λm' hm'=>by
  refine⟨_,trivial,Zir own own cs m' (eG.mono hm') (eQ.mono hm') (by omega),λv _ _ e=>by rw[e];rfl,λbb m'' hm'' dC=>?_⟩
  have dC:Value.bool bb=.bool (own.same own):=dC
  rw[Zit]at dC
  exact Zah (mLt jT (mLt hm' hm'')) dC
 cases fF:T.rgt own with
 | false=>
  have hF:=Zi2 own M eG fO
  rw[fF]at hF
  simp only[Bool.false_eq_true,if_false]at hF
  refine⟨_,trivial,hF,Znb,?_⟩
  rintro k1 k2 k3 k4 k5 k6 k7 a8 n8 c8 e1 m4 bB ⟨t',hv,hr',rfl,_⟩ b3
  simp only[T.v,Value.tuple.injEq,Value.agg.injEq,Array.mk.injEq,List.cons.injEq,Value.int.injEq,Value.slice.injEq,true_and,and_true]at hv
  obtain⟨⟨rfl,rfl,rfl,rfl,rfl,rfl,rfl,rfl,rfl,rfl⟩,rfl⟩:=hv
  have dL:∀(L:List C4)(v:Value)(m':Mem) (css:List (List Value)),OrE own L v m' css->v=.tuple #[.slice none 0 0,.int .i64 2]:=λL v m' css h=>by unfold OrE at h;rw[if_pos fF]at h;exact h
  refine⟨_,trivial,Zs2 own m4 (eG.mono bB) fO,(λv m' css h=>by rw[dL _ _ _ _ h];rfl),?_⟩
  rintro a11 n17 c2 n18 m5 cC hv
  have hv:=dL _ _ _ _ hv
  simp only[Value.tuple.injEq,Array.mk.injEq,List.cons.injEq,Value.int.injEq,Value.slice.injEq,true_and,and_true]at hv
  obtain⟨⟨rfl,rfl,rfl⟩,rfl⟩:=hv
  have rY:=mLt bB cC
  refine⟨_,trivial,ZsZ own m5 (eG.mono rY) fO,(λv m' css h=>by rw[h,if_pos fF];rfl),?_⟩
  rintro g1 g2 g3 g4 g5 bb g6 m6 cI hv b5
  rw[if_pos fF]at hv
  simp only[C4.v,C4.zero,Value.tuple.injEq,Value.agg.injEq,Array.mk.injEq,List.cons.injEq,Value.int.injEq,Value.bool.injEq,true_and,and_true]at hv
  obtain⟨⟨rfl,rfl,rfl,rfl⟩,rfl,rfl,rfl⟩:=hv
  have lB:=mLt rY cI
  refine⟨_,trivial,Zs1 own m6 (eG.mono lB) fO (by omega),(λv m' css h=>by rw[dL _ _ _ _ h];rfl),?_⟩
  rintro a16 n25 c3 n26 m7 cB hv
  have hv:=dL _ _ _ _ hv
  simp only[Value.tuple.injEq,Array.mk.injEq,List.cons.injEq,Value.int.injEq,Value.slice.injEq,true_and,and_true]at hv
  obtain⟨⟨rfl,rfl,rfl⟩,rfl⟩:=hv
  have kV:=mLt lB cB
  refine⟨_,trivial,Zvw own m7 (eG.mono kV) fO,Zm4,?_⟩
  rintro a19 n27 c4 n28 m8 dT hv b6 gP
  unfold ZuE at hv
  rw[if_pos fF]at hv
  simp only[Value.tuple.injEq,Array.mk.injEq,List.cons.injEq,Value.int.injEq,Value.slice.injEq,true_and,and_true]at hv
  obtain⟨⟨rfl,rfl,rfl⟩,rfl⟩:=hv
  have yP:=mLt kV dT
  refine⟨λxs _ _ m' q=>∃i:Nat,i<=5/\xs=[.int .i64 i]/\M.le m'/\q=5 - i,⟨_,0,by omega,rfl,mLt yP (Mem.le_add gP _),rfl⟩,?_⟩
  rintro z m9 q _ ⟨i,hi,aZ,nF,hq⟩
  obtain rfl:z=i:=by simpa using aZ
  subst hq
  refine Za4 (λaS=>?_) (λbI=>?_)
  ·have aN:i < 5:=by omega
   have hw:IntKind.i64.wrap ((i:Int)+1)=((i+1:Nat):Int):=by rw[Zas (by omega) (by omega)];rfl
   rw[hw]
   simp only[zA8]
   refine⟨⟨by omega,by omega⟩,Zfv (v:=.int .i64 2) (ZBN (P:=λi=>([.int .i64 2,.int .i64 2,.int .i64 2,.int .i64 2,.int .i64 2]:List Value)[i*1]?=some (.int .i64 2)) rfl rfl rfl rfl rfl i aN) ⟨false,Zaa rfl (Zai (Zma own cs m9 (eQ.mono nF)) λm10 dY=>?_),ZaM rfl ⟨by trivial,5 - (i+1),by omega,i+1,aN,rfl,nF,rfl⟩⟩⟩
   rw[fF]
   exact ZaM rfl (Zaa rfl (ZeJ rfl (Zaa rfl ⟨by trivial,rfl⟩)))
  ·refine ZeJ rfl ⟨true,ZeJ rfl (ZeJ rfl ⟨_,Zwx _ _ _ _ _ _ _ _,ZeJ rfl ⟨by trivial,rfl⟩⟩),Zah (mLt jT nF) rfl⟩
 | true=>
  obtain⟨hg,pC⟩:=Zc8.1 fF
  have hF:=Zi2 own M eG fO
  rw[fF]at hF
  simp only[if_true]at hF
  refine⟨_,trivial,hF,Znb,?_⟩
  rintro k1 k2 k3 k4 k5 k6 k7 a8 n8 c8 e1 m4 bB ⟨f,hv,tq,⟨me,gY⟩,_⟩ b3
  simp only[T.v,Value.tuple.injEq,Value.agg.injEq,Array.mk.injEq,List.cons.injEq,Value.int.injEq,Value.slice.injEq,true_and,and_true]at hv
  obtain⟨⟨rfl,rfl,rfl,rfl,rfl,rfl,rfl,rfl,rfl,rfl⟩,rfl⟩:=hv
  have oQ:∀(L:List C4)(v:Value)(m':Mem) (css:List (List Value)),OrE own L v m' css->Zyj 0 L v m' css:=λL v m' css h=>by unfold OrE at h;rw[if_neg (by rw[fF];simp)]at h;exact h
  refine⟨_,trivial,Zs2 own m4 (eG.mono bB) fO,(λv m' css h=>by obtain⟨_,_,e,_⟩:=oQ _ _ _ _ h;rw[e];rfl),?_⟩
  rintro a11 n17 c2 n18 m5 cC hv
  obtain⟨ax,cx,hv,ve⟩:=oQ _ _ _ _ hv
  simp only[Value.tuple.injEq,Array.mk.injEq,List.cons.injEq,Value.int.injEq,Value.slice.injEq,true_and,and_true]at hv
  obtain⟨⟨rfl,rfl,rfl⟩,rfl⟩:=hv
  have rY:=mLt bB cC
  refine⟨_,trivial,ZuT own m5 (eG.mono rY) fF fO,Zqk,?_⟩
  rintro g1 g2 g3 g4 g5 bb g6 m6 cI hv b5
  unfold ZuS at hv
  simp only[C4.v,Value.tuple.injEq,Value.agg.injEq,Array.mk.injEq,List.cons.injEq,Value.int.injEq,Value.bool.injEq,true_and,and_true]at hv
  obtain⟨⟨rfl,rfl,rfl,rfl⟩,rfl,rfl,rfl⟩:=hv
  have lB:=mLt rY cI
  refine⟨_,trivial,Zs1 own m6 (eG.mono lB) fO (by omega),(λv m' css h=>by obtain⟨_,_,e,_⟩:=oQ _ _ _ _ h;rw[e];rfl),?_⟩
  rintro a16 n25 c3 n26 m7 cB hv
  obtain⟨ax,cx,hv,mY⟩:=oQ _ _ _ _ hv
  simp only[Value.tuple.injEq,Array.mk.injEq,List.cons.injEq,Value.int.injEq,Value.slice.injEq,true_and,and_true]at hv
  obtain⟨⟨rfl,rfl,rfl⟩,rfl⟩:=hv
  have kV:=mLt lB cB
  refine⟨_,trivial,Zvw own m7 (eG.mono kV) fO,Zm4,?_⟩
  rintro a19 n27 c4 n28 m8 dT hv b6 gP
  unfold ZuE at hv
  rw[if_neg (by rw[fF];simp)]at hv
  obtain⟨ax,cx,hv,vf⟩:=hv
  simp only[Value.tuple.injEq,Array.mk.injEq,List.cons.injEq,Value.int.injEq,Value.slice.injEq,true_and,and_true]at hv
  obtain⟨⟨rfl,rfl,rfl⟩,rfl⟩:=hv
  have yP:=mLt kV dT
  have yQ:=Mem.le_add gP [Value.int .i64 0,.int .i64 0,.int .i64 0,.int .i64 0,.int .i64 0]
  refine⟨λxs _ _ m' q=>∃i:Nat,i<=5/\xs=[.int .i64 i]/\m8.le m'/\q=5 - i,⟨_,0,by omega,rfl,yQ,rfl⟩,?_⟩
  rintro z m9 q _ ⟨i,hi,aZ,tr,hq⟩
  obtain rfl:z=i:=by simpa using aZ
  subst hq
  have nF:=mLt yP tr
  refine Za4 (λaS=>?_) (λbI=>?_)
  ·have aN:i < 5:=by omega
   have hw:IntKind.i64.wrap ((i:Int)+1)=((i+1:Nat):Int):=by rw[Zas (by omega) (by omega)];rfl
   rw[hw]
   simp only[zA8]
   refine⟨⟨by omega,by omega⟩,Zfv (v:=.int .i64 0) (ZBN (P:=λi=>([.int .i64 0,.int .i64 0,.int .i64 0,.int .i64 0,.int .i64 0]:List Value)[i*1]?=some (.int .i64 0)) rfl rfl rfl rfl rfl i aN) ⟨false,Zaa rfl (Zai (Zma own cs m9 (eQ.mono nF)) λm10 dY=>?_),ZaM rfl ⟨by trivial,5 - (i+1),by omega,i+1,aN,rfl,tr,rfl⟩⟩⟩
   rw[fF]
   exact ZaM rfl (Zaa rfl (ZaM rfl ⟨by trivial,rfl⟩))
  ·refine ZaM rfl ⟨_,trivial,Zqg own cs m9 (eQ.mono nF) hg pC,(λv _ _ ⟨_,_,_,e,_⟩=>by rw[e];rfl),?_⟩
   rintro a25 n31 c5 cs1 m10 dY ⟨ax,cx,cs1',hv,so,oP⟩ b7
   simp only[Value.tuple.injEq,Value.agg.injEq,Array.mk.injEq,List.cons.injEq,Value.slice.injEq,true_and,and_true]at hv
   obtain⟨⟨rfl,rfl,rfl⟩,rfl⟩:=hv
   have rK:=mLt nF dY
   refine oP.chk1 ⟨_,trivial,Zm9 own cs m10 (eQ.mono rK) hg pC,(λv _ _ e=>by rw[e];rfl),?_⟩
   rintro q1 q2 q3 q4 q5 m11 eH hv b8
   have hv:Value.tuple (Array.mk [.agg (Array.mk [.int .i64 q1,.int .i64 q2,.int .i64 q3,.int .i64 q4]),.int .i64 q5])=.tuple #[(Za1 own).c.v,.int .i64 (Za1 own).g]:=hv
   simp only[C4.v,Value.tuple.injEq,Value.agg.injEq,Array.mk.injEq,List.cons.injEq,Value.int.injEq,true_and,and_true]at hv
   obtain⟨⟨rfl,rfl,rfl,rfl⟩,rfl⟩:=hv
   have sA:=mLt rK eH
   have h4_11:m4.le m11:=mLt cC (mLt cI (mLt cB (mLt dT (mLt tr (mLt dY eH)))))
   have jI:f.nodes.length<=120:=by
    have h1:=Zcv me
    have h2:=ZiW _ own (Nat.le_refl _) hg
    omega
   have xB:(ZaF own).1.er=(ZaF own).1:=by rw[<-me,ZdQ]
   have gN:=Zir f (ZaF own).1 cs1 m11 (tq.mono h4_11) (oP.mono eH) (by omega)
   rw[Znc (t:=f) (u:=(ZaF own).1) (by rw[xB,me])]at gN
   have yR:(ZaF own).2.length<=1000000:=by have:=ZmX hg;omega
   have xW:=ZfT own
   refine⟨false,Zai gN λm12 gQ=>ZaM rfl (Zai (ZkA (ZaF own).2 _ _ c2 c5 m12 (ve.mono (mLt cI (mLt cB (mLt dT (mLt tr (mLt dY (mLt eH gQ))))))) (so.mono (mLt eH gQ)) yR) λm13 oR=>ZaM rfl (Zae (Zga own cs m13 (eQ.mono (mLt sA (mLt gQ oR))) (by omega)) Zf9 ?_)),ZaM rfl ?_⟩
   ·rintro a34 n37 c6 m14 sB ⟨ax,cx,hv,sC⟩
    simp only[Value.slice.injEq]at hv
    obtain⟨rfl,rfl,rfl⟩:=hv
    have h11_14:=mLt gQ (mLt oR sB)
    refine Zai (ZkA own.cuts _ _ c3 c6 m14 (mY.mono (mLt dT (mLt tr (mLt dY (mLt eH h11_14))))) sC (by omega)) λm15 vg=>ZaM rfl ⟨true,?_,ZaM rfl (ZaM (by simp) (ZaM (by simp) (Zae (Zi4 own cs m15 (eQ.mono (mLt sA (mLt h11_14 vg)))) ZeI ?_)))⟩
    ·have:=Ztd ((Za1 own).c.a:Nat) ((Za1 own).c.f:Nat) ((Za1 own).c.t:Nat) ((Za1 own).c.n:Nat) ((Za1 own).c.a:Nat) ((Za1 own).c.f:Nat) ((Za1 own).c.t:Nat) ((Za1 own).c.n:Nat)
     simpa using this
    ·rintro a39 n38 c7 m16 yS ⟨ax,cx,hv,sD⟩
     simp only[Value.slice.injEq]at hv
     obtain⟨rfl,rfl,rfl⟩:=hv
     exact Zai (ZuV (Zao own) _ _ c4 c7 m16 (vf.mono (mLt tr (mLt dY (mLt eH (mLt h11_14 (mLt vg yS)))))) sD (by omega) (Ztb eQ)) λm17 CM=>⟨by trivial,rfl⟩
   ·have hK:KRep m11 f:=Zte (tq.mono h4_11) gY
    have x7:KRep m4 f:=Zte tq gY
    have h0_8:m4.le m8:=mLt cC (mLt cI (mLt cB dT))
    refine⟨YT f,_,Zky f f (by rw[Zbf];exact List.mem_cons_self ..) (by have:=Zpp f;omega) (Znd (by omega)) f.k m11 hK,λx hx=>(by cases hx),λb10 lF=>.inr ⟨Zrg jT (ZrV gY lF),hK.known lF,λe=>?_,λe=>?_,trivial⟩,λv _ _ _ e=>by rw[e.1];rfl,?_⟩
    ·subst e
     obtain⟨o,v,hv⟩:=x7.known lF
     have:=h0_8 _ _ _ hv
     rw[gP o]at this;cases this
    ·subst e
     have wS:=ZrV gY lF
     have:=cM _ _ _ (rZ 0 _ rfl)
     rw[wS]at this;cases this
    ·rintro m12 gQ _ ⟨_,_⟩
     exact fin m12 (mLt (Zyw sA λb hb=>ZrV gY hb) gQ)
end Go.Proofs.YtfgfahnakepegaaGreat
namespace Go.Proofs.YtfgfahnakepegaaGreat
open Go Go.Eng Go.Proofs Go.RowKit
open Go.Value (int slice agg bool string tuple func)
open Go.IntKind (u8 u64 i64)
set_option maxRecDepth 100000
def Zml:Env:={ EB with
 loops:=swI nLa [(9,⟨[(47,.int .i64)],[],[],false⟩)]
 dr:=swI [] [(1,[⟨0,[3],[],none,[],[]⟩,dO 1 [0],⟨2,[3],[],none,[],[]⟩,⟨3,[],[],none,[0,1,2],[1]⟩,⟨4,[7],[7],none,[],[]⟩,⟨5,[8],[8],none,[],[]⟩,⟨6,[7],[7],none,[0,1,2,3,4,5],[]⟩,⟨7,[8],[8],none,[0,1,2,3,4,5,6],[]⟩]),(16,[dO 0 [],dO 1 [],dO 2 [0,1],dO 3 [0,1,2],dO 4 [0,1,2,3],dO 5 [0,1,2,3],dO 6 [0,1,2,3,4,5],dO 7 [0,1,2,3,4,5,6],dO 8 [0,1,2,3,4,5,6,7],⟨9,[14],[],none,[0,1,2,3,4,5,6,7,8],[]⟩,⟨10,[18],[],none,[0,1,2,3,4,5,6,7,8],[]⟩,dO 11 [0,1,2,3,4,5,6,7,8,9,10],dO 12 (rg 0 12),dO 13 (rg 0 13),dO 14 (rg 0 14),dO 15 (rg 0 15),dO 16 (rg 0 16),dO 17 (rg 0 17),dO 18 (rg 0 18),dO 19 (rg 0 19),dO 20 (rg 0 20),dO 21 (rg 0 21),dO 22 (rg 0 22),dO 23 (rg 0 23),dO 24 (rg 0 24),dO 25 (rg 0 25),dO 26 (rg 0 26),⟨27,[8],[],none,rg 0 26,[11]⟩,⟨28,[],[],none,rg 0 26++[27],[11]⟩,⟨29,[18],[],none,rg 0 26,[11]⟩,⟨30,[],[],none,rg 0 26++[27,28,29],[28]⟩,dO 31 (rg 0 26++rg 27 4),dO 32 (rg 0 32),dO 33 (rg 0 33),dO 34 (rg 0 34)])]
 tokOf:=swI 0 [(44,44)]
 frzNew:=[3,4]
 gb:=true
 thaw:=true
 cuts:=swI none [(8,some ⟨[(9,.slice)],[],[],false⟩),(16,some ⟨[(19,.int .i64)],[18],[],false⟩),(18,some ⟨[],[],[],false⟩)]
 lentC:=swI none [(107,some [])] }
abbrev Zd0:Int->Int->Int->Int->Nat->Option Box:=λaR aL aM aQ b=>some (Box.mk b [int i64 aR,int i64 aL,int i64 aM,int i64 aQ] 79 4 true true)
abbrev Zbu:Int->Int->Int->Int->Int->Int->Int->Option Addr->Nat->Nat->Nat->Option Box:=λn ab ac ad ae af ag a ah c b=>some (Box.mk b [int u8 n,int u64 ab,int u64 ac,int u64 ad,int u64
 ae,int i64 af,int i64 ag,slice a ah c] 27 8 false true)
abbrev Zb0:List Value->Nat->Option Box:=λcs b=>some (Box.mk b cs 67 260 false true)
abbrev Zd1:Int->Int->Int->Int->Nat->Option Box:=λaR aL aM aQ b=>some (Box.mk b [int i64 aR,int i64 aL,int i64 aM,int i64 aQ] 37 4 true true)
abbrev Zd2:Int->Int->Int->Int->Int->Int->Int->Option Addr->Nat->Nat->Nat->Option Box:=λaD aE aF aG aJ aH aI aB aA aC b=>some (Box.mk b [int u8 aD,int u64 aE,
 int u64 aF,int u64 aG,int u64 aJ,int i64 aH,int i64 aI,slice aB aA aC] 27 8 true true)
abbrev ZcZ:Int->Int->Int->Int->Int->Int->Int->Option Addr->Nat->Nat->Int->Int->Int->Int->Nat->Nat->Int->Int->Int->Int->Int->Int->Int->Option Addr->Nat->Nat->List Value->Nat->Nat
 -> Nat->List (Option Box):=λaD aE aF aG aJ aH aI aB aA aC aR aL aM aQ b am n ab ac ad ae af ag a ah c cs an ao ai=>[Zd0 aR aL aM aQ ai,Zbu n ab ac ad
 ae af ag a ah c an,Zb0 cs ao,Zbu n ab ac ad ae af ag a ah c an,Zb0 cs ao,Zd1 aR aL aM aQ am,Zd2 aD aE aF aG aJ aH aI aB aA aC b]
abbrev Zfx:Value->Value->Value->Value->Nat->Option Box:=λv aj ak al b=>some (Box.mk b [v,aj,ak,al] 79 4 false true)
abbrev Zfy:Int->Int->Int->Int->Int->Int->Int->Option Addr->Nat->Nat->Int->Int->Int->Int->Nat->Nat->Int->Int->Int->Int->Int->Int->Int->Option Addr->Nat->Nat->List Value->Nat->Nat
 -> Nat->Value->Value->Value->Value->Nat->Int->Int->Int->Int->Int->Int->Int->Option Addr->Nat->Nat->Nat->Nat->List (Option Box):=λaD aE aF aG aJ aH aI aB aA aC aR aL aM
 aQ b am n ab ac ad ae af ag a ah c cs an ao ai v aj ak al bb au a8 be av aw ax ay bm az bc a7 ar=>[some (Box.mk ar [] 67 260 false true),Zbu au a8 be av aw ax ay bm az bc a7,Zfx v aj ak al
 bb,Zd0 aR aL aM aQ ai,Zbu n ab ac ad ae af ag a ah c an,Zb0 cs ao,Zbu n ab ac ad ae af ag a ah c an,Zb0 cs ao,Zd1 aR aL aM aQ am,
 Zd2 aD aE aF aG aJ aH aI aB aA aC b]
abbrev Zfz:List Value:=[int i64 0,int i64 0,int i64 0,int i64 0,int i64 0,int i64 0,int i64 0,int i64 0,int i64 0,int i64 0,int i64 0,int i64 0,int i64 0,int i64 0,int i64 0,int i64 0,int
 i64 0,int i64 0,int i64 0,int i64 0,int i64 0,int i64 0,int i64 0,int i64 0,int i64 0,int i64 0,int i64 0,int i64 0,int i64 0,int i64 0,int i64 0,int i64 0,int i64 0,int i64 0,int i64 0,int i64 0,int
 i64 0,int i64 0,int i64 0,int i64 0,int i64 0,int i64 0,int i64 0,int i64 0,int i64 0,int i64 0,int i64 0,int i64 0,int i64 0,int i64 0,int i64 0,int i64 0,int i64 0,int i64 0,int i64 0,int i64 0,int
 i64 0,int i64 0,int i64 0,int i64 0,int i64 0,int i64 0,int i64 0,int i64 0,int i64 0,int i64 0,int i64 0,int i64 0,int i64 0,int i64 0,int i64 0,int i64 0,int i64 0,int i64 0,int i64 0,int i64 0,int
 i64 0,int i64 0,int i64 0,int i64 0,int i64 0,int i64 0,int i64 0,int i64 0,int i64 0,int i64 0,int i64 0,int i64 0,int i64 0,int i64 0,int i64 0,int i64 0,int i64 0,int i64 0,int i64 0,int i64 0,int
 i64 0,int i64 0,int i64 0,int i64 0,int i64 0,int i64 0,int i64 0,int i64 0,int i64 0,int i64 0,int i64 0,int i64 0,int i64 0,int i64 0,int i64 0,int i64 0,int i64 0,int i64 0,int i64 0,int i64 0,int
 i64 0,int i64 0,int i64 0,int i64 0,int i64 0,int i64 0,int i64 0,int i64 0,int i64 0,int i64 0,int i64 0,int i64 0,int i64 0,int i64 0,int i64 0,int i64 0,int i64 0,int i64 0,int i64 0,int i64 0,int
 i64 0,int i64 0,int i64 0,int i64 0,int i64 0,int i64 0,int i64 0,int i64 0,int i64 0,int i64 0,int i64 0,int i64 0,int i64 0,int i64 0,int i64 0,int i64 0,int i64 0,int i64 0,int i64 0,int i64 0,int
 i64 0,int i64 0,int i64 0,int i64 0,int i64 0,int i64 0,int i64 0,int i64 0,int i64 0,int i64 0,int i64 0,int i64 0,int i64 0,int i64 0,int i64 0,int i64 0,int i64 0,int i64 0,int i64 0,int i64 0,int
 i64 0,int i64 0,int i64 0,int i64 0,int i64 0,int i64 0,int i64 0,int i64 0,int i64 0,int i64 0,int i64 0,int i64 0,int i64 0,int i64 0,int i64 0,int i64 0,int i64 0,int i64 0,int i64 0,int i64 0,int
 i64 0,int i64 0,int i64 0,int i64 0,int i64 0,int i64 0,int i64 0,int i64 0,int i64 0,int i64 0,int i64 0,int i64 0,int i64 0,int i64 0,int i64 0,int i64 0,int i64 0,int i64 0,int i64 0,int i64 0,int
 i64 0,int i64 0,int i64 0,int i64 0,int i64 0,int i64 0,int i64 0,int i64 0,int i64 0,int i64 0,int i64 0,int i64 0,int i64 0,int i64 0,int i64 0,int i64 0,int i64 0,int i64 0,int i64 0,int i64 0,int
 i64 0,int i64 0,int i64 0,int i64 0,int i64 0,int i64 0,int i64 0,int i64 0,int i64 0,int i64 0,int i64 0,int i64 0,int i64 0,int i64 0,int i64 0,int i64 0,int i64 0,int i64 0,int i64 0,int i64 0,int
 i64 0,int i64 0,int i64 0,slice none 0 0]
abbrev ZjV:Nat->List Value->Option Box:=λb cs=>some (Box.mk b cs 67 260 false true)
abbrev ZcH:Int->Int->Int->Int->Int->Int->Int->Option Addr->Nat->Nat->Int->Int->Int->Int->Nat->Nat->Int->Int->Int->Int->Int->Int->Int->Option Addr->Nat->Nat->List Value->Nat->Nat
 -> Nat->Value->Value->Value->Value->Nat->Int->Int->Int->Int->Int->Int->Int->Option Addr->Nat->Nat->Nat->Nat->List Value->List (Option Box):=λaD aE aF aG aJ aH aI aB aA aC
 aR aL aM aQ b am n ab ac ad ae af ag a ah c cs an ao ai v aj ak al bb au a8 be av aw ax ay bm az bc a7 ar aq=>[ZjV ar aq,Zbu au a8 be av aw ax ay bm az bc a7,Zfx v aj ak al
 bb,Zd0 aR aL aM aQ ai,Zbu n ab ac ad ae af ag a ah c an,Zb0 cs ao,Zbu n ab ac ad ae af ag a ah c an,Zb0 cs ao,Zd1 aR aL aM aQ am,
 Zd2 aD aE aF aG aJ aH aI aB aA aC b]
theorem ZjW(aD aE aF aG aJ aH aI:Int)(aB:Option Addr)(aA aC:Nat)(aR aL aM aQ p2:Int)(m:Mem)(R:RT)(h:
 ∀(b:Nat) m',m.le m'->m'.reads b 0 [int u8 aD,int u64 aE,int u64 aF,int u64 aG,int u64 aJ,int i64 aH,int i64 aI,slice aB aA aC]->m.free b->(∀(b' o:Nat)(u:Value),m' b' o=some u->m b' o
 = some u\/b'=b)->∀(am:Nat) ba,m'.le ba->ba.reads am 0 [int i64 aR,int i64 aL,int i64 aM,int i64 aQ]->m'.free am->(∀(b' o:Nat)(u:Value),ba b' o=some u->m' b' o=some u\/b'=am)->∃(f:Fx),∃
 R_1,R_1=f 1 [agg (.mk [int u8 aD,int u64 aE,int u64 aF,int u64 aG,int u64 aJ,int i64 aH,int i64 aI,slice aB aA aC])] ba/\CX pG 33 (.mk [agg (.mk [int u8 aD,int u64 aE,int u64 aF,int u64
 aG,int u64 aJ,int i64 aH,int i64 aI,slice aB aA aC])]) ba [] R_1/\ZbT (shT) R_1/\∀n ab ac ad ae af ag a ah c m',ba.le m'->R_1 (agg (.mk [int u8 n,int u64 ab,int u64 ac,int u64 ad,int u64 ae,int i64
 af,int i64 ag,slice a ah c])) m' []->∃R_2,R_2=f 3 [agg (.mk [int u8 aD,int u64 aE,int u64 aF,int u64 aG,int u64 aJ,int i64 aH,int i64 aI,slice aB aA aC])] m'/\CX pG 34 (.mk [agg (.mk [int u8
 aD,int u64 aE,int u64 aF,int u64 aG,int u64 aJ,int i64 aH,int i64 aI,slice aB aA aC])]) m' [] R_2/\ZbT .cells R_2/\∀(cs:List Value) bl,m'.le bl->R_2 (agg (.mk cs)) bl []->∀(an ao:Nat),chk
 (Nat.beq (cs.length) 260&&Zbi cs) (∀M,ba.le M->m'.le M->bl.le M->∀ai,M.free ai->∃R_3,True/\CX pG 38 (.mk [agg (.mk cs)]) (M.add ai [int i64 aR,int i64 aL,int i64 aM,int i64 aQ]) [] R_3/\ZbT .bool R_3/\
 ∀(bb:Bool)(m':Mem),Mem.le (M.add ai [int i64 aR,int i64 aL,int i64 aM,int i64 aQ]) m'->R_3 (bool bb) m' []->∃(J:JT),br bb (∃R,True/\CX pG 43 (.mk [agg (.mk cs)]) m' [] R/\ZbT .slice R/\∀bh au bc ap,
 m'.le ap->R (slice bh au bc) ap []->br (decide ((↑au:Int) > 0)) ((↑au:Int)≠0/\∃(a7:Nat),∃(o:Nat),bh=some (Addr.mk a7 o none)/\Zaf (Int.tmod (i64.wrap p2) (↑au:Int)) au/\∃v aj ak al:Value,ap.reads a7
 (o+Int.toNat (Int.tmod (i64.wrap p2) (↑au:Int))*4) [v,aj,ak,al]/\∀ar,ap.free ar->(slice (some (Addr.mk ai 0 none)) 1 1=slice none 0 0\/1 < 1+1)/\∃(xs:List Value),∃(ys:List Value),xs.length=1*4/\
 ys.length=1*4/\rowRd (ap.add ar [v,aj,ak,al]) (some (Addr.mk ai 0 none)) xs/\rowRd (ap.add ar [v,aj,ak,al]) (some (Addr.mk ar 0 none)) ys/\(∀(u:Value),u∈ys->u.oneCell'=true)/\(1+1)*32<=140737488355328/\
 1+1<=9223372036854775807/\∀(a':Option Addr)(c':Nat)(m':Mem),Mem.le (ap.add ar [v,aj,ak,al]) m'->rowRd m' a' (List.append xs ys)->TokFact (ap.add ar [v,aj,ak,al]) (some (Addr.mk ai 0 none)) a' (1+1) c'->
 Zab (ZcZ aD aE aF aG aJ aH aI aB aA aC aR aL aM aQ b am n ab ac ad ae af ag a ah c cs an ao ai)/\J [slice a' 2 c'] [] [] m') (Zab (ZcZ aD aE aF aG aJ aH aI
 aB aA aC aR aL aM aQ b am n ab ac ad ae af ag a ah c cs an ao ai)/\J [slice (some (Addr.mk ai 0 none)) 1 1] [] [] ap)) (Zab (ZcZ aD aE aF aG aJ aH aI aB aA aC aR aL aM
 aQ b am n ab ac ad ae af ag a ah c cs an ao ai)/\J [slice (some (Addr.mk ai 0 none)) 1 1] [] [] m')/\∀bh au bc (m':Mem),True->J [slice bh au bc] [] [] m'->∃(I:IT),(∃(n:Nat),I [int i64 0] [] [] m' n)/\∀a8 (m':
 Mem) (be:Nat),True->I [int i64 a8] [] [] m' be->br (decide (a8 < (↑au:Int))) (∃(a7:Nat),∃(o:Nat),bh=some (Addr.mk a7 o none)/\Zaf a8 au/\∃v aj ak al:Value,m'.reads a7 (o+Int.toNat a8*4) [v,aj,ak,
 al]/\∀(ar:Nat),chk (v.oneCell'&&(aj.oneCell'&&(ak.oneCell'&&(al.oneCell'&&true)))) (∃R_4,True/\CX pG 21 (.mk [agg (.mk [int u8 n,int u64 ab,int u64 ac,int u64 ad,int u64 ae,int i64 af,int i64 ag,slice a ah
 c]),agg (.mk [v,aj,ak,al])]) m' [] R_4/\ZbT (.tup [shT,.int i64]) R_4/\∀av aw ax ay az a1 a2 a3 a4 a5 bn ap,m'.le ap->R_4 (tuple (.mk [agg (.mk [int u8 av,int u64 aw,int u64 ax,int u64 ay,int u64 az,int i64 a1,int
 i64 a2,slice a3 a4 a5]),int i64 bn])) ap []->∀(bf:Nat),∃R_5,True/\CX pG 49 (.mk [agg (.mk [int u8 n,int u64 ab,int u64 ac,int u64 ad,int u64 ae,int i64 af,int i64 ag,slice a ah c]),agg (.mk [v,aj,ak,al])]) ap
 [] R_5/\ZbT (.tup [.int i64,.int i64]) R_5/\∀bk bo m',ap.le m'->R_5 (tuple (.mk [int i64 bk,int i64 bo])) m' []->∀(bg:Nat),∃(J:JT),br bb (∃R,True/\CX pG 50 (.mk [agg (.mk cs),agg (.mk [v,aj,ak,al])]) m' []
 R/\ZbT (.tup [.cells,.int i64]) R/\∀(aq:List Value) a9 aa,m'.le aa->R (tuple (.mk [agg (.mk aq),int i64 a9])) aa []->chk (Nat.beq (aq.length) 260&&Zbi aq) (Zab (Zfy aD aE aF aG aJ aH aI
 aB aA aC aR aL aM aQ b am n ab ac ad ae af ag a ah c cs an ao ai v aj ak al ar av aw ax ay az a1 a2 a3 a4 a5 bf bg)/\J [int i64 a9] [aq] [] aa)) (Zab (Zfy aD aE aF aG aJ aH aI aB
 aA aC aR aL aM aQ b am n ab ac ad ae af ag a ah c cs an ao ai v aj ak al ar av aw ax ay az a1 a2 a3 a4 a5 bf bg)/\J [int i64 2] [Zfz] [] m')/\∀a9 (aq:List Value) (m':Mem),True->J [int i64 a9] [aq]
 [] m'->∃(J:JT),(∃(f:Fx),br (!bn == a9) (∀M,m'.le M->m'.le M->m'.le M->m'.le M->∃m'',m.le m''/\m''.le M/\R (bool false) m'' []) (br (!bo == a9) (∀M,m'.le M->m'.le M->m'.le M->m'.le M->∃m'',m.le m''/\
 m''.le M/\R (bool false) m'' []) (∃R_6,R_6=f 11 [agg (.mk [int u8 av,int u64 aw,int u64 ax,int u64 ay,int u64 az,int i64 a1,int i64 a2,slice a3 a4 a5]),agg (.mk aq)] m'/\CX pG 41 (.mk [agg (.mk [int u8 av,int u64
 aw,int u64 ax,int u64 ay,int u64 az,int i64 a1,int i64 a2,slice a3 a4 a5]),agg (.mk aq)]) m' [] R_6/\ZbT .bool R_6/\∀(a6:Bool) aa,m'.le aa->R_6 (bool a6) aa []->br (!a6) (∀M,m'.le M->aa.le M->aa.le M->aa.le M
 -> ∃m'',m.le m''/\m''.le M/\R (bool false) m'' []) (br (!a9 == 0) (br (!bk == 0) (∀M,m'.le M->aa.le M->aa.le M->aa.le M->∃m'',m.le m''/\m''.le M/\R (bool false) m'' []) (br (a9 == 0) (∃R_7,R_7=f 28 [agg (.mk cs)]
 aa/\CX pG 51 (.mk [agg (.mk cs)]) aa [] R_7/\ZbT (.int i64) R_7/\∀bi a0,aa.le a0->R_7 (int i64 bi) a0 []->∃R_8,R_8=f 30 [agg (.mk aq)] a0/\CX pG 51 (.mk [agg (.mk aq)]) a0 [] R_8/\ZbT (.int i64) R_8/\∀bj bd,a0.le
 bd->R_8 (int i64 bj) bd []->∀M,m'.le M->aa.le M->a0.le M->bd.le M->br (!bk == i64.wrap (bi - bj)) (∃m'',m.le m''/\m''.le M/\R (bool false) m'' []) (Zab (ZcH aD aE aF aG aJ aH aI aB aA
 aC aR aL aM aQ b am n ab ac ad ae af ag a ah c cs an ao ai v aj ak al ar av aw ax ay az a1 a2 a3 a4 a5 bf bg aq)/\J [] [] [] M)) (∀M,m'.le M->aa.le M->aa.le M->aa.le M->Zab (ZcH aD aE aF aG
 aJ aH aI aB aA aC aR aL aM aQ b am n ab ac ad ae af ag a ah c cs an ao ai v aj ak al ar av aw ax ay az a1 a2 a3 a4 a5 bf bg aq)/\J [] [] [] M))) (br (a9 == 0) (∃R_7,R_7=f 28 [agg (.mk cs)] aa/\CX pG 51
 (.mk [agg (.mk cs)]) aa [] R_7/\ZbT (.int i64) R_7/\∀bi a0,aa.le a0->R_7 (int i64 bi) a0 []->∃R_8,R_8=f 30 [agg (.mk aq)] a0/\CX pG 51 (.mk [agg (.mk aq)]) a0 [] R_8/\ZbT (.int i64) R_8/\∀bj bd,a0.le bd->R_8 (int
 i64 bj) bd []->∀M,m'.le M->aa.le M->a0.le M->bd.le M->br (!bk == i64.wrap (bi - bj)) (∃m'',m.le m''/\m''.le M/\R (bool false) m'' []) (Zab (ZcH aD aE aF aG aJ aH aI aB aA aC aR
 aL aM aQ b am n ab ac ad ae af ag a ah c cs an ao ai v aj ak al ar av aw ax ay az a1 a2 a3 a4 a5 bf bg aq)/\J [] [] [] M)) (∀M,m'.le M->aa.le M->aa.le M->aa.le M->Zab (ZcH aD aE aF aG aJ aH
 aI aB aA aC aR aL aM aQ b am n ab ac ad ae af ag a ah c cs an ao ai v aj ak al ar av aw ax ay az a1 a2 a3 a4 a5 bf bg aq)/\J [] [] [] M))))))/\∀(m':Mem),True->J [] [] [] m'->∃(Y:Nat->Prop),∃(R:
 Value->Mem->List (List Value)->List Value->Prop),CXY pG 48 (.mk [agg (.mk [int u8 av,int u64 aw,int u64 ax,int u64 ay,int u64 az,int i64 a1,int i64 a2,slice a3 a4 a5])]) m' Y [] [] R/\(∀(t:Tok),t∈[]->∀(b:
 Nat),Tok.blk t=some b->Y b)/\(∀(a6:Nat),Y a6->(∃(t:Tok),t∈[]/\Tok.blk t=some a6)\/m.free a6/\(∃(o:Nat),∃(v:Value),m' a6 o=some v)/\ai≠a6/\am≠a6/\b≠a6/\True)/\(∀(v:Value)(m':Mem) (css
 : List (List Value)) (tvs:List Value),R v m' css tvs->Shape.fits (.tup []) v=true)/\∀(aa:Mem),Mem.le (Mem.off m' Y) aa->(∀(b o:Nat)(u:Value),aa b o=some u->m' b o=some u\/Y b\/m'.free b)->R (tuple (.mk
 [])) aa [] []->Zab (ZcZ aD aE aF aG aJ aH aI aB aA aC aR aL aM aQ b am n ab ac ad ae af ag a ah c cs an ao ai)/\∃(n':Nat),n' < be/\I [int i64 (i64.wrap (a8+1))] [] [] aa n'))
 (∃R_4,True/\CX pG 41 (.mk [agg (.mk [int u8 n,int u64 ab,int u64 ac,int u64 ad,int u64 ae,int i64 af,int i64 ag,slice a ah c]),agg (.mk cs)]) m' [] R_4/\ZbT .bool R_4/\∀(b:Bool) ap,m'.le ap->R_4 (bool b) ap []->
 ∃m'',m.le m''/\m''.le ap/\R (bool b) m'' []))):CX Tryz.prog 13 #[.agg #[.int .u8 aD,.int .u64 aE,.int .u64 aF,.int .u64 aG,.int .u64 aJ,.int .i64 aH,.int .i64 aI,.slice aB aA aC],.agg #[.int .i64 aR,.int .i64 aL,.int .i64 aM,.int .i64 aQ],.int .u8 p2] m [] R:=
 Zad (E:=Zml) Zay mix Tryz.func13 [.v (.agg #[.int .u8 aD,.int .u64 aE,.int .u64 aF,.int .u64 aG,.int .u64 aJ,.int .i64 aH,.int .i64 aI,.slice aB aA aC]),.v (.agg #[.int .i64 aR,.int .i64 aL,.int .i64 aM,.int .i64 aQ]),.v (.int .u8 p2)] [] (by kernel_rfl) (Eq.mp (by kernel_rfl) h)
end Go.Proofs.YtfgfahnakepegaaGreat
namespace Go.Proofs.YtfgfahnakepegaaGreat
open Go Go.Eng Go.Rx Go.Proofs Go.RowKit
set_option maxRecDepth 100000
abbrev I4:=Int×Int×Int×Int
def ZdD(q:I4):List Value:=[.int .i64 q.1,.int .i64 q.2.1,.int .i64 q.2.2.1,.int .i64 q.2.2.2]
def i4s(Q:List I4):List Value:=(Q.map ZdD).flatten
theorem Zyx(Q:List I4):(i4s Q).length=Q.length*4:=by
 induction Q with
 | nil=>rfl
 | cons c L ih=>simp[i4s,ZdD]at ih ⊢;omega
theorem Zyy{m:Mem}{a:Option Addr}{L:List I4}(h:rowRd m a (i4s L)){i:Nat}{k:I4}(hk:L[i]?=some k):∃b o,a=some ⟨b,o,none⟩/\m.reads b (o+i*4) (ZdD k):=by
 have key:∀{L:List I4} {i:Nat},L[i]?=some k->∀j v,(ZdD k)[j]?=some v->(i4s L)[i*4+j]?=some v:=by
  intro L
  induction L with
  | nil=>intro i h;simp at h
  | cons x L ih=>
   intro i h j v hv
   have hj:j < 4:=(zA0 hv).1
   have e:i4s (x::L)=ZdD x++i4s L:=rfl
   cases i with
   | zero=>
    simp at h;subst h
    rw[e,Nat.zero_mul,Nat.zero_add,zA5 hj];exact hv
   | succ i=>
    rw[e,zA4 (by show 4<=_;omega),show(i+1)*4+j - (ZdD x).length=i*4+j from by show(i+1)*4+j - 4=_;omega]
    exact ih (by simpa using h) j v hv
 rcases h with h|⟨b,o,e,h⟩
 ·have h1:=Zyx L
  have h2:=(zA0 hk).1
  rw[h]at h1;simp at h1;omega
 ·exact⟨b,o,e,λj v hv=>by have:=h _ v (key hk j v hv);rwa [<-Nat.add_assoc]at this⟩
structure Out (own:T)(q:I4)(e g:Int)(E:T):Prop where
 er:E.er=E
 sz:E.nodes.length<=1000
 zero:e≠0->g=0
 gain:e=0->g=own.size - E.size
def ZyF(own:T)(q:I4)(e g:Int)(E:T):Prop:=(T.rgt own=false/\e=2/\g=0/\E=T0)\/(T.rgt own=true/\((∃k∈own.cuts,IsC k q.1 q.2.1 q.2.2.1 q.2.2.2/\e=0/\g=Zec own k/\E=(own.cutAt k 0).1)\/((∀k∈own.cuts,¬IsC k q.1 q.2.1 q.2.2.1 q.2.2.2)/\e=150/\g=0/\E=T0)))
theorem Zyz{k k':C4}{a b c d:Int}(h:IsC k a b c d)(h':IsC k' a b c d):k=k':=by
 obtain⟨h1,h2,h3,h4⟩:=h
 obtain⟨g1,g2,g3,g4⟩:=h'
 cases k;cases k'
 simp only[C4.mk.injEq]at *
 omega
theorem Ztj{own:T}{q:I4}{e e' g g':Int}{E E':T}(h:ZyF own q e g E)(h':ZyF own q e' g' E'):e=e'/\g=g'/\E=E':=by
 rcases h with⟨h1,rfl,rfl,rfl⟩|⟨h1,⟨k,hk,hc,rfl,rfl,rfl⟩|⟨hn,rfl,rfl,rfl⟩⟩
 ·rcases h' with⟨_,rfl,rfl,rfl⟩|⟨h2,_⟩
  ·exact⟨rfl,rfl,rfl⟩
  ·rw[h1]at h2;cases h2
 ·rcases h' with⟨h2,_⟩|⟨_,⟨k',hk',hc',rfl,rfl,rfl⟩|⟨hn,_⟩⟩
  ·rw[h1]at h2;cases h2
  ·rw[Zyz hc hc'];exact⟨rfl,rfl,rfl⟩
  ·exact absurd hc (hn k hk)
 ·rcases h' with⟨h2,_⟩|⟨_,⟨k',hk',hc',_⟩|⟨_,rfl,rfl,rfl⟩⟩
  ·rw[h1]at h2;cases h2
  ·exact absurd hc' (hn k' hk')
  ·exact⟨rfl,rfl,rfl⟩
theorem ZwQ{own:T}{q:I4}{e g:Int}{E:T}(h:ZyF own q e g E):Out own q e g E:=by
 rcases h with⟨h1,rfl,rfl,rfl⟩|⟨h1,⟨k,hk,hc,rfl,rfl,rfl⟩|⟨hn,rfl,rfl,rfl⟩⟩
 ·exact⟨rfl,by decide,λ_=>rfl,λh=>by cases h⟩
 ·obtain⟨hg,hz⟩:=Zc8.1 h1
  have ho:=ZgH (c:=k) own 0 hg (ZcS hk)
  have h3:=ho.sz
  refine⟨ho.er,by omega,λh=>absurd rfl h,λ_=>?_⟩
  rw[Zbz (by omega),Zbz (by omega)];rfl
 ·exact⟨rfl,by decide,λ_=>rfl,λh=>by cases h⟩
theorem ZuW{own:T}{q:I4}{m m':Mem}{v:Value}{css:List (List Value)}(h:Zqx own m q.1 q.2.1 q.2.2.1 q.2.2.2 v m' css):∃(f:T)(e g:Int)(E:T),v=.tuple #[f.v,.int .i64 e]/\Rep m' f/\NewT m f/\f.er=E/\ZyF own q e g E:=by
 unfold Zqx at h
 split at h
 ·rename_i hr
  obtain⟨f,hv,jR,rfl,_⟩:=h
  exact⟨T0,2,0,T0,hv,jR,ZgM rfl,rfl,.inl ⟨hr,rfl,rfl,rfl⟩⟩
 ·rename_i hr
  have hr:T.rgt own=true:=by simpa using hr
  rcases h with⟨k,hk,h1,h2,h3,h4,f,hv,jR,⟨he,hn⟩,_⟩|⟨dL,f,hv,jR,rfl,_⟩
  ·exact⟨f,0,Zec own k,_,hv,jR,hn,he,.inr ⟨hr,.inl ⟨k,hk,⟨h1,h2,h3,h4⟩,rfl,rfl,rfl⟩⟩⟩
  ·exact⟨T0,150,0,T0,hv,jR,ZgM rfl,rfl,.inr ⟨hr,.inr ⟨dL,rfl,rfl,rfl⟩⟩⟩
theorem ZwR{own:T}{q:I4}{g e:Int}(h:ZAa own q.1 q.2.1 q.2.2.1 q.2.2.2 g e):∃E,ZyF own q e g E:=by
 rcases h with⟨hr,rfl,rfl⟩|⟨hr,k,hk,h1,h2,h3,h4,rfl,rfl⟩|⟨hr,dL,rfl,rfl⟩
 ·exact⟨T0,.inl ⟨hr,rfl,rfl,rfl⟩⟩
 ·exact⟨_,.inr ⟨hr,.inl ⟨k,hk,⟨h1,h2,h3,h4⟩,rfl,rfl,rfl⟩⟩⟩
 ·exact⟨T0,.inr ⟨hr,.inr ⟨dL,rfl,rfl,rfl⟩⟩⟩
theorem ZyA{own:T}{q:I4}{m':Mem}{v:Value}{css:List (List Value)}(hr:T.rgt own=true)(h:ZA9 own q.1 q.2.1 q.2.2.1 q.2.2.2 v m' css):∃(e g:Int)(E:T)(cs:List Value),v=.tuple #[.agg cs.toArray,.int .i64 e]/\RefT m' E cs/\ZyF own q e g E:=by
 rcases h with⟨k,hk,hc,cs,hv,hR⟩|⟨dL,cs,hv,hR⟩
 ·exact⟨0,Zec own k,_,cs,hv,hR,.inr ⟨hr,.inl ⟨k,hk,hc,rfl,rfl,rfl⟩⟩⟩
 ·exact⟨150,0,T0,cs,hv,hR,.inr ⟨hr,.inr ⟨dL,rfl,rfl,rfl⟩⟩⟩
theorem Zoy{m:Mem}{b b' o:Nat}{v:Value}(h:m b o=some v)(hf:m.free b'):b≠b':=λe=>by
 subst e
 rw[hf o]at h;cases h
set_option maxHeartbeats 4000000 in
theorem ZrX(t:T)(q:I4)(p2:Int)(hp:0<=p2/\p2 < 256)(m:Mem)(hr:Rep m t)(hz:t.nodes.length<=250):CX Tryz.prog 13 #[t.v,.agg #[.int .i64 q.1,.int .i64 q.2.1,.int .i64 q.2.2.1,.int .i64 q.2.2.2],.int .u8 p2] m [] (Ret (.bool true)):=by
 apply ZjW
 intro b m1 aK rZ yw _ b1 m1' vh vj CN _
 have yU:=mLt aK vh
 refine⟨λi _ _=>bif Nat.beq i 1 then(Za9 λt'=>t'.er=t.er/\t'.caps)else ZrM t,_,rfl,Zkx t m1' (hr.mono yU) (by omega),Zaj,ZaD λown m2 aO jP dU=>?_⟩
 obtain⟨jF,fO⟩:=dU
 refine⟨_,rfl,Zig t m2 (hr.mono (mLt yU aO)) (by omega),Za5,Ze4 λcs m3 aX cE b2 b3=>cE.chk1 λM cM cS dM b4 oG=>?_⟩
 have jT:=mLt yU cM
 have CL:own.nodes.length<=250:=by have:=Zcv jF;rw[ZdF]at this;omega
 have eG:=jP.mono cS
 have eQ:RefT M own cs:=(cE.mono dM).of_er jF.symm
 clear jP cE aX dM aO cS
 have bK:=Zi6 (t:=own) (by omega)
 have sE:=Mem.le_add oG (ZdD q)
 have uW:∀m':Mem,(M.add b4 (ZdD q)).le m'->m' b4 0=some (.int .i64 q.1):=λm' h=>h _ _ _ (by rw[Mem.add_same];rfl)
 have iZ:∀m':Mem,(M.add b4 (ZdD q)).le m'->rowRd m' (some ⟨b4,0,none⟩) (i4s [q]):=λm' h=>(show rowRd (M.add b4 (ZdD q)) (some ⟨b4,0,none⟩) (i4s [q]) from by
  have e:i4s [q]=ZdD q:=by simp[i4s]
  rw[e];exact Zi5).mono h
 refine Zai (Zma own cs _ (eQ.mono sE)) λm5 cC=>⟨λxs _ _ m'=>∃(Q:List I4)(a1:Option Addr)(c1:Nat),xs=[.slice a1 Q.length c1]/\Q.length<=2/\m5.le m'/\rowRd m' a1 (i4s Q),Zac (λfF=>Zae (Zga own cs m5 (eQ.mono (mLt sE cC)) (by omega)) Zf9 ?_) (λfF=>⟨by trivial,[q],_,_,rfl,by simp,Mem.le_refl _,iZ m5 cC⟩),?_⟩
 ·rintro a11 n8 c8 m6 cI ⟨ax,cx,hv,mY⟩
  simp only[Value.slice.injEq]at hv
  obtain⟨rfl,rfl,rfl⟩:=hv
  refine Za4 (λgJ=>?_) (λgJ=>⟨by trivial,[q],_,_,rfl,by simp,cI,iZ m6 (mLt cC cI)⟩)
  have vk:0 < own.cuts.length:=by omega
  have fN:IntKind.i64.wrap p2=p2:=Zas (by omega) (by omega)
  have nX:Int.tmod p2 (own.cuts.length:Nat)=((p2.toNat % own.cuts.length:Nat):Int):=by
   obtain⟨w,rfl⟩:∃w:Nat,p2=w:=⟨p2.toNat,by omega⟩
   rw[zA8];rfl
  have aS:=Nat.mod_lt p2.toNat vk
  obtain⟨k,hk⟩:=ZaQ aS
  obtain⟨b6,o6,rfl,sF⟩:=Zi9 mY hk
  rw[fN,nX]
  simp only[zA8]
  refine⟨by omega,b6,o6,rfl,⟨by omega,by omega⟩,_,_,_,_,sF,λb7 fK=>⟨.inr (by omega),ZdD q,Zcd k,rfl,rfl,?_,Zi5,ZrB k,by omega,by omega,λa12 c12 m7 cB eP _=>⟨by trivial,[q,((k.a:Nat),(k.f:Nat),(k.t:Nat),(k.n:Nat))],a12,c12,rfl,by simp,mLt cI (mLt (Mem.le_add fK _) cB),?_⟩⟩⟩
  ·have:=iZ (m6.add b7 (Zcd k)) (mLt cC (mLt cI (Mem.le_add fK _)))
   have e:i4s [q]=ZdD q:=by simp[i4s]
   rwa [e]at this
  ·exact eP
 rintro a11 n8 c1 Mq _ ⟨Q,a12,c12,aZ,Ab,An,vm⟩
 simp only[List.cons.injEq,Value.slice.injEq,and_true]at aZ
 obtain⟨rfl,rfl,rfl⟩:=aZ
 have yV:M.le Mq:=mLt sE (mLt cC An)
 refine⟨λxs _ _ m' p=>∃i:Nat,i<=Q.length/\xs=[.int .i64 i]/\Mq.le m'/\p=Q.length - i,⟨_,0,Nat.zero_le _,rfl,Mem.le_refl _,rfl⟩,?_⟩
 rintro z m6 p _ ⟨i,hi,aZ,cI,qD⟩
 obtain rfl:z=i:=by simpa using aZ
 subst qD
 have pQ:=mLt yV cI
 have dF:=Zir own own cs m6 (eG.mono pQ) (eQ.mono pQ) (by omega)
 rw[Zit]at dF
 refine Za4 (λaS=>?_) (λbI=>Zai dF λm7 cB=>Zah (mLt jT (mLt pQ cB)) rfl)
 have aN:i < Q.length:=by omega
 obtain⟨k,hk⟩:=ZaQ aN
 obtain⟨bq,oq,rfl,yW⟩:=Zyy (vm.mono cI) hk
 have hw:IntKind.i64.wrap ((i:Int)+1)=((i+1:Nat):Int):=by rw[Zas (by omega) (by omega)];rfl
 rw[hw]
 simp only[zA8]
 refine⟨bq,oq,rfl,⟨by omega,by omega⟩,_,_,_,_,yW,λb7=>Zaa rfl ⟨_,trivial,Zs0 own k.1 k.2.1 k.2.2.1 k.2.2.2 m6 (eG.mono pQ) fO,ZrD,?_⟩⟩
 rintro f1 f2 f3 f4 f5 f6 f7 fa fn fc e1 m7 cB hv b8
 obtain⟨f,e1',g1,E,hv,tq,gY,Ao,kL⟩:=ZuW (q:=k) hv
 simp only[T.v,Value.tuple.injEq,Value.agg.injEq,Array.mk.injEq,List.cons.injEq,Value.int.injEq,Value.slice.injEq,true_and,and_true]at hv
 obtain⟨⟨rfl,rfl,rfl,rfl,rfl,rfl,rfl,rfl,rfl,rfl⟩,rfl⟩:=hv
 have uH:=mLt pQ cB
 refine⟨_,trivial,Zvv own k.1 k.2.1 k.2.2.1 k.2.2.2 m7 (eG.mono uH) fO,ZuD,?_⟩
 rintro g2 e2 m8 dT ⟨g2',e2',hv,CO⟩ b9
 simp only[Value.tuple.injEq,Array.mk.injEq,List.cons.injEq,Value.int.injEq,true_and,and_true]at hv
 obtain⟨rfl,rfl⟩:=hv
 obtain⟨E2,vn⟩:=ZwR (q:=k) CO
 obtain⟨rfl,rfl,rfl⟩:=Ztj kL vn
 have ho:=ZwQ kL
 have vR:=mLt uH dT
 refine⟨λxs css _ m'=>∃cs1:List Value,xs=[.int .i64 e1]/\css=[cs1]/\m8.le m'/\RefT m' E cs1,Zac (λfF=>?_) (λfF=>?_),?_⟩
 ·have uM:=Zyu own cs k.1 k.2.1 k.2.2.1 k.2.2.2 m8 (eQ.mono vR) (Zc8.1 fF).1 (Zc8.1 fF).2
  refine Zae uM ZuP ?_
  rintro cs1 e3 m9 kK hv
  obtain⟨e3',g3,E3,cs1',hv,Ap,vo⟩:=ZyA (q:=k) fF hv
  simp only[Value.tuple.injEq,Value.agg.injEq,Array.mk.injEq,List.cons.injEq,Value.int.injEq,true_and,and_true]at hv
  obtain⟨rfl,rfl⟩:=hv
  obtain⟨rfl,rfl,rfl⟩:=Ztj kL vo
  exact Ap.chk1 ⟨by trivial,cs1,rfl,rfl,kK,Ap⟩
 ·have e0:Zfz=rcs 0 (0,0,0,0) 0 0 none 0 0:=Zil 0 0 0 none 0 0
  rcases kL with⟨_,rfl,rfl,rfl⟩|⟨h,_⟩
  ·rw[e0]
   exact⟨by trivial,_,rfl,rfl,Mem.le_refl _,ZuM _⟩
  ·rw[fF]at h;cases h
 rintro e4 cs1 m9 _ ⟨cs1',aZ,bW,kK,Aq⟩
 obtain rfl:e4=e1:=by simpa using aZ
 obtain rfl:cs1=cs1':=by simpa using bW
 have nF:=mLt vR kK
 have Ar:=mLt dT kK
 have jI:f.nodes.length<=1000:=by have:=Zcv Ao;have:=ho.sz;omega
 have gN:f.same E=true:=Znc (by rw[ho.er,Ao])
 have vp:=Zir f E cs1 m9 (tq.mono Ar) Aq jI
 rw[gN]at vp
 refine⟨λ_ _ _ m'=>m9.le m',⟨λj _ _=>bif Nat.beq j 11 then Ret (.bool true)else bif Nat.beq j 28 then Ret (.int .i64 own.size)else Ret (.int .i64 E.size),Zf0 (by simp) (Zf0 (by simp) ⟨_,rfl,vp,(λv _ _ e=>by rw[e];rfl),λbb m10 dY dC=>?_⟩)⟩,?_⟩
 ·obtain rfl:bb=true:=by have dC:Value.bool bb=.bool true:=dC;simpa using dC
  refine Zf0 rfl (Zac (λh0=>?_) (λh0=>?_))
  ·have h0':e4≠0:=by simpa using h0
   have hg:=ho.zero h0'
   subst hg
   exact Zf0 rfl (Zf0 (by simpa using h0') λM hM _ _ _=>⟨by trivial,hM⟩)
  ·have h0':e4=0:=by simpa using h0
   have hg:=ho.gain h0'
   refine ZsS (by simpa using h0') ⟨_,rfl,Zi3 own cs m10 (eQ.mono (mLt nF dY)),(λv _ _ e=>by rw[e];rfl),λn23 m11 eH sG=>⟨_,rfl,Zi3 E cs1 m11 (Aq.mono (mLt dY eH)),(λv _ _ e=>by rw[e];rfl),λn24 m12 gQ sH M cM cS _ _=>?_⟩⟩
   obtain rfl:n23=own.size:=by have sG:Value.int .i64 n23=.int .i64 own.size:=sG;simpa using sG
   obtain rfl:n24=E.size:=by have sH:Value.int .i64 n24=.int .i64 E.size:=sH;simpa using sH
   have h1:=Zbz (t:=own) (by omega)
   have h2:=Zbz (t:=E) (by have:=ho.sz;omega)
   have h3:=ho.sz
   have CP:IntKind.i64.wrap (own.size - E.size)=own.size - E.size:=Zas (by omega) (by omega)
   rw[CP,hg]
   exact Zf0 (by simp) ⟨by trivial,cM⟩
 ·rintro M' _ yX
  have h7':=mLt Ar yX
  have hK:KRep M' f:=Zte (tq.mono h7') gY
  have h6':=mLt cB h7'
  refine⟨YT f,_,Zky f f (by rw[Zbf];exact List.mem_cons_self ..) (by have:=Zpp f;omega) (λy hy=>by have:=Znd jI y hy;omega) f.k M' hK,λx hx=>(by cases hx),λb10 lF=>?_,λv _ _ _ e=>by rw[e.1];rfl,?_⟩
  ·have kU:=ZrV gY lF
   exact .inr ⟨Zrg (mLt jT pQ) kU,hK.known lF,Zoy (uW m6 (mLt cC (mLt An cI))) kU,Zoy ((mLt cM pQ) _ _ _ (vj 0 _ rfl)) kU,Zoy ((mLt vh (mLt cM pQ)) _ _ _ (rZ 0 _ rfl)) kU,trivial⟩
  ·rintro m11 eH _ ⟨_,_⟩
   exact⟨by trivial,Q.length - (i+1),by omega,i+1,aN,rfl,mLt (Zyw (mLt cI h6') λb hb=>Zrg cI (ZrV gY hb)) eH,rfl⟩
end Go.Proofs.YtfgfahnakepegaaGreat
namespace Go.Proofs.YtfgfahnakepegaaGreat
open Go Go.Eng Go.Proofs Go.RowKit
open Go.Value (int slice agg bool string tuple func)
open Go.IntKind (u8 u64 i64)
set_option maxRecDepth 100000
def Zgd:Env:=EB
theorem Zfk(p0 p1:Int)(m:Mem)(R:RT)(h:
 lE (u64.wrap (↑(BitVec.toNat (BitVec.ofInt 64 p0&&&BitVec.ofInt 64 (4294967295:Int))):Int)) λyL=>lE (u64.wrap (↑(BitVec.toNat (BitVec.ofInt 64 p1&&&BitVec.ofInt 64 (4294967295:Int))):Int)) λyL_1=>lE (u64.wrap
 (u64.wrap (Int.fdiv p0 ((2:Int) ^ 32)*yL_1)+Int.fdiv (u64.wrap (yL*yL_1)) ((2:Int) ^ 32))) λyL_2=>(0:Int)<=32/\(0:Int)<=32/\(0:Int)<=32/\(0:Int)<=32/\(0:Int)<=32/\rtM m m R (tuple (.mk [int u64
 (u64.wrap (u64.wrap (u64.wrap (Int.fdiv p0 ((2:Int) ^ 32)*Int.fdiv p1 ((2:Int) ^ 32))+Int.fdiv yL_2 ((2:Int) ^ 32))+Int.fdiv (u64.wrap (u64.wrap (↑(BitVec.toNat (BitVec.ofInt 64 yL_2&&&BitVec.ofInt 64 (4294967295:
 Int))):Int)+u64.wrap (yL*Int.fdiv p1 ((2:Int) ^ 32)))) ((2:Int) ^ 32))),int u64 (u64.wrap (p0*p1))]))):CX Tryz.prog 85 #[.int .u64 p0,.int .u64 p1] m [] R:=
 Zad (E:=Zgd) Zay mix Tryz.func85 [.v (.int .u64 p0),.v (.int .u64 p1)] [] (by kernel_rfl) (Eq.mp (by kernel_rfl) h)
def Ziv:Env:=EB
theorem Zhk(p0 p1:Int)(m:Mem)(R:RT)(h:
 ∃R_1,True/\CX pG 85 (.mk [int u64 p0,int u64 p1]) m [] R_1/\ZbT (.tup [.int u64,.int u64]) R_1/\∀n n_1 m',lX (tuple (.mk [int u64 n,int u64 n_1])) λyL=>m.le m'->R_1 yL m' []->rtM m m' R yL):CX Tryz.prog 52 #[.int .u64 p0,.int .u64 p1] m [] R:=
 Zad (E:=Ziv) Zay mix Tryz.func52 [.v (.int .u64 p0),.v (.int .u64 p1)] [] (by kernel_rfl) (Eq.mp (by kernel_rfl) h)
def Zce:Env:={ EB with
 loops:=swI nLa [(8,⟨[(8,.int .i64)],[30],[],false⟩)]
 joins:=swI none [(4,some [(26,.bool)])]
 dr:=swI [] [(9,[dO 0 [],⟨1,[30],[],none,[],[]⟩,dO 2 [],⟨3,[30],[],none,[1,2],[]⟩,⟨4,[30],[],none,[],[]⟩,dO 5 [],⟨6,[30],[],none,[4,5],[]⟩,⟨7,[30],[30],none,[1,2,3,4,5,6],[]⟩,dO 8 [0,1,2,3,4,5,6,7],dO 9 [0,1,2,3,4,5,6,7,8]])]
 hint:=swI none [(31,some 30),(41,some 30)]
 frz:=[30] }
theorem Zb2(p0a:Option Addr)(p0n p0c:Nat)(p1:Int)(m:Mem)(R:RT)(h:
 br (decide (p1 < 0)) False (∃R_1,True/\CX pG 52 (.mk [int u64 (u64.wrap (↑p0n:Int)),int u64 (u64.wrap p1)]) m [] R_1/\ZbT (.tup [.int u64,.int u64]) R_1/\∀n (n_1:Int) m',lE (i64.wrap n_1) λyL=>lE (Int.toNat yL)
 λyL_1=>lV (List.flatten (List.replicate yL_1 [int u8 0,int u64 0,int u64 0,int u64 0,int u64 0,int i64 0,int i64 0,slice none 0 0])) λxL=>m.le m'->R_1 (tuple (.mk [int u64 n,int u64 n_1])) m' []->∃(b:Bool),
 br (decide (n > 0)) ([bool true]=[bool b]) ([bool (decide (n_1 > 9223372036854775807))]=[bool b])/\br b False (((0:Int)<=yL/\yL<=yL/\yL*(↑(80:Nat):Int)<=281474976710656/\yL<=9223372036854775807)/\∀b,m'.free
 b->∃(o:Nat),∃(xs:List Value),some (Addr.mk b 0 none)=some (Addr.mk b o none)/\xs.length=min p0n yL_1*8/\o+xs.length<=xL.length/\(∀(u:Value),u∈xs->u.oneCell'=true)/\(rowRd m' p0a xs\/∃(o':Nat),
 p0a=some (Addr.mk b o' none)/\∀(i:Nat)(u:Value),List.get?Internal xs i=some u->List.get?Internal xL (o'+i)=some u)/\∃I,inI I [int i64 (↑(min p0n yL_1):Int)] [Zau xL o xs] [] m'/\∀(n:Int) (cs:List
 Value) m'_1 (n_2:Nat),lE (min (Int.toNat n - 0) (yL_1 - Int.toNat n)) λyL=>m'.le m'_1->I [int i64 n] [cs] [] m'_1 n_2->br (decide (n < (↑yL_1:Int))) (((0:Int)<=n/\n<=(↑yL_1:Int))/\((0:Int)<=n/\n<=(↑yL_1:
 Int))/\(m'_1.free b->∃(o:Nat),∃(xs:List Value),ZaG (some (Addr.mk b 0 none)) (Int.toNat n) yL_1 8=some (Addr.mk b o none)/\xs.length=yL*8/\o+xs.length<=cs.length/\(∀(u:Value),u∈xs->u.oneCell' =
 true)/\(rowRd m'_1 (ZaG (some (Addr.mk b 0 none)) 0 yL_1 8) xs\/∃(o':Nat),ZaG (some (Addr.mk b 0 none)) 0 yL_1 8=some (Addr.mk b o' none)/\∀(i:Nat)(u:Value),List.get?Internal xs i=some u->List.get?Internal
 cs (o'+i)=some u)/\Zab [some (Box.mk b [] 27 (yL_1*8) false true)]/\nxI n_2 I [int i64 (i64.wrap (n+(↑yL:Int)))] [Zau cs o xs] [] m'_1)) (rtM m (m'_1.add b cs) R (slice (some (Addr.mk b 0 none)) yL_1 yL_1))))):CX Tryz.prog 16 #[.slice p0a p0n p0c,.int .i64 p1] m [] R:=
 Zad (E:=Zce) Zay mix Tryz.func16 [.v (.slice p0a p0n p0c),.v (.int .i64 p1)] [] (by kernel_rfl) (Eq.mp (by kernel_rfl) h)
def Ze2:Env:={ EB with
 loops:=swI nLa [(4,⟨[(53,.int .i64)],[],[],false⟩),(7,⟨[(60,.int .i64)],[],[],false⟩),(10,⟨[(67,.int .i64)],[],[],false⟩),(23,⟨[(11,.slice),(143,.int .i64)],[],[(157,8)],false⟩),(28,⟨[(13,.int .i64)],[],[],false⟩),(34,⟨[(15,.int .i64)],[],[],false⟩)]
 joins:=swI none [(36,some [(203,.bool)]),(38,some [(0,.bool)])]
 dr:=swI [] [(2,[⟨0,[1],[],none,[],[]⟩,⟨1,[1],[],none,[],[]⟩,⟨2,[2],[],none,[],[]⟩,⟨3,[21],[21],none,[1,2],[]⟩,⟨4,[21],[21],none,[1,2,3],[3]⟩,⟨5,[1],[],none,[],[]⟩,⟨6,[2],[],none,[],[]⟩,⟨7,[1],[],none,[],[]⟩,⟨8,[26],[26],none,[5,6,7],[]⟩,⟨9,[26],[26],none,[1,2,3,4,5,6,7,8],[4,8]⟩,⟨10,[1],[],none,[],[]⟩,⟨11,[1],[],none,[],[]⟩,⟨12,[2],[],none,[],[]⟩,⟨13,[31],[31],none,[11,12],[]⟩,⟨14,[31],[31],none,rg 1 9++[11,12,13],[9,13]⟩,⟨15,[33],[33],none,rg 1 14,[14]⟩,⟨16,[33],[33],none,rg 1 15,[15]⟩,⟨17,[],[],none,rg 1 16,[16]⟩,⟨18,[1],[],none,[],[]⟩,⟨19,[],[],none,rg 1 18,[17]⟩,⟨20,[1],[],none,[],[]⟩,⟨21,[],[],none,rg 1 20,[19]⟩,⟨22,[2],[],none,[],[]⟩,⟨23,[41],[41],none,rg 1 22,[21]⟩,⟨24,[41],[41],none,rg 1 23,[23]⟩,⟨25,[1],[],none,[],[]⟩,⟨26,[2],[],none,[],[]⟩,⟨27,[],[],none,rg 1 24++[26],[24]⟩,⟨28,[46],[46],none,rg 1 27,[27]⟩,⟨29,[46],[46],none,rg 1 28,[28]⟩,⟨30,[],[],none,rg 1 29,[29]⟩,⟨31,[],[],none,rg 1 30,[30]⟩,⟨32,[50],[50],none,rg 0 32,[31]⟩,⟨33,[50],[],none,rg 0 33,[]⟩]),(14,[⟨0,[10],[],none,[],[]⟩,dO 1 [0],dO 2 [0,1],dO 3 [0,1,2],⟨4,[1],[],none,[0,1,2,3],[1]⟩,⟨5,[10],[],none,[0,1,2,3],[1]⟩,⟨6,[2],[],none,[0,1,2,3],[1]⟩,⟨7,[91],[91],none,[0,1,2,3,4,5,6],[1]⟩,⟨8,[91],[91],none,[0,1,2,3,4,5,6,7],[7]⟩,⟨9,[],[],none,[0,1,2,3,4,5,6,7,8],[8]⟩,dO 10 [0,1,2,3,4,5,6,7,8,9],dO 11 [0,1,2,3,4,5,6,7,8,9,10],dO 12 (rg 0 12),dO 13 (rg 0 13),dO 14 (rg 0 13),dO 15 (rg 0 15),dO 16 (rg 0 13),dO 17 (rg 0 17),dO 18 (rg 0 18),dO 19 (rg 0 19),dO 20 (rg 0 20),⟨21,[10],[],none,rg 0 21,[9]⟩,dO 22 (rg 0 21),dO 23 (rg 0 21),dO 24 (rg 0 21++[23]),⟨25,[],[],none,rg 0 25,[9]⟩,dO 26 (rg 0 26),dO 27 (rg 0 27),⟨28,[1],[],none,rg 0 28,[25]⟩,⟨29,[10],[],none,rg 0 28,[25]⟩,⟨30,[114],[114],none,rg 0 30,[25]⟩,⟨31,[114],[114],none,rg 0 31,[30]⟩,⟨32,[1],[],none,rg 0 28,[25]⟩,⟨33,[2],[],none,rg 0 28,[25]⟩,⟨34,[118],[118],none,rg 0 28++[32,33],[25]⟩,⟨35,[118],[118],none,rg 0 35,[31,34]⟩,⟨36,[120],[120],none,rg 0 36,[35]⟩,⟨37,[120],[120],none,rg 0 37,[36]⟩,⟨38,[],[],none,rg 0 38,[37]⟩,⟨39,[],[],none,rg 0 39,[38]⟩,dO 40 (rg 0 40),dO 41 (rg 0 41),dO 42 (rg 0 42),⟨43,[10],[],none,rg 0 43,[39]⟩,⟨44,[],[],none,rg 0 44,[39]⟩,⟨45,[],[],none,rg 0 45,[44]⟩,dO 46 (rg 0 46),dO 47 (rg 0 47),dO 48 (rg 0 48),dO 49 (rg 0 49)]),(25,[dO 0 [],⟨1,[1],[],none,[],[]⟩,⟨2,[2],[],none,[],[]⟩,dO 3 [],dO 4 [3],dO 5 [3,4],dO 6 [3,4,5],dO 7 [3,4,5,6],⟨8,[154],[154],none,[1,2,3,4,5,6,7],[7]⟩,⟨9,[154],[154],none,[1,2,3,4,5,6,7,8],[8]⟩,⟨10,[156],[156],none,[1,2,3,4,5,6,7,8,9],[9]⟩,⟨11,[156],[],some 157,[0,1,2,3,4,5,6,7,8,9,10],[10]⟩,dO 12 (rg 0 12)])]
 tokOf:=swI 0 [(157,157),(177,177)]
 tokC:=swI none [(173,some (177,8))]
 gb:=true
 thaw:=true
 cuts:=swI none [(3,some ⟨[(3,.slice)],[],[],false⟩)] }
theorem Zes  (m:Mem)(R:RT)(h:
 kN pG 5 [int u8 97] m λn es et eu ev ew ex a ey c m'=>lX (int u64 es) λyL=>lX (int i64 ex) λau=>lX (int i64 ew) λav=>lX (int u64 et) λaw=>lX (int u64 eu) λax=>lX (int u64 ev) λay=>lX (int u8 n)
 λaz=>lX (slice a ey c) λa0=>lV [az,yL,aw,ax,ay,av,au,a0] λxL=>kN pG 5 [int u8 98] m' λn ez e0 e1 e2 e3 e4 a e5 c m'=>∀b e6,∃(J:JT),lX (int i64 e3) λcy=>lX (int i64 e4) λcz=>lX (int u8 n)
 λda=>lX (int u64 e1) λdb=>lX (int u64 e0) λdc=>lX (int u64 e2) λdd=>lX (int u64 ez) λde=>lX (slice a e5 c) λdf=>lV (az::yL::aw::ax::ay::av::au::a0::da::de::dc::db::dd::cy ::
 cz::df::xL) λej=>lV [da,de,dc,db,dd,cy,cz,df] λbt=>lV (az::yL::aw::ax::ay::av::au::a0::bt) λbu=>lE [some (Box.mk e6 bt 27 8 false true),some (Box.mk b xL 27 8 false true)] λbl=>(∃(f
 : Fx),∀b,m'.free b->dN f 4 pG 6 [slice (some (Addr.mk b 0 none)) 2 2] (m'.add b bu) λn ba cq ae bm ah ap a af c aa=>∀bb,m'.free bb->∀V,m'.le V->aa.le V->Mem.le (m'.add bb ej) V->dN f 9 pG 6 [slice (some (Addr.mk
 bb 0 none)) 3 3] V λai aj ak al am an a1 dg aq dh ag=>∀bc,m'.free bc->∀V,m'.le V->ag.le V->Mem.le (m'.add bc bu) V->dN f 14 pG 7 [slice (some (Addr.mk bc 0 none)) 2 2] V λa2 a3 a4 a5 a6 a7 bv be bw bf ab=>∀bx,
 lM (ab.add bx [az,yL,aw,ax,ay,av,au,a0,int u8 a2,int u64 a3,int u64 a4,int u64 a5,int u64 a6,int i64 a7,int i64 bv,slice be bw bf]) λmL=>ab.free bx->dN f 16 pG 6 [slice (some (Addr.mk bx 0 none)) 2 2] mL fun
 bz ca cb cc cd ce cf e7 cg ch ad=>dN f 17 pG 6 [slice none 0 0] ad λci cj ck cl cm cn co e8 cp di bn=>dN f 19 pG 8 [agg (.mk xL),int i64 0,int i64 1] bn λdj dk dl dm dn dp dq e9 dr fa bg=>dN f 21 pG 9 [agg (.mk xL)]
 bg λds dt du dv dw dx dy fb dz fc bh=>∀d0,lM (bh.add d0 (int u8 ds::int u64 dt::int u64 du::int u64 dv::int u64 dw::int i64 dx::int i64 dy::slice fb dz fc::bt)) λao=>bh.free d0->dN f 24 pG 6 [slice
 (some (Addr.mk d0 0 none)) 2 2] ao λfd fe ff fg fh fi fj fk fl fm bo=>dN f 27 pG 9 [agg (.mk bt)] bo λfn fo fp fq fr fs ft fu fv fw a8=>∀d1,lM (a8.add d1 [az,yL,aw,ax,ay,av,au,a0,int u8 fn,int u64 fo,int u64
 fp,int u64 fq,int u64 fr,int i64 fs,int i64 ft,slice fu fv fw]) λbp=>a8.free d1->dN f 29 pG 6 [slice (some (Addr.mk d1 0 none)) 2 2] bp λfx fy fz f0 f1 f2 f3 f4 f5 f6 bi=>∃R,R=f 30 [int u8 97,int u8 98] bi/\
 CX pG 11 (.mk [int u8 97,int u8 98]) bi [] R/\ZbT (.agg [.int u64,.int u64,.int u64,.int u64]) R/\∀f7 f8 f9 ga bq,lX (agg (.mk [int u64 f7,int u64 f8,int u64 f9,int u64 ga])) λa9=>bi.le bq->R a9 bq []->dN f 31
 pG 10 [a9] bq λgb gc gd ge gf gg gh gi gj gk d2=>∀d3,d2.free d3->∀M,m'.le M->Mem.le (m'.add b bu) M->aa.le M->Mem.le (m'.add bb ej) M->ag.le M->Mem.le (m'.add bc bu) M->ab.le M->mL.le M->ad.le M->bn.le M->bg.le
 M->bh.le M->ao.le M->bo.le M->a8.le M->bp.le M->bi.le M->bq.le M->d2.le M->Mem.le (d2.add d3 [az,yL,aw,ax,ay,av,au,a0,int u8 n,int u64 ba,int u64 cq,int u64 ae,int u64 bm,int i64 ah,int i64 ap,slice a af c,
 int u8 ai,int u64 aj,int u64 ak,int u64 al,int u64 am,int i64 an,int i64 a1,slice dg aq dh,int u8 bz,int u64 ca,int u64 cb,int u64 cc,int u64 cd,int i64 ce,int i64 cf,slice e7 cg ch,int u8 ci,int u64 cj,int u64
 ck,int u64 cl,int u64 cm,int i64 cn,int i64 co,slice e8 cp di,int u8 dj,int u64 dk,int u64 dl,int u64 dm,int u64 dn,int i64 dp,int i64 dq,slice e9 dr fa,int u8 fd,int u64 fe,int u64 ff,int u64 fg,int u64 fh,int
 i64 fi,int i64 fj,slice fk fl fm,int u8 fx,int u64 fy,int u64 fz,int u64 f0,int u64 f1,int i64 f2,int i64 f3,slice f4 f5 f6,int u8 gb,int u64 gc,int u64 gd,int u64 ge,int u64 gf,int i64 gg,int i64 gh,slice gi gj
 gk]) M->Zab bl/\J [slice (some (Addr.mk d3 0 none)) 9 9] [] [] M)/\∀a n c (m':Mem),True->J [slice a n c] [] [] m'->∃I,inI I [int i64 0] [] [] m'/\∀ba (m':Mem) (cq:Nat),True->I [int i64 ba] [] [] m' cq->br
 (decide (ba < (↑n:Int))) (atA a λb o=>Zaf ba n/\∃v cr cs ct cu cv cw cx:Value,lV [v,cr,cs,ct,cu,cv,cw,cx] λxL=>m'.reads b (o+Int.toNat ba*8) xL/\∀b,lE (some (Box.mk b xL 27 8 false true)::bl)
 λxL=>chk (v.oneCell'&&(cr.oneCell'&&(cs.oneCell'&&(ct.oneCell'&&(cu.oneCell'&&(cv.oneCell'&&(cw.oneCell'&&(cx.oneCell'&&true)))))))) (∃d4,inI d4 [int i64 0] [] [] m'/\∀ae (m':Mem) (bm:Nat),True->d4
 [int i64 ae] [] [] m' bm->br (decide (ae < (↑n:Int))) (atA a λb o=>Zaf ae n/\∃d5 d6 d7 d8 d9 ea eb ec:Value,lV [d5,d6,d7,d8,d9,ea,eb,ec] λac=>m'.reads b (o+Int.toNat ae*8) ac/\∀b,lE (some
 (Box.mk b ac 27 8 false true)::xL) λbs=>chk (d5.oneCell'&&(d6.oneCell'&&(d7.oneCell'&&(d8.oneCell'&&(d9.oneCell'&&(ea.oneCell'&&(eb.oneCell'&&(ec.oneCell'&&true)))))))) (∃I,inI I [int i64 0] [] [] m'/\∀
 (ah:Int) (m':Mem) (ap:Nat),lE (i64.wrap (i64.wrap (ba+ae)+ah)) λa9=>lV [int i64 (i64.wrap (ah+1))] λar=>True->I [int i64 ah] [] [] m' ap->br (decide (ah < (↑n:Int))) (atA a λb o=>Zaf ah n/\∃ek
 el em en eo ep eq er:Value,lV [ek,el,em,en,eo,ep,eq,er] λxL=>m'.reads b (o+Int.toNat ah*8) xL/\∀(b:Nat),chk (ek.oneCell'&&(el.oneCell'&&(em.oneCell'&&(en.oneCell'&&(eo.oneCell'&&(ep.oneCell' &&
 (eq.oneCell'&&(er.oneCell'&&true)))))))) ((3:Int)≠0/\br (!Int.tmod a9 (3:Int) == 0) (Zab bs/\nxI ap I ar [] [] m') (∀b,m'.free b->kN pG 7 [slice (some (Addr.mk b 0 none)) 3 3] (m'.add b (v::cr::cs::ct::cu
 :: cv::cw::cx::d5::d6::d7::d8::d9::ea::eb::ec::xL)) λn af ai aj ak al am a an c m'=>∀(b:Nat),∃(f:Fx),lV [int u8 n,int u64 af,int u64 ai,int u64 aj,int u64 ak,int i64 al,int i64 am,slice a
 an c] λxL=>lX (agg (.mk xL)) λbj=>lV (az::yL::aw::ax::ay::av::au::a0::xL) λxL=>lV (az::yL::aw::ax::ay::av::au::a0::int u8 n::int u64 af::int u64 ai::int u64 aj::int u64 ak ::
 int i64 al::int i64 am::slice a an c::bt) λgl=>dB f 1 pG 12 [bj] m' λb aa=>br (!b) (∀V,m'.le V->aa.le V->aa.le V->∀M,m'.le M->aa.le M->aa.le M->aa.le M->aa.le M->aa.le M->aa.le M->aa.le M->aa.le M->
 V.le M->V.le M->V.le M->V.le M->V.le M->V.le M->V.le M->rtM m M R (bool false)) (∀b,lM (aa.add b gl) λmL=>aa.free b->dN f 8 pG 6 [slice (some (Addr.mk b 0 none)) 3 3] mL λn a1 aq a2 a3 a4 a5 a a6 c ag=>dB f 9
 pG 12 [agg (.mk [int u8 n,int u64 a1,int u64 aq,int u64 a2,int u64 a3,int i64 a4,int i64 a5,slice a a6 c])] ag λb ab=>br (!b) (∀V,m'.le V->ab.le V->ab.le V->∀M,m'.le M->aa.le M->mL.le M->ag.le M->ab.le M->
 ab.le M->ab.le M->ab.le M->ab.le M->V.le M->V.le M->V.le M->V.le M->V.le M->V.le M->V.le M->rtM m M R (bool false)) ((2:Int)≠0/\br (Int.tmod a9 (2:Int) == 0) (dB f 25 pG 13 [bj,agg (.mk [int i64 0,int i64 0,
 int i64 2,int i64 1]),int u8 (u8.wrap ah)] ab λb ad=>br (!b) (∀V,m'.le V->ad.le V->ad.le V->∀M,m'.le M->aa.le M->mL.le M->ag.le M->ab.le M->ad.le M->ad.le M->ad.le M->ad.le M->V.le M->V.le M->V.le M->V.le
 M->V.le M->V.le M->V.le M->rtM m M R (bool false)) (∀b,lM (ad.add b xL) λao=>ad.free b->dN f 31 pG 6 [slice (some (Addr.mk b 0 none)) 2 2] ao λn a7 bv bw bz ca cb a cc c bn=>∀b,lX (int u8 n) λyL=>lX (int
 u64 bz) λbd=>lX (int u64 a7) λbk=>lX (int i64 cb) λed=>lX (int u64 bv) λee=>lX (int i64 ca) λef=>lX (int u64 bw) λeg=>lX (slice a cc c) λeh=>lM (ad.add b bu) λbp=>ad.free b->∀V,m'.le V->
 bn.le V->bp.le V->dN f 35 pG 6 [slice (some (Addr.mk b 0 none)) 2 2] V λn cd ce cf cg ci cj a ck c bg=>∀b,lM (bg.add b [yL,bk,ee,eg,bd,ef,ed,eh,int u8 n,int u64 cd,int u64 ce,int u64 cf,int u64 cg,int i64 ci,
 int i64 cj,slice a ck c]) λei=>bg.free b->dN f 37 pG 7 [slice (some (Addr.mk b 0 none)) 2 2] ei λn cl cm cn co cp dj a dk c bh=>dN f 38 pG 8 [agg (.mk [int u8 n,int u64 cl,int u64 cm,int u64 cn,int u64 co,int i64
 cp,int i64 dj,slice a dk c]),int i64 0,int i64 (-1)] bh λn dl dm dn dp dq dr a ds c bo=>dB f 39 pG 12 [agg (.mk [int u8 n,int u64 dl,int u64 dm,int u64 dn,int u64 dp,int i64 dq,int i64 dr,slice a ds c])] bo λb
 a8=>br (!b) (∀M,m'.le M->aa.le M->mL.le M->ag.le M->ab.le M->ad.le M->ao.le M->bn.le M->bp.le M->bg.le M->ei.le M->bh.le M->bo.le M->a8.le M->a8.le M->a8.le M->rtM m M R (bool false)) (dN f 44 pG 9 [bj] a8 fun
 n dt du dv dw dx dy a dz c bi=>dB f 45 pG 12 [agg (.mk [int u8 n,int u64 dt,int u64 du,int u64 dv,int u64 dw,int i64 dx,int i64 dy,slice a dz c])] bi λb bq=>∀M,m'.le M->aa.le M->mL.le M->ag.le M->ab.le M->
 ad.le M->ao.le M->bn.le M->bp.le M->bg.le M->ei.le M->bh.le M->bo.le M->a8.le M->bi.le M->bq.le M->br (!b) (rtM m M R (bool false)) (Zab bs/\nxI ap I ar [] [] M)))) (∀V,m'.le V->ab.le V->ab.le V->∀M,m'.le M->
 aa.le M->mL.le M->ag.le M->ab.le M->ab.le M->ab.le M->ab.le M->ab.le M->V.le M->V.le M->V.le M->V.le M->V.le M->V.le M->V.le M->Zab bs/\nxI ap I ar [] [] M)))))) (∀b,m'.free b->kN pG 7 [slice (some (Addr.mk b
 0 none)) 2 2] (m'.add b (v::cr::cs::ct::cu::cv::cw::cx::ac)) λn af ai aj ak al am a an c m'=>kB pG 12 [agg (.mk [int u8 n,int u64 af,int u64 ai,int u64 aj,int u64 ak,int i64 al,int i64 am,slice a an
 c])] m' λb m'=>br (!b) (rtM m m' R (bool false)) (Zab xL/\nxI bm d4 [int i64 (i64.wrap (ae+1))] [] [] m')))) (Zab bl/\nxI cq I [int i64 (i64.wrap (ba+1))] [] [] m'))) (∃I,inI I [slice none 0 0,int i64 0] []
 [slice none 0 0] m'/\∀a n c ae dg bm dh (m':Mem) (ah:Nat),lX (slice dg bm dh) λa9=>lX (slice a n c) λbj=>lE (n+1) λbd=>lE [some (Tok.mk a9 8)] λac=>True->I [bj,int i64 ae] [] [a9] m' ah->br (decide
 (ae < 14)) (∃(f:Fx),(5:Int)≠0/\dN f 7 pG 5 [int u8 (u8.wrap ((97:Int)+u8.wrap (Int.tmod ae (5:Int))))] m' λap af ai aj ak al am gm an bf aa=>∀b,lM (aa.add b [az,yL,aw,ax,ay,av,au,a0,da,de,dc,db,
 dd,cy,cz,df,int u8 ap,int u64 af,int u64 ai,int u64 aj,int u64 ak,int i64 al,int i64 am,slice gm an bf]) λmL=>aa.free b->dN f 9 pG 6 [slice (some (Addr.mk b 0 none)) 3 3] mL λa1 aq a2 a3 a4 a5 a6 be a7 ch ag=>
 ∀b,lM (ag.add b [int u8 a1,int u64 aq,int u64 a2,int u64 a3,int u64 a4,int i64 a5,int i64 a6,slice be a7 ch]) λao=>ag.free b->(Tok.mk a9 8=Tok.mk bj 8\/bj=slice none 0 0\/c < bd)/\∃(xs:List Value),∃(ys:
 List Value),xs.length=n*8/\ys.length=1*8/\rowRd ao a xs/\rowRd ao (some (Addr.mk b 0 none)) ys/\(∀(u:Value),u∈ys->u.oneCell'=true)/\bd*80<=140737488355328/\bd<=9223372036854775807/\∀(a':Option Addr)
 (c':Nat) ab,ao.le ab->rowRd ab a' (List.append xs ys)->TokFact ao a a' bd c'->∀M,m'.le M->aa.le M->mL.le M->ag.le M->ao.le M->ab.le M->Zab bl/\nxI ah I [slice a' bd c',int i64 (i64.wrap (ae+1))] [] [slice a'
 bd c'] M) (∃I,inI I [int i64 12] [] [] m'/\∀(n:Int)(m':Mem)(ap:Nat),lV [slice (ZaG a 0 c 8) (Int.toNat n - 0) (c - 0)] λbs=>True->I [int i64 n] [] [] m' ap->br (decide (n<=14)) (((0:Int)<=n/\n<=(↑c:
 Int))/\kN pG 7 bs m' λaf ai aj ak al am an a a1 bf m'=>kB pG 12 [agg (.mk [int u8 af,int u64 ai,int u64 aj,int u64 ak,int u64 al,int i64 am,int i64 an,slice a a1 bf])] m' λb m'=>br (!b) (rtM m m' R (bool false))
 (((0:Int)<=n/\n<=(↑c:Int))/\∃R_1,CXT pG 14 (.mk bs) m' 8 R_1/\ZbT .slice R_1/\∀a aq c aa,lX (slice a aq c) λyL=>lE (aq+2) λbk=>m'.le aa->R_1 yL aa []->kN pG 15 [string (.mk (.mk [120,121,122]))] aa
 λa2 a3 a4 a5 a6 a7 bv be bw ch m'=>lX (int i64 bv) λed=>lX (int u64 a6) λee=>lX (int u8 a2) λef=>lX (int u64 a3) λeg=>lX (int u64 a4) λeh=>lX (int u64 a5) λgn=>lX (int i64 a7) λgo=>lX (slice
 be bw ch) λgp=>kN pG 15 [string (.mk (.mk [120,121,119]))] m' λbz ca cb cc cd ce cf gq cg di m'=>∀b,lM (m'.add b [ef,eg,eh,gn,ee,go,ed,gp,int u8 bz,int u64 ca,int u64 cb,int u64 cc,int u64 cd,int i64 ce,
 int i64 cf,slice gq cg di]) λmL=>m'.free b->(Tok.mk yL 8=Tok.mk yL 8\/yL=slice none 0 0\/c < bk)/\∃(xs:List Value),∃(ys:List Value),xs.length=aq*8/\ys.length=2*8/\rowRd mL a xs/\rowRd mL (some
 (Addr.mk b 0 none)) ys/\(∀(u:Value),u∈ys->u.oneCell'=true)/\bk*80<=140737488355328/\bk<=9223372036854775807/\∀(a':Option Addr)(c':Nat) m',mL.le m'->rowRd m' a' (List.append xs ys)->TokFact mL a a' bk c'->
 kN pG 7 [slice a' bk c'] m' λci cj ck cl cm cn co a cp c m'=>kB pG 12 [agg (.mk [int u8 ci,int u64 cj,int u64 ck,int u64 cl,int u64 cm,int i64 cn,int i64 co,slice a cp c])] m' λb m'=>br (!b) (rtM m m' R (bool
 false)) (Zab bl/\ac=ac/\nxI ap I [int i64 (i64.wrap (n+1))] [] [] m'))) (∀b,lE (some (Box.mk b xL 27 8 true true)::bl) λar=>m'.free b->kS pG 16 [slice (some (Addr.mk b 0 none)) 1 1,int i64 121] (m'.add b xL)
 λa n c m'=>∃I,inI I [int i64 117] [] [] m'/\∀(n:Int)(m':Mem)(af:Nat),lE (i64.wrap (Int.tdiv n (5:Int))) λyL=>True->I [int i64 n] [] [] m' af->br (decide (n<=121)) (∃(b:Bool),(((0:Int)<=n/\n <=
 (↑c:Int))/\kN pG 6 [slice (ZaG a 0 c 8) (Int.toNat n - 0) (c - 0)] m' λn ai aj ak al am an be a1 bf m'=>kB pG 12 [agg (.mk [int u8 n,int u64 ai,int u64 aj,int u64 ak,int u64 al,int i64 am,int i64 an,slice be a1
 bf])] m' λbb m'=>br (!bb) (Zab ar/\ac=ac/\[bool true]=[bool b]) ((5:Int)≠0/\((0:Int)<=yL/\yL<=(↑c:Int))/\kN pG 7 [slice (ZaG a 0 c 8) (Int.toNat yL - 0) (c - 0)] m' λn aq a2 a3 a4 a5 a6 a a7 c m'
 => kB pG 12 [agg (.mk [int u8 n,int u64 aq,int u64 a2,int u64 a3,int u64 a4,int i64 a5,int i64 a6,slice a a7 c])] m' λbc m'=>Zab ar/\ac=ac/\[bool !bc]=[bool b]))/\br b (rtM m m' R (bool false)) (Zab ar/\
 ac=ac/\nxI af I [int i64 (i64.wrap (n+1))] [] [] m')) (∃(b:Bool),(kB pG 12 [agg (.mk [int u8 0,int u64 0,int u64 0,int u64 0,int u64 0,int i64 0,int i64 0,slice none 0 0])] m' λbb m'=>br bb (kB pG 12 [agg (.mk
 [int u8 9,int u64 0,int u64 0,int u64 0,int u64 0,int i64 0,int i64 0,slice none 0 0])] m' λbc m'=>br bc (kB pG 17 [] m' λbx m'=>Zab ar/\ac=ac/\[bool bx]=[bool b]) (Zab ar/\ac=ac/\[bool false] =
 [bool b])) (Zab ar/\ac=ac/\[bool false]=[bool b]))/\rtM m m' R (bool b)))))):CX Tryz.prog 3 #[] m [] R:=
 Zad (E:=Ze2) Zay mix Tryz.func3 [] [] (by kernel_rfl) (Eq.mp (by kernel_rfl) h)
end Go.Proofs.YtfgfahnakepegaaGreat
end
