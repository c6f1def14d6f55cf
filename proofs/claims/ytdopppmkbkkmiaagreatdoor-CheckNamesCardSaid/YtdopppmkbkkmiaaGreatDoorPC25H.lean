/- Part of the proof: functions of the program. No condition. -/
import Derived.Test.YtdopppmkbkkmiaaGreatDoorPC25MJ
import Derived.Test.YtdopppmkbkkmiaaGreatDoorPC25MD
import Derived.Test.YtdopppmkbkkmiaaGreatDoorPC25F
import Derived.Test.YtdopppmkbkkmiaaGreatDoorMr
import Derived.Test.YtdopppmkbkkmiaaGreatDoorPEnv
set_option linter.unusedVariables false
set_option linter.unusedSimpArgs false
set_option linter.unusedSectionVars false
noncomputable section
namespace Go.Proofs.YtdopppmkbkkmiaaGreatDoor
open Go Go.Eng Go.Rx Go.Proofs Go.RowKit
set_option maxRecDepth 100000
theorem Zu7{x:List Value}{K:List Value->Prop}(h:∀y,K y):lV x K:=h x
theorem ZxS(cb:Nat)(Q:Pt->Pt->Mem->Prop)(L:List Pt)(a:Option Addr)(d:Nat)(m:Mem)(aD:rowRd m a (L.map Pt.cs).flatten)(hl:L.length<=few)(oV:∀x∈L,∀m2,m.le m2->CX Tryz.prog cb #[.agg x.cs.toArray] m2 [] (λv m3 _=>∃y:Pt,v=.agg y.cs.toArray/\Q x y (nw m2 m3))):
  CX Tryz.prog 68 #[.slice a L.length d,.func (.func cb) #[] #[]] m [] (Zup Pt.cs Q m L):=by
 have hl:L.length<=100000:=hl
 apply Zcm (p1fi:=[]) (p1ca:=[])
 refine⟨λxs css tvs m' q=>∃(k:Nat)(a':Option Addr)(c':Nat)(L':List Pt)(μ:Nat->Mem),k<=L.length/\q=L.length - k/\xs=[.slice a' L'.length c',.int .i64 k]/\tvs=[.slice a' L'.length c']/\Each Pt.cs Q m m' (L.take k) a' c' L' μ,⟨_,0,none,0,[],_,by omega,rfl,rfl,rfl,Each.nil m⟩,?_⟩
 rintro a1 n1 c1 z a2 n2 c2 m2 q _ ⟨k,a',c',L',μ,hk,hq,cT,cS,hE⟩
 simp only[List.cons.injEq,Value.slice.injEq,Value.int.injEq,true_and,and_true]at cT cS
 obtain⟨⟨rfl,rfl,rfl⟩,rfl⟩:=cT
 obtain⟨rfl,rfl,rfl⟩:=cS
 have kN:L'.length=k:=by rw[hE.len,List.length_take];omega
 refine Zab (λaG=>?_) (λbK=>?_)
 ·have aT:k < L.length:=by have:=zA6 aG;omega
  obtain⟨x,hx⟩:=ZaL aT
  obtain⟨b,o,ha,cQ⟩:=Zao Pt.len aD hx (by omega)
  have hw:IntKind.i64.wrap ((k:Int)+1)=((k+1:Nat):Int):=by rw[Zal (by omega) (by omega)];rfl
  refine⟨b,o,ha,⟨by omega,by omega⟩,_,_,_,_,_,_,_,_,cQ.mono hE.le,λb3=>Zaa rfl ⟨_,trivial,oV x (zA2 hx) m2 hE.le,(λv _ _ ⟨y,h,_⟩=>by rw[h];rfl),?_⟩⟩
  intros
  refine Zu7 λys=>?_
  rintro aS ⟨y,hv,hQ⟩ b4 iX
  obtain rfl:ys=y.cs:=by simpa using hv
  have bI:(L'.length+1)*96<=140737488355328:=by omega
  refine Zdo Pt.len Pt.one iX y (hE.row.mono aS) 96 bI (by omega) (.inl rfl) λa5 c5 m5 cV cG bD=>?_
  have cR:=hE.step Pt.len (by omega) hx aS hQ iX cV cG bD
  exact⟨L.length - (k+1),by omega,k+1,a5,c5,L'++[y],_,by omega,rfl,by rw[hw,zA1];rfl,by rw[zA1];rfl,cR⟩
 ·have dS:k=L.length:=by have:=of_decide_eq_false bK;omega
  rw[dS,List.take_length]at hE
  exact⟨m2,hE.le,Mem.le_refl _,_,_,L',μ,rfl,hE⟩
theorem ZxT(cb:Nat)(Q:Ac->Ac->Mem->Prop)(L:List Ac)(a:Option Addr)(d:Nat)(m:Mem)(aD:rowRd m a (L.map Ac.cs).flatten)(hl:L.length<=few)(oV:∀x∈L,∀m2,m.le m2->CX Tryz.prog cb #[.agg x.cs.toArray] m2 [] (λv m3 _=>∃y:Ac,v=.agg y.cs.toArray/\Q x y (nw m2 m3))):
  CX Tryz.prog 65 #[.slice a L.length d,.func (.func cb) #[] #[]] m [] (Zup Ac.cs Q m L):=by
 have hl:L.length<=100000:=hl
 apply ZbN (p1fi:=[]) (p1ca:=[])
 refine⟨λxs css tvs m' q=>∃(k:Nat)(a':Option Addr)(c':Nat)(L':List Ac)(μ:Nat->Mem),k<=L.length/\q=L.length - k/\xs=[.slice a' L'.length c',.int .i64 k]/\tvs=[.slice a' L'.length c']/\Each Ac.cs Q m m' (L.take k) a' c' L' μ,⟨_,0,none,0,[],_,by omega,rfl,rfl,rfl,Each.nil m⟩,?_⟩
 rintro a1 n1 c1 z a2 n2 c2 m2 q _ ⟨k,a',c',L',μ,hk,hq,cT,cS,hE⟩
 simp only[List.cons.injEq,Value.slice.injEq,Value.int.injEq,true_and,and_true]at cT cS
 obtain⟨⟨rfl,rfl,rfl⟩,rfl⟩:=cT
 obtain⟨rfl,rfl,rfl⟩:=cS
 have kN:L'.length=k:=by rw[hE.len,List.length_take];omega
 refine Zab (λaG=>?_) (λbK=>?_)
 ·have aT:k < L.length:=by have:=zA6 aG;omega
  obtain⟨x,hx⟩:=ZaL aT
  obtain⟨b,o,ha,cQ⟩:=Zao Ac.len aD hx (by omega)
  have hw:IntKind.i64.wrap ((k:Int)+1)=((k+1:Nat):Int):=by rw[Zal (by omega) (by omega)];rfl
  refine⟨b,o,ha,⟨by omega,by omega⟩,_,_,_,_,_,_,_,_,cQ.mono hE.le,λb3=>Zaa rfl ⟨_,trivial,oV x (zA2 hx) m2 hE.le,(λv _ _ ⟨y,h,_⟩=>by rw[h];rfl),?_⟩⟩
  intros
  refine Zu7 λys=>?_
  rintro aS ⟨y,hv,hQ⟩ b4 iX
  obtain rfl:ys=y.cs:=by simpa using hv
  have bI:(L'.length+1)*112<=140737488355328:=by omega
  refine Zdo Ac.len Ac.one iX y (hE.row.mono aS) 112 bI (by omega) (.inl rfl) λa5 c5 m5 cV cG bD=>?_
  have cR:=hE.step Ac.len (by omega) hx aS hQ iX cV cG bD
  exact⟨L.length - (k+1),by omega,k+1,a5,c5,L'++[y],_,by omega,rfl,by rw[hw,zA1];rfl,by rw[zA1];rfl,cR⟩
 ·have dS:k=L.length:=by have:=of_decide_eq_false bK;omega
  rw[dS,List.take_length]at hE
  exact⟨m2,hE.le,Mem.le_refl _,_,_,L',μ,rfl,hE⟩
theorem ZxU(cb:Nat)(Q:Ru->Ru->Mem->Prop)(L:List Ru)(a:Option Addr)(d:Nat)(m:Mem)(aD:rowRd m a (L.map Ru.cs).flatten)(hl:L.length<=few)(oV:∀x∈L,∀m2,m.le m2->CX Tryz.prog cb #[.agg x.cs.toArray] m2 [] (λv m3 _=>∃y:Ru,v=.agg y.cs.toArray/\Q x y (nw m2 m3))):
  CX Tryz.prog 48 #[.slice a L.length d,.func (.func cb) #[] #[]] m [] (Zup Ru.cs Q m L):=by
 have hl:L.length<=100000:=hl
 apply Zcn (p1fi:=[]) (p1ca:=[])
 refine⟨λxs css tvs m' q=>∃(k:Nat)(a':Option Addr)(c':Nat)(L':List Ru)(μ:Nat->Mem),k<=L.length/\q=L.length - k/\xs=[.slice a' L'.length c',.int .i64 k]/\tvs=[.slice a' L'.length c']/\Each Ru.cs Q m m' (L.take k) a' c' L' μ,⟨_,0,none,0,[],_,by omega,rfl,rfl,rfl,Each.nil m⟩,?_⟩
 rintro a1 n1 c1 z a2 n2 c2 m2 q _ ⟨k,a',c',L',μ,hk,hq,cT,cS,hE⟩
 simp only[List.cons.injEq,Value.slice.injEq,Value.int.injEq,true_and,and_true]at cT cS
 obtain⟨⟨rfl,rfl,rfl⟩,rfl⟩:=cT
 obtain⟨rfl,rfl,rfl⟩:=cS
 have kN:L'.length=k:=by rw[hE.len,List.length_take];omega
 refine Zab (λaG=>?_) (λbK=>?_)
 ·have aT:k < L.length:=by have:=zA6 aG;omega
  obtain⟨x,hx⟩:=ZaL aT
  obtain⟨b,o,ha,cQ⟩:=Zao Ru.len aD hx (by omega)
  have hw:IntKind.i64.wrap ((k:Int)+1)=((k+1:Nat):Int):=by rw[Zal (by omega) (by omega)];rfl
  refine⟨b,o,ha,⟨by omega,by omega⟩,_,_,_,_,_,_,_,_,_,_,_,_,_,_,_,_,cQ.mono hE.le,λb3=>Zaa rfl ⟨_,trivial,oV x (zA2 hx) m2 hE.le,(λv _ _ ⟨y,h,_⟩=>by rw[h];rfl),?_⟩⟩
  intros
  refine Zu7 λys=>?_
  rintro aS ⟨y,hv,hQ⟩ b4 iX
  obtain rfl:ys=y.cs:=by simpa using hv
  have bI:(L'.length+1)*168<=140737488355328:=by omega
  refine Zdo Ru.len Ru.one iX y (hE.row.mono aS) 168 bI (by omega) (.inl rfl) λa5 c5 m5 cV cG bD=>?_
  have cR:=hE.step Ru.len (by omega) hx aS hQ iX cV cG bD
  exact⟨L.length - (k+1),by omega,k+1,a5,c5,L'++[y],_,by omega,rfl,by rw[hw,zA1];rfl,by rw[zA1];rfl,cR⟩
 ·have dS:k=L.length:=by have:=of_decide_eq_false bK;omega
  rw[dS,List.take_length]at hE
  exact⟨m2,hE.le,Mem.le_refl _,_,_,L',μ,rfl,hE⟩
theorem ZxV(cb:Nat)(Q:Sta->Sta->Mem->Prop)(L:List Sta)(a:Option Addr)(d:Nat)(m:Mem)(aD:rowRd m a (L.map Sta.cs).flatten)(hl:L.length<=few)(oV:∀x∈L,∀m2,m.le m2->CX Tryz.prog cb #[.agg x.cs.toArray] m2 [] (λv m3 _=>∃y:Sta,v=.agg y.cs.toArray/\Q x y (nw m2 m3))):
  CX Tryz.prog 46 #[.slice a L.length d,.func (.func cb) #[] #[]] m [] (Zup Sta.cs Q m L):=by
 have hl:L.length<=100000:=hl
 apply Zb2 (p1fi:=[]) (p1ca:=[])
 refine⟨λxs css tvs m' q=>∃(k:Nat)(a':Option Addr)(c':Nat)(L':List Sta)(μ:Nat->Mem),k<=L.length/\q=L.length - k/\xs=[.slice a' L'.length c',.int .i64 k]/\tvs=[.slice a' L'.length c']/\Each Sta.cs Q m m' (L.take k) a' c' L' μ,⟨_,0,none,0,[],_,by omega,rfl,rfl,rfl,Each.nil m⟩,?_⟩
 rintro a1 n1 c1 z a2 n2 c2 m2 q _ ⟨k,a',c',L',μ,hk,hq,cT,cS,hE⟩
 simp only[List.cons.injEq,Value.slice.injEq,Value.int.injEq,true_and,and_true]at cT cS
 obtain⟨⟨rfl,rfl,rfl⟩,rfl⟩:=cT
 obtain⟨rfl,rfl,rfl⟩:=cS
 have kN:L'.length=k:=by rw[hE.len,List.length_take];omega
 refine Zab (λaG=>?_) (λbK=>?_)
 ·have aT:k < L.length:=by have:=zA6 aG;omega
  obtain⟨x,hx⟩:=ZaL aT
  obtain⟨b,o,ha,cQ⟩:=Zao Sta.len aD hx (by omega)
  have hw:IntKind.i64.wrap ((k:Int)+1)=((k+1:Nat):Int):=by rw[Zal (by omega) (by omega)];rfl
  refine⟨b,o,ha,⟨by omega,by omega⟩,_,_,cQ.mono hE.le,λb3=>Zaa rfl ⟨_,trivial,oV x (zA2 hx) m2 hE.le,(λv _ _ ⟨y,h,_⟩=>by rw[h];rfl),?_⟩⟩
  intros
  refine Zu7 λys=>?_
  rintro aS ⟨y,hv,hQ⟩ b4 iX
  obtain rfl:ys=y.cs:=by simpa using hv
  have bI:(L'.length+1)*40<=140737488355328:=by omega
  refine Zdo Sta.len Sta.one iX y (hE.row.mono aS) 40 bI (by omega) (.inl rfl) λa5 c5 m5 cV cG bD=>?_
  have cR:=hE.step Sta.len (by omega) hx aS hQ iX cV cG bD
  exact⟨L.length - (k+1),by omega,k+1,a5,c5,L'++[y],_,by omega,rfl,by rw[hw,zA1];rfl,by rw[zA1];rfl,cR⟩
 ·have dS:k=L.length:=by have:=of_decide_eq_false bK;omega
  rw[dS,List.take_length]at hE
  exact⟨m2,hE.le,Mem.le_refl _,_,_,L',μ,rfl,hE⟩
def CpE(m:Mem)(t:E):Value->Mem->List (List Value)->Prop:=λv m' _=>∃t':E,v=t'.v/\t'.er=t.er/\RepE (nw m m') t'
theorem Zti{m:Mem}{t:E}:∀(v:Value)(m':Mem) (css:List (List Value)),CpE m t v m' css->Shape.fits (.agg [.int .u8,.any,.str,.int .i64,.slice]) v=true:=λv _ _ ⟨t,e,_⟩=>by rw[e];rfl
theorem Ztj(t:E)(m:Mem)(hr:RepE m t)(hl:t.light=true):CX Tryz.prog 67 #[t.v] m [] (CpE m t):=by
 apply Zna
 intro b m1 aB _ b1
 have h:=Zdm t m1 (hr.mono' aB)
 rw[hl]at h
 refine Zah h λm2 aH=>Zfj rfl (Zaj (Zmr t m2 (hr.mono' (mLt aB aH)) (zA6 hl)) Zgp ?_)
 rintro n v s n1 a n2 c m3 aS ⟨t',hv,hr',he,hn⟩
 obtain⟨rfl,rfl,rfl,rfl,rfl,rfl,rfl⟩:=ZrU hv
 exact Zaa rfl ⟨m3,mLt aB (mLt aH aS),Mem.le_refl _,t',rfl,he,Zwn t' hr' (hn.less (mLt aB aH))⟩
theorem ZBu(p:Pt)(m:Mem)(hr:RepP m p)(hl:p.e.light=true):CX Tryz.prog 69 #[.agg p.cs.toArray] m [] (λv m' _=>∃q:Pt,v=.agg q.cs.toArray/\QP p q (nw m m')):=by
 apply ZeD
 intro b b1
 refine Zaj (Ztj p.e m hr.e hl) Zti ?_
 rintro n v s n1 a n2 c m3 aS ⟨t',hv,he,dX⟩
 obtain⟨rfl,rfl,rfl,rfl,rfl,rfl,rfl⟩:=ZrU hv
 refine Zaa rfl (Zaa rfl ⟨m3,aS,Mem.le_refl _,⟨p.k,p.s,p.g,t'⟩,rfl,?_,hr.k,hr.s,hr.g,dX⟩)
 simp only[Pt.er,he]
theorem ZBv(x:Ac)(m:Mem)(hr:RepA m x)(hl:LtA x):CX Tryz.prog 66 #[.agg x.cs.toArray] m [] (λv m' _=>∃q:Ac,v=.agg q.cs.toArray/\QA x q (nw m m')):=by
 apply ZfK
 intro b b1
 refine Zaj (Ztj x.e m hr.e hl.1) Zti ?_
 rintro n v s n1 a n2 c m1 aB ⟨t',hv,he,dX⟩
 obtain⟨rfl,rfl,rfl,rfl,rfl,rfl,rfl⟩:=ZrU hv
 refine Zaa rfl ⟨_,trivial,ZxS 69 QP x.parts x.pa x.pc m1 (hr.row.mono aB) hr.n (λp hp m2 aH=>ZBu p m2 ((hr.all p hp).mono (mLt aB aH)) (hl.2 p hp)),Zhq,?_⟩
 rintro a' n' c' m2 aH ⟨a5,c5,L',μ,hv',hE⟩
 simp only[Value.slice.injEq]at hv'
 obtain⟨rfl,rfl,rfl⟩:=hv'
 refine Zaa rfl ⟨m2,mLt aB aH,Mem.le_refl _,⟨x.k,x.s,a',c',L',t'⟩,rfl,?_,Zur hr hE (ZdF aB (Mem.le_refl _)) (dX.mono' (ZdF (Mem.le_refl _) aH))⟩
 simp only[Ac.er,he,hE.same λ_ _ _ h=>h.1]
theorem ZBw(x:Ru)(m:Mem)(hr:RepR m x)(hl:LtR x):CX Tryz.prog 41 #[.agg x.cs.toArray] m [] (λv m' _=>∃q:Ru,v=.agg q.cs.toArray/\QR x q (nw m m')):=by
 apply ZhA
 intro b b1
 refine Zaj (ZxF x.t m hr.t (zA6 hl.1)) ZxE ?_
 rintro n0 n1 n2 n3 n4 n5 n6 a n c m1 aB ⟨t',hv,he,dX⟩
 simp only[T.v,Value.agg.injEq,Array.mk.injEq,List.cons.injEq,Value.int.injEq,Value.slice.injEq,true_and,and_true]at hv
 obtain⟨rfl,rfl,rfl,rfl,rfl,rfl,rfl,rfl,rfl,rfl⟩:=hv
 refine⟨_,trivial,ZxT 66 QA x.acts x.aa x.ac m1 (hr.row.mono aB) hr.len (λp hp m2 aH=>ZBv p m2 ((hr.all p hp).mono (mLt aB aH)) (hl.2 p hp)),Zhq,?_⟩
 rintro a' n' c' m2 aH ⟨a5,c5,L',μ,hv',hE⟩
 simp only[Value.slice.injEq]at hv'
 obtain⟨rfl,rfl,rfl⟩:=hv'
 refine⟨m2,mLt aB aH,Mem.le_refl _,⟨x.k,x.bg,x.en,t',x.s,x.n,a',c',L',x.go,x.code⟩,rfl,?_,Zus hr hE (ZdF aB (Mem.le_refl _)) (dX.mono (ZdF (Mem.le_refl _) aH))⟩
 simp only[Ru.er,he,hE.same λ_ _ _ h=>h.1]
theorem ZBx(x:Sta)(m0 m:Mem)(h0:m0.le m)(hr:RepS m x)(hl:∀r∈x.rules,LtR r):CX Tryz.prog 47 #[.agg x.cs.toArray] m [] (λv m' _=>∃q:Sta,v=.agg q.cs.toArray/\QS m0 x q (nw m m')):=by
 apply ZkH
 intro b m1 aB _ b1
 refine⟨λ_ _ μ=>Zup Ru.cs QR μ x.rules,_,rfl,ZxU 41 QR x.rules x.ra x.rc m1 (hr.row.mono aB) hr.len (λp hp m2 aH=>ZBw p m2 ((hr.all p hp).mono (mLt aB aH)) (hl p hp)),Zhq,?_⟩
 rintro a' n' c' m2 aH ⟨a5,c5,L',μ,hv',hE⟩ M _ hM
 simp only[Value.slice.injEq]at hv'
 obtain⟨rfl,rfl,rfl⟩:=hv'
 exact⟨m2,mLt aB aH,hM,⟨x.s,a',c',L'⟩,rfl,(Zzn (mLt h0 aB) (hr.mono aB) hE).mono (ZdF aB (Mem.le_refl _))⟩
def ZAR(m:Mem)(l:List Va):Value->Mem->List (List Value)->Prop:=λv m' _=>∃a' c',v=.slice a' l.length c'/\rowRd (nw m m') a' (l.map Va.cs).flatten/\l.length<=c'/\∀b o,a'=some ⟨b,o,none⟩->o=0/\m.k b=none
theorem Zqv(a:Option Addr)(c:Nat)(l:List Va)(m:Mem)(h:rowRd m a (l.map Va.cs).flatten)(hl:l.length<=few):CXT Tryz.prog 45 #[.slice a l.length c] m 4 (ZAR m l):=by
 have hl:l.length<=100000:=hl
 apply ZbT
 have aQ:(l.map Va.cs).flatten.length=l.length*4:=Zbe Va.len l
 refine Zab (λha=>?_) (λha=>⟨⟨rfl,Int.le_refl _,by decide,by decide⟩,λb hf yg=>⟨.inl rfl,[],(l.map Va.cs).flatten,rfl,aQ,.inl rfl,h,?_,by omega,by omega,λa' c' m' hm aD j2=>⟨rfl,?_⟩⟩⟩)
 ·obtain rfl:a=none:=by simpa using ha
  have h0:l=[]:=by
   rcases h with h|⟨_,_,h,_⟩
   ·rw[h]at aQ;exact List.eq_nil_of_length_eq_zero (by simp at aQ;omega)
   ·cases h
  subst h0
  exact⟨rfl,none,0,rfl,.inl rfl,Nat.le_refl _,λ_ _ e=>by cases e⟩
 ·intro u hu
  simp only[List.mem_flatten,List.mem_map]at hu
  obtain⟨_,⟨e,_,rfl⟩,hu⟩:=hu
  exact Va.one e u hu
 ·simp only[Nat.zero_add]at j2 ⊢
  have ho:∀b o,a'=some ⟨b,o,none⟩->o=0/\m.k b=none:=λb' o e=>by
   rcases j2.2 with h1|⟨b2,o2,h1,h2|⟨rfl,_,h3⟩⟩
   ·rw[h1]at e;cases e
   ·rw[<-h2]at e;cases e;exact⟨rfl,yg⟩
   ·rw[h1]at e;cases e;exact⟨rfl,h3⟩
  refine⟨a',c',rfl,Zn6 aD ?_,j2.1,ho⟩
  rcases(j2.old (λ_ _ e=>by cases e;rfl)).2 with h1|⟨b',h1,h2|h2⟩
  ·exact .inr λb o e=>by rw[h1]at e;cases e
  ·exact .inr λb' o e=>by rw[<-h2]at e;cases e;exact hf
  ·exact .inr λb o e=>by rw[h1]at e;cases e;exact h2
def CpC(m:Mem)(s:Sc):Value->Mem->List (List Value)->Prop:=λv m' _=>∃s':Sc,v=s'.v/\s'.er=s.er/\RepC (nw m m') s'/\(s'.states=[]\/∃b μ,SepC m m' s' b μ)
theorem Ztk{m:Mem}{s:Sc}:∀(v:Value)(m':Mem) (css:List (List Value)),CpC m s v m' css->Shape.fits (.agg [.int .i64,.slice,.slice]) v=true:=λv _ _ ⟨t,e,_⟩=>by rw[e];rfl
theorem Zu8{m:Mem}{l:List Va}:∀(v:Value)(m':Mem) (css:List (List Value)),ZAR m l v m' css->Shape.fits .slice v=true:=λv _ _ ⟨_,_,h,_⟩=>by rw[h];rfl
theorem Zws(s:Sc)(m:Mem)(hr:RepC m s)(hl:s.light=true):CX Tryz.prog 13 #[s.v] m [] (CpC m s):=by
 apply Zp1
 intro b m1 aB _ b1
 have h:=ZdT s m1 (hr.mono aB)
 rw[hl]at h
 refine Zah h λm2 aH=>Zfj rfl ?_
 have gD:=hr.mono (mLt aB aH)
 have eZ:=mLt aB aH
 refine⟨λi _ μ=>if i=4 then ZAR μ s.vars else Zup Sta.cs (QS m) μ s.states,_,rfl,(Zqv s.va s.vc s.vars m2 gD.vrow gD.vlen).toCX,Zu8,?_⟩
 rintro a n c m3 aS ⟨a',c',hv,aD,cJ,iu⟩
 simp only[Value.slice.injEq]at hv
 obtain⟨rfl,rfl,rfl⟩:=hv
 refine⟨_,rfl,ZxV 47 (QS m) s.states s.sa s.sc m3 (gD.row.mono aS) gD.len (λx hx m4 bM=>ZBx x m m4 (mLt eZ (mLt aS bM)) ((gD.all x hx).mono (mLt aS bM)) (ZBd hl x hx)),Zhq,?_⟩
 rintro a4 n4 c4 m4 bM ⟨a5,c5,L',μ,hv',hE⟩ M _ iN j0
 simp only[Value.slice.injEq]at hv'
 obtain⟨rfl,rfl,rfl⟩:=hv'
 have dI:=mLt eZ aS
 have mz:(nw m3 m4).le (nw m M):=ZdF dI j0
 refine⟨M,mLt eZ (mLt aS iN),Mem.le_refl _,⟨s.n,a,c,s.vars,a4,c4,L'⟩,rfl,?_,⟨hr.n,hr.vlen,aD.mono (ZdF eZ iN),hr.vall,by rw[hE.len];exact hr.len,hE.rows.mono mz,λy hy=>?_,cJ,hE.cap⟩,?_⟩
 ·simp only[Sc.er,hE.same (f:=Sta.er) (g:=Sta.er) λ_ _ _ h=>h.1]
 ·obtain⟨i,x,_,_,hq,hs⟩:=hE.at hy
  exact hq.2.1.mono (mLt hs mz)
 ·rcases hE.blk with⟨h1,_⟩|⟨_,b,hb,hf,hk,hμ⟩
  ·exact .inl (List.eq_nil_of_length_eq_zero (by rw[hE.len,h1];rfl))
  ·refine .inr ⟨b,μ,hb,⟨Zdj dI hf,Zkz dI hk⟩,λi y hy=>?_,λi j nv hj b'=>hE.ap i j nv (by rw[<-hE.len];exact hj) b',(λb' o e=>⟨(iu b' o e).1,Zkz eZ (iu b' o e).2⟩),nw m2 m3,aD,ZdF eZ iN,Zdj (Zpy _ _) hf,λi hi b'=>?_⟩
   ·have aG:i < s.states.length:=by rw[<-hE.len];exact(zA0 hy).1
    have hq:=hE.q i _ _ (zA3 aG) hy
    exact⟨hq.2.1,hq.2.2,mLt (hE.sub i aG) mz,(hμ i aG).1⟩
   ·by_cases iY:(nw m2 m3).free b'
    ·exact .inl iY
    ·exact .inr (Zdj (hE.sub i (by rw[<-hE.len];exact hi)) (Zrz λh=>iY (Zdj (Zpy _ _) h)))
end Go.Proofs.YtdopppmkbkkmiaaGreatDoor
namespace Go.Proofs.YtdopppmkbkkmiaaGreatDoor
open Go Go.Eng Go.Rx Go.Proofs Go.RowKit Go.Shelf
set_option maxRecDepth 100000
def zVa:Value:=.agg #[.string .empty,.bool false,.string .empty,.float .f64 0]
def ZCY:Ren:=⟨fun|45=>14|n=>n,fun|0=>0|3=>3|4=>4|22=>27|23=>71|n=>n,λn=>n⟩
theorem ZBy:DelLay Tryz.prog ZCY 4 zVa:=
 {mixed:=mix,f45:=⟨Tryz.f14.name,by kernel_rfl,by kernel_rfl⟩
  t0:=by kernel_rfl,a0:=Tryz.isAgg0,z0:=Tryz.sizeOf0,v0:=Tryz.zeroValue0
  t3:=Tryz.underlying3,a3:=Tryz.isAgg3,z3:=Tryz.sizeOf3,v3:=Tryz.zeroValue3
  t4:=Tryz.underlying4,a4:=Tryz.isAgg4,z4:=Tryz.sizeOf4,v4:=Tryz.zeroValue4
  t22:=Tryz.underlying27,a22:=Tryz.isAgg27,z22:=Tryz.sizeOf27,v22:=Tryz.zeroValue27
  z23:=Tryz.sizeOf71,v23:=Tryz.zeroValue71 }
theorem ZzY(m:Nat):∀u∈(Builtin.zeroCells zVa.cells m).toList,u.oneCell'=true:=by
 have pB:∀i,i < 4->(zVa.cells[i]!).oneCell'=true:=by decide
 intro u hu
 simp only[Builtin.zeroCells,Array.toList_map,List.mem_map]at hu
 obtain⟨i,_,rfl⟩:=hu
 exact pB _ (Nat.mod_lt _ (by decide))
theorem ZxW(l:List Va)(b c i:Nat)(T:TypeId)(cap:Nat)(m:Mem)(hi:i < l.length)(hc:l.length<=c)(hm:l.length<=9223372036854775807):
  CX Tryz.prog 14 #[.slice (some ⟨b,0,none⟩) l.length c,.int .i64 i,.int .i64 (i+1:Nat)] m [⟨b,(l.map Va.cs).flatten,T,cap,false,false⟩] (λv m' css=>v=.slice (some ⟨b,0,none⟩) (l.length - 1) c/\css=[((l.eraseIdx i).map Va.cs).flatten++zVa.cells.toList]):=by
 obtain⟨i0,h1,h2⟩:∃i0,Tryz.prog.info? 71=some i0/\i0.size=4:=by
  obtain⟨x,h1,h2,_⟩:=(Zam 71 _ rfl).info
  exact⟨x,h1,h2⟩
 exact Zut ZBy i0 h1 h2 rfl (Go.Eng.Zg0 Tryz.func14 (by kernel_rfl) (by kernel_rfl)) (by decide) (by kernel_rfl) ZzY Va.len Va.one l b c i T cap m hi hc hm
end Go.Proofs.YtdopppmkbkkmiaaGreatDoor
namespace Go.Proofs.YtdopppmkbkkmiaaGreatDoor
open Go Go.Eng Go.Proofs Go.RowKit
open Go.Value (int slice agg bool string tuple func)
open Go.IntKind (u8 u64 i64)
set_option maxRecDepth 100000
def Zlj:Env:=EB
theorem Zfk(p0:Int)(m:Mem)(R:RT)(h:
 ∀(b b:Nat),lE (u8.wrap (Int.tdiv p0 (64:Int))) λyL=>lE (1+Int.toNat yL*1) λyL_1=>lV (ZaB [int u8 2,int u64 0,int u64 0,int u64 0,int u64 0,int i64 0,int i64 0,slice none 0 0] yL_1 [int u64 (u64.wrap
 ((1:Int)*(2:Int) ^ min (Int.toNat (Int.tmod p0 (64:Int))) 64))]) λxL=>(64:Int)≠0/\(64:Int)≠0/\(0:Int)<=Int.tmod p0 (64:Int)/\Zag yL 4/\chk (Nat.ble yL_1 (nat_lit 7)) (chk (Nat.beq (xL.length) 8 &&
 Zds xL) (rtM m m R (agg (.mk xL))))):CX Tryz.prog 57 #[.int .u8 p0] m [] R:=
 Zad (E:=Zlj) Zam mix Tryz.func57 (by kernel_rfl) (Eq.mp (by kernel_rfl) h)
def Zlk:Env:=EB
theorem Zjn  (m:Mem)(R:RT)(h:
 ∀(b:Nat),∃R_1,True/\CX pG 57 (.mk [int u8 120]) m [] R_1/\Za7 (shT) R_1/\∀n n_1 n_2 n_3 n_4 n_5 n_6 a n_7 c m',lV [int u8 n,int u64 n_1,int u64 n_2,int u64 n_3,int u64 n_4,int i64 n_5,int i64 n_6,slice a n_7 c]
 λxL=>m.le m'->R_1 (agg (.mk xL)) m' []->∀b,m'.free b->∃R_2,True/\CX pG 57 (.mk [int u8 121]) (m'.add b xL) [] R_2/\Za7 (shT) R_2/\∀n n_8 n_9 n_10 n_11 n_12 n_13 a n_14 c (m'_1:Mem),lV [int u8 n,int u64 n_8,
 int u64 n_9,int u64 n_10,int u64 n_11,int i64 n_12,int i64 n_13,slice a n_14 c] λxL_1=>Mem.le (m'.add b xL) m'_1->R_2 (agg (.mk xL_1)) m'_1 []->∀b_1,m'_1.free b_1->rtM m (m'_1.add b_1 (int u8 6::int u64 0::int
 u64 0::int u64 0::int u64 0::int i64 0::int i64 0::slice (some (Addr.mk b 0 none)) 1 1::xL_1)) R (agg (.mk [bool false,bool false,int u8 3,int u64 0,int u64 0,int u64 0,int u64 0,int i64 0,int i64 0,slice
 (some (Addr.mk b_1 0 none)) 2 2]))):CX Tryz.prog 29 #[] m [] R:=
 Zad (E:=Zlk) Zam mix Tryz.func29 (by kernel_rfl) (Eq.mp (by kernel_rfl) h)
def Zqw:Env:={ EB with
 frzNew:=[1] }
theorem ZnG(aA:Int)(aC aE:Bool)(aF aY aW aV dK dM dW:Int)(bX:Option Addr)(bY bZ:Nat)(cN:ByteArray)(cK:Int)(cD:Option Addr)(cE cF:Nat)(cW:ByteArray)(cX:Int)(m:Mem)(R:RT)(h:
 lV [int u8 aA,bool aC,bool aE,int u8 aF,int u64 aY,int u64 aW,int u64 aV,int u64 dK,int i64 dM,int i64 dW,slice bX bY bZ,string cN,int i64 cK,slice cD cE cF,string
 cW,int i64 cX] λxL=>fzM m xL λb m'=>∀(b:Nat) b,lM (m'.add b [string (.mk (.mk [110])),bool true,string bE0,Value.float FloatKind.f64 0,string (.mk (.mk [116])),bool false,string bE0,Value.float .f64 0])
 λmL=>m'.free b->∀b_1,mL.free b_1->∀(b_2:Nat),Mem.free (mL.add b_1 xL) b_2->rtM m (Mem.add (mL.add b_1 xL) b_2 [string (.mk (.mk [97])),slice (some (Addr.mk b_1 0 none)) 1 1]) R (agg (.mk [int i64 9,slice (some
 (Addr.mk b 0 none)) 2 2,slice (some (Addr.mk b_2 0 none)) 1 1]))):CX Tryz.prog 28 #[.agg #[.int .u8 aA,.bool aC,.bool aE,.int .u8 aF,.int .u64 aY,.int .u64 aW,.int .u64 aV,.int .u64 dK,.int .i64 dM,.int .i64 dW,.slice bX bY bZ,.string cN,.int .i64 cK,.slice cD cE cF,.string cW,.int .i64 cX]] m [] R:=
 Zad (E:=Zqw) Zam mix Tryz.func28 (by kernel_rfl) (Eq.mp (by kernel_rfl) h)
def ZnH:Env:={ EB with
 loops:=swI nLa [(3,⟨[(9,.int .i64)],[3],[(18,8)],false⟩)]
 tokOf:=swI 0 [(18,18)] }
theorem Zll(p0a:Option Addr)(p0n p0c:Nat)(m:Mem)(R:RT)(h:
 ∀b,∃I,inI I [int i64 0] [[int u8 1,string bE0,slice none 0 0,int u8 0,Value.float .f64 0,string bE0,int i64 0,slice none 0 0]] [slice none 0 0] m/\∀n (cs:List Value) a n_1 c m' (n_2:Nat),m.le m'->I [int i64 n]
 [cs] [slice a n_1 c] m' n_2->br (decide (n < (↑p0n:Int))) (atA p0a λb_1 o=>Zag n p0n/\∃(v:Value),lV (Array.toList (Value.cells v)) λxL=>lV (List.append xL (List.drop (2+xL.length) [int u8 3,string bE0,int
 i64 0,int u8 0,Value.float .f64 0,string bE0,int i64 0,slice none 0 0])) λxL_1=>lV (int u8 3::string bE0::List.append xL_1 []) λxL_2=>m' b_1 (o+Int.toNat n*1)=some v/\Eng.ZvD cs 2 λv=>lE (slN v+1)
 λyL=>chk (Nat.beq (xL.length) 1&&true) (chk (Nat.beq (xL_1.length) (nat_lit 6)&&true) (∀b_2,lM (m'.add b_2 xL_2) λmL=>m'.free b_2->chk (Za8 v&&true) ((Tok.mk (slice a n_1 c) 8=Tok.mk v 8\/v=slice none 0 0
 \/ slC v < yL)/\∃(xs:List Value),∃(ys:List Value),xs.length=slN v*8/\ys.length=1*8/\rowRd mL (slA v) xs/\rowRd mL (some (Addr.mk b_2 0 none)) ys/\(∀(u:Value),u∈ys->u.oneCell'=true)/\yL*96 <=
 140737488355328/\yL<=9223372036854775807/\∀(a':Option Addr) c' m',mL.le m'->rowRd m' a' (List.append xs ys)->chk (Nat.ble 3 (cs.length)) (Zae [some (Box.mk b [] 57 8 false true)]/\nxI n_2 I [int i64 (i64.wrap (n +
 1))] [ZaB cs 2 [slice a' yL c']] [slice a' yL c'] m'))))) (chk (Nat.beq (cs.length) 8&&true) (∀b,m'.free b->rtM m (m'.add b (List.append cs [])) R (slice (some (Addr.mk b 0 none)) 1 1)))):CX Tryz.prog 30 #[.slice p0a p0n p0c] m [] R:=
 Zad (E:=ZnH) Zam mix Tryz.func30 (by kernel_rfl) (Eq.mp (by kernel_rfl) h)
def Zh4:Env:=EB
theorem ZgS(p0 p1 p2 p3:Int)(m:Mem)(R:RT)(h:
 ∀(b:Nat),rtM m m R (agg (.mk [int i64 (-1),int i64 p0,int i64 p1,int i64 p2,int i64 p3]))):CX Tryz.prog 27 #[.int .i64 p0,.int .i64 p1,.int .i64 p2,.int .i64 p3] m [] R:=
 Zad (E:=Zh4) Zam mix Tryz.func27 (by kernel_rfl) (Eq.mp (by kernel_rfl) h)
def Zlm:Env:={ EB with
 loops:=swI nLa [(7,⟨[(85,.int .i64)],[],[],false⟩)]
 joins:=swI none [(10,some [(112,.bool)])]
 dr:=swI [] [(6,[dO 0 [],⟨1,[25],[25],none,[],[]⟩,⟨2,[25],[25],none,[0,1],[0,1]⟩,dO 3 [0,1,2],⟨4,[],[],none,[0,1,2,3],[2]⟩,dO 5 [],⟨6,[],[],none,[0,1,2,3,4,5],[4]⟩,dO 7 [0,1,2,3,4,5,6],⟨8,[],[],none,[0,1,2,3,4,5,6],[6]⟩,⟨9,[33],[33],none,[],[]⟩,⟨10,[33],[33],none,[0,1,2,3,4,5,6,8,9],[8,9]⟩,dO 11 [0,1,2,3,4,5,6,8,9,10],⟨12,[],[],none,[0,1,2,3,4,5,6,8,9,10,11],[10]⟩,dO 13 [],⟨14,[],[],none,rg 0 7++rg 8 6,[12]⟩,dO 15 (rg 0 7++rg 8 7),⟨16,[40],[40],none,[],[]⟩,⟨17,[40],[40],none,rg 0 7++rg 8 7++[16],[14,16]⟩,dO 18 (rg 0 7++rg 8 7++[16,17]),⟨19,[],[],none,rg 0 7++rg 8 7++[16,17,18],[17]⟩,dO 20 [],⟨21,[],[],none,rg 0 7++rg 8 7++rg 16 5,[19]⟩,dO 22 (rg 0 7++rg 8 7++rg 16 6),dO 23 [],⟨24,[],[],none,rg 0 7++rg 8 7++rg 16 6++[23],[21]⟩,dO 25 [],⟨26,[],[],none,rg 0 7++rg 8 7++rg 16 6++[23,24,25],[24]⟩,dO 27 (rg 0 7++rg 8 7++rg 16 6++rg 23 4),⟨28,[11],[],none,[],[]⟩,⟨29,[11],[],none,[28],[]⟩,⟨30,[],[],none,rg 0 7++rg 8 7++rg 16 6++rg 23 4++[28,29],[26]⟩,dO 31 [],⟨32,[],[],none,rg 0 7++rg 8 7++rg 16 6++rg 23 4++rg 28 4,[30]⟩,dO 33 (rg 0 7++rg 8 7++rg 16 6++rg 23 4++rg 28 5),⟨34,[15],[],none,[],[]⟩,⟨35,[15],[],none,[34],[]⟩,⟨36,[],[],none,rg 0 7++rg 8 7++rg 16 6++rg 23 4++rg 28 5++[34,35],[32]⟩,dO 37 [],⟨38,[],[],none,rg 0 7++rg 8 7++rg 16 6++rg 23 4++rg 28 5++rg 34 4,[36]⟩,dO 39 (rg 0 7++rg 8 7++rg 16 6++rg 23 4++rg 28 5++rg 34 5),⟨40,[4],[],none,[],[]⟩,dO 41 [],⟨42,[],[],none,rg 0 7++rg 8 7++rg 16 6++rg 23 4++rg 28 5++rg 34 5++[41],[38]⟩,dO 43 (rg 0 7++rg 8 7++rg 16 6++rg 23 4++rg 28 5++rg 34 5++[40,41,42]),dO 44 [],dO 45 [],⟨46,[],[],none,rg 0 7++rg 8 7++rg 16 6++rg 23 4++rg 28 5++rg 34 5++[41,42,45],[42]⟩,dO 47 (rg 0 7++rg 8 7++rg 16 6++rg 23 4++rg 28 5++rg 34 5++[41,42,44,45,46]),dO 48 [],dO 49 [],⟨50,[],[],none,rg 0 7++rg 8 7++rg 16 6++rg 23 4++rg 28 5++rg 34 5++[41,42,45,46,49],[46]⟩,dO 51 (rg 0 7++rg 8 7++rg 16 6++rg 23 4++rg 28 5++rg 34 5++[41,42,45,46,48,49,50]),⟨52,[76],[76],none,[],[]⟩,⟨53,[76],[76],none,rg 0 7++rg 8 7++rg 16 6++rg 23 4++rg 28 5++rg 34 5++[41,42,45,46,49,50,52],[50,52]⟩,dO 54 (rg 0 7++rg 8 7++rg 16 6++rg 23 4++rg 28 5++rg 34 5++[41,42,45,46,49,50,52,53]),⟨55,[],[],none,rg 0 7++rg 8 7++rg 16 6++rg 23 4++rg 28 5++rg 34 5++[41,42,45,46,49,50,52,53,54],[53]⟩,dO 56 [],⟨57,[],[],none,rg 0 7++rg 8 7++rg 16 6++rg 23 4++rg 28 5++rg 34 5++[41,42,45,46,49,50]++rg 52 5,[55]⟩,dO 58 (rg 0 7++rg 8 7++rg 16 6++rg 23 4++rg 28 5++rg 34 5++[41,42,45,46,49,50]++rg 52 6),⟨59,[83],[83],none,rg 0 59,[57]⟩,⟨60,[83],[],none,rg 0 60,[]⟩,dO 61 []])]
 tokOf:=swI 0 [(22,22)]
 capF:=true }
theorem Zjo  (m:Mem)(R:RT)(h:
 ∀(b:Nat),lV [agg (.mk [int u8 3,bool false,bool false,int u8 0,int u64 0,int u64 0,int u64 0,int u64 0,int i64 0,int i64 0,slice none 0 0,string bE0,int i64 0,slice (some (Addr.mk b 0 none)) 1 1,string bE0,int
 i64 0])] λxL=>lM (m.add b [int u8 3,string (.mk (.mk [110])),slice none 0 0,int u8 9,Value.float .f64 0,string (.mk (.mk [109])),int i64 0,slice none 0 0]) λmL=>lE [some (Box.mk b [int u8 3,string (.mk (.mk
 [110])),slice none 0 0,int u8 9,Value.float .f64 0,string (.mk (.mk [109])),int i64 0,slice none 0 0] 57 8 true true)] λe0=>m.free b->∀b,lM (mL.add b [int u8 1,string (.mk (.mk [120])),int i64 0,int u8 0,
 Value.float .f64 0,string bE0,int i64 0,slice none 0 0]) λa7=>lE (some (Box.mk b [int u8 1,string (.mk (.mk [120])),int i64 0,int u8 0,Value.float .f64 0,string bE0,int i64 0,slice none 0 0] 54 8 true true)::e0)
 λe1=>lV [int u8 2,string (.mk (.mk [110])),slice (some (Addr.mk b 0 none)) 1 1,int u8 0,Value.float .f64 0,string bE0,int i64 0,slice none 0 0] λa8=>mL.free b->∀b,lE (some (Box.mk b a8 57 8 true true)::e1)
 λe2=>lV [agg (.mk [int u8 3,bool false,bool false,int u8 0,int u64 0,int u64 0,int u64 0,int u64 0,int i64 0,int i64 0,slice none 0 0,string bE0,int i64 0,slice (some (Addr.mk b 0 none)) 1 1,string bE0,int i64
 0])] λbg=>a7.free b->∃R_1,True/\CX pG 28 (.mk [agg (.mk [int u8 3,bool false,bool false,int u8 0,int u64 0,int u64 0,int u64 0,int u64 0,int i64 0,int i64 0,slice none 0 0,string bE0,int i64 0,slice none 0 0,
 string bE0,int i64 0])]) (a7.add b a8) [] R_1/\Za7 (.agg [.int i64,.slice,.slice]) R_1/\∀n a e3 c a9 (ay:Nat) ba (m':Mem),lX (int i64 n) λyL=>lX (slice a e3 c) λbb=>lE (ay+1) λav=>Mem.le (a7.add b a8)
 m'->R_1 (agg (.mk [yL,bb,slice a9 ay ba])) m' []->∀b az,lM (m'.add az [string (.mk (.mk [97])),slice none 0 0]) λmL=>lE (some (Box.mk az [string (.mk (.mk [97])),slice none 0 0] 34 2 true true)) λe4=>m'.free az->
 (slice a9 ay ba=slice none 0 0\/ba < av)/\∃(xs:List Value),∃(ys:List Value),xs.length=ay*2/\ys.length=1*2/\rowRd mL a9 xs/\rowRd mL (some (Addr.mk az 0 none)) ys/\(∀(u:Value),u∈ys->u.oneCell'=true)
 /\ av*40<=140737488355328/\av<=9223372036854775807/\∀a' c' m',lX (slice a' av c') λbc=>lE [some (Tok.mk bc 2)] λaa=>lE (e4::some (Box.mk b [yL,bb,bc] 30 3 false true)::e2) λe5=>mL.le m'->rowRd m' a'
 (List.append xs ys)->av<=c'->∃(f:Fx),∃R_2,R_2=f 0 [] m'/\CX pG 29 (.mk []) m' [] R_2/\Za7 (.agg [.bool,.bool,.int u8,.int u64,.int u64,.int u64,.int u64,.int i64,.int i64,.slice]) R_2/\∀(b bh:Bool) n e6
 e7 e8 e9 fa fb a fc c a0,lX (int u8 n) λbi=>lX (int u64 e7) λbj=>lX (int u64 e6) λbk=>lX (int u64 e8) λbl=>lX (int i64 fb) λbm=>lX (int u64 e9) λbn=>lX (int i64 fa) λbo=>lX (slice a fc c) λbp
 => m'.le a0->R_2 (agg (.mk [bool b,bool bh,bi,bk,bj,bl,bn,bo,bm,bp])) a0 []->∀(a1:Nat),lV [slice (some (Addr.mk a1 0 none)) 2 2] λbq=>lM (m'.add a1 [int i64 1,int i64 2]) λmL=>lE (some (Box.mk a1 [int i64
 1,int i64 2] 3 2 true true)) λbs=>m'.free a1->∀V,m'.le V->a0.le V->mL.le V->∃R_3,R_3=f 2 bq V/\CX pG 30 (.mk bq) V [] R_3/\Za7 .slice R_3/\∀a n c ab,lV [agg (.mk [int u8 1,bool b,bool bh,bi,bk,bj,bl,
 bn,bo,bm,bp,string bE0,int i64 0,slice a n c,string (.mk (.mk [97])),int i64 0])] λbt=>V.le ab->R_3 (slice a n c) ab []->∃R_4,R_4=f 4 bt ab/\CX pG 28 (.mk bt) ab [] R_4/\Za7 (.agg [.int i64,.slice,.slice])
 R_4/\∀n a fd c fe ff fg ac,lX (int i64 n) λbu=>lX (slice fe ff fg) λbv=>lX (slice a fd c) λbw=>ab.le ac->R_4 (agg (.mk [bu,bw,bv])) ac []->∃R_5,R_5=f 6 [int i64 0,int i64 0,int i64 0,int i64 1] ac/\CX
 pG 27 (.mk [int i64 0,int i64 0,int i64 0,int i64 1]) ac [] R_5/\Za7 (.agg [.int i64,.int i64,.int i64,.int i64,.int i64]) R_5/\∀n fh fi fj fk ad,lX (int i64 n) λbx=>lX (int i64 fi) λbz=>lX (int i64 fk) fun
 ca=>lX (int i64 fj) λcb=>lX (int i64 fh) λcc=>ac.le ad->R_5 (agg (.mk [bx,cc,bz,cb,ca])) ad []->∃R_6,R_6=f 8 [] ad/\CX pG 29 (.mk []) ad [] R_6/\Za7 (.agg [.bool,.bool,.int u8,.int u64,.int u64,.int
 u64,.int u64,.int i64,.int i64,.slice]) R_6/\∀(b cd:Bool) n fl fm fn fo fp fq a fr c a2,lX (int u64 fl) λce=>lX (int u64 fo) λcf=>lX (int i64 fq) λcg=>lX (int u8 n) λch=>lX (int i64 fp) λci=>lX
 (int u64 fn) λcj=>lX (int u64 fm) λck=>lX (slice a fr c) λcl=>ad.le a2->R_6 (agg (.mk [bool b,bool cd,ch,ce,ck,cj,cf,ci,cg,cl])) a2 []->∀(a3:Nat),lV [slice (some (Addr.mk a3 0 none)) 2 2] λcm=>lM
 (m'.add a3 [int i64 1,int i64 0]) λcn=>lE (some (Box.mk a3 [int i64 1,int i64 0] 3 2 true true)) λco=>m'.free a3->∀V,m'.le V->a2.le V->cn.le V->∃R_7,R_7=f 10 cm V/\CX pG 30 (.mk cm) V [] R_7/\Za7 .slice
 R_7/\∀a n c ae,lV [agg (.mk [int u8 1,bool b,bool cd,ch,ce,ck,cj,cf,ci,cg,cl,string bE0,int i64 0,slice a n c,string (.mk (.mk [97])),int i64 0])] λcp=>V.le ae->R_7 (slice a n c) ae []->∃R_8,R_8=f 12
 cp ae/\CX pG 28 (.mk cp) ae [] R_8/\Za7 (.agg [.int i64,.slice,.slice]) R_8/\∀n a fs c ft fu fv af,lX (int i64 n) λcq=>lX (slice ft fu fv) λcr=>lX (slice a fs c) λcs=>ae.le af->R_8 (agg (.mk [cq,cs,cr]))
 af []->∃R_9,R_9=f 14 [int i64 (-1),int i64 (-1),int i64 (-1),int i64 (-1)] af/\CX pG 27 (.mk [int i64 (-1),int i64 (-1),int i64 (-1),int i64 (-1)]) af [] R_9/\Za7 (.agg [.int i64,.int i64,.int i64,.int i64,.int
 i64]) R_9/\∀n fw fx fy fz a4,lX (int i64 fy) λct=>lX (int i64 n) λcu=>lX (int i64 fx) λcv=>lX (int i64 fz) λcw=>lX (int i64 fw) λcx=>af.le a4->R_9 (agg (.mk [cu,cx,cv,ct,cw])) a4 []->∀b,lM
 (m'.add b [int i64 0]) λcy=>lV [slice (some (Addr.mk b 0 none)) 1 1] λcz=>lE (some (Box.mk b [int i64 0] 3 1 true true)) λda=>m'.free b->∀V,m'.le V->a4.le V->cy.le V->∃R_10,R_10=f 17 cz V/\CX pG 30 (.mk
 cz) V [] R_10/\Za7 .slice R_10/\∀a n c ag,lV [agg (.mk [int u8 2,bool false,bool false,int u8 0,int u64 0,int u64 0,int u64 0,int u64 0,int i64 0,int i64 0,slice none 0 0,string (.mk (.mk [97,98])),int i64 0,
 slice a n c,string bE0,int i64 256])] λdb=>V.le ag->R_10 (slice a n c) ag []->∃R_11,R_11=f 19 db ag/\CX pG 28 (.mk db) ag [] R_11/\Za7 (.agg [.int i64,.slice,.slice]) R_11/\∀n a f0 c f1 f2 f3 ah,lX (int i64 n)
 λdc=>lX (slice a f0 c) λdd=>lX (slice f1 f2 f3) λde=>ag.le ah->R_11 (agg (.mk [dc,dd,de])) ah []->∃R_12,R_12=f 21 [int i64 0,int i64 0,int i64 (-1),int i64 (-1)] ah/\CX pG 27 (.mk [int i64 0,int i64 0,
 int i64 (-1),int i64 (-1)]) ah [] R_12/\Za7 (.agg [.int i64,.int i64,.int i64,.int i64,.int i64]) R_12/\∀n f4 f5 f6 f7 ai,lX (int i64 f4) λdf=>lX (int i64 f5) λdg=>lX (int i64 f7) λdh=>lX (int i64 f6) fun
 di=>lX (int i64 n) λdj=>ah.le ai->R_12 (agg (.mk [dj,df,dg,di,dh])) ai []->∃R_13,R_13=f 24 [agg (.mk [int u8 4,bool false,bool false,int u8 0,int u64 0,int u64 0,int u64 0,int u64 0,int i64 0,int i64 0,
 slice none 0 0,string bE0,int i64 0,slice none 0 0,string bE0,int i64 0])] ai/\CX pG 28 (.mk [agg (.mk [int u8 4,bool false,bool false,int u8 0,int u64 0,int u64 0,int u64 0,int u64 0,int i64 0,int i64 0,slice none
 0 0,string bE0,int i64 0,slice none 0 0,string bE0,int i64 0])]) ai [] R_13/\Za7 (.agg [.int i64,.slice,.slice]) R_13/\∀n a f8 c f9 ga gb aj,lX (int i64 n) λdk=>lX (slice a f8 c) λdl=>lX (slice f9 ga gb) fun
 dm=>ai.le aj->R_13 (agg (.mk [dk,dl,dm])) aj []->∃R_14,R_14=f 26 [int i64 0,int i64 0,int i64 (-1),int i64 (-1)] aj/\CX pG 27 (.mk [int i64 0,int i64 0,int i64 (-1),int i64 (-1)]) aj [] R_14/\Za7 (.agg [.int
 i64,.int i64,.int i64,.int i64,.int i64]) R_14/\∀n gc gd ge gf ak,lX (int i64 n) λdn=>lX (int i64 gc) λdp=>lX (int i64 gd) λdq=>lX (int i64 ge) λdr=>lX (int i64 gf) λds=>aj.le ak->R_14 (agg (.mk
 [dn,dp,dq,dr,ds])) ak []->∃R_15,R_15=f 30 xL ak/\CX pG 28 (.mk xL) ak [] R_15/\Za7 (.agg [.int i64,.slice,.slice]) R_15/\∀n a gg c gh gi gj al,lX (int i64 n) λdt=>lX (slice a gg c) λdu=>lX (slice gh gi
 gj) λdv=>ak.le al->R_15 (agg (.mk [dt,du,dv])) al []->∃R_16,R_16=f 32 [int i64 0,int i64 0,int i64 0,int i64 (-1)] al/\CX pG 27 (.mk [int i64 0,int i64 0,int i64 0,int i64 (-1)]) al [] R_16/\Za7 (.agg [.int
 i64,.int i64,.int i64,.int i64,.int i64]) R_16/\∀n gk gl gm gn am,lX (int i64 gm) λdw=>lX (int i64 gl) λdx=>lX (int i64 gn) λdy=>lX (int i64 n) λdz=>lX (int i64 gk) λd0=>al.le am->R_16 (agg (.mk
 [dz,d0,dx,dw,dy])) am []->∃R_17,R_17=f 36 bg am/\CX pG 28 (.mk bg) am [] R_17/\Za7 (.agg [.int i64,.slice,.slice]) R_17/\∀n a go c gp gq gr an,lX (int i64 n) λd1=>lX (slice a go c) λd2=>lX (slice gp gq
 gr) λd3=>am.le an->R_17 (agg (.mk [d1,d2,d3])) an []->∃R_18,R_18=f 38 [int i64 0,int i64 0,int i64 0,int i64 (-1)] an/\CX pG 27 (.mk [int i64 0,int i64 0,int i64 0,int i64 (-1)]) an [] R_18/\Za7 (.agg [.int
 i64,.int i64,.int i64,.int i64,.int i64]) R_18/\∀n gs gt gu gv ao,lX (int i64 n) λd4=>lX (int i64 gu) λd5=>lX (int i64 gv) λd6=>lX (int i64 gs) λd7=>lX (int i64 gt) λd8=>an.le ao->R_18 (agg (.mk
 [d4,d7,d8,d5,d6])) ao []->∃R_19,R_19=f 42 [int i64 1,int i64 (-1),int i64 (-1),int i64 (-1)] ao/\CX pG 27 (.mk [int i64 1,int i64 (-1),int i64 (-1),int i64 (-1)]) ao [] R_19/\Za7 (.agg [.int i64,.int i64,.int
 i64,.int i64,.int i64]) R_19/\∀n gw gx gy gz ap,lX (int i64 gw) λd9=>lX (int i64 gy) λea=>lX (int i64 n) λeb=>lX (int i64 gz) λec=>lX (int i64 gx) λed=>ao.le ap->R_19 (agg (.mk [eb,d9,ed,ea,ec]))
 ap []->∃R_20,R_20=f 46 [int i64 (-1),int i64 (-1),int i64 (-1),int i64 (-1)] ap/\CX pG 27 (.mk [int i64 (-1),int i64 (-1),int i64 (-1),int i64 (-1)]) ap [] R_20/\Za7 (.agg [.int i64,.int i64,.int i64,.int i64,
 .int i64]) R_20/\∀n g0 g1 g2 g3 aq,lX (int i64 g3) λee=>lX (int i64 g1) λef=>lX (int i64 g0) λeg=>lX (int i64 g2) λeh=>lX (int i64 n) λei=>ap.le aq->R_20 (agg (.mk [ei,eg,ef,eh,ee])) aq []->∃
 R_21,R_21=f 50 [int i64 (-1),int i64 (-1),int i64 (-1),int i64 (-1)] aq/\CX pG 27 (.mk [int i64 (-1),int i64 (-1),int i64 (-1),int i64 (-1)]) aq [] R_21/\Za7 (.agg [.int i64,.int i64,.int i64,.int i64,.int i64])
 R_21/\∀n g4 g5 g6 g7 a5,lX (int i64 g5) λej=>lX (int i64 g4) λek=>lX (int i64 g6) λel=>lX (int i64 n) λem=>lX (int i64 g7) λen=>aq.le a5->R_21 (agg (.mk [em,ek,ej,el,en])) a5 []->∀b,lM (m'.add b
 [int i64 0]) λeo=>lV [slice (some (Addr.mk b 0 none)) 1 1] λxL=>lE (some (Box.mk b [int i64 0] 3 1 true true)) λep=>m'.free b->∀V,m'.le V->a5.le V->eo.le V->∃R_22,R_22=f 53 xL V/\CX pG 30 (.mk xL) V []
 R_22/\Za7 .slice R_22/\∀a n c ar,lV [agg (.mk [int u8 3,bool false,bool false,int u8 0,int u64 0,int u64 0,int u64 0,int u64 0,int i64 0,int i64 0,slice none 0 0,string bE0,int i64 0,slice a n c,string bE0,int
 i64 0])] λxL=>V.le ar->R_22 (slice a n c) ar []->∃R_23,R_23=f 55 xL ar/\CX pG 28 (.mk xL) ar [] R_23/\Za7 (.agg [.int i64,.slice,.slice]) R_23/\∀n a g8 c g9 ha hb au,lX (int i64 n) λeq=>lX (slice a g8 c)
 λer=>lX (slice g9 ha hb) λes=>ar.le au->R_23 (agg (.mk [eq,er,es])) au []->∃R_24,R_24=f 57 [int i64 0,int i64 0,int i64 0,int i64 0] au/\CX pG 27 (.mk [int i64 0,int i64 0,int i64 0,int i64 0]) au [] R_24
 /\ Za7 (.agg [.int i64,.int i64,.int i64,.int i64,.int i64]) R_24/\∀n et eu ev ew aw,lV [bu,bw,bv,bx,cc,bz,cb,ca,int i64 309,cq,cs,cr,cu,cx,cv,ct,cw,int i64 0,dc,dd,de,dj,df,dg,di,dh,int i64 306,
 dk,dl,dm,dn,dp,dq,dr,ds,int i64 304,dt,du,dv,dz,d0,dx,dw,dy,int i64 308,d1,d2,d3,d4,d7,d8,d5,d6,int i64 308,yL,bb,bc,eb,d9,ed,ea,ec,int i64 303,int i64 9,slice none 0 0,slice none 0 0,ei,eg,
 ef,eh,ee,int i64 302,int i64 1,slice none 0 0,slice none 0 0,em,ek,ej,el,en,int i64 300,eq,er,es,int i64 n,int i64 et,int i64 eu,int i64 ev,int i64 ew,int i64 309] λxL=>au.le aw->R_24 (agg (.mk [int i64
 n,int i64 et,int i64 eu,int i64 ev,int i64 ew])) aw []->∀b,lE (bs::bs::co::co::da::da::ep::ep::some (Box.mk b xL 95 90 true true)::e5) λex=>aw.free b->∀M,m'.le M->a0.le M->mL.le M->ab.le M->
 ac.le M->ad.le M->a2.le M->cn.le M->ae.le M->af.le M->a4.le M->cy.le M->ag.le M->ah.le M->ai.le M->aj.le M->ak.le M->al.le M->am.le M->an.le M->ao.le M->ap.le M->aq.le M->a5.le M->eo.le M->ar.le M->au.le M->
 aw.le M->Mem.le (aw.add b xL) M->∃I,inI I [int i64 0] [] [] M/\∀(n:Int) m' (ey:Nat),lV (List.take 9 (List.drop (Int.toNat n*9) xL)) λxL=>lV [agg (.mk (List.take 3 xL))] λez=>M.le m'->I [int i64 n] [] [] m'
 ey->br (decide (n < (↑(10:Nat):Int))) (Zag n 10/\chk (Nat.ble (Int.toNat n*9) (2+1+1+1+1+1+1+1+1+1+1+1+1+1+1+1+1+1+1+1+1+1+1+1+1+1+1+1+1+1+1+1+1+1+1 +
 1+1+1+1+1+1+1+1+1+1+1+1+1+1+1+1+1+1+1+1+1+1+1+1+1+1+1+1+1+1+1+1+1+1+1+1+1+1+1+1+1+1+1+1+1)) (∀b,lE (some (Box.mk b xL 95 9 false true) ::
 ex) λhc=>chk (Nat.beq (xL.length) 9&&Zds xL) (chk (Nat.ble 3 (xL.length)) (∃R_25,True/\CX pG 20 (.mk ez) m' [] R_25/\Za7 (.tup [.agg [.int i64,.int i64,.int i64,.int i64,.int i64],.int i64]) R_25/\∀hd he hf hg
 hh bd ax,lV [int i64 hd,int i64 he,int i64 hf,int i64 hg,int i64 hh] λbe=>m'.le ax->R_25 (tuple (.mk [agg (.mk be),int i64 bd])) ax []->∀b,∃(a6:Bool),lE (some (Box.mk b be 64 5 false true)::hc) λbf=>chk
 (Nat.ble 8 (xL.length)) (∃(b:Bool),EqIs pG 64 (agg (.mk be)) (agg (.mk (List.take 5 (List.drop 3 xL)))) b/\br (!b) (Zae bf/\aa=aa/\[bool true]=[bool a6]) (Eng.ZvD xL 8 λv=>chk (ZaR i64 v) (br (!bd ==
 RowKit.intOf v) (Zae bf/\aa=aa/\[bool true]=[bool a6]) (chk (Nat.ble 3 (xL.length)) (kB pG 22 ez ax λb m'=>Zae bf/\aa=aa/\[bool !b == (bd == 0)]=[bool a6])))))/\br a6 (rtM m ax R (bool false)) (Zae ex/\
 aa=aa/\nxI ey I [int i64 (i64.wrap (n+1))] [] [] ax))))) (kT pG 31 [int i64 306] m' λs m'=>rtM m m' R (bool (ByteArray.toList s == ByteArray.toList (.mk (.mk [101,110,100])))))):CX Tryz.prog 6 #[] m [] R:=
 Zad (E:=Zlm) Zam mix Tryz.func6 (by kernel_rfl) (Eq.mp (by kernel_rfl) h)
end Go.Proofs.YtdopppmkbkkmiaaGreatDoor
namespace Go.Proofs.YtdopppmkbkkmiaaGreatDoor
open Go Go.Eng Go.Rx Go.Proofs Go.RowKit
set_option maxRecDepth 100000
theorem ZxX(x:Sta)(name:ByteArray)(b:Nat)(m:Mem)(hb:m.reads b 0 [.string name]):CX Tryz.prog 167 #[.agg x.cs.toArray,.pointer (some ⟨b,0,none⟩)] m [] (Ret (.bool (eqS x.s name))):=by
 apply Zk5 (c0b:=b) (c0o:=0)
 intro b1 m1 aB _
 exact⟨_,(hb.mono aB) 0 _ rfl,Zaa rfl (Zac aB rfl)⟩
def ZCa(s:Sc)(name:ByteArray):Value->Mem->List (List Value)->Prop:=λv _ _=>∃n:Int,v=.tuple #[.int .i64 n,.bool (Zdu s name)]
theorem Zu9{s name}:∀(v:Value)(m':Mem) (css:List (List Value)),ZCa s name v m' css->Shape.fits (.tup [.int .i64,.bool]) v=true:=λv _ _ ⟨_,e⟩=>by rw[e];rfl
theorem ZzZ(s:Sc)(name:ByteArray)(m:Mem)(hr:RepC m s):CX Tryz.prog 134 #[s.v,.string name] m [] (ZCa s name):=by
 apply Zqn
 intro b m1 aB _ b1 m2 aH cM
 have fO:=hr.len
 unfold few at fO
 have bH:=mLt aB aH
 refine ZaC (Zms s.states s.sa s.sc _ [.pointer (some ⟨b1,0,none⟩)] (λx=>eqS x.s name) m2 (by omega) (hr.row.mono bH) λx _ m' hm'=>ZxX x name b1 m' (cM.mono hm')) λm3 aS=>?_
 have dI:=mLt bH aS
 cases h:s.states.any (λx=>eqS x.s name)with
 | true=>
  refine⟨!s.light,Zfj (decide_eq_false (by simp)) ?_,Zab (λhl=>Zac dI ⟨_,by unfold Zdu;rw[h];simp at hl;rw[hl];rfl⟩) (λhl=>Zac dI ⟨_,by unfold Zdu;rw[h];simp at hl;rw[hl];rfl⟩)⟩
  exact Zah (ZdT s m3 (hr.mono dI)) λm4 bM=>⟨by trivial,rfl⟩
 | false=>
  refine⟨true,Ztv rfl ⟨by trivial,rfl⟩,Ztv rfl (Zac dI ⟨_,by unfold Zdu;rw[h];rfl⟩)⟩
def ZDe(a:Int×Nat×List Value):List Value:=[.int .i64 a.1,.func (.func a.2.1) #[] a.2.2.toArray]
theorem ZxY(a:Int×Nat×List Value):(ZDe a).length=2:=rfl
theorem Zgs(l:List ((Int×Nat×List Value)×Bool))(a:Option Addr)(c:Nat)(m:Mem)(hl:l.length<=100000)(hr:rowRd m a (l.map λx=>ZDe x.1).flatten)
  (hp:∀x∈l,∀m',m.le m'->CX Tryz.prog x.1.2.1 x.1.2.2.toArray m' [] (Ret (.bool x.2))):
  CX Tryz.prog 117 #[.slice a l.length c] m [] (Ret (.int .i64 (ZaG (l.map λx=>(x.1.1,x.2))))):=by
 apply Zi6 a l.length c
 refine⟨λxs _ _ m'' q=>∃i:Nat,i<=l.length/\xs=[.int .i64 0,.int .i64 i]/\ZaG (l.map λx=>(x.1.1,x.2))=ZaG ((l.drop i).map λx=>(x.1.1,x.2))/\q=l.length - i,⟨l.length,0,by omega,rfl,rfl,by omega⟩,?_⟩
 rintro n k m1 q aB ⟨i,hi,hx,he,hq⟩
 simp only[List.cons.injEq,Value.int.injEq,and_true,true_and]at hx
 obtain⟨rfl,rfl⟩:=hx
 refine Zav (λaG=>?_) (λbK=>?_)
 ·have aT:i < l.length:=by have:(i:Int) < (l.length:Int):=aG;omega
  obtain⟨x,hx⟩:=ZcC aT
  have hd:l.drop i=x::l.drop (i+1):=by
   rw[List.drop_eq_getElem_cons aT,(zA0 hx).2]
  obtain⟨b1,o1,ha,dP⟩:=Zao (cs:=λx:(Int×Nat×List Value)×Bool=>ZDe x.1) (λx=>ZxY x.1) (hr.mono aB) hx (by omega)
  refine⟨b1,o1,ha,⟨by omega,by show(i:Int) < (l.length:Int);omega⟩,_,_,dP,λb2=>Zaa rfl ⟨_,_,_,rfl,?_⟩⟩
  refine Zah (hp x (zA2 hx) m1 aB) λm2 aH=>Zab (λh=>Zac (mLt aB aH) ?_) (λh=>?_)
  ·show Value.int _ _=Value.int _ _
   rw[he,hd,List.map_cons,ZaG,if_pos h]
  ·refine⟨l.length - (i+1),by omega,i+1,by omega,by rw[Zal (by omega) (by omega)];rfl,?_,rfl⟩
   rw[he,hd,List.map_cons,ZaG,if_neg (by rw[h];decide)]
 ·have hi':i=l.length:=by have:¬(i:Int) < (l.length:Int):=bK;omega
  refine Zac aB ?_
  show Value.int _ _=Value.int _ _
  rw[he,hi',List.drop_length];rfl
theorem Zva(v:Va)(m:Mem):CX Tryz.prog 120 #[.agg #[.bool v.b,.string v.t,.float .f64 v.x]] m [] (Ret (.bool (Zd1 v))):=by
 apply Zk7
 intro b m1 aB _
 refine Zab (λhb=>⟨Zd1 v,Zah (Zqe v.x m1) λm2 aH=>Zab (λh=>⟨by trivial,Zaf ?_⟩) (λh=>⟨by trivial,Zaf ?_⟩),Zac aB rfl⟩) (λhb=>⟨Zd1 v,⟨_,Zqd v.x,Zaa rfl (Zab (λh=>⟨by trivial,Zaf ?_⟩) (λh=>⟨by trivial,Zaf ?_⟩))⟩,Zac aB rfl⟩)
 ·unfold Zd1;rw[hb,if_pos rfl,h,Zcs];rfl
 ·unfold Zd1;rw[hb,if_pos rfl,h];rfl
 ·unfold Zd1;rw[hb,if_neg (by decide)]
  have:v.x=0:=by
   have h2:=eq_of_beq (show((v.x:Int) == 0)=true from h);omega
  rw[this]
  show decide ((v.t.size:Int)<=512)=(true&&decide (v.t.size<=512))
  rw[Bool.true_and,decide_eq_decide];omega
 ·unfold Zd1;rw[hb,if_neg (by decide)]
  have:¬v.x=0:=by
   intro e
   have h2:((v.x:Int) == 0)=false:=h
   rw[e]at h2;simp at h2
  rw[beq_eq_false_iff_ne.2 this];rfl
theorem Zln(p q:Pt)(b:Nat)(m:Mem)(hq:RepP m q)(hb:m.reads b 0 q.cs):CX Tryz.prog 173 #[p.v,.pointer (some ⟨b,0,none⟩)] m [] (Ret (.bool (q.s.toList == p.s.toList&&(q.g == p.g&&(p.k == 4||Zma q.e))))):=by
 apply Zdp (c0b:=b) (c0o:=0)
 intro b1 m1 aB _
 have cM:=hb.mono aB
 refine⟨q.s.toList == p.s.toList&&(q.g == p.g&&(p.k == 4||Zma q.e)),⟨_,cM 1 _ rfl,Zaa rfl (Zab (λh=>⟨_,cM 2 _ rfl,Zaa rfl (Zab (λh2=>Zab (λh3=>⟨by trivial,Zaf ?_⟩) (λh3=>⟨q.e.k |> Value.int .u8,.float .f64 q.e.x,.string q.e.s,.int .i64 q.e.g,.slice q.e.a q.e.subs.length q.e.c,?_,?_⟩)) (λh2=>⟨by trivial,Zaf ?_⟩))⟩) (λh=>⟨by trivial,Zaf ?_⟩))⟩,Zac aB rfl⟩
 ·have h:(q.s.toList == p.s.toList)=true:=h
  have h2:(q.g == p.g)=true:=h2
  rw[h,h2,h3];rfl
 ·exact λi v hi=>by
   have:=cM (3+i) v (by unfold Pt.cs;rw[show 3+i=i+3 from by omega];exact hi)
   rw[show 0+3+i=0+(3+i) from by omega];exact this
 ·have h:(q.s.toList == p.s.toList)=true:=h
  have h2:(q.g == p.g)=true:=h2
  refine Zah (Zte q.e E0 m1 (RepE.mono aB _ hq.e) (Zpm m1)) λm2 aH=>⟨by trivial,Zaf ?_⟩
  rw[h,h2,h3];rfl
 ·have h:(q.s.toList == p.s.toList)=true:=h
  have h2:(q.g == p.g)=false:=h2
  rw[h,h2];rfl
 ·have h:(q.s.toList == p.s.toList)=false:=h
  rw[h];rfl
theorem ZnI(p:Pt)(m:Mem)(hp:RepP m p):CX Tryz.prog 144 #[p.v] m [] (Ret (.bool (ZaY p))):=by
 apply ZdR
 intro b m1 aB hb
 have te:=hp.mono aB
 have one:=λ(p':Pt)(M:Mem)(hM:m1.le M)=>Zln p' p b M (te.mono hM) (hb.mono hM)
 have lh:∀x:ByteArray,((⟨#[]⟩:ByteArray).toList == x.toList)=(x.size == 0):=λx=>by rw[<-Zcs,Bool.beq_comm]
 refine Zab (λh1=>⟨ZaY p,Zav (λh2=>Zav (λh3=>Zah (one ⟨p.k,p.s,0,E0⟩ m1 (Mem.le_refl _)) λm2 aH=>⟨by trivial,Zaf ?_⟩) (λh3=>⟨by trivial,Zaf ?_⟩)) (λh2=>⟨by trivial,Zaf ?_⟩),Zac aB rfl⟩)
  (λh1=>Zab (λh2=>⟨ZaY p,Zah (Zh3 p.s hp.s m1) λm2 aH=>Zab (λh3=>Zah (one ⟨p.k,p.s,0,E0⟩ m2 aH) λm3 aS=>⟨by trivial,Zaf ?_⟩) (λh3=>⟨by trivial,Zaf ?_⟩),Zac aB rfl⟩)
   (λh2=>Zab (λh3=>⟨ZaY p,Zav (λh4=>Zav (λh5=>Zah (one ⟨p.k,⟨#[]⟩,p.g,E0⟩ m1 (Mem.le_refl _)) λm2 aH=>⟨by trivial,Zaf ?_⟩) (λh5=>⟨by trivial,Zaf ?_⟩)) (λh4=>⟨by trivial,Zaf ?_⟩),Zac aB rfl⟩)
    (λh3=>Zab (λh4=>⟨ZaY p,Zah (Zqq p.e m1 (RepE.mono aB _ hp.e)) λm2 aH=>Zab (λh5=>Zah (one ⟨p.k,⟨#[]⟩,0,E0⟩ m2 aH) λm3 aS=>⟨by trivial,Zaf ?_⟩) (λh5=>⟨by trivial,Zaf ?_⟩),Zac aB rfl⟩) (λh4=>Zac aB ?_))))
 ·have k1:p.k=1:=by simpa using h1
  have g2:p.s.size > 0:=by omega
  have g3:p.s.size<=512:=by omega
  unfold ZaY;simp[k1,g2,g3]
 ·have k1:p.k=1:=by simpa using h1
  have g3:¬p.s.size<=512:=by omega
  unfold ZaY;rw[if_pos k1,decide_eq_false g3];simp
 ·have k1:p.k=1:=by simpa using h1
  have g2:¬p.s.size > 0:=by omega
  unfold ZaY;rw[if_pos k1,decide_eq_false g2];rfl
 ·have k2:p.k=2:=by simpa using h2
  unfold ZaY;simp[k2,h3]
 ·have k2:p.k=2:=by simpa using h2
  unfold ZaY;simp[k2,h3]
 ·have k3:p.k=3:=by simpa using h3
  unfold ZaY;rw[if_neg (by omega),if_neg (by omega),if_pos k3,decide_eq_true h4,decide_eq_true h5,Zcs];simp[k3]
 ·have k3:p.k=3:=by simpa using h3
  unfold ZaY;rw[if_neg (by omega),if_neg (by omega),if_pos k3,decide_eq_false h5];simp
 ·have k3:p.k=3:=by simpa using h3
  unfold ZaY;rw[if_neg (by omega),if_neg (by omega),if_pos k3,decide_eq_false h4];simp
 ·have k4:p.k=4:=by simpa using h4
  unfold ZaY;rw[if_neg (by omega),if_neg (by omega),if_neg (by omega),if_pos k4,h5,Zcs];simp[k4]
 ·have k4:p.k=4:=by simpa using h4
  unfold ZaY;rw[if_neg (by omega),if_neg (by omega),if_neg (by omega),if_pos k4,h5];rfl
 ·have k1:¬p.k=1:=by simpa using h1
  have k2:¬p.k=2:=by simpa using h2
  have k3:¬p.k=3:=by simpa using h3
  have k4:¬p.k=4:=by simpa using h4
  show Value.bool false=Value.bool (ZaY p)
  unfold ZaY;rw[if_neg k1,if_neg k2,if_neg k3,if_neg k4]
theorem Zvb(r:Ru)(m:Mem)(hr:RepR m r):CX Tryz.prog 130 #[.agg r.cs.toArray] m [] (Ret (.bool (ZaW r))):=by
 apply ZhQ
 intro b m1 aB _
 refine⟨Ztt r,Zab (λh=>⟨by trivial,Zaf ?_⟩) (λh=>Zab (λh2=>⟨by trivial,Zaf ?_⟩) (λh2=>Zah (ZzD r.t T0 m1 (hr.t.mono aB) (ZmW m1)) λm2 aH=>⟨by trivial,Zaf ?_⟩)),?_⟩
 ·unfold Ztt;rw[h];rfl
 ·unfold Ztt;rw[h,h2];rfl
 ·unfold Ztt;rw[h,h2];rfl
 refine Zab (λk2=>?_) (λk2=>Zab (λk4=>?_) (λk4=>Zab (λk3=>?_) (λk3=>Zab (λk1=>?_) (λk1=>?_))))
 ·have k2:r.k=2:=by simpa using k2
  refine⟨ZaW r,Zab (λh=>Zab (λh2=>Zah (ZeJ r.s.size 1 64 m1) λm2 aH=>⟨by trivial,Zaf ?_⟩) (λh2=>⟨by trivial,Zaf ?_⟩)) (λh=>⟨by trivial,Zaf ?_⟩),Zac aB rfl⟩
  ·unfold ZaW;rw[if_pos k2,h,show(r.n == 0)=true from h2];rfl
  ·unfold ZaW;rw[if_pos k2,h,show(r.n == 0)=false from h2];rfl
  ·unfold ZaW;rw[if_pos k2,h];rfl
 ·have k2:¬r.k=2:=by simpa using k2
  have k4:r.k=4:=by simpa using k4
  refine⟨ZaW r,Zab (λh=>Zab (λh2=>Zah (ZeJ r.n 1 1000 m1) λm2 aH=>⟨by trivial,Zaf ?_⟩) (λh2=>⟨by trivial,Zaf ?_⟩)) (λh=>⟨by trivial,Zaf ?_⟩),Zac aB rfl⟩
  ·rw[Zcs]at h2;unfold ZaW;rw[if_neg k2,if_pos k4,h,h2];rfl
  ·rw[Zcs]at h2;unfold ZaW;rw[if_neg k2,if_pos k4,h,h2];rfl
  ·unfold ZaW;rw[if_neg k2,if_pos k4,h];rfl
 ·have k2:¬r.k=2:=by simpa using k2
  have k4:¬r.k=4:=by simpa using k4
  have k3:r.k=3:=by simpa using k3
  refine Zab (λh=>Zac aB ?_) (λh=>⟨ZaW r,Zab (λh2=>⟨by trivial,Zaf ?_⟩) (λh2=>⟨by trivial,Zaf ?_⟩),Zac aB rfl⟩)
  ·show Value.bool false=Value.bool (ZaW r)
   unfold ZaW;rw[if_neg k2,if_neg k4,if_pos k3,h];rfl
  ·rw[Zcs]at h2;unfold ZaW;rw[if_neg k2,if_neg k4,if_pos k3,h,h2];rfl
  ·rw[Zcs]at h2;unfold ZaW;rw[if_neg k2,if_neg k4,if_pos k3,h,h2];rfl
 ·have k2:¬r.k=2:=by simpa using k2
  have k4:¬r.k=4:=by simpa using k4
  have k3:¬r.k=3:=by simpa using k3
  have k1:r.k=1:=by simpa using k1
  refine⟨ZaW r,Zab (λh2=>⟨by trivial,Zaf ?_⟩) (λh2=>⟨by trivial,Zaf ?_⟩),Zac aB rfl⟩
  ·rw[Zcs]at h2;unfold ZaW;rw[if_neg k2,if_neg k4,if_neg k3,if_pos k1,h2];rfl
  ·rw[Zcs]at h2;unfold ZaW;rw[if_neg k2,if_neg k4,if_neg k3,if_pos k1,h2];rfl
 ·have k2:¬r.k=2:=by simpa using k2
  have k4:¬r.k=4:=by simpa using k4
  have k3:¬r.k=3:=by simpa using k3
  have k1:¬r.k=1:=by simpa using k1
  refine Zac aB ?_
  show Value.bool false=Value.bool (ZaW r)
  unfold ZaW;rw[if_neg k2,if_neg k4,if_neg k3,if_neg k1]
theorem Zb5{m:Mem}{b o:Nat}{cs:List Value}(h:m.reads b o cs)(k n:Nat):m.reads b (o+k) ((cs.drop k).take n):=λi v hi=>by
 rw[Nat.add_assoc]
 refine h (k+i) v ?_
 rw[List.getElem?_take]at hi
 split at hi
 ·rwa [List.getElem?_drop]at hi
 ·cases hi
theorem Zqx{α:Type}{cs:α->List Value}{m:Mem}{a:Option Addr}{L:List α}(h:rowRd m a (L.map cs).flatten)(k:Nat):rowRd m a ((L.take k).map cs).flatten:=by
 have e:(L.map cs).flatten=((L.take k).map cs).flatten++((L.drop k).map cs).flatten:=by
  rw[<-List.flatten_append,<-List.map_append,List.take_append_drop]
 rw[e]at h
 rcases h with h|⟨b,o,ha,h⟩
 ·exact .inl (List.append_eq_nil_iff.1 h).1
 ·refine .inr ⟨b,o,ha,λj v hj=>h j v ?_⟩
  rw[zA5 (zA0 hj).1];exact hj
variable {m:Mem} {b:Nat}
theorem Zvc(s:Sc)(hb:m.reads b 0 s.cs):CX Tryz.prog 123 #[.pointer (some ⟨b,0,none⟩)] m [] (Ret (.bool (!ZaX s.n 2 256))):=by
 apply ZgI (c0b:=b) (c0o:=0)
 refine⟨_,hb 0 _ rfl,Zah (ZeJ s.n 2 256 m) λm1 aB=>Zac aB rfl⟩
theorem Zvd(s:Sc)(hb:m.reads b 0 s.cs):CX Tryz.prog 125 #[.pointer (some ⟨b,0,none⟩)] m [] (Ret (.bool (!ZaX s.states.length 1 24||decide (s.vars.length > 12)))):=by
 apply ZgJ (c0b:=b) (c0o:=0)
 refine⟨!ZaX s.states.length 1 24||decide (s.vars.length > 12),⟨_,hb 2 _ rfl,Zaa rfl (Zah (ZeJ s.states.length 1 24 m) λm1 aB=>Zab (λh=>Zaf ?_) (λh=>⟨_,(hb.mono aB) 1 _ rfl,Zaa rfl (Zaf ?_)⟩))⟩,Zac (Mem.le_refl m) rfl⟩
 ·rw[h];rfl
 ·rw[h]
  show decide ((s.vars.length:Int) > 12)=(false||decide (s.vars.length > 12))
  rw[Bool.false_or,decide_eq_decide];omega
theorem ZxZ(s:Sc)(hr:RepC m s):CX Tryz.prog 98 #[s.v] m [] (Ret (.int .i64 (ZdP s))):=by
 apply Zja
 intro b m1 aB hb b1 hf
 have bH:=Mem.le_add hf ([.int .i64 300,.func (.func 123) #[] #[.pointer (some ⟨b,0,none⟩)],.int .i64 302,.func (.func 125) #[] #[.pointer (some ⟨b,0,none⟩)]])
 refine ZaC (Zgs [((300,123,[.pointer (some ⟨b,0,none⟩)]),!ZaX s.n 2 256),((302,125,[.pointer (some ⟨b,0,none⟩)]),!ZaX s.states.length 1 24||decide (s.vars.length > 12))] _ 2 _ (by simp) (.inr ⟨b1,0,rfl,Zaq m1 b1 _⟩) λx hx m' hm'=>?_) λm2 aH=>Zac (mLt aB (mLt bH aH)) rfl
 have hb':=hb.mono (mLt bH hm')
 simp only[List.mem_cons,List.not_mem_nil,or_false]at hx
 rcases hx with rfl|rfl
 ·exact Zvc s hb'
 ·exact Zvd s hb'
theorem Zlo(v x:Va)(m:Mem)(b:Nat)(hb:m.reads b 0 v.cs):CX Tryz.prog 122 #[.agg x.cs.toArray,.pointer (some ⟨b,0,none⟩)] m [] (Ret (.bool (eqS x.s v.s))):=by
 apply ZdS (c0b:=b) (c0o:=0)
 intro b1 m1 aB _
 exact⟨_,(hb.mono aB) 0 _ rfl,Zaa rfl (Zac aB rfl)⟩
theorem ZnJ(s:Sc)(i:Nat)(v:Va)(m:Mem)(b0 b1 b2:Nat)(hr:RepC m s)(hi:i<=s.vars.length)(hv:RepV v)(h0:m.reads b0 0 v.cs)(h1:m.reads b1 0 s.cs)(h2:m.reads b2 0 [.int .i64 i]):
  CX Tryz.prog 118 #[.pointer (some ⟨b0,0,none⟩),.pointer (some ⟨b1,0,none⟩),.pointer (some ⟨b2,0,none⟩)] m [] (Ret (.bool (!ZbQ v.s||(!Zd1 v||(s.vars.take i).any λx=>eqS x.s v.s)))):=by
 apply ZeG (c0b:=b0) (c0o:=0) (c1b:=b1) (c1o:=0) (c2b:=b2) (c2o:=0)
 have fZ:=hr.vlen
 unfold few at fZ
 refine⟨_,h0 0 _ rfl,Zah (Zh3 v.s hv.s m) λm1 aB=>Zab (λh=>Zac aB ?_) (λh=>⟨_,_,_,Zb5 (h0.mono aB) 1 3,Zah (Zva v m1) λm2 aH=>Zab (λh'=>Zac (mLt aB aH) ?_) (λh'=>?_)⟩)⟩
 ·show Value.bool true=Value.bool _
  rw[h];rfl
 ·show Value.bool true=Value.bool _
  rw[h,h'];rfl
 ·have hm:=mLt aB aH
  have hc:=hr.vcap
  have key:=Zu5 (s.vars.take i) s.va s.vc 122 [.pointer (some ⟨b0,0,none⟩)] (λx=>eqS x.s v.s) m2 (by rw[List.length_take];omega) (Zqx (hr.vrow.mono hm) i) λx _ m' hm'=>Zlo v x m' b0 (h0.mono (mLt hm hm'))
  rw[List.length_take,Nat.min_eq_left hi]at key
  refine⟨_,(h1.mono hm) 1 _ rfl,_,(h2.mono hm) 0 _ rfl,Zaa rfl (Zaa rfl ⟨⟨Int.natCast_nonneg i,by show(i:Int)<=(s.vc:Int);omega⟩,Zah key λm3 aS=>Zac (mLt hm aS) ?_⟩)⟩
  show Value.bool _=Value.bool _
  rw[h,h'];rfl
theorem Zqy(s:Sc)(i:Nat)(v:Va)(m:Mem)(hr:RepC m s)(hi:s.vars[i]?=some v):CX Tryz.prog 97 #[s.v,.int .i64 i] m [] (Ret (.int .i64 (ZaU s i v))):=by
 apply ZfP
 intro b m1 aB hb b1 m2 aH cM
 have fZ:=hr.vlen
 unfold few at fZ
 have aG:=(zA0 hi).1
 have bH:=mLt aB aH
 obtain⟨b2,o2,ha,hx⟩:=Zao Va.len (hr.vrow.mono bH) hi (by omega)
 refine⟨b2,o2,ha,⟨by omega,by omega⟩,_,_,_,_,hx,λb3=>Zaa rfl λb4 hf m3 aS eS=>?_⟩
 have mN:=mLt (Mem.le_add hf _) aS
 have dI:=mLt bH mN
 refine ZaC (Zgs [((301,118,[.pointer (some ⟨b3,0,none⟩),.pointer (some ⟨b,0,none⟩),.pointer (some ⟨b1,0,none⟩)]),!ZbQ v.s||(!Zd1 v||(s.vars.take i).any λx=>eqS x.s v.s))] _ 1 _ (by simp) (.inr ⟨b4,0,rfl,(Zaq m2 b4 _).mono aS⟩) λx hx m' hm'=>?_) λm4 bM=>Zac (mLt dI bM) rfl
 simp only[List.mem_cons,List.not_mem_nil,or_false]at hx
 subst hx
 have hl':=mLt mN hm'
 exact ZnJ s i v m' b3 b b1 (hr.mono (mLt dI hm')) (by omega) (hr.vall v (zA2 hi)) (eS.mono hm') (hb.mono (mLt aH hl')) (cM.mono hl')
theorem ZrZ(v x:Sta)(m:Mem)(b:Nat)(hb:m.reads b 0 v.cs):CX Tryz.prog 128 #[.agg x.cs.toArray,.pointer (some ⟨b,0,none⟩)] m [] (Ret (.bool (eqS x.s v.s))):=by
 apply Ze6 (c0b:=b) (c0o:=0)
 intro b1 m1 aB _
 exact⟨_,(hb.mono aB) 0 _ rfl,Zaa rfl (Zac aB rfl)⟩
theorem Zve(s:Sc)(i:Nat)(v:Sta)(m:Mem)(b0 b1 b2:Nat)(hr:RepC m s)(hi:i<=s.states.length)(hv:RepS m v)(h0:m.reads b0 0 v.cs)(h1:m.reads b1 0 s.cs)(h2:m.reads b2 0 [.int .i64 i]):
  CX Tryz.prog 126 #[.pointer (some ⟨b0,0,none⟩),.pointer (some ⟨b1,0,none⟩),.pointer (some ⟨b2,0,none⟩)] m [] (Ret (.bool (!ZbQ v.s||(decide (v.rules.length > 12)||(s.states.take i).any λx=>eqS x.s v.s)))):=by
 apply ZgL (c0b:=b0) (c0o:=0) (c1b:=b1) (c1o:=0) (c2b:=b2) (c2o:=0)
 have fZ:=hr.len
 unfold few at fZ
 refine⟨_,h0 0 _ rfl,Zah (Zh3 v.s hv.s m) λm1 aB=>Zab (λh=>Zac aB ?_) (λh=>⟨_,(h0.mono aB) 1 _ rfl,Zaa rfl (Zav (λh'=>Zac aB ?_) (λh'=>?_))⟩)⟩
 ·show Value.bool true=Value.bool _
  rw[h];rfl
 ·have h':(v.rules.length:Int) > 12:=h'
  show Value.bool true=Value.bool _
  rw[h,decide_eq_true (by omega)];rfl
 ·have h':¬(v.rules.length:Int) > 12:=h'
  have hc:=hr.scap
  have key:=Zu4 (s.states.take i) s.sa s.sc 128 [.pointer (some ⟨b0,0,none⟩)] (λx=>eqS x.s v.s) m1 (by rw[List.length_take];omega) (Zqx (hr.row.mono aB) i) λx _ m' hm'=>ZrZ v x m' b0 (h0.mono (mLt aB hm'))
  rw[List.length_take,Nat.min_eq_left hi]at key
  refine⟨_,(h1.mono aB) 2 _ rfl,_,(h2.mono aB) 0 _ rfl,Zaa rfl (Zaa rfl ⟨⟨Int.natCast_nonneg i,by show(i:Int)<=(s.sc:Int);omega⟩,Zah key λm3 aS=>Zac (mLt aB aS) ?_⟩)⟩
  show Value.bool _=Value.bool _
  rw[h,decide_eq_false (by omega)];rfl
theorem Zx0(s:Sc)(i:Nat)(v:Sta)(m:Mem)(hr:RepC m s)(hi:s.states[i]?=some v):CX Tryz.prog 99 #[s.v,.int .i64 i] m [] (Ret (.int .i64 (ZcS s i v))):=by
 apply Zjb
 intro b m1 aB hb b1 m2 aH cM
 have fZ:=hr.len
 unfold few at fZ
 have aG:=(zA0 hi).1
 have bH:=mLt aB aH
 obtain⟨b2,o2,ha,hx⟩:=Zao Sta.len (hr.row.mono bH) hi (by omega)
 refine⟨b2,o2,ha,⟨by omega,by omega⟩,_,_,hx,λb3=>Zaa rfl λb4 hf m3 aS eS=>?_⟩
 have mN:=mLt (Mem.le_add hf _) aS
 have dI:=mLt bH mN
 refine ZaC (Zgs [((303,126,[.pointer (some ⟨b3,0,none⟩),.pointer (some ⟨b,0,none⟩),.pointer (some ⟨b1,0,none⟩)]),!ZbQ v.s||(decide (v.rules.length > 12)||(s.states.take i).any λx=>eqS x.s v.s))] _ 1 _ (by simp) (.inr ⟨b4,0,rfl,(Zaq m2 b4 _).mono aS⟩) λx hx m' hm'=>?_) λm4 bM=>Zac (mLt dI bM) rfl
 simp only[List.mem_cons,List.not_mem_nil,or_false]at hx
 subst hx
 have hl':=mLt mN hm'
 have h0':=mLt dI hm'
 exact Zve s i v m' b3 b b1 (hr.mono h0') (by omega) ((hr.all v (zA2 hi)).mono h0') (eS.mono hm') (hb.mono (mLt aH hl')) (cM.mono hl')
theorem Zx1(r:Ru)(m:Mem)(b:Nat)(hr:RepR m r)(hb:m.reads b 0 r.cs):CX Tryz.prog 129 #[.pointer (some ⟨b,0,none⟩)] m [] (Ret (.bool (!ZaW r||decide (r.acts.length > 8)))):=by
 apply ZhU (c0b:=b) (c0o:=0)
 refine⟨!ZaW r||decide (r.acts.length > 8),⟨_,_,_,_,_,_,_,_,_,_,_,_,_,_,_,_,hb,Zah (Zvb r m hr) λm1 aB=>Zab (λh=>Zaf ?_) (λh=>⟨_,(hb.mono aB) 13 _ rfl,Zaa rfl (Zaf ?_)⟩)⟩,Zac (Mem.le_refl m) rfl⟩
 ·rw[h];rfl
 ·rw[h]
  show decide ((r.acts.length:Int) > 8)=(false||decide (r.acts.length > 8))
  rw[Bool.false_or,decide_eq_decide];omega
theorem Zx2(r:Ru)(total:Int)(m:Mem)(b b1:Nat)(hr:RepR m r)(hb:m.reads b 0 r.cs)(cM:m.reads b1 0 [.int .i64 total]):CX Tryz.prog 131 #[.pointer (some ⟨b,0,none⟩),.pointer (some ⟨b1,0,none⟩)] m [] (Ret (.bool (r.k == 1&&(!(r.t.check == 0)||decide (total > 600))))):=by
 apply ZhV (c0b:=b) (c0o:=0) (c1b:=b1) (c1o:=0)
 refine⟨r.k == 1&&(!(r.t.check == 0)||decide (total > 600)),⟨_,hb 0 _ rfl,Zaa rfl (Zab (λh=>⟨_,_,_,_,_,_,_,_,_,_,Zb5 hb 1 10,ZaC (Zxw r.bg r.en r.t m hr.t) λm1 aB=>Zab (λh2=>Zaf ?_) (λh2=>⟨_,(cM.mono aB) 0 _ rfl,Zaa rfl (Zaf ?_)⟩)⟩) (λh=>Zaf ?_))⟩,Zac (Mem.le_refl m) rfl⟩
 ·rw[show(r.k == 1)=true from h,h2];rfl
 ·rw[show(r.k == 1)=true from h,h2];rfl
 ·rw[show(r.k == 1)=false from h];rfl
theorem Zx3(s:Sc)(r:Ru)(m:Mem)(b b1:Nat)(hs:RepC m s)(hr:RepR m r)(hb:m.reads b 0 s.cs)(cM:m.reads b1 0 r.cs):CX Tryz.prog 133 #[.pointer (some ⟨b,0,none⟩),.pointer (some ⟨b1,0,none⟩)] m [] (Ret (.bool (if r.go.size=0 then !ZaX r.code 0 255 else !Zdu s r.go||!(r.code == 0)))):=by
 apply ZhW (c0b:=b) (c0o:=0) (c1b:=b1) (c1o:=0)
 refine⟨_,_,_,hb,_,cM 14 _ rfl,Zaj (ZzZ s r.go m hs) Zu9 ?_⟩
 rintro n ok m1 aB ⟨n',hv⟩
 have cH:ok=Zdu s r.go:=by
  have hv:Value.tuple (Array.mk [Value.int .i64 n,Value.bool ok])=Value.tuple #[.int .i64 n',.bool (Zdu s r.go)]:=hv
  simp only[Value.tuple.injEq,Array.mk.injEq,List.cons.injEq,Value.bool.injEq,and_true]at hv
  exact hv.2
 subst cH
 refine⟨_,(cM.mono aB) 14 _ rfl,Zaa rfl (Zab (λh=>⟨_,(cM.mono aB) 15 _ rfl,Zah (ZeJ r.code 0 255 m1) λm2 aH=>Zac (mLt aB aH) ?_⟩) (λh=>⟨!Zdu s r.go||!(r.code == 0),Zab (λh2=>Zaf ?_) (λh2=>⟨_,(cM.mono aB) 15 _ rfl,Zaa rfl (Zaf ?_)⟩),Zac aB ?_⟩))⟩
 ·have h:(r.go.size == 0)=true:=by rw[<-Zcs];exact h
  show Value.bool _=Value.bool _
  rw[if_pos (by simpa using h)]
 ·rw[h2];rfl
 ·rw[h2];rfl
 ·have h:(r.go.size == 0)=false:=by rw[<-Zcs];exact h
  show Value.bool _=Value.bool _
  rw[if_neg (by simpa using h)]
theorem Zz0(s:Sc)(r:Ru)(total:Int)(m:Mem)(hs:RepC m s)(hr:RepR m r):CX Tryz.prog 100 #[s.v,.agg r.cs.toArray,.int .i64 total] m [] (Ret (.int .i64 (Zcl s r total))):=by
 apply Zld
 intro b m1 aB hb b1 m2 aH cM b2 m3 aS eR b3 hf
 have dI:=mLt aB (mLt aH aS)
 refine ZaC (Zgs [((304,129,[.pointer (some ⟨b1,0,none⟩)]),!ZaW r||decide (r.acts.length > 8)),((305,131,[.pointer (some ⟨b1,0,none⟩),.pointer (some ⟨b2,0,none⟩)]),r.k == 1&&(!(r.t.check == 0)||decide (total > 600))),
  ((306,133,[.pointer (some ⟨b,0,none⟩),.pointer (some ⟨b1,0,none⟩)]),if r.go.size=0 then !ZaX r.code 0 255 else !Zdu s r.go||!(r.code == 0))] _ 3 _ (by simp) (.inr ⟨b3,0,rfl,Zaq m3 b3 _⟩) λx hx m' hm'=>?_) λm4 bM=>Zac (mLt dI (mLt (Mem.le_add hf _) bM)) rfl
 have hl:=mLt (Mem.le_add hf _) hm'
 have h0':=mLt dI hl
 simp only[List.mem_cons,List.not_mem_nil,or_false]at hx
 rcases hx with rfl|rfl|rfl
 ·exact Zx1 r m' b1 (hr.mono h0') (cM.mono (mLt aS hl))
 ·exact Zx2 r total m' b1 b2 (hr.mono h0') (cM.mono (mLt aS hl)) (eR.mono hl)
 ·exact Zx3 s r m' b b1 (hs.mono h0') (hr.mono h0') (hb.mono (mLt aH (mLt aS hl))) (cM.mono (mLt aS hl))
end Go.Proofs.YtdopppmkbkkmiaaGreatDoor
end
