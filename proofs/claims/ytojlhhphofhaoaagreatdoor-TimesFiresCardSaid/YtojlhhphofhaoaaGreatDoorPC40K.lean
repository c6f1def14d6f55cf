/- Part of the proof: functions of the program. No condition. -/
import Derived.Test.YtojlhhphofhaoaaGreatDoorPC25CA
import Derived.Test.YtojlhhphofhaoaaGreatDoorPC40C
import Derived.Test.YtojlhhphofhaoaaGreatDoorPC25I
import Derived.Test.YtojlhhphofhaoaaGreatDoorPC25D
import Derived.Test.YtojlhhphofhaoaaGreatDoorMr
import Derived.Test.YtojlhhphofhaoaaGreatDoorPEnv
set_option linter.unusedVariables false
set_option linter.unusedSimpArgs false
set_option linter.unusedSectionVars false
namespace Go.Proofs.YtojlhhphofhaoaaGreatDoor
open Go Go.Eng Go.Rx Go.Proofs Go.RowKit
set_option maxRecDepth 100000
theorem ZuJ{x:List Value}{K:List Value->Prop}(h:∀y,K y):lV x K:=h x
theorem Zxa(cb:Nat)(Q:Pt->Pt->Mem->Prop)(L:List Pt)(a:Option Addr)(d:Nat)(m:Mem)(aM:rowRd m a (L.map Pt.cs).flatten)(hl:L.length<=few)(kU:∀x∈L,∀m2,m.le m2->CX Tryz.prog cb #[.agg x.cs.toArray] m2 [] (λv m3 _=>∃y:Pt,v=.agg y.cs.toArray/\Q x y (nw m2 m3))):
  CX Tryz.prog 75 #[.slice a L.length d,.func (.func cb) #[] #[]] m [] (ZtR Pt.cs Q m L):=by
 have hl:L.length<=100000:=hl
 apply Zcg (p1fi:=[]) (p1ca:=[])
 refine⟨λxs css tvs m' q=>∃(k:Nat)(a':Option Addr)(c':Nat)(L':List Pt)(μ:Nat->Mem),k<=L.length/\q=L.length - k/\xs=[.slice a' L'.length c',.int .i64 k]/\tvs=[.slice a' L'.length c']/\Each Pt.cs Q m m' (L.take k) a' c' L' μ,⟨_,0,none,0,[],_,by omega,rfl,rfl,rfl,Each.nil m⟩,?_⟩
 rintro a1 n1 c1 z a2 n2 c2 m2 q _ ⟨k,a',c',L',μ,hk,hq,dG,eF,hE⟩
 simp only[List.cons.injEq,Value.slice.injEq,Value.int.injEq,true_and,and_true]at dG eF
 obtain⟨⟨rfl,rfl,rfl⟩,rfl⟩:=dG
 obtain⟨rfl,rfl,rfl⟩:=eF
 have jR:L'.length=k:=by rw[hE.len,List.length_take];omega
 refine Zaa (λaP=>?_) (λbX=>?_)
 ·have aV:k < L.length:=by have:=of_decide_eq_true aP;omega
  obtain⟨x,hx⟩:=ZaF aV
  obtain⟨b,o,ha,cG⟩:=Zal Pt.len aM hx (by omega)
  have hw:IntKind.i64.wrap ((k:Int)+1)=((k+1:Nat):Int):=by rw[Zan (by omega) (by omega)];rfl
  refine⟨b,o,ha,⟨by omega,by omega⟩,_,_,_,_,_,_,_,_,cG.mono hE.le,λb3=>Zab rfl ⟨_,trivial,kU x (List.mem_of_getElem? hx) m2 hE.le,(λv _ _ ⟨y,h,_⟩=>by rw[h];rfl),?_⟩⟩
  intros
  refine ZuJ λys=>?_
  rintro aW ⟨y,hv,hQ⟩ b4 iY
  obtain rfl:ys=y.cs:=by simpa using hv
  have bU:(L'.length+1)*96<=140737488355328:=by omega
  refine Zd4 Pt.len Pt.one iY y (hE.row.mono aW) 96 bU (by omega) (.inl rfl) λa5 c5 m5 dD cK bD=>?_
  have dI:=hE.step Pt.len (by omega) hx aW hQ iY dD cK bD
  exact⟨L.length - (k+1),by omega,k+1,a5,c5,L'++[y],_,by omega,rfl,by rw[hw,List.length_append];rfl,by rw[List.length_append];rfl,dI⟩
 ·have dU:k=L.length:=by have:=of_decide_eq_false bX;omega
  rw[dU,List.take_length]at hE
  exact⟨m2,hE.le,Mem.le_refl _,_,_,L',μ,rfl,hE⟩
theorem Zxb(cb:Nat)(Q:Ac->Ac->Mem->Prop)(L:List Ac)(a:Option Addr)(d:Nat)(m:Mem)(aM:rowRd m a (L.map Ac.cs).flatten)(hl:L.length<=few)(kU:∀x∈L,∀m2,m.le m2->CX Tryz.prog cb #[.agg x.cs.toArray] m2 [] (λv m3 _=>∃y:Ac,v=.agg y.cs.toArray/\Q x y (nw m2 m3))):
  CX Tryz.prog 72 #[.slice a L.length d,.func (.func cb) #[] #[]] m [] (ZtR Ac.cs Q m L):=by
 have hl:L.length<=100000:=hl
 apply ZbJ (p1fi:=[]) (p1ca:=[])
 refine⟨λxs css tvs m' q=>∃(k:Nat)(a':Option Addr)(c':Nat)(L':List Ac)(μ:Nat->Mem),k<=L.length/\q=L.length - k/\xs=[.slice a' L'.length c',.int .i64 k]/\tvs=[.slice a' L'.length c']/\Each Ac.cs Q m m' (L.take k) a' c' L' μ,⟨_,0,none,0,[],_,by omega,rfl,rfl,rfl,Each.nil m⟩,?_⟩
 rintro a1 n1 c1 z a2 n2 c2 m2 q _ ⟨k,a',c',L',μ,hk,hq,dG,eF,hE⟩
 simp only[List.cons.injEq,Value.slice.injEq,Value.int.injEq,true_and,and_true]at dG eF
 obtain⟨⟨rfl,rfl,rfl⟩,rfl⟩:=dG
 obtain⟨rfl,rfl,rfl⟩:=eF
 have jR:L'.length=k:=by rw[hE.len,List.length_take];omega
 refine Zaa (λaP=>?_) (λbX=>?_)
 ·have aV:k < L.length:=by have:=of_decide_eq_true aP;omega
  obtain⟨x,hx⟩:=ZaF aV
  obtain⟨b,o,ha,cG⟩:=Zal Ac.len aM hx (by omega)
  have hw:IntKind.i64.wrap ((k:Int)+1)=((k+1:Nat):Int):=by rw[Zan (by omega) (by omega)];rfl
  refine⟨b,o,ha,⟨by omega,by omega⟩,_,_,_,_,_,_,_,_,cG.mono hE.le,λb3=>Zab rfl ⟨_,trivial,kU x (List.mem_of_getElem? hx) m2 hE.le,(λv _ _ ⟨y,h,_⟩=>by rw[h];rfl),?_⟩⟩
  intros
  refine ZuJ λys=>?_
  rintro aW ⟨y,hv,hQ⟩ b4 iY
  obtain rfl:ys=y.cs:=by simpa using hv
  have bU:(L'.length+1)*112<=140737488355328:=by omega
  refine Zd4 Ac.len Ac.one iY y (hE.row.mono aW) 112 bU (by omega) (.inl rfl) λa5 c5 m5 dD cK bD=>?_
  have dI:=hE.step Ac.len (by omega) hx aW hQ iY dD cK bD
  exact⟨L.length - (k+1),by omega,k+1,a5,c5,L'++[y],_,by omega,rfl,by rw[hw,List.length_append];rfl,by rw[List.length_append];rfl,dI⟩
 ·have dU:k=L.length:=by have:=of_decide_eq_false bX;omega
  rw[dU,List.take_length]at hE
  exact⟨m2,hE.le,Mem.le_refl _,_,_,L',μ,rfl,hE⟩
theorem Zxc(cb:Nat)(Q:Ru->Ru->Mem->Prop)(L:List Ru)(a:Option Addr)(d:Nat)(m:Mem)(aM:rowRd m a (L.map Ru.cs).flatten)(hl:L.length<=few)(kU:∀x∈L,∀m2,m.le m2->CX Tryz.prog cb #[.agg x.cs.toArray] m2 [] (λv m3 _=>∃y:Ru,v=.agg y.cs.toArray/\Q x y (nw m2 m3))):
  CX Tryz.prog 42 #[.slice a L.length d,.func (.func cb) #[] #[]] m [] (ZtR Ru.cs Q m L):=by
 have hl:L.length<=100000:=hl
 apply Zch (p1fi:=[]) (p1ca:=[])
 refine⟨λxs css tvs m' q=>∃(k:Nat)(a':Option Addr)(c':Nat)(L':List Ru)(μ:Nat->Mem),k<=L.length/\q=L.length - k/\xs=[.slice a' L'.length c',.int .i64 k]/\tvs=[.slice a' L'.length c']/\Each Ru.cs Q m m' (L.take k) a' c' L' μ,⟨_,0,none,0,[],_,by omega,rfl,rfl,rfl,Each.nil m⟩,?_⟩
 rintro a1 n1 c1 z a2 n2 c2 m2 q _ ⟨k,a',c',L',μ,hk,hq,dG,eF,hE⟩
 simp only[List.cons.injEq,Value.slice.injEq,Value.int.injEq,true_and,and_true]at dG eF
 obtain⟨⟨rfl,rfl,rfl⟩,rfl⟩:=dG
 obtain⟨rfl,rfl,rfl⟩:=eF
 have jR:L'.length=k:=by rw[hE.len,List.length_take];omega
 refine Zaa (λaP=>?_) (λbX=>?_)
 ·have aV:k < L.length:=by have:=of_decide_eq_true aP;omega
  obtain⟨x,hx⟩:=ZaF aV
  obtain⟨b,o,ha,cG⟩:=Zal Ru.len aM hx (by omega)
  have hw:IntKind.i64.wrap ((k:Int)+1)=((k+1:Nat):Int):=by rw[Zan (by omega) (by omega)];rfl
  refine⟨b,o,ha,⟨by omega,by omega⟩,_,_,_,_,_,_,_,_,_,_,_,_,_,_,_,_,cG.mono hE.le,λb3=>Zab rfl ⟨_,trivial,kU x (List.mem_of_getElem? hx) m2 hE.le,(λv _ _ ⟨y,h,_⟩=>by rw[h];rfl),?_⟩⟩
  intros
  refine ZuJ λys=>?_
  rintro aW ⟨y,hv,hQ⟩ b4 iY
  obtain rfl:ys=y.cs:=by simpa using hv
  have bU:(L'.length+1)*168<=140737488355328:=by omega
  refine Zd4 Ru.len Ru.one iY y (hE.row.mono aW) 168 bU (by omega) (.inl rfl) λa5 c5 m5 dD cK bD=>?_
  have dI:=hE.step Ru.len (by omega) hx aW hQ iY dD cK bD
  exact⟨L.length - (k+1),by omega,k+1,a5,c5,L'++[y],_,by omega,rfl,by rw[hw,List.length_append];rfl,by rw[List.length_append];rfl,dI⟩
 ·have dU:k=L.length:=by have:=of_decide_eq_false bX;omega
  rw[dU,List.take_length]at hE
  exact⟨m2,hE.le,Mem.le_refl _,_,_,L',μ,rfl,hE⟩
theorem Zxd(cb:Nat)(Q:Sta->Sta->Mem->Prop)(L:List Sta)(a:Option Addr)(d:Nat)(m:Mem)(aM:rowRd m a (L.map Sta.cs).flatten)(hl:L.length<=few)(kU:∀x∈L,∀m2,m.le m2->CX Tryz.prog cb #[.agg x.cs.toArray] m2 [] (λv m3 _=>∃y:Sta,v=.agg y.cs.toArray/\Q x y (nw m2 m3))):
  CX Tryz.prog 40 #[.slice a L.length d,.func (.func cb) #[] #[]] m [] (ZtR Sta.cs Q m L):=by
 have hl:L.length<=100000:=hl
 apply ZbY (p1fi:=[]) (p1ca:=[])
 refine⟨λxs css tvs m' q=>∃(k:Nat)(a':Option Addr)(c':Nat)(L':List Sta)(μ:Nat->Mem),k<=L.length/\q=L.length - k/\xs=[.slice a' L'.length c',.int .i64 k]/\tvs=[.slice a' L'.length c']/\Each Sta.cs Q m m' (L.take k) a' c' L' μ,⟨_,0,none,0,[],_,by omega,rfl,rfl,rfl,Each.nil m⟩,?_⟩
 rintro a1 n1 c1 z a2 n2 c2 m2 q _ ⟨k,a',c',L',μ,hk,hq,dG,eF,hE⟩
 simp only[List.cons.injEq,Value.slice.injEq,Value.int.injEq,true_and,and_true]at dG eF
 obtain⟨⟨rfl,rfl,rfl⟩,rfl⟩:=dG
 obtain⟨rfl,rfl,rfl⟩:=eF
 have jR:L'.length=k:=by rw[hE.len,List.length_take];omega
 refine Zaa (λaP=>?_) (λbX=>?_)
 ·have aV:k < L.length:=by have:=of_decide_eq_true aP;omega
  obtain⟨x,hx⟩:=ZaF aV
  obtain⟨b,o,ha,cG⟩:=Zal Sta.len aM hx (by omega)
  have hw:IntKind.i64.wrap ((k:Int)+1)=((k+1:Nat):Int):=by rw[Zan (by omega) (by omega)];rfl
  refine⟨b,o,ha,⟨by omega,by omega⟩,_,_,cG.mono hE.le,λb3=>Zab rfl ⟨_,trivial,kU x (List.mem_of_getElem? hx) m2 hE.le,(λv _ _ ⟨y,h,_⟩=>by rw[h];rfl),?_⟩⟩
  intros
  refine ZuJ λys=>?_
  rintro aW ⟨y,hv,hQ⟩ b4 iY
  obtain rfl:ys=y.cs:=by simpa using hv
  have bU:(L'.length+1)*40<=140737488355328:=by omega
  refine Zd4 Sta.len Sta.one iY y (hE.row.mono aW) 40 bU (by omega) (.inl rfl) λa5 c5 m5 dD cK bD=>?_
  have dI:=hE.step Sta.len (by omega) hx aW hQ iY dD cK bD
  exact⟨L.length - (k+1),by omega,k+1,a5,c5,L'++[y],_,by omega,rfl,by rw[hw,List.length_append];rfl,by rw[List.length_append];rfl,dI⟩
 ·have dU:k=L.length:=by have:=of_decide_eq_false bX;omega
  rw[dU,List.take_length]at hE
  exact⟨m2,hE.le,Mem.le_refl _,_,_,L',μ,rfl,hE⟩
def CpE(m:Mem)(t:E):Value->Mem->List (List Value)->Prop:=λv m' _=>∃t':E,v=t'.v/\t'.er=t.er/\RepE (nw m m') t'
theorem ZsL{m:Mem}{t:E}:∀(v:Value)(m':Mem) (css:List (List Value)),CpE m t v m' css->Shape.fits (.agg [.int .u8,.any,.str,.int .i64,.slice]) v=true:=λv _ _ ⟨t,e,_⟩=>by rw[e];rfl
theorem ZsM(t:E)(m:Mem)(hr:RepE m t)(hl:t.light=true):CX Tryz.prog 74 #[t.v] m [] (CpE m t):=by
 apply ZnE
 intro b m1 aB _ b1
 have h:=Zdg t m1 (hr.mono' aB)
 rw[hl]at h
 refine Zah h λm2 aN=>ZcI rfl (Zai (Zmq t m2 (hr.mono' (mLt aB aN)) (of_decide_eq_true hl)) Zgm ?_)
 rintro n v s n1 a n2 c m3 aW ⟨t',hv,hr',he,hn⟩
 obtain⟨rfl,rfl,rfl,rfl,rfl,rfl,rfl⟩:=Zrz hv
 exact Zab rfl ⟨m3,mLt aB (mLt aN aW),Mem.le_refl _,t',rfl,he,ZvI t' hr' (hn.less (mLt aB aN))⟩
theorem ZAs(p:Pt)(m:Mem)(hr:RepP m p)(hl:p.e.light=true):CX Tryz.prog 76 #[.agg p.cs.toArray] m [] (λv m' _=>∃q:Pt,v=.agg q.cs.toArray/\QP p q (nw m m')):=by
 apply ZeG
 intro b b1
 refine Zai (ZsM p.e m hr.e hl) ZsL ?_
 rintro n v s n1 a n2 c m3 aW ⟨t',hv,he,dO⟩
 obtain⟨rfl,rfl,rfl,rfl,rfl,rfl,rfl⟩:=Zrz hv
 refine Zab rfl (Zab rfl ⟨m3,aW,Mem.le_refl _,⟨p.k,p.s,p.g,t'⟩,rfl,?_,hr.k,hr.s,hr.g,dO⟩)
 simp only[Pt.er,he]
theorem ZAt(x:Ac)(m:Mem)(hr:RepA m x)(hl:LtA x):CX Tryz.prog 73 #[.agg x.cs.toArray] m [] (λv m' _=>∃q:Ac,v=.agg q.cs.toArray/\QA x q (nw m m')):=by
 apply ZfT
 intro b b1
 refine Zai (ZsM x.e m hr.e hl.1) ZsL ?_
 rintro n v s n1 a n2 c m1 aB ⟨t',hv,he,dO⟩
 obtain⟨rfl,rfl,rfl,rfl,rfl,rfl,rfl⟩:=Zrz hv
 refine Zab rfl ⟨_,trivial,Zxa 76 QP x.parts x.pa x.pc m1 (hr.row.mono aB) hr.n (λp hp m2 aN=>ZAs p m2 ((hr.all p hp).mono (mLt aB aN)) (hl.2 p hp)),Zhj,?_⟩
 rintro a' n' c' m2 aN ⟨a5,c5,L',μ,hv',hE⟩
 simp only[Value.slice.injEq]at hv'
 obtain⟨rfl,rfl,rfl⟩:=hv'
 refine Zab rfl ⟨m2,mLt aB aN,Mem.le_refl _,⟨x.k,x.s,a',c',L',t'⟩,rfl,?_,ZtU hr hE (Zey aB (Mem.le_refl _)) (dO.mono' (Zey (Mem.le_refl _) aN))⟩
 simp only[Ac.er,he,hE.same λ_ _ _ h=>h.1]
theorem ZAu(x:Ru)(m:Mem)(hr:RepR m x)(hl:LtR x):CX Tryz.prog 43 #[.agg x.cs.toArray] m [] (λv m' _=>∃q:Ru,v=.agg q.cs.toArray/\QR x q (nw m m')):=by
 apply Zh8
 intro b b1
 refine Zai (Zw8 x.t m hr.t (of_decide_eq_true hl.1)) Zw7 ?_
 rintro n0 n1 n2 n3 n4 n5 n6 a n c m1 aB ⟨t',hv,he,dO⟩
 simp only[T.v,Value.agg.injEq,Array.mk.injEq,List.cons.injEq,Value.int.injEq,Value.slice.injEq,true_and,and_true]at hv
 obtain⟨rfl,rfl,rfl,rfl,rfl,rfl,rfl,rfl,rfl,rfl⟩:=hv
 refine⟨_,trivial,Zxb 73 QA x.acts x.aa x.ac m1 (hr.row.mono aB) hr.len (λp hp m2 aN=>ZAt p m2 ((hr.all p hp).mono (mLt aB aN)) (hl.2 p hp)),Zhj,?_⟩
 rintro a' n' c' m2 aN ⟨a5,c5,L',μ,hv',hE⟩
 simp only[Value.slice.injEq]at hv'
 obtain⟨rfl,rfl,rfl⟩:=hv'
 refine⟨m2,mLt aB aN,Mem.le_refl _,⟨x.k,x.bg,x.en,t',x.s,x.n,a',c',L',x.go,x.code⟩,rfl,?_,ZtV hr hE (Zey aB (Mem.le_refl _)) (dO.mono (Zey (Mem.le_refl _) aN))⟩
 simp only[Ru.er,he,hE.same λ_ _ _ h=>h.1]
theorem ZAv(x:Sta)(m0 m:Mem)(h0:m0.le m)(hr:RepS m x)(hl:∀r∈x.rules,LtR r):CX Tryz.prog 41 #[.agg x.cs.toArray] m [] (λv m' _=>∃q:Sta,v=.agg q.cs.toArray/\QS m0 x q (nw m m')):=by
 apply Zly
 intro b m1 aB _ b1
 refine⟨λ_ _ μ=>ZtR Ru.cs QR μ x.rules,_,rfl,Zxc 43 QR x.rules x.ra x.rc m1 (hr.row.mono aB) hr.len (λp hp m2 aN=>ZAu p m2 ((hr.all p hp).mono (mLt aB aN)) (hl p hp)),Zhj,?_⟩
 rintro a' n' c' m2 aN ⟨a5,c5,L',μ,hv',hE⟩ M _ hM
 simp only[Value.slice.injEq]at hv'
 obtain⟨rfl,rfl,rfl⟩:=hv'
 exact⟨m2,mLt aB aN,hM,⟨x.s,a',c',L'⟩,rfl,(Zyq (mLt h0 aB) (hr.mono aB) hE).mono (Zey aB (Mem.le_refl _))⟩
def ZzV(m:Mem)(l:List Va):Value->Mem->List (List Value)->Prop:=λv m' _=>∃a' c',v=.slice a' l.length c'/\rowRd (nw m m') a' (l.map Va.cs).flatten/\l.length<=c'
theorem Zqk(a:Option Addr)(c:Nat)(l:List Va)(m:Mem)(h:rowRd m a (l.map Va.cs).flatten)(hl:l.length<=few):CXT Tryz.prog 39 #[.slice a l.length c] m 4 (ZzV m l):=by
 have hl:l.length<=100000:=hl
 apply ZbP
 have aX:(l.map Va.cs).flatten.length=l.length*4:=ZaT Va.len l
 refine Zaa (λha=>?_) (λha=>⟨⟨rfl,Int.le_refl _,by decide,by decide⟩,λb hf _=>⟨.inl rfl,[],(l.map Va.cs).flatten,rfl,aX,.inl rfl,h,?_,by omega,by omega,λa' c' m' hm aM kR=>⟨rfl,?_⟩⟩⟩)
 ·obtain rfl:a=none:=by simpa using ha
  have h0:l=[]:=by
   rcases h with h|⟨_,_,h,_⟩
   ·rw[h]at aX;exact List.eq_nil_of_length_eq_zero (by simp at aX;omega)
   ·cases h
  subst h0
  exact⟨rfl,none,0,rfl,.inl rfl,Nat.le_refl _⟩
 ·intro u hu
  simp only[List.mem_flatten,List.mem_map]at hu
  obtain⟨_,⟨e,_,rfl⟩,hu⟩:=hu
  exact Va.one e u hu
 ·simp only[Nat.zero_add]at kR ⊢
  refine⟨a',c',rfl,Zsl aM ?_,kR.1⟩
  rcases(kR.old (λ_ _ e=>by cases e;rfl)).2 with h1|⟨b',h1,h2|h2⟩
  ·exact .inr λb o e=>by rw[h1]at e;cases e
  ·exact .inr λb' o e=>by rw[<-h2]at e;cases e;exact hf
  ·exact .inr λb o e=>by rw[h1]at e;cases e;exact h2
def CpC(m:Mem)(s:Sc):Value->Mem->List (List Value)->Prop:=λv m' _=>∃s':Sc,v=s'.v/\s'.er=s.er/\RepC (nw m m') s'/\(s'.states=[]\/∃b μ,SepC m m' s' b μ)
theorem ZsN{m:Mem}{s:Sc}:∀(v:Value)(m':Mem) (css:List (List Value)),CpC m s v m' css->Shape.fits (.agg [.int .i64,.slice,.slice]) v=true:=λv _ _ ⟨t,e,_⟩=>by rw[e];rfl
theorem ZuK{m:Mem}{l:List Va}:∀(v:Value)(m':Mem) (css:List (List Value)),ZzV m l v m' css->Shape.fits .slice v=true:=λv _ _ ⟨_,_,h,_⟩=>by rw[h];rfl
theorem ZvJ(s:Sc)(m:Mem)(hr:RepC m s)(hl:s.light=true):CX Tryz.prog 13 #[s.v] m [] (CpC m s):=by
 apply Zqh
 intro b m1 aB _ b1
 have h:=ZdJ s m1 (hr.mono aB)
 rw[hl]at h
 refine Zah h λm2 aN=>ZcI rfl ?_
 have gK:=hr.mono (mLt aB aN)
 have cD:=mLt aB aN
 refine⟨λi _ μ=>if i=4 then ZzV μ s.vars else ZtR Sta.cs (QS m) μ s.states,_,rfl,(Zqk s.va s.vc s.vars m2 gK.vrow gK.vlen).toCX,ZuK,?_⟩
 rintro a n c m3 aW ⟨a',c',hv,aM,dB⟩
 simp only[Value.slice.injEq]at hv
 obtain⟨rfl,rfl,rfl⟩:=hv
 refine⟨_,rfl,Zxd 41 (QS m) s.states s.sa s.sc m3 (gK.row.mono aW) gK.len (λx hx m4 bV=>ZAv x m m4 (mLt cD (mLt aW bV)) ((gK.all x hx).mono (mLt aW bV)) (ZAe hl x hx)),Zhj,?_⟩
 rintro a4 n4 c4 m4 bV ⟨a5,c5,L',μ,hv',hE⟩ M _ iO ja
 simp only[Value.slice.injEq]at hv'
 obtain⟨rfl,rfl,rfl⟩:=hv'
 have dN:=mLt cD aW
 have lW:(nw m3 m4).le (nw m M):=Zey dN ja
 refine⟨M,mLt cD (mLt aW iO),Mem.le_refl _,⟨s.n,a,c,s.vars,a4,c4,L'⟩,rfl,?_,⟨hr.n,hr.vlen,aM.mono (Zey cD iO),hr.vall,by rw[hE.len];exact hr.len,hE.rows.mono lW,λy hy=>?_,dB,hE.cap⟩,?_⟩
 ·simp only[Sc.er,hE.same (f:=Sta.er) (g:=Sta.er) λ_ _ _ h=>h.1]
 ·obtain⟨i,x,_,_,hq,hs⟩:=hE.at hy
  exact hq.2.1.mono (mLt hs lW)
 ·rcases hE.blk with⟨h1,_⟩|⟨_,b,hb,hf,hk,hμ⟩
  ·exact .inl (List.eq_nil_of_length_eq_zero (by rw[hE.len,h1];rfl))
  ·refine .inr ⟨b,μ,hb,⟨Zcx dN hf,ZmR dN hk⟩,λi y hy=>?_,λi j qw hj b'=>hE.ap i j qw (by rw[<-hE.len];exact hj) b',nw m2 m3,aM,Zey cD iO,Zcx (ZnN _ _) hf,λi hi b'=>?_⟩
   ·have aP:i < s.states.length:=by rw[<-hE.len];exact(List.getElem?_eq_some_iff.1 hy).1
    have hq:=hE.q i _ _ (List.getElem?_eq_getElem aP) hy
    exact⟨hq.2.1,hq.2.2,mLt (hE.sub i aP) lW,(hμ i aP).1⟩
   ·by_cases iA:(nw m2 m3).free b'
    ·exact .inl iA
    ·exact .inr (Zcx (hE.sub i (by rw[<-hE.len];exact hi)) (ZtQ λh=>iA (Zcx (ZnN _ _) h)))
theorem Zy9(r:Ru)(m:Mem)(hr:RepR m r):CX Tryz.prog 46 #[.agg r.cs.toArray] m [] (λv m' _=>∃s:Sc,v=s.v/\RepC m' s/\s.light=Zho r):=by
 apply ZuE
 intro b m1 aB _ b1 b2 oZ b3 iI
 have h2:m1.le (m1.add b2 r.cs):=Mem.le_add oZ _
 have h3:(m1.add b2 r.cs).le ((m1.add b2 r.cs).add b3 [.string ⟨#[]⟩,.slice (some ⟨b2,0,none⟩) 1 1]):=Mem.le_add iI _
 have ux:=mLt aB (mLt h2 h3)
 refine⟨_,ux,Mem.le_refl _,⟨0,none,0,[],some ⟨b3,0,none⟩,1,[⟨⟨#[]⟩,some ⟨b2,0,none⟩,1,[r]⟩]⟩,rfl,⟨by show I64 0;unfold I64;omega,by show 0<=few;omega,.inl rfl,by simp,by show 1<=few;unfold few;omega,Zbx,λx hx=>?_,Nat.le_refl _,Nat.le_refl _⟩,?_⟩
 ·simp only[List.mem_singleton]at hx
  subst hx
  have aM:rowRd (m1.add b2 r.cs) (some ⟨b2,0,none⟩) ([r].map Ru.cs).flatten:=by simpa using(Zbx (m:=m1) (b:=b2) (cs:=r.cs))
  exact⟨by show(ByteArray.mk #[]).size<=_;decide,by show 1<=few;unfold few;omega,aM.mono h3,λp hp=>by
   simp only[List.mem_singleton]at hp;subst hp;exact hr.mono ux⟩
 ·unfold Sc.light Sc.weight Zho
  simp only[List.length_nil,List.length_singleton,List.map_cons,List.map_nil,ZbQ,wS]
  congr 1
  refine propext ?_
  constructor <;> intro h <;> simp only[Int.add_zero]at h ⊢ <;> omega
theorem ZsO{r:Ru}:∀(v:Value)(m':Mem) (css:List (List Value)),(∃s:Sc,v=s.v/\RepC m' s/\s.light=Zho r)->Shape.fits (.agg [.int .i64,.slice,.slice]) v=true:=λv _ _ ⟨t,e,_⟩=>by rw[e];rfl
theorem Zza(cb:Nat)(f:Pt->Pt->Bool)(L R:List Pt)(a b:Option Addr)(c d:Nat)(m:Mem)(h1:rowRd m a (L.map Pt.cs).flatten)(h2:rowRd m b (R.map Pt.cs).flatten)(hl:L.length<=few)(kU:∀x∈L,∀y∈R,∀m2,m.le m2->CX Tryz.prog cb #[.agg x.cs.toArray,.agg y.cs.toArray] m2 [] (Ret (.bool (f x y)))):
  CX Tryz.prog 113 #[.slice a L.length c,.slice b R.length d,.func (.func cb) #[] #[]] m [] (Ret (.bool (eqL f L R))):=by
 have hl:L.length<=100000:=hl
 apply ZdL (p2fi:=[]) (p2ca:=[])
 refine Zah (x:=eqL f L R) ?_ λm1 aB=>Zac aB rfl
 apply ZaG (p2fi:=[]) (p2ca:=[])
 refine Zaa (λdJ=>Zac (Mem.le_refl m) ?_) (λheq=>?_)
 ·have:¬L.length=R.length:=λe=>by simp[e]at dJ
  show Value.bool _=Value.bool _
  rw[Zsp this]
 have heq:L.length=R.length:=by
  have:(L.length:Int)=R.length:=by simpa using heq
  omega
 refine⟨λxs css tvs m' q=>∃k:Nat,k<=L.length/\xs=[.int .i64 k]/\q=L.length - k/\m.le m'/\eqL f (L.take k) (R.take k)=true,⟨_,0,by omega,rfl,rfl,Mem.le_refl m,by simp[eqL]⟩,?_⟩
 rintro z m1 q _ ⟨k,hk,dG,hq,aB,ht⟩
 obtain rfl:z=k:=by simpa using dG
 refine Zaa (λaP=>?_) (λbX=>?_)
 ·have aV:k < L.length:=by have:=of_decide_eq_true aP;omega
  obtain⟨x,hx⟩:=ZaF aV
  obtain⟨y,hy⟩:=ZaF (l:=R) (k:=k) (by omega)
  obtain⟨b1,o1,gT,eV⟩:=Zal Pt.len h1 hx (by omega)
  obtain⟨b2,o2,kJ,gK⟩:=Zal Pt.len h2 hy (by omega)
  have hw:IntKind.i64.wrap ((k:Int)+1)=((k+1:Nat):Int):=by rw[Zan (by omega) (by omega)];rfl
  refine⟨b1,o1,gT,⟨by omega,by omega⟩,_,_,_,_,_,_,_,_,eV.mono aB,λb3=>Zab rfl ⟨b2,o2,kJ,⟨by omega,by omega⟩,_,_,_,_,_,_,_,_,gK.mono aB,λb4=>Zab rfl (Zah (kU x (List.mem_of_getElem? hx) y (List.mem_of_getElem? hy) m1 aB) λm2 aN=>Zaa (λhf=>Zac (mLt aB aN) ?_) (λhf=>?_))⟩⟩
  ·have:f x y=false:=by simpa using hf
   show Value.bool _=Value.bool _
   rw[Zwg hx hy this]
  ·exact⟨L.length - (k+1),by omega,k+1,by omega,by rw[hw],rfl,mLt aB aN,Zn0 hx hy ht (by simpa using hf)⟩
 ·have dU:k=L.length:=by have:=of_decide_eq_false bX;omega
  refine Zac aB ?_
  rw[dU,List.take_length,heq,List.take_length]at ht
  show Value.bool _=Value.bool _
  rw[ht]
theorem Zzb(cb:Nat)(f:Ac->Ac->Bool)(L R:List Ac)(a b:Option Addr)(c d:Nat)(m:Mem)(h1:rowRd m a (L.map Ac.cs).flatten)(h2:rowRd m b (R.map Ac.cs).flatten)(hl:L.length<=few)(kU:∀x∈L,∀y∈R,∀m2,m.le m2->CX Tryz.prog cb #[.agg x.cs.toArray,.agg y.cs.toArray] m2 [] (Ret (.bool (f x y)))):
  CX Tryz.prog 81 #[.slice a L.length c,.slice b R.length d,.func (.func cb) #[] #[]] m [] (Ret (.bool (eqL f L R))):=by
 have hl:L.length<=100000:=hl
 apply Zdi (p2fi:=[]) (p2ca:=[])
 refine Zah (x:=eqL f L R) ?_ λm1 aB=>Zac aB rfl
 apply Zaw (p2fi:=[]) (p2ca:=[])
 refine Zaa (λdJ=>Zac (Mem.le_refl m) ?_) (λheq=>?_)
 ·have:¬L.length=R.length:=λe=>by simp[e]at dJ
  show Value.bool _=Value.bool _
  rw[Zsp this]
 have heq:L.length=R.length:=by
  have:(L.length:Int)=R.length:=by simpa using heq
  omega
 refine⟨λxs css tvs m' q=>∃k:Nat,k<=L.length/\xs=[.int .i64 k]/\q=L.length - k/\m.le m'/\eqL f (L.take k) (R.take k)=true,⟨_,0,by omega,rfl,rfl,Mem.le_refl m,by simp[eqL]⟩,?_⟩
 rintro z m1 q _ ⟨k,hk,dG,hq,aB,ht⟩
 obtain rfl:z=k:=by simpa using dG
 refine Zaa (λaP=>?_) (λbX=>?_)
 ·have aV:k < L.length:=by have:=of_decide_eq_true aP;omega
  obtain⟨x,hx⟩:=ZaF aV
  obtain⟨y,hy⟩:=ZaF (l:=R) (k:=k) (by omega)
  obtain⟨b1,o1,gT,eV⟩:=Zal Ac.len h1 hx (by omega)
  obtain⟨b2,o2,kJ,gK⟩:=Zal Ac.len h2 hy (by omega)
  have hw:IntKind.i64.wrap ((k:Int)+1)=((k+1:Nat):Int):=by rw[Zan (by omega) (by omega)];rfl
  refine⟨b1,o1,gT,⟨by omega,by omega⟩,_,_,_,_,_,_,_,_,eV.mono aB,λb3=>Zab rfl ⟨b2,o2,kJ,⟨by omega,by omega⟩,_,_,_,_,_,_,_,_,gK.mono aB,λb4=>Zab rfl (Zah (kU x (List.mem_of_getElem? hx) y (List.mem_of_getElem? hy) m1 aB) λm2 aN=>Zaa (λhf=>Zac (mLt aB aN) ?_) (λhf=>?_))⟩⟩
  ·have:f x y=false:=by simpa using hf
   show Value.bool _=Value.bool _
   rw[Zwg hx hy this]
  ·exact⟨L.length - (k+1),by omega,k+1,by omega,by rw[hw],rfl,mLt aB aN,Zn0 hx hy ht (by simpa using hf)⟩
 ·have dU:k=L.length:=by have:=of_decide_eq_false bX;omega
  refine Zac aB ?_
  rw[dU,List.take_length,heq,List.take_length]at ht
  show Value.bool _=Value.bool _
  rw[ht]
theorem Zxe(p q:Pt)(m:Mem)(hp:RepP m p)(hq:RepP m q):CX Tryz.prog 114 #[.agg p.cs.toArray,.agg q.cs.toArray] m [] (Ret (.bool (Zpm p q))):=by
 apply Zh4
 intro b m1 aB _ b1 m2 aN _
 have cD:=mLt aB aN
 refine⟨Zpm p q,Zaa (λh1=>Zaa (λh2=>Zaa (λh3=>?_) (λh3=>⟨rfl,?_⟩)) (λh2=>⟨rfl,?_⟩)) (λh1=>⟨rfl,?_⟩),Zac cD rfl⟩
 ·refine Zah (Zk9 p.e q.e m2 (hp.e.mono' cD) (hq.e.mono' cD)) λm3 aW=>⟨rfl,?_⟩
  simp only[Zpm,eqS,h1,h2,h3,Bool.true_and]
 ·simp only[Zpm,eqS,h1,h2,h3,Bool.true_and,Bool.false_and]
 ·simp only[Zpm,eqS,h1,h2,Bool.true_and,Bool.false_and]
 ·simp only[Zpm,eqS,h1,Bool.false_and]
theorem Zxf(p q:Ac)(m:Mem)(hp:RepA m p)(hq:RepA m q):CX Tryz.prog 82 #[.agg p.cs.toArray,.agg q.cs.toArray] m [] (Ret (.bool (Zpn p q))):=by
 apply ZfS
 intro b m1 aB _ b1 m2 aN _
 have cD:=mLt aB aN
 refine⟨Zpn p q,Zaa (λh1=>Zaa (λh2=>?_) (λh2=>⟨rfl,?_⟩)) (λh1=>⟨rfl,?_⟩),Zac cD rfl⟩
 ·refine Zah (Zza 114 Zpm p.parts q.parts p.pa q.pa p.pc q.pc m2 (hp.row.mono cD) (hq.row.mono cD) hp.n λx hx y hy m' hm'=>Zxe x y m' ((hp.all x hx).mono (mLt cD hm')) ((hq.all y hy).mono (mLt cD hm'))) λm3 aW=>Zaa (λh3=>?_) (λh3=>⟨rfl,?_⟩)
  ·refine Zah (Zk9 p.e q.e m3 (hp.e.mono' (mLt cD aW)) (hq.e.mono' (mLt cD aW))) λm4 bV=>⟨rfl,?_⟩
   simp only[Zpn,eqS,h1,h2,h3,Bool.true_and]
  ·simp only[Zpn,eqS,h1,h2,h3,Bool.true_and,Bool.false_and]
 ·simp only[Zpn,eqS,h1,h2,Bool.true_and,Bool.false_and]
 ·simp only[Zpn,eqS,h1,Bool.false_and]
theorem Zxg(p q:Ru)(m:Mem)(hp:RepR m p)(hq:RepR m q):CX Tryz.prog 47 #[.agg p.cs.toArray,.agg q.cs.toArray] m [] (Ret (.bool (Zhn p q))):=by
 apply Zh5
 intro b m1 aB _ b1 m2 aN _
 have cD:=mLt aB aN
 refine⟨Zhn p q,Zaa (λh1=>Zaa (λh2=>Zaa (λh3=>?_) (λh3=>⟨rfl,?_⟩)) (λh2=>⟨rfl,?_⟩)) (λh1=>⟨rfl,?_⟩),Zac cD rfl⟩
 ·refine Zah (Zvv p.t q.t m2 (hp.t.mono cD) (hq.t.mono cD)) λm3 aW=>Zaa (λh4=>Zaa (λh5=>Zaa (λh6=>?_) (λh6=>⟨rfl,?_⟩)) (λh5=>⟨rfl,?_⟩)) (λh4=>⟨rfl,?_⟩)
  ·have dN:=mLt cD aW
   refine Zah (Zzb 82 Zpn p.acts q.acts p.aa q.aa p.ac q.ac m3 (hp.row.mono dN) (hq.row.mono dN) hp.len λx hx y hy m' hm'=>Zxf x y m' ((hp.all x hx).mono (mLt dN hm')) ((hq.all y hy).mono (mLt dN hm'))) λm4 bV=>Zaa (λh7=>Zaa (λh8=>⟨rfl,?_⟩) (λh8=>⟨rfl,?_⟩)) (λh7=>⟨rfl,?_⟩)
   ·simp only[Zhn,eqS,h1,h2,h3,h4,h5,h6,h7,h8,Bool.true_and]
   ·simp only[Zhn,eqS,h1,h2,h3,h4,h5,h6,h7,h8,Bool.true_and,Bool.false_and]
   ·simp only[Zhn,eqS,h1,h2,h3,h4,h5,h6,h7,Bool.true_and,Bool.false_and]
  ·simp only[Zhn,eqS,h1,h2,h3,h4,h5,h6,Bool.true_and,Bool.false_and]
  ·simp only[Zhn,eqS,h1,h2,h3,h4,h5,Bool.true_and,Bool.false_and]
  ·simp only[Zhn,eqS,h1,h2,h3,h4,Bool.true_and,Bool.false_and]
 ·simp only[Zhn,eqS,h1,h2,h3,Bool.true_and,Bool.false_and]
 ·simp only[Zhn,eqS,h1,h2,Bool.true_and,Bool.false_and]
 ·simp only[Zhn,eqS,h1,Bool.false_and]
theorem Zql(p q:Ru)(m:Mem)(hp:RepR m p)(hq:RepR m q):CX Tryz.prog 17 #[.agg p.cs.toArray,.agg q.cs.toArray] m [] (Ret (.bool (Zho p&&(Zho q&&Zhn p q)))):=by
 apply Zh6
 intro b m1 aB _ b1 m2 aN _
 have cD:=mLt aB aN
 refine⟨Zho p&&(Zho q&&Zhn p q),Zai (Zy9 p m2 (hp.mono cD)) ZsO ?_,Zac cD rfl⟩
 rintro n a k c a1 k1 c1 m3 aW ⟨s,hv,hs,hl⟩
 obtain⟨rfl,rfl,rfl,rfl,rfl,rfl,rfl⟩:=by simpa[Sc.v,and_assoc]using hv
 have hL:=ZdJ s m3 hs
 rw[hl]at hL
 refine Zah hL λm4 bV=>Zaa (λh1=>?_) (λh1=>⟨rfl,by simp only[h1,Bool.false_and]⟩)
 have jm:=mLt cD (mLt aW bV)
 refine Zai (Zy9 q m4 (hq.mono jm)) ZsO ?_
 rintro n a k c a1 k1 c1 m5 dD ⟨s2,nf,j6,nI⟩
 obtain⟨rfl,rfl,rfl,rfl,rfl,rfl,rfl⟩:=by simpa[Sc.v,and_assoc]using nf
 have pu:=ZdJ s2 m5 j6
 rw[nI]at pu
 refine Zah pu λm6 gM=>Zaa (λh2=>?_) (λh2=>⟨rfl,by simp only[h1,h2,Bool.true_and,Bool.false_and]⟩)
 have jA:=mLt jm (mLt dD gM)
 exact Zah (Zxg p q m6 (hp.mono jA) (hq.mono jA)) λm7 jB=>⟨rfl,by simp only[h1,h2,Bool.true_and]⟩
end Go.Proofs.YtojlhhphofhaoaaGreatDoor
namespace Go.Proofs.YtojlhhphofhaoaaGreatDoor
open Go Go.Eng Go.Proofs Go.RowKit
open Go.Value (int slice agg bool string tuple func)
open Go.IntKind (u8 u64 i64)
set_option maxRecDepth 100000
noncomputable def Zqm:Env:={ EB with
 joins:=(λi=>bif Nat.beq i 1 then some [(6,.bool)]else none)
 frzNew:=[3] }
theorem ZnH(aA:Int)(aH:Option Addr)(aF aI:Nat)(aJ:Option Addr)(aG aK:Nat)(p1 p2:Int)(m:Mem)(R:RT)(h:
 lV [int i64 aA,slice aH aF aI,slice aJ aG aK] λxL=>fzM m xL λb m'=>∃(b_1:Bool),lV [bool b_1] λxL_1=>lE [some (Box.mk b xL 30 3 true true)] λxL_2=>(kB Tryz.prog 38 [agg
 (Array.mk xL)] m' λb m'=>br b (br (decide (p1 ≥ (0:Int))) (br (decide (p1 < (↑aG:Int))) (br (decide (p2 ≥ (0:Int))) (atA aJ λb o=>Zag p1 aG/\∃(v:Value),m' b (o+Int.toNat p1*2+1) =
 some v/\chk (Zbh v) (Zad xL_2/\[bool (decide (p2 < (↑(slN v):Int)))]=xL_1)) (Zad xL_2/\[bool false]=xL_1)) (Zad xL_2/\[bool false]=xL_1)) (Zad xL_2/\[bool false]=xL_1)) (Zad xL_2/\[bool
 false]=xL_1))/\rtM m m' R (bool b_1)):CX Tryz.prog 78 #[.agg #[.int .i64 aA,.slice aH aF aI,.slice aJ aG aK],.int .i64 p1,.int .i64 p2] m [] R:=
 Zao (E:=Zqm) Zak mix Tryz.func78 (by kernel_rfl) (Eq.mp (by kernel_rfl) h)
noncomputable def ZrF:Env:={ EB with
 dr:=(λi=>bif Nat.beq i 4 then[⟨0,[8],[],none,[],[]⟩,⟨1,[8],[],none,[0],[]⟩,⟨2,[],[],none,[],[]⟩,⟨3,[8],[],none,[],[]⟩,⟨4,[8],[],none,[3],[]⟩,⟨5,[],[],none,[],[]⟩,⟨6,[],[],none,[3,4,5],[]⟩,⟨7,[],[],none,[3,4,5,6],[]⟩,⟨8,[],[],none,[3,4,5,6,7],[]⟩,⟨9,[],[],none,[],[]⟩,⟨10,[],[],none,[],[]⟩,⟨11,[],[],none,[10],[]⟩,⟨12,[200],[200],none,[3,4,5,6,7,8,9,10,11],[]⟩]else[])
 borrow:=(λi=>bif Nat.beq i 29 then[200]else[])
 frzNew:=[3]
 acqB:=(λi=>bif Nat.beq i 4 then some 200 else none)
 thaw:=true
 stAt:=(λi=>bif Nat.beq i 31 then some 999 else none)
 last:=(λi=>bif Nat.beq i 4 then true else false)
 lastK:=(λi=>bif Nat.beq i 4 then 3 else 1)
 frz:=[200]
 kF:=true }
theorem Zqn(aA:Int)(aH:Option Addr)(aF aI:Nat)(aJ:Option Addr)(aG aK:Nat)(p1 p2:Int)(m:Mem)(R:RT)(h:
 lV [int i64 p2,int i64 (i64.wrap (p2+(1:Int)))] λxL=>lE (Int.toNat p1*2) λyL=>lV [int i64 aA,slice aH aF aI,slice aJ aG aK] λxL_1=>fzM m xL_1 λb m'=>m.free b
 -> (∀(b' o:Nat)(u:Value),m' b' o=some u->m b' o=some u\/b'=b)->Mem.k m b=none->∀(b_1:Nat),kB Tryz.prog 78 [agg (Array.mk xL_1),int i64 p1,int i64 p2] m' λb_2 m'=>br (!b_2) (rtM m m' R (tuple
 (Array.mk [agg (Array.mk [int i64 0,slice none 0 0,slice none 0 0]),int i64 250]))) (∃(R_1:RT),True/\CX Tryz.prog 13 (Array.mk [agg (Array.mk xL_1)]) m' [] R_1/\Za1 (Shape.agg [Shape.int i64,Shape.slice,
 Shape.slice]) R_1/\∀(n:Int)(a:Option Addr)(n_1 c:Nat)(a_1:Option Addr)(n_2 c_1:Nat)(m'_1:Mem),lX (agg (Array.mk [int i64 n,slice a n_1 c,slice a_1 n_2 c_1])) λyL_1=>m'.le m'_1->R_1 yL_1
 m'_1 []->∀(b_3:Nat),∃(b_4:Nat),∃(cs:List Value),lM (Mem.off m'_1 λk=>k=b_4) λmL=>cs≠[]/\m'_1.reads b_4 0 cs/\m.free b_4/\(b≠b_4/\True)/\∀(T:TypeId)(cap:Nat),∃(f:Fx),
 atA a_1 λb_5 o=>Zag p1 n_2/\∃(v:Value),mL b_5 (o+yL+1)=some v/\∃(R_2:RT),R_2=f 12 (v::xL) mL/\CX Tryz.prog 79 (Array.mk (v::xL)) mL [Box.mk b_4 cs T cap false false] R_2/\Za1
 Shape.slice R_2/\∀(a:Option Addr)(n c:Nat)(m':Mem),lX (slice a n c) λyL_2=>mL.le m'->∀(cs:List Value),R_2 yL_2 m' [cs]->∀(M:Mem),mL.le M->m'.le M->atA a_1 λb_6 o=>lM (Mem.upd
 M b_6 (o+yL+1) [yL_2]) λmL=>Zag p1 n_2/\(∃(vs:List Value),vs.length=1/\M.reads b_6 (o+yL+1) vs)/\m.free b_6/\true=true/\b≠b_6/\(mL.free b_4->Mem.k mL b_4=none->rtM m
 (mL.add b_4 cs) R (tuple (Array.mk [yL_1,int i64 0]))))):CX Tryz.prog 45 #[.agg #[.int .i64 aA,.slice aH aF aI,.slice aJ aG aK],.int .i64 p1,.int .i64 p2] m [] R:=
 Zao (E:=ZrF) Zak mix Tryz.func45 (by kernel_rfl) (Eq.mp (by kernel_rfl) h)
noncomputable def Zba:Env:={ EB with
 frzNew:=[1] }
theorem Za4(p0a:Option Addr)(p0n p0c:Nat)(m:Mem)(R:RT)(h:
 fzM m [slice p0a p0n p0c] λb m'=>rtM m m' R (func (Fn.func 77) (Array.mk []) (Array.mk [Value.pointer (some (Addr.mk b 0 none))]))):CX Tryz.prog 44 #[.slice p0a p0n p0c] m [] R:=
 Zao (E:=Zba) Zak mix Tryz.func44 (by kernel_rfl) (Eq.mp (by kernel_rfl) h)
noncomputable def Za0:Env:={ EB with
 loops:=(λi=>bif Nat.beq i 1 then⟨[(3,.int .i64)],[],[],true⟩ else⟨[],[],[],false⟩) }
theorem ZaX(p0g:Nat)(p0fi p0ca:List Value)(c0b c0o:Nat)(m:Mem)(xs:List (List Value))(h:
 ∀(l:Nat),∃(v:Value),m c0b c0o=some v/\chk (Zbh v) (∃(I:IT),inI I [int i64 0,int i64 (i64.wrap ((↑(slN v):Int) - (1:Int)))] [] [] m/\∀(y n:Int)(m':Mem)(n_1:Nat),m.le m'->I
 [int i64 y,int i64 n] [] [] m' n_1->br (decide (n ≥ (0:Int))) (∃(v:Value),m' c0b c0o=some v/\chk (Zbh v) (atA (slA v) λb o=>Zag n (slN v)/\∃v v_1:Value,m'.reads b (o +
 Int.toNat n*2) [v,v_1]/\(l=l/\(0:Int)<=y/\List.get?Internal xs (Int.toNat y)=some [int i64 n,agg (Array.mk [v,v_1])])/\nxI n_1 I [int i64 (y+(1:Int)),int i64 (i64.wrap (n - (1:Int)))] []
 [] m'/\((-1:Int)=(↑(xs.length):Int)\/(-1:Int)=(-1:Int)))) (y=(↑(xs.length):Int)\/y=(-1:Int)))):IX Tryz.prog 77 [] [.pointer (some ⟨c0b,c0o,none⟩)] m xs:=
 Zfu (E:=Za0) Zak mix Tryz.func77 _ _ _ (by kernel_rfl) (Eq.mp (by kernel_rfl) h)
end Go.Proofs.YtojlhhphofhaoaaGreatDoor
namespace Go.Proofs.YtojlhhphofhaoaaGreatDoor
open Go Go.Eng Go.Rx Go.Proofs Go.RowKit Go.Shelf
set_option maxRecDepth 100000
def zRu:Value:=.agg #[.int .u8 0,.bool false,.bool false,.int .u8 0,.int .u64 0,.int .u64 0,.int .u64 0,.int .u64 0,.int .i64 0,.int .i64 0,.slice none 0 0,.string .empty,.int .i64 0,.slice none 0 0,.string .empty,.int .i64 0]
def ZAw:Ren:=⟨fun|45=>79|n=>n,fun|0=>0|3=>3|4=>4|22=>40|23=>57|n=>n,λn=>n⟩
theorem Zzc:DelLay Tryz.prog ZAw 16 zRu:=
 {mixed:=mix,f45:=⟨Tryz.f79.name,by kernel_rfl,by kernel_rfl⟩
  t0:=by kernel_rfl,a0:=Tryz.isAgg0,z0:=Tryz.sizeOf0,v0:=Tryz.zeroValue0
  t3:=Tryz.underlying3,a3:=Tryz.isAgg3,z3:=Tryz.sizeOf3,v3:=Tryz.zeroValue3
  t4:=Tryz.underlying4,a4:=Tryz.isAgg4,z4:=Tryz.sizeOf4,v4:=Tryz.zeroValue4
  t22:=Tryz.underlying40,a22:=Tryz.isAgg40,z22:=Tryz.sizeOf40,v22:=Tryz.zeroValue40
  z23:=Tryz.sizeOf57,v23:=Tryz.zeroValue57 }
theorem Zzd(m:Nat):∀u∈(Builtin.zeroCells zRu.cells m).toList,u.oneCell'=true:=by
 have nS:∀i,i < 16->(zRu.cells[i]!).oneCell'=true:=by decide
 intro u hu
 simp only[Builtin.zeroCells,Array.toList_map,List.mem_map]at hu
 obtain⟨i,_,rfl⟩:=hu
 exact nS _ (Nat.mod_lt _ (by decide))
theorem Zze(l:List Ru)(b c i:Nat)(T:TypeId)(cap:Nat)(m:Mem)(hi:i < l.length)(hc:l.length<=c)(hm:l.length<=9223372036854775807):
  CX Tryz.prog 79 #[.slice (some ⟨b,0,none⟩) l.length c,.int .i64 i,.int .i64 (i+1:Nat)] m [⟨b,(l.map Ru.cs).flatten,T,cap,false,false⟩] (λv m' css=>v=.slice (some ⟨b,0,none⟩) (l.length - 1) c/\css=[((l.eraseIdx i).map Ru.cs).flatten++zRu.cells.toList]):=by
 obtain⟨i0,h1,h2⟩:∃i0,Tryz.prog.info? 57=some i0/\i0.size=16:=by
  obtain⟨x,h1,h2,_⟩:=(Zak 57 _ rfl).info
  exact⟨x,h1,h2⟩
 exact ZtZ Zzc i0 h1 h2 rfl (Go.Eng.ZgW Tryz.func79 (by kernel_rfl) (by kernel_rfl)) (by decide) (by kernel_rfl) Zzd Ru.len Ru.one l b c i T cap m hi hc hm
end Go.Proofs.YtojlhhphofhaoaaGreatDoor
namespace Go.Proofs.YtojlhhphofhaoaaGreatDoor
open Go Go.Eng Go.Rx Go.Proofs Go.RowKit
set_option maxRecDepth 100000
theorem Zxh(s:Sc)(i k:Int)(m:Mem)(hr:RepC m s):CX Tryz.prog 78 #[s.v,.int .i64 i,.int .i64 k] m [] (Ret (.bool (ZiI s i k))):=by
 apply ZnH
 intro b m1 aB _
 refine⟨ZiI s i k,Zah (ZdJ s m1 (hr.mono aB)) λm2 aN=>?_,Zac aB rfl⟩
 refine Zaa (λh1=>Zaa (λh2=>Zaa (λh3=>Zaa (λh4=>?_) (λh4=>⟨rfl,?_⟩)) (λh3=>⟨rfl,?_⟩)) (λh2=>⟨rfl,?_⟩)) (λh1=>⟨rfl,?_⟩)
 ·have h2':0<=i:=of_decide_eq_true h2
  have h3':i < s.states.length:=of_decide_eq_true h3
  obtain⟨x,hx⟩:=ZaF (l:=s.states) (k:=i.toNat) (by omega)
  obtain⟨bs,o,ha,cG⟩:=Zal Sta.len (hr.mono (mLt aB aN)).row hx (by omega)
  refine⟨bs,o,ha,⟨h2',h3'⟩,_,cG 1 _ rfl,Zab rfl ⟨rfl,?_⟩⟩
  simp only[ZiI,h1,h2,h3,h4,hx,Bool.true_and]
  rfl
 ·simp only[ZiI,h1,h2,h3,h4,Bool.true_and,Bool.false_and]
 ·simp only[ZiI,h1,h2,h3,Bool.true_and,Bool.false_and]
 ·simp only[ZiI,h1,h2,Bool.true_and,Bool.false_and]
 ·simp only[ZiI,h1,Bool.false_and]
def ZA2(s:Sc)(i k:Nat):Value->Mem->List (List Value)->Prop:=λv m' _=>∃s':Sc,v=.tuple #[s'.v,.int .i64 0]/\s'.er=(ZnO s i k).er/\RepC m' s'
theorem ZuL{s:Sc}{i k:Nat}:∀(v:Value)(m':Mem) (css:List (List Value)),ZA2 s i k v m' css->Shape.fits (.tup [.agg [.int .i64,.slice,.slice],.int .i64]) v=true:=λv _ _ ⟨t,e,_⟩=>by rw[e];rfl
theorem Zxi{s:Sc}{n:Int}{a a1:Option Addr}{p c p1 c1:Nat}(h:Value.agg #[.int .i64 n,.slice a p c,.slice a1 p1 c1]=s.v):n=s.n/\a=s.va/\p=s.vars.length/\c=s.vc/\a1=s.sa/\p1=s.states.length/\c1=s.sc:=by
 simpa[Sc.v,and_assoc]using h
theorem Zzf(s:Sc)(i k:Nat)(m:Mem)(hr:RepC m s)(hl:s.light=true){x:Sta}(hx:s.states[i]?=some x)(hk:k < x.rules.length):CX Tryz.prog 45 #[s.v,.int .i64 i,.int .i64 k] m [] (ZA2 s i k):=by
 have hi:=(List.getElem?_eq_some_iff.1 hx).1
 have gm:s.states.length<=100000:=hr.len
 have jH:x.rules.length<=100000:=(hr.all x (List.mem_of_getElem? hx)).len
 have io:ZiI s i k=true:=by
  simp only[ZiI,hl,Int.toNat_natCast,hx,Bool.true_and,Bool.and_eq_true,decide_eq_true_eq]
  omega
 apply Zqn
 intro b m1 aB sZ iA xy ic b1
 have hc:=Zxh s i k m1 (hr.mono aB)
 rw[io]at hc
 refine Zah hc λm2 aN=>ZcI rfl ?_
 have cD:=mLt aB aN
 refine Zai (ZvJ s m2 (hr.mono cD) hl) ZsN ?_
 rintro n a p c a1 p1 c1 m3 aW ⟨s',hv,lF,dO,fK⟩ b3
 obtain⟨rfl,rfl,rfl,rfl,rfl,rfl,rfl⟩:=Zxi hv
 obtain⟨x',hx',pD⟩:=Zyr lF hx
 obtain⟨dG,dM,sg⟩:=ZkB pD
 have hk':k < x'.rules.length:=by omega
 have hi':=(List.getElem?_eq_some_iff.1 hx').1
 rcases fK with h0|⟨bS,μ,fK⟩
 ·rw[h0]at hi';simp at hi'
 obtain⟨pf,⟨wI,nZ⟩,bM,qx⟩:=fK.all i x' hx'
 rcases nZ with h0|⟨bR,jV,s4,wJ,rY⟩
 ·rw[h0]at hk';simp at hk'
 have aM:(μ i).reads bR 0 (x'.rules.map Ru.cs).flatten:=by
  rcases pf.row with h|⟨b',o',ha,h⟩
  ·have:=congrArg List.length h
   rw[ZaT Ru.len]at this;simp at this;omega
  ·rw[jV]at ha;cases ha;exact h
 have mj:(x'.rules.map Ru.cs).flatten.length=x'.rules.length*16:=ZaT Ru.len _
 have jX:¬(μ i).free bR:=λhf=>by
  have:=aM 0 _ (List.getElem?_eq_getElem (by omega))
  rw[hf]at this;cases this
 have r4:bS≠bR:=λe=>jX (e ▸ qx)
 have eU:¬m2.free b:=λhf=>by
  have:=aN _ _ _ (sZ 0 _ rfl)
  rw[hf]at this;cases this
 have ia:=mLt bM (ZnN m2 m3)
 obtain⟨bs0,o0,nt,dI⟩:=Zal Sta.len dO.row hx' (by omega)
 rw[fK.sa]at nt
 simp only[Option.some.injEq,Addr.mk.injEq,and_true]at nt
 obtain⟨rfl,rfl⟩:=nt
 have cE:∀M:Mem,(m3.off λq=>q=bR).le M->M bS (0+i*2+1)=some (.slice x'.ra x'.rules.length x'.rc):=λM hM=>hM _ _ _ (by
  rw[Mem.off_at (Y:=λq=>q=bR) r4];exact(ZnN m2 m3) _ _ _ (dI 1 _ rfl))
 have qv:m.le (m3.off λq=>q=bR):=Zwc (mLt cD aW) λq e=>⟨e ▸ Zcx cD s4,e ▸ ZmR cD wJ⟩
 have hw:IntKind.i64.wrap ((k:Int)+1)=((k+1:Nat):Int):=by rw[Zan (by omega) (by omega)];rfl
 refine⟨bR,(x'.rules.map Ru.cs).flatten,λe=>?_,aM.mono ia,Zcx cD s4,⟨λe=>eU (e ▸ s4),trivial⟩,λT cap=>?_⟩
 ·rw[e]at mj;simp at mj;omega
 rw[hw]
 have hd:=Zze x'.rules bR x'.rc k T cap (m3.off λq=>q=bR) hk' wI (by omega)
 rw[<-jV]at hd
 refine⟨λ_ _ _=>_,bS,0,fK.sa,⟨by omega,by omega⟩,_,cE _ (Mem.le_refl _),_,rfl,hd,(λv _ _ h=>by rw[h.1];rfl),?_⟩
 rintro a4 n4 c4 m4 bV cs4 ⟨nW,sr⟩ M hM ja
 simp only[Value.slice.injEq]at nW
 obtain⟨rfl,rfl,rfl⟩:=nW
 simp only[List.cons.injEq,and_true]at sr
 subst sr
 refine⟨bS,0,fK.sa,⟨by omega,by omega⟩,⟨[.slice x'.ra x'.rules.length x'.rc],rfl,λj v hj=>?_⟩,Zcx cD fK.free.1,rfl,λe=>eU (e ▸ fK.free.1),λuy _=>⟨_,mLt (Mem.le_upd (mLt qv hM) (Zcx cD fK.free.1) _ _) (Mem.le_add uy _),Mem.le_refl _,⟨s'.n,s'.va,s'.vc,s'.vars,s'.sa,s'.sc,s'.states.set i (Zhl x' k)⟩,?_,?_,Zwf dO fK hx' jV hk' rY hM uy⟩⟩
 ·cases j with
  | zero=>simp at hj;subst hj;exact cE M hM
  | succ j=>simp at hj
 ·simp only[Sc.v,List.length_set]
 ·have h1:=Zvn lF
  have h2:ZnO s i k=⟨s.n,s.va,s.vc,s.vars,s.sa,s.sc,s.states.set i (Zhl x k)⟩:=by unfold ZnO;rw[hx]
  rw[h2]
  exact Zsm h1.1 h1.2 (by rw[List.map_set,List.map_set,Zhm lF,Zsn pD])
theorem Zxj(L:List Dd)(a:Option Addr)(c:Nat)(m:Mem):CX Tryz.prog 44 #[.slice a L.length c] m [] (λv m' _=>∃b,v=.func (.func 77) #[] #[.pointer (some ⟨b,0,none⟩)]/\m' b 0=some (.slice a L.length c)):=by
 apply Za4
 intro b m' hm hb
 exact⟨m',hm,Mem.le_refl _,b,rfl,hb 0 _ rfl⟩
def ZsP(L:List Dd):List (List Value):=(List.range L.length).map λj=>[.int .i64 ((L.length - 1 - j:Nat):Int),dV (L.getD (L.length - 1 - j) (0,0))]
theorem ZsQ{L:List Dd}{j:Nat}(h:j < L.length):∃d,L[L.length - 1 - j]?=some d/\L.reverse[j]?=some d/\(ZsP L)[j]?=some [.int .i64 ((L.length - 1 - j:Nat):Int),dV d]:=by
 have h1:L.length - 1 - j < L.length:=by omega
 refine⟨L[L.length - 1 - j],List.getElem?_eq_getElem h1,?_,?_⟩
 ·rw[List.getElem?_reverse h];exact List.getElem?_eq_getElem h1
 ·unfold ZsP
  rw[List.getElem?_map,List.getElem?_range h]
  simp only[Option.map_some,List.getD_eq_getElem?_getD,List.getElem?_eq_getElem h1,Option.getD_some]
theorem Zlz(L:List Dd):(ZsP L).length=L.length:=by simp[ZsP]
theorem Zxk(L:List Dd)(a:Option Addr)(c:Nat)(m:Mem)(cb:Nat)(hl:L.length<=1000000000000)(aM:rowRd m a (L.map dC).flatten)(hc:m cb 0=some (.slice a L.length c)):IX Tryz.prog 77 [] [.pointer (some ⟨cb,0,none⟩)] m (ZsP L):=by
 apply ZaX 0 [] [] cb 0
 intro l
 have wK:IntKind.i64.wrap ((L.length:Int) - 1)=(L.length:Int) - 1:=Zan (by omega) (by omega)
 refine⟨_,hc,Zab rfl ⟨λxs _ _ m' q=>∃j:Nat,j<=L.length/\xs=[.int .i64 j,.int .i64 ((L.length:Int) - 1 - j)]/\q=L.length - j,⟨L.length,0,by omega,?_,rfl⟩,?_⟩⟩
 ·show[_,Value.int .i64 (IntKind.i64.wrap ((L.length:Int) - 1))]=_
  rw[wK];simp
 rintro y n m1 q aB ⟨j,hj,hx,rfl⟩
 simp only[List.cons.injEq,Value.int.injEq,true_and,and_true]at hx
 obtain⟨rfl,rfl⟩:=hx
 refine Zaa (λh=>?_) (λh=>.inl ?_)
 ·have h:(L.length:Int) - 1 - j ≥ 0:=of_decide_eq_true h
  have aP:j < L.length:=by omega
  obtain⟨d,hd,_,hb⟩:=ZsQ aP
  have hn:(L.length:Int) - 1 - j=((L.length - 1 - j:Nat):Int):=by omega
  obtain⟨b1,o1,gT,cG⟩:=Zal ZnA (aM.mono aB) hd (by omega)
  have hw:IntKind.i64.wrap ((L.length:Int) - 1 - j - 1)=(L.length:Int) - 1 - ((j+1:Nat):Int):=by rw[Zan (by omega) (by omega)];omega
  rw[hw]
  refine⟨_,aB _ _ _ hc,Zab rfl ⟨b1,o1,gT,⟨by omega,by show(L.length:Int) - 1 - j < (L.length:Nat);omega⟩,.int .i64 d.1,.int .i64 d.2,?_,⟨rfl,by omega,?_⟩,⟨L.length - (j+1),by omega,j+1,by omega,rfl,rfl⟩,.inr rfl⟩⟩
  ·rw[hn];exact cG
  ·rw[hn];exact hb
 ·have h:¬(L.length:Int) - 1 - j ≥ 0:=of_decide_eq_false h
  rw[Zlz];omega
def ZA3(s:Sc):Value->Mem->List (List Value)->Prop:=λv m' _=>∃(s':Sc)(a:Option Addr)(c:Nat),v=.tuple #[s'.v,.slice a (ZbH s).length c,.int .i64 0]/\s'.er=(ZzQ s).er/\RepC m' s'/\rowRd m' a ((ZbH s).map dC).flatten
theorem ZrG{s:Sc}:∀(v:Value)(m':Mem) (css:List (List Value)),ZA3 s v m' css->Shape.fits (.tup [.agg [.int .i64,.slice,.slice],.slice,.int .i64]) v=true:=λv _ _ ⟨_,_,_,e,_⟩=>by rw[e];rfl
theorem Zzg(s:Sc)(m:Mem)(hr:RepC m s)(cC:okS s=true)(hl:s.light=true):CX Tryz.prog 15 #[s.v] m [] (ZA3 s):=by
 apply ZkM
 intro b m1 aB _ b1
 refine Zai (Zn6 s m1 (hr.mono aB)) Ziy λa n c e m2 aN hv=>?_
 have hv:=Zlt hv
 rw[if_pos cC]at hv
 obtain⟨rfl,rfl,dB,aM⟩:=hv
 have aX:=Zls hr
 have cD:=mLt aB aN
 refine ZcI rfl (Zai (ZvJ s m2 (hr.mono cD) hl) ZsN ?_)
 rintro n1 a1 p1 c1 a2 p2 c2 m3 aW ⟨s',hv,lF,dO,_⟩ b2
 obtain⟨rfl,rfl,rfl,rfl,rfl,rfl,rfl⟩:=Zxi hv
 refine⟨_,trivial,Zxj (ZbH s) a c m3,(λv _ _ ⟨_,h,_⟩=>by rw[h];rfl),?_⟩
 rintro g fi ca m4 bV ⟨bb,nW,cE⟩
 obtain⟨rfl,rfl,rfl⟩:=Zcj nW
 have nM:=mLt aW bV
 obtain⟨wL,_⟩:=Zvo s
 refine⟨ZsP (ZbH s),Zxk (ZbH s) a c m4 bb (by omega) (aM.mono nM) cE,λy hy=>?_,λ_ css _ m' q=>∃cur:Sc,css=[cur.cs]/\cur.er=(ZjQ s ((ZbH s).reverse.take q)).er/\RepC m' cur/\m4.le m',⟨s',rfl,lF,(dO.mono (ZnN _ _)).mono bV,Mem.le_refl _⟩,?_,?_⟩
 ·obtain⟨j,_,rfl⟩:=List.mem_map.1 hy;rfl
 ·rintro n d1 d2 cs m5 j dD hj ⟨cur,cN,mW,s6,qM⟩ b3
  obtain rfl:cs=cur.cs:=by simpa using cN
  have nQ:j < (ZbH s).length:=by
   have:=(List.getElem?_eq_some_iff.1 (show(ZsP (ZbH s))[j]?=some _ from hj)).1
   rwa [Zlz]at this
  obtain⟨d,_,nL,hb⟩:=ZsQ nQ
  have hj:(ZsP (ZbH s))[j]?=some [.int .i64 n,.agg #[.int .i64 d1,.int .i64 d2]]:=hj
  rw[hb]at hj
  obtain⟨rfl,rfl⟩:d.1=d1/\d.2=d2:=by
   have:dV d=.agg #[.int .i64 d1,.int .i64 d2]:=by simpa using And.right (by simpa using(Option.some.inj hj))
   unfold dV at this;simpa using this
  obtain⟨i,k,x,rfl,hx,hk⟩:=Zpj wL nL
  obtain⟨x',hx',pD⟩:=Zyr mW hx
  obtain⟨_,_,jH⟩:=ZkB pD
  have wM:cur.light=true:=(ZtT mW).trans (Zre hl _)
  refine Zai (Zzf cur i k m5 s6 wM hx' (by omega)) ZuL ?_
  rintro n5 a5 p5 c5 a6 p6 c6 e6 m6 gM ⟨s2,pP,wN,wO⟩
  obtain⟨pR,rfl⟩:Value.agg #[.int .i64 n5,.slice a5 p5 c5,.slice a6 p6 c6]=s2.v/\e6=0:=by simpa using pP
  obtain⟨rfl,rfl,rfl,rfl,rfl,rfl,rfl⟩:=Zxi pR
  refine⟨rfl,s2,rfl,?_,wO,mLt qM gM⟩
  rw[ZtW nL,wN]
  exact Zyu mW i k
 ·rintro cs m5 dD ⟨cur,cN,mW,s6,qM⟩
  obtain rfl:cs=cur.cs:=by simpa using cN
  rw[Zlz,List.take_of_length_le (by rw[List.length_reverse];exact Nat.le_refl _)]at mW
  exact Zab rfl ⟨m5,mLt cD (mLt nM qM),Mem.le_refl _,cur,a,c,rfl,mW,s6,aM.mono (mLt nM qM)⟩
end Go.Proofs.YtojlhhphofhaoaaGreatDoor
namespace Go.Proofs.YtojlhhphofhaoaaGreatDoor
open Go Go.Eng Go.Proofs Go.RowKit
open Go.Value (int slice agg bool string tuple func)
open Go.IntKind (u8 u64 i64)
set_option maxRecDepth 100000
noncomputable def ZlA:Env:={ EB with
 loops:=(λi=>bif Nat.beq i 2 then⟨[(5,.int .i64)],[],[],false⟩ else bif Nat.beq i 5 then⟨[(18,.int .i64)],[],[],false⟩ else bif Nat.beq i 11 then⟨[(37,.int .i64)],[],[],false⟩ else⟨[],[],[],false⟩)
 joins:=(λi=>bif Nat.beq i 7 then some [(31,.bool)]else none)
 frzNew:=[2] }
theorem Zju(aA:ByteArray)(aH:Option Addr)(aF aI:Nat)(p1:Int)(m:Mem)(R:RT)(h:
 lV [string aA,slice aH aF aI] λxL=>fzM m xL λb m'=>∃(I:IT),lE [some (Box.mk b xL 42 2 true true)] λxL=>inI I [int i64 1] [] [] m'/\∀(n:Int)(m'_1:Mem)(n_1:Nat),m'.le m'_1->I
 [int i64 n] [] [] m'_1 n_1->br (decide (n<=p1)) (∃(I_1:IT),inI I_1 [int i64 0] [] [] m'_1/\∀(n_2:Int)(m':Mem)(n_3:Nat),m'_1.le m'->I_1 [int i64 n_2] [] [] m' n_3->br (decide (n_2 < (↑aF:
 Int))) (atA aH λb o=>Zag n_2 aF/\∃v v_1 v_2 v_3 v_4 v_5 v_6 v_7 v_8 v_9 v_10 v_11 v_12 v_13 v_14 v_15:Value,lV [v,v_1,v_2,v_3,v_4,v_5,v_6,v_7,v_8,v_9,v_10,v_11,v_12,v_13,v_14,v_15] λxL_1=>m'.reads  b (o+Int.toNat n_2*16) xL_1/\∀(b:Nat),lE (some (Box.mk b xL_1 57 16 false true)::xL) λxL_2=>chk (v.oneCell'&&(v_1.oneCell'&&(v_2.oneCell'&&(v_3.oneCell'&&(v_4.oneCell'&&(v_5.oneCell'&&(v_6.oneCell'&&(v_7.oneCell'&&(v_8.oneCell'&&(v_9.oneCell'&&(v_10.oneCell'&&(v_11.oneCell'&&(v_12.oneCell'&&(v_13.oneCell' &&
 (v_14.oneCell'&&(v_15.oneCell'&&true)))))))))))))))) (∃(b:Bool),chk (ZaO u8 v&&decide (u8=u8)) (br (intOf v == (4:Int)) (chk (ZaO i64 v_12&&decide (i64=i64)) (Zad xL_2/\[bool
 (intOf v_12 == n)]=[bool b])) (Zad xL_2/\[bool false]=[bool b]))/\br b (rtM m m' R (int i64 n_2)) (Zad xL/\nxI n_3 I_1 [int i64 (i64.wrap (n_2+(1:Int)))] [] [] m'))) (Zad xL/\nxI n_1
 I [int i64 (i64.wrap (n+(1:Int)))] [] [] m')) (∃(I:IT),inI I [int i64 0] [] [] m'_1/\∀(n:Int)(m':Mem)(n_2:Nat),m'_1.le m'->I [int i64 n] [] [] m' n_2->br (decide (n < (↑aF:Int)))
 (atA aH λb o=>Zag n aF/\∃v v_1 v_2 v_3 v_4 v_5 v_6 v_7 v_8 v_9 v_10 v_11 v_12 v_13 v_14 v_15:Value,m'.reads b (o+Int.toNat n*16) [v,v_1,v_2,v_3,v_4,v_5,v_6,v_7,v_8,v_9,v_10,v_11,v_12,v_13,v_14,
 v_15]/\∀(b:Nat),chk (v.oneCell'&&(v_1.oneCell'&&(v_2.oneCell'&&(v_3.oneCell'&&(v_4.oneCell'&&(v_5.oneCell'&&(v_6.oneCell'&&(v_7.oneCell' &&
 (v_8.oneCell'&&(v_9.oneCell'&&(v_10.oneCell'&&(v_11.oneCell'&&(v_12.oneCell'&&(v_13.oneCell'&&(v_14.oneCell'&&(v_15.oneCell'&&true)))))))))))))))) (chk
 (ZaO u8 v&&decide (u8=u8)) (br (intOf v == (3:Int)) (rtM m m' R (int i64 n)) (Zad xL/\nxI n_2 I [int i64 (i64.wrap (n+(1:Int)))] [] [] m')))) (rtM m m' R (int i64 (-1:Int))))):CX Tryz.prog 16 #[.agg #[.string aA,.slice aH aF aI],.int .i64 p1] m [] R:=
 Zao (E:=ZlA) Zak mix Tryz.func16 (by kernel_rfl) (Eq.mp (by kernel_rfl) h)
noncomputable def Ze1:Env:={ EB with
 loops:=(λi=>bif Nat.beq i 9 then⟨[(48,.int .i64)],[],[],false⟩ else⟨[],[],[],false⟩)
 joins:=(λi=>bif Nat.beq i 5 then some [(41,.bool)]else bif Nat.beq i 16 then some [(128,.bool)]else bif Nat.beq i 18 then some [(20,.bool)]else bif Nat.beq i 19 then some [(169,.bool)]else none)
 dr:=(λi=>bif Nat.beq i 11 then[⟨0,[11],[],none,[],[]⟩,⟨1,[],[],none,[],[]⟩,⟨2,[],[],none,[0,1],[]⟩,⟨3,[6],[],none,[],[]⟩,⟨4,[6],[],none,[3],[]⟩,⟨5,[],[],none,[],[]⟩,⟨6,[],[],none,[3,4,5],[]⟩,⟨7,[],[],none,[3,4,5,6],[]⟩,⟨8,[],[],none,[],[]⟩,⟨9,[],[],none,[0,1,2,3,4,5,6,7,8],[2]⟩,⟨10,[],[],none,[0,1,2,3,4,5,6,7,8,9],[]⟩,⟨11,[],[],none,[0,1,2,3,4,5,6,7,8,9,10],[]⟩]else bif Nat.beq i 12 then[⟨0,[],[],none,[],[]⟩,⟨1,[],[],none,[0],[]⟩,⟨2,[],[],none,[],[]⟩,⟨3,[],[],none,[2],[]⟩,⟨4,[],[],none,[0,1,2,3],[]⟩,⟨5,[],[],none,[0,1,2,3,4],[]⟩,⟨6,[],[],none,[0,1,2,3,4,5],[]⟩,⟨7,[],[],none,[0,1,2,3,4,5,6],[]⟩,⟨8,[],[],none,[0,1,2,3,4,5,6,7],[]⟩,⟨9,[11],[],none,[0,1,2,3,4,5,6,7,8],[]⟩,⟨10,[11],[],none,[0,1,2,3,4,5,6,7,8,9],[]⟩,⟨11,[],[],none,[0,1,2,3,4,5,6,7,8],[]⟩,⟨12,[],[],none,rg 0 12,[]⟩,⟨13,[],[],none,rg 0 13,[]⟩,⟨14,[6],[],none,[0,1,2,3,4,5,6,7,8],[]⟩,⟨15,[6],[],none,[0,1,2,3,4,5,6,7,8,14],[]⟩,⟨16,[],[],none,[0,1,2,3,4,5,6,7,8],[]⟩,⟨17,[],[],none,rg 0 9++[14,15,16],[]⟩,⟨18,[],[],none,rg 0 9++rg 14 4,[]⟩,⟨19,[],[],none,rg 0 9++rg 14 5,[]⟩,⟨20,[],[],none,[0,1,2,3,4,5,6,7,8],[]⟩,⟨21,[],[],none,rg 0 9++rg 14 7,[]⟩,⟨22,[],[],none,rg 0 9++rg 14 8,[]⟩,⟨23,[],[],none,rg 0 23,[]⟩,⟨24,[],[],none,rg 0 24,[]⟩,⟨25,[],[],none,rg 0 25,[]⟩,⟨26,[],[],none,rg 0 26,[]⟩,⟨27,[],[],none,rg 0 26,[]⟩,⟨28,[],[],none,rg 0 26,[]⟩,⟨29,[],[],none,rg 0 26++[27,28],[]⟩,⟨30,[],[],none,rg 0 30,[23]⟩,⟨31,[],[],none,rg 0 31,[]⟩,⟨32,[],[],none,rg 0 32,[]⟩,⟨33,[],[],none,rg 0 33,[]⟩]else[])
 frzNew:=[2]
 gb:=true
 cuts:=λi=>bif Nat.beq i 14 then some ⟨[],[],[],false⟩ else none }
theorem ZeH(aA:Int)(aH:Option Addr)(aF aI:Nat)(aJ:Option Addr)(aG aK:Nat)(p1:Int)(m:Mem)(R:RT)(h:
 lE (i64.wrap (Int.tmod p1 (13:Int))) λyL=>lV [int i64 yL] λxL=>lV [int u8 aA,slice aH aF aI,slice aJ aG aK] λaw=>fzM m aw λb m'=>lE [some (Box.mk b aw 25 3 true true)]
 λbe=>kB Tryz.prog 8 [] m' λb m'=>br (!b) (rtM m m' R (bool false)) (∃(R_1:RT),True/\CX Tryz.prog 9 (Array.mk [agg (Array.mk aw)]) m' [] R_1/\Za1 (Shape.agg [Shape.int i64,Shape.slice,Shape.slice]) R_1
 /\ ∀(n:Int)(a:Option Addr)(bf c:Nat)(a3:Option Addr)(ak bg:Nat)(al:Mem),lV [int i64 n,slice a bf c,slice a3 ak bg] λa4=>lX (agg (Array.mk a4)) λam=>m'.le al->R_1 am al []->∀(b:
 Nat),∃(R_2:RT),lE (some (Box.mk b a4 30 3 false true)::be) λbh=>True/\CX Tryz.prog 15 (Array.mk [am]) al [] R_2/\Za1 (Shape.tup [Shape.agg [Shape.int i64,Shape.slice,Shape.slice],Shape.slice,Shape.int
 i64]) R_2/\∀(n:Int)(a:Option Addr)(bi c:Nat)(ax:Option Addr)(an bj:Nat)(bk:Option Addr)(bl bm:Nat)(a5:Int)(m':Mem),lX (slice bk bl bm) λa6=>lV [int i64 n,slice a bi c,slice ax an bj]
 λa7=>al.le m'->R_2 (tuple (Array.mk [agg (Array.mk a7),a6,int i64 a5])) m' []->∀(b:Nat),∃(ay:Bool),lE (some (Box.mk b a7 30 3 false true)::bh) λao=>br (!a5 == (0:Int)) (Zad ao/\[bool
 true]=[bool ay]) (Zad ao/\[bool !(↑an:Int) == (↑ak:Int)]=[bool ay])/\br ay (rtM m m' R (bool false)) ((13:Int)≠(0:Int)/\∃(I:IT),inI I [int i64 0] [] [] m'/\∀(n:Int)(ae:Mem)(a8:Nat),lE
 (Int.toNat n*2) λaz=>lX (int i64 n) λap=>m'.le ae->I [ap] [] [] ae a8->br (decide (n < (↑ak:Int))) (atA a3 λb o=>Zag n ak/\∃v ac:Value,lV [v,ac] λaq=>ae.reads b
 (o+az) aq/\∀(b:Nat),lE (some (Box.mk b aq 42 2 false true)::ao) λaa=>chk (v.oneCell'&&(ac.oneCell'&&true)) (∃(f:Fx),∃(R_3:RT),R_3=f 2 (agg (Array.mk aq)::xL) ae/\CX Tryz.prog
 16 (Array.mk (agg (Array.mk aq)::xL)) ae [] R_3/\Za1 (Shape.int i64) R_3/\∀(ad:Int)(m':Mem),lV [a6,agg (Array.mk [ap,int i64 ad])] λa9=>lV [bool !ad == (-1:Int)] λah=>ae.le m'->R_3 (int
 i64 ad) m' []->atA ax λb o=>Zag n an/\∃v a0:Value,ae.reads b (o+az) [v,a0]/\∃(R_4:RT),R_4=f 9 (agg (Array.mk [v,a0])::xL) m'/\CX Tryz.prog 16 (Array.mk (agg (Array.mk [v,
 a0])::xL)) m' [] R_4/\Za1 (Shape.int i64) R_4/\∀(ar:Int)(a1:Mem),m'.le a1->R_4 (int i64 ar) a1 []->∀(M:Mem),ae.le M->m'.le M->a1.le M->∃(J:JT),(∃(f:Fx),br (!decide (ad < (0:
 Int)) == decide (ar < (0:Int))) (∀(ab:Mem),M.le ab->M.le ab->M.le ab->rtM m ab R (bool false)) (br (decide (ad ≥ (0:Int))) (chk (Zbh ac) (atA (slA ac) λb o=>Zag ad (slN ac)/\∃v bn bo bp bq bs bt bu bv bw bx bz ca cb cc cd:Value,lV [v,bn,bo,bp,bq,bs,bt,bu,bv,bw,bx,bz,ca,cb,cc,cd] λxL=>M.reads b (o+Int.toNat ad*16) xL/\atA ax λb o=>Zag n an/\∃(v:Value),M b (o+az+1) =
 some v/\chk (Zbh v) (atA (slA v) λb o=>Zag ar (slN v)/\∃v ce cf cg ch ci cj ck cl cm cn co cp cq cr cs:Value,lV [v,ce,cf,cg,ch,ci,cj,ck,cl,cm,cn,co,cp,cq,cr,cs] λba=>lV [agg (Array.mk xL),agg (Array.mk
 ba)] λxL=>M.reads b (o+Int.toNat ar*16) ba/\∃(R_5:RT),R_5=f 23 xL M/\CX Tryz.prog 17 (Array.mk xL) M [] R_5/\Za1 Shape.bool R_5/\∀(b:Bool)(m':Mem),M.le m'->R_5 (bool b) m' []->br
 (!b) (∀(ab:Mem),M.le ab->m'.le ab->m'.le ab->rtM m ab R (bool false)) (∃(R_6:RT),R_6=f 30 a9 m'/\CX Tryz.prog 12 (Array.mk a9) m' [] R_6/\Za1 Shape.bool R_6/\∀(b:Bool)(af:Mem),m'.le af->R_6 (bool b) af []->∀(ab:Mem),M.le ab->m'.le ab->af.le ab->br b (rtM m ab R (bool false)) (Zad aa/\J [] [] [] ab))))) (∀(ab:Mem),M.le ab->M.le ab->M.le ab->Zad aa/\
 J [] [] [] ab)))/\∀(m':Mem),M.le m'->J [] [] [] m'->∃(R_5:RT),True/\CX Tryz.prog 18 (Array.mk [am,ap]) m' [] R_5/\Za1 (Shape.tup [Shape.int i64,Shape.bool,Shape.int i64]) R_5/\∀(ai:Int) (b:
 Bool) (bb:Int) (af:Mem),m'.le af->R_5 (tuple (Array.mk [int i64 ai,bool b,int i64 bb])) af []->∃(R_6:RT),True/\CX Tryz.prog 19 (Array.mk [am,ap]) af [] R_6/\Za1 (Shape.tup [Shape.int i64,
 Shape.bool,Shape.int i64]) R_6/\∀(a2:Int)(au:Bool)(bc:Int)(m':Mem),lE (!au) λaj=>af.le m'->R_6 (tuple (Array.mk [int i64 a2,bool au,int i64 bc])) m' []->∃(bd:Bool),lV [bool bd] λxL=>
 br (!i64.wrap (bb+bc) == (0:Int)) (Zad aa/\[bool true]=xL) (br b (br (decide (ai < (0:Int))) (Zad aa/\[bool true]=xL) (chk (Zbh ac) (Zad aa/\[bool (decide (ai ≥ (↑(slN ac):Int)))] =
 xL))) (Zad aa/\[bool false]=xL))/\br bd (rtM m m' R (bool false)) (∃(av:Bool),lE (!av) λag=>br b (chk (Zbh ac) (atA (slA ac) λb o=>Zag ai (slN ac)/\∃(v:Value),m' b (o+Int.toNat ai*16 +
 12)=some v/\chk (ZaO i64 v&&decide (i64=i64)) (Zad aa/\[bool (decide (intOf v<=yL))]=[bool av]))) (Zad aa/\[bool false]=[bool av])/\∃(b:Bool),lV [bool b] λxL=>br av (br (!ad == ai)
 (Zad aa/\[bool true]=xL) (br ag (br au (br (!ad == a2) (Zad aa/\[bool true]=xL) (br ag (br aj (Zad aa/\ah=xL) (Zad aa/\[bool false]=xL)) (Zad aa/\[bool false]=xL))) (br ag (br aj (Zad aa
 /\ ah=xL) (Zad aa/\[bool false]=xL)) (Zad aa/\[bool false]=xL))) (br ag (br aj (Zad aa/\ah=xL) (Zad aa/\[bool false]=xL)) (Zad aa/\[bool false]=xL)))) (br ag (br au (br (!ad == a2) (Zad
 aa/\[bool true]=xL) (br ag (br aj (Zad aa/\ah=xL) (Zad aa/\[bool false]=xL)) (Zad aa/\[bool false]=xL))) (br ag (br aj (Zad aa/\ah=xL) (Zad aa/\[bool false]=xL)) (Zad aa/\[bool
 false]=xL))) (br ag (br aj (Zad aa/\ah=xL) (Zad aa/\[bool false]=xL)) (Zad aa/\[bool false]=xL)))/\br b (rtM m m' R (bool false)) (Zad ao/\nxI a8 I [int i64 (i64.wrap (n+(1:Int)))]
 [] [] m')))) (rtM m ae R (bool true))))):CX Tryz.prog 5 #[.agg #[.int .u8 aA,.slice aH aF aI,.slice aJ aG aK],.int .u8 p1] m [] R:=
 Zao (E:=Ze1) Zak mix Tryz.func5 (by kernel_rfl) (Eq.mp (by kernel_rfl) h)
end Go.Proofs.YtojlhhphofhaoaaGreatDoor
namespace Go.Proofs.YtojlhhphofhaoaaGreatDoor
open Go Go.Eng Go.Rx Go.Proofs Go.RowKit
set_option maxRecDepth 100000
theorem ZsR(x:Sta)(t:Nat)(m:Mem)(hr:RepS m x)(ht:t<=1000):CX Tryz.prog 16 #[.agg x.cs.toArray,.int .i64 t] m [] (Ret (.int .i64 (ZeI x.rules t))):=by
 have aX:x.rules.length<=100000:=hr.len
 apply Zju
 intro b m1 aB _
 refine⟨λxs _ _ m' q=>∃j:Nat,j<=t/\xs=[.int .i64 ((j+1:Nat):Int)]/\q=t - j/\m1.le m'/\Zdk x.rules j=none,⟨_,0,by omega,rfl,rfl,Mem.le_refl _,rfl⟩,?_⟩
 rintro n m2 q aN ⟨j,hj,dG,hq,nN,hu⟩
 obtain rfl:n=((j+1:Nat):Int):=by simpa using dG
 have cD:=mLt aB aN
 refine Zaa (λbM=>?_) (λwP=>?_)
 ·have bM:((j+1:Nat):Int)<=t:=of_decide_eq_true bM
  refine⟨λxs _ _ m' q=>∃k:Nat,k<=x.rules.length/\xs=[.int .i64 k]/\q=x.rules.length - k/\∀(i:Nat)(y:Ru),i < k->x.rules[i]?=some y->ZdG (j+1) y=false,⟨_,0,by omega,rfl,rfl,λi y hi=>by omega⟩,?_⟩
  rintro z m3 q3 aW ⟨k,hk,dG,ow,eX⟩
  obtain rfl:z=k:=by simpa using dG
  refine Zaa (λaP=>?_) (λbX=>⟨rfl,t - (j+1),by omega,j+1,by omega,?_,rfl,mLt nN aW,?_⟩)
  ·have aV:k < x.rules.length:=by have:=of_decide_eq_true aP;omega
   obtain⟨r,hx⟩:=ZaF aV
   obtain⟨b1,o1,gT,cG⟩:=Zal Ru.len (hr.mono (mLt cD aW)).row hx (by omega)
   have hw:IntKind.i64.wrap ((k:Int)+1)=((k+1:Nat):Int):=by rw[Zan (by omega) (by omega)];rfl
   refine⟨b1,o1,gT,⟨by omega,by omega⟩,_,_,_,_,_,_,_,_,_,_,_,_,_,_,_,_,cG,λb2=>Zab rfl ⟨ZdG (j+1) r,Zab rfl (Zaa (λh4=>Zab rfl ⟨rfl,?_⟩) (λh4=>⟨rfl,?_⟩)),Zaa (λhb=>?_) (λhb=>⟨rfl,x.rules.length - (k+1),by omega,k+1,by omega,by rw[hw],rfl,λi y hi hy=>?_⟩)⟩⟩
   ·have h4:(r.k == (4:Int))=true:=h4
    show[Value.bool (r.n == _)]=[Value.bool (ZdG (j+1) r)]
    unfold ZdG;rw[h4,Bool.true_and]
   ·have h4:(r.k == (4:Int))=false:=h4
    show[Value.bool false]=[Value.bool (ZdG (j+1) r)]
    unfold ZdG;rw[h4,Bool.false_and]
   ·refine Zac (mLt cD aW) ?_
    have h5:Zdk x.rules (j+1)=some k:=by
     simp only[Zdk,hu];exact ZkE hx hb eX
    show Value.int .i64 _=Value.int .i64 _
    unfold ZeI Zd2
    rw[Zwl h5 (by omega)]
   ·by_cases jK:i=k
    ·subst jK;rw[hx]at hy;cases hy;exact hb
    ·exact eX i y (by omega) hy
  ·show[Value.int .i64 (IntKind.i64.wrap (((j+1:Nat):Int)+1))]=_
   rw[Zan (by omega) (by omega)];rfl
  ·have dU:k=x.rules.length:=by have:=of_decide_eq_false bX;omega
   simp only[Zdk,hu]
   exact ZfC λi y hy=>eX i y (by have:=(List.getElem?_eq_some_iff.1 hy).1;omega) hy
 ·have wQ:j=t:=by have:=of_decide_eq_false wP;omega
  subst wQ
  refine⟨λxs _ _ m' q=>∃k:Nat,k<=x.rules.length/\xs=[.int .i64 k]/\q=x.rules.length - k/\∀(i:Nat)(y:Ru),i < k->x.rules[i]?=some y->ZxD y=false,⟨_,0,by omega,rfl,rfl,λi y hi=>by omega⟩,?_⟩
  rintro z m3 q3 aW ⟨k,hk,dG,ow,eX⟩
  obtain rfl:z=k:=by simpa using dG
  refine Zaa (λaP=>?_) (λbX=>Zac (mLt cD aW) ?_)
  ·have aV:k < x.rules.length:=by have:=of_decide_eq_true aP;omega
   obtain⟨r,hx⟩:=ZaF aV
   obtain⟨b1,o1,gT,cG⟩:=Zal Ru.len (hr.mono (mLt cD aW)).row hx (by omega)
   have hw:IntKind.i64.wrap ((k:Int)+1)=((k+1:Nat):Int):=by rw[Zan (by omega) (by omega)];rfl
   refine⟨b1,o1,gT,⟨by omega,by omega⟩,_,_,_,_,_,_,_,_,_,_,_,_,_,_,_,_,cG,λb2=>Zab rfl (Zab rfl (Zaa (λhb=>Zac (mLt cD aW) ?_) (λhb=>⟨rfl,x.rules.length - (k+1),by omega,k+1,by omega,by rw[hw],rfl,λi y hi hy=>?_⟩)))⟩
   ·show Value.int .i64 _=Value.int .i64 _
    unfold ZeI Zd2 Zsr
    rw[hu,show x.rules.findIdx? ZxD=some k from ZkE hx hb eX]
   ·by_cases jK:i=k
    ·subst jK;rw[hx]at hy;cases hy;exact hb
    ·exact eX i y (by omega) hy
  ·have dU:k=x.rules.length:=by have:=of_decide_eq_false bX;omega
   show Value.int .i64 _=Value.int .i64 _
   unfold ZeI Zd2 Zsr
   rw[hu,show x.rules.findIdx? ZxD=none from ZfC λi y hy=>eX i y (by have:=(List.getElem?_eq_some_iff.1 hy).1;omega) hy]
theorem ZuM{s s':Sc}{n:Int}{a1:Option Addr}{k1 c1:Nat}{a2:Option Addr}{k2 c2:Nat}{a3:Option Addr}{k3 c3:Nat}{e:Int}{a:Option Addr}{c:Nat}(h:Value.tuple #[.agg #[.int .i64 n,.slice a1 k1 c1,.slice a2 k2 c2],.slice a3 k3 c3,.int .i64 e]=.tuple #[s'.v,.slice a (ZbH s).length c,.int .i64 0]):(n=s'.n/\a1=s'.va/\k1=s'.vars.length/\c1=s'.vc/\a2=s'.sa/\k2=s'.states.length/\c2=s'.sc)/\(a3=a/\k3=(ZbH s).length/\c3=c)/\e=0:=by
 simpa[Sc.v,and_assoc]using h
set_option maxHeartbeats 2000000 in
theorem ZlB(x:SScr)(p:Int)(m:Mem)(hx:RepSC m x)(hp:0<=p/\p<=255):CX Tryz.prog 5 #[.agg x.cs.toArray,.int .u8 p] m [] (Ret (.bool true)):=by
 apply ZeH
 obtain⟨t,ht,i7⟩:∃t:Nat,IntKind.i64.wrap (Int.tmod p 13)=(t:Int)/\t < 13:=by
  obtain⟨n,rfl⟩:∃n:Nat,p=n:=⟨p.toNat,by omega⟩
  have e:Int.tmod (n:Int) 13=((n % 13:Nat):Int):=rfl
  exact⟨n % 13,by rw[e,Zan (by omega) (by omega)],by omega⟩
 rw[ht]
 intro b m1 aB _
 refine Zah (ZrC m1) λm2 aN=>ZcI rfl ?_
 have cD:=mLt aB aN
 refine Zai (ZyX x m2 (hx.mono cD)) ZyV ?_
 rintro n a n1 c a1 n2 c1 m3 aW ⟨s,hv,hr,hk⟩
 simp only[Sc.v,Value.agg.injEq,Array.mk.injEq,List.cons.injEq,Value.int.injEq,Value.slice.injEq,true_and,and_true]at hv
 obtain⟨rfl,⟨rfl,rfl,rfl⟩,rfl,rfl,rfl⟩:=hv
 have dN:=mLt cD aW
 have cC:okS s=true:=by unfold okS;rw[hk.check];rfl
 have gm:=hk.len
 intro b2
 refine Zai (Zzg s m3 hr cC hk.light) ZrG ?_
 rintro n3 a3 n4 c3 a5 n5 c5 a6 n6 c6 e7 m4 bV ⟨s',al,cl,hv,lF,dO,aM⟩
 obtain⟨⟨rfl,rfl,rfl,rfl,rfl,rfl,rfl⟩,⟨rfl,rfl,rfl⟩,rfl⟩:=ZuM hv
 have jm:=mLt dN bV
 rw[(Zvo s).2]at lF
 have aX:s'.states.length=s.states.length:=by
  have:=Zys lF;simpa using this
 have vo:=hk.dead
 have good:∀k:Nat,k < s.states.length->Zdh s k=0:=λk hk=>by unfold Zdh;rw[cC,if_pos rfl,if_neg (by omega)]
 intro b3
 refine⟨false,ZcI rfl ⟨rfl,by rw[aX];simp⟩,ZcI rfl ⟨by decide,λxs _ _ m' q=>∃i:Nat,i<=s.states.length/\xs=[.int .i64 i]/\q=s.states.length - i,⟨s.states.length,0,by omega,rfl,rfl⟩,?_⟩⟩
 rintro z m5 q dD ⟨i,hi,hz,rfl⟩
 obtain rfl:z=i:=by simpa using hz
 have pU:=mLt bV dD
 have pk:=mLt dN pU
 have wT:IntKind.i64.wrap ((i:Int)+1)=((i+1:Nat):Int):=by rw[Zan (by omega) (by omega)];rfl
 refine Zaz (λaP=>?_) (λbX=>Zac pk rfl)
 have aP:(i:Int) < (s.states.length:Nat):=aP
 obtain⟨y,hy⟩:=Zdw (show i < s.states.length by omega)
 have nU:=List.mem_of_getElem? hy
 obtain⟨y',hy',wU⟩:=Zyr lF (i:=i) (x:=Zmi y) (by simp[hy])
 have lG:=List.mem_of_getElem? hy'
 have gJ:=(hk.all i y hy).len
 have wV:y'.rules.length<=few:=(dO.all y' lG).len
 have iT:=Zt1 (hk.tick hy) wU t
 have jj:=Zst (hk.tick hy) t
 obtain⟨b5,o5,la,ik⟩:=Zal Sta.len (hr.mono pU).row hy (by omega)
 refine⟨b5,o5,la,⟨by omega,aP⟩,_,_,ik,λb6=>Zab rfl ⟨λk _ _=>bif Nat.beq k 2 then Ret (.int .i64 (ZeI y.rules t))else Ret (.int .i64 (ZeI y'.rules t)),_,rfl,ZsR y t m5 ((hr.mono pU).all y nU) (by omega),(λv _ _ h=>by rw[show v=_ from h];rfl),?_⟩⟩
 intro n8 m6 gM pP
 obtain rfl:n8=ZeI y.rules t:=by simpa using(show Value.int .i64 n8=Value.int .i64 _ from pP)
 have xz:=mLt pU gM
 obtain⟨b7,o7,ss,s7⟩:=Zal Sta.len (dO.mono dD).row hy' (by omega)
 refine⟨b7,o7,ss,⟨by omega,by omega⟩,_,_,s7,_,rfl,ZsR y' t m6 ((dO.mono (mLt dD gM)).all y' lG) (by omega),(λv _ _ h=>by rw[show v=_ from h];rfl),?_⟩
 intro n9 m7 jB pR M uz xA xB
 obtain rfl:n9=ZeI y'.rules t:=by simpa using(show Value.int .i64 n9=Value.int .i64 _ from pR)
 have s8:=mLt pU uz
 have qN:=mLt dD uz
 refine⟨λ_ _ _ _=>True,?_,?_⟩
 ·refine⟨λk _ _=>bif Nat.beq k 23 then Ret (.bool true)else Ret (.bool false),?_⟩
  rcases iT with⟨h1,h2⟩|⟨fa,fb,ru,ru',h1,h2,jV,s9,wW,fS⟩
  ·have e1:ZeI y.rules t=-1:=by unfold ZeI;rw[h1]
   have e2:ZeI y'.rules t=-1:=by unfold ZeI;rw[h2]
   rw[e1,e2]
   exact ZcI rfl (ZcI rfl λM1 _ _ _=>⟨rfl,trivial⟩)
  ·have e1:ZeI y.rules t=(fa:Nat):=by unfold ZeI;rw[h1]
   have e2:ZeI y'.rules t=(fb:Nat):=by unfold ZeI;rw[h2]
   rw[e1,e2]
   have tM:=(List.getElem?_eq_some_iff.1 jV).1
   have iA:=(List.getElem?_eq_some_iff.1 s9).1
   obtain⟨b8,o8,wX,fW⟩:=Zal Ru.len ((hr.mono s8).all y nU).row jV (by omega)
   obtain⟨b9,o9,sA,td⟩:=Zal Sta.len (dO.mono qN).row hy' (by omega)
   obtain⟨b10,o10,te,tf⟩:=Zal Ru.len ((dO.mono qN).all y' lG).row s9 (by omega)
   have hS:=Zql ru ru' M (((hr.mono s8).all y nU).all ru (List.mem_of_getElem? jV)) (((dO.mono qN).all y' lG).all ru' (List.mem_of_getElem? s9))
   rw[Zyx (hk.wR hy jV) wW]at hS
   have tg:=Zwo hy jV fS
   refine ZcI (by simp;omega) (ZgR (decide_eq_true (by omega)) (Zab rfl ⟨b8,o8,wX,⟨by omega,by show((fa:Nat):Int) < (y.rules.length:Nat);omega⟩,?_⟩))
   refine⟨_,_,_,_,_,_,_,_,_,_,_,_,_,_,_,_,fW,b9,o9,sA,⟨by omega,by omega⟩,.slice y'.ra y'.rules.length y'.rc,td 1 _ rfl,Zab rfl ⟨b10,o10,te,⟨by omega,by show((fb:Nat):Int) < (y'.rules.length:Nat);omega⟩,?_⟩⟩
   refine⟨_,_,_,_,_,_,_,_,_,_,_,_,_,_,_,_,tf,_,rfl,hS,(λv _ _ h=>by rw[show v=_ from h];rfl),?_⟩
   intro bb m8 gY sY
   obtain rfl:bb=true:=by simpa using(show Value.bool bb=Value.bool true from sY)
   have hC:=Zw2 (ZbH s) a6 c6 ((i:Int),(fa:Int)) m8 (by omega) (aM.mono (mLt qN gY))
   rw[decide_eq_false tg]at hC
   refine ZcI rfl ⟨_,rfl,hC,(λv _ _ h=>by rw[show v=_ from h];rfl),?_⟩
   intro bb m9 ni qK M1 hA hB xC
   obtain rfl:bb=false:=by simpa using(show Value.bool bb=Value.bool false from qK)
   exact ZcI rfl ⟨rfl,trivial⟩
 intro m10 lz _
 have pV:=mLt s8 lz
 have hA:∀f,Zzq f s i=f y:=λf=>by unfold Zzq;rw[Int.toNat_natCast,hy]
 have e1:=Zix s i m10 (hr.mono pV)
 unfold Zgo at e1
 rw[good i (by omega),if_pos rfl,hA]at e1
 refine Zai e1 ZdK λn11 b11 e11 m11 lD ti=>?_
 obtain⟨rfl,rfl,rfl⟩:=ZeZ ti
 have pW:=mLt pV lD
 have e2:=Zy1 s i m11 (hr.mono pW)
 unfold Zgo at e2
 rw[good i (by omega),if_pos rfl,hA]at e2
 refine Zai e2 ZdK λn12 b12 e12 m12 iU tj=>?_
 obtain⟨rfl,rfl,rfl⟩:=ZeZ tj
 have tn:=mLt pW iU
 have pX:∃n':Nat,n' < s.states.length - i/\∃i':Nat,i'<=s.states.length/\[Value.int .i64 (IntKind.i64.wrap ((i:Int)+1))]=[.int .i64 i']/\n'=s.states.length - i':=⟨s.states.length - (i+1),by omega,i+1,by omega,by rw[wT],rfl⟩
 have eoLast:Zd2 y.rules t=eoO y->(ZeI y.rules t=Zrc (eoO y)/\(eoO y).isSome=true)\/(ZeI y.rules t=-1/\(eoO y).isSome=false):=λh=>by
  unfold ZeI;rw[h]
  cases eoO y with
  | none=>exact .inr ⟨rfl,rfl⟩
  | some e=>exact .inl ⟨rfl,rfl⟩
 cases tq:toO y with
 | none=>
  rw[tq]at jj
  refine⟨false,ZcI rfl (ZcI rfl ⟨rfl,rfl⟩),ZcI rfl ⟨false,ZcI rfl ⟨rfl,rfl⟩,false,?_,ZcI rfl ⟨rfl,pX⟩⟩⟩
  rcases eoLast jj with⟨h1,h2⟩|⟨h1,h2⟩
  ·rw[h1,h2]
   exact ZcI rfl (ZgR rfl (ZgR rfl (ZcI (by simp) (ZgR rfl (ZcI rfl ⟨rfl,rfl⟩)))))
  ·rw[h1,h2]
   exact ZcI rfl (ZgR rfl (ZcI rfl (ZgR rfl (ZgR rfl ⟨rfl,rfl⟩))))
 | some k=>
  rw[tq]at jj
  obtain⟨mD,r,gu,_⟩:=ZaS tq
  have jj:Zd2 y.rules t=(match y.rules[k]? with|some r=>if r.n<=(t:Int)then some k else eoO y|none=>eoO y):=jj
  rw[gu]at jj
  have jj:Zd2 y.rules t=if r.n<=(t:Int)then some k else eoO y:=jj
  obtain⟨b13,o13,tu,fW⟩:=Zal Ru.len ((hr.mono tn).all y nU).row gu (by omega)
  refine⟨false,ZcI rfl (ZgR rfl (ZcI (decide_eq_false (by show ¬((k:Nat):Int) < 0;omega)) (Zab rfl ⟨rfl,by show[Value.bool (decide (((k:Nat):Int) ≥ (y.rules.length:Nat)))]=_;rw[decide_eq_false (by omega)]⟩))),ZcI rfl ⟨decide (r.n<=(t:Int)),ZgR rfl (Zab rfl ⟨b13,o13,tu,⟨by show(0:Int)<=(k:Nat);omega,by show((k:Nat):Int) < (y.rules.length:Nat);omega⟩,.int .i64 r.n,by show m12 _ (o13+Int.toNat ((k:Nat):Int)*16+12)=_;rw[Int.toNat_natCast];exact fW 12 _ rfl,Zab rfl ⟨rfl,rfl⟩⟩),false,?_,ZcI rfl ⟨rfl,pX⟩⟩⟩
  by_cases bM:r.n<=(t:Int)
  ·rw[if_pos bM]at jj
   rw[decide_eq_true bM]
   have e:ZeI y.rules t=Zrc (some k):=by unfold ZeI;rw[jj];rfl
   rw[e]
   exact ZgR rfl (ZcI (by simp) (ZcI rfl (ZcI rfl ⟨rfl,rfl⟩)))
  ·rw[if_neg bM]at jj
   rw[decide_eq_false bM]
   rcases eoLast jj with⟨h1,h2⟩|⟨h1,h2⟩
   ·rw[h1,h2]
    exact ZcI rfl (ZgR rfl (ZgR rfl (ZcI (by simp) (ZgR rfl (ZcI rfl ⟨rfl,rfl⟩)))))
   ·rw[h1,h2]
    exact ZcI rfl (ZgR rfl (ZcI rfl (ZgR rfl (ZgR rfl ⟨rfl,rfl⟩))))
end Go.Proofs.YtojlhhphofhaoaaGreatDoor