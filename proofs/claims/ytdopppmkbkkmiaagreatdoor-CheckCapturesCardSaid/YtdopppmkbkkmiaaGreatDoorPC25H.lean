/- Part of the proof: functions of the program. No condition. -/
import Derived.Test.YtdopppmkbkkmiaaGreatDoorPC25MJ
import Derived.Test.YtdopppmkbkkmiaaGreatDoorPC25MD
import Derived.Test.YtdopppmkbkkmiaaGreatDoorPC25F
import Derived.Test.YtdopppmkbkkmiaaGreatDoorPEnv
import Derived.Test.YtdopppmkbkkmiaaGreatDoorMr
set_option linter.unusedVariables false
set_option linter.unusedSimpArgs false
set_option linter.unusedSectionVars false
noncomputable section
namespace Go.Proofs.YtdopppmkbkkmiaaGreatDoor
open Go Go.Eng Go.Rx Go.Proofs Go.RowKit
set_option maxRecDepth 100000
theorem Zpj{x:List Value}{K:List Value->Prop}(h:∀y,K y):lV x K:=h x
theorem Zv2(cb:Nat)(Q:Pt->Pt->Mem->Prop)(L:List Pt)(a:Option Addr)(d:Nat)(m:Mem)(aF:rowRd m a (L.map Pt.cs).flatten)(hl:L.length<=few)(lR:∀x∈L,∀m2,m.le m2->CX Tryz.prog cb #[.agg x.cs.toArray] m2 [] (λv m3 _=>∃y:Pt,v=.agg y.cs.toArray/\Q x y (nw m2 m3))):
  CX Tryz.prog 68 #[.slice a L.length d,.func (.func cb) #[] #[]] m [] (Zrt Pt.cs Q m L):=by
 have hl:L.length<=100000:=hl
 apply Zcc (p1fi:=[]) (p1ca:=[])
 refine⟨λxs css tvs m' q=>∃(k:Nat)(a':Option Addr)(c':Nat)(L':List Pt)(μ:Nat->Mem),k<=L.length/\q=L.length - k/\xs=[.slice a' L'.length c',.int .i64 k]/\tvs=[.slice a' L'.length c']/\Each Pt.cs Q m m' (L.take k) a' c' L' μ,⟨_,0,none,0,[],_,by omega,rfl,rfl,rfl,Each.nil m⟩,?_⟩
 rintro a1 n1 c1 z a2 n2 c2 m2 q _ ⟨k,a',c',L',μ,hk,hq,cZ,dK,hE⟩
 simp only[List.cons.injEq,Value.slice.injEq,Value.int.injEq,true_and,and_true]at cZ dK
 obtain⟨⟨rfl,rfl,rfl⟩,rfl⟩:=cZ
 obtain⟨rfl,rfl,rfl⟩:=dK
 have jN:L'.length=k:=by rw[hE.len,List.length_take];omega
 refine Zab (λaG=>?_) (λbM=>?_)
 ·have aR:k < L.length:=by have:=zA6 aG;omega
  obtain⟨x,hx⟩:=ZaK aR
  obtain⟨b,o,ha,bU⟩:=Zap Pt.len aF hx (by omega)
  have hw:IntKind.i64.wrap ((k:Int)+1)=((k+1:Nat):Int):=by rw[Zam (by omega) (by omega)];rfl
  refine⟨b,o,ha,⟨by omega,by omega⟩,_,_,_,_,_,_,_,_,bU.mono hE.le,λb3=>Zaa rfl ⟨_,trivial,lR x (zA2 hx) m2 hE.le,(λv _ _ ⟨y,h,_⟩=>by rw[h];rfl),?_⟩⟩
  intros
  refine Zpj λys=>?_
  rintro aQ ⟨y,hv,hQ⟩ b4 ic
  obtain rfl:ys=y.cs:=by simpa using hv
  have bI:(L'.length+1)*96<=140737488355328:=by omega
  refine Zdt Pt.len Pt.one ic y (hE.row.mono aQ) 96 bI (by omega) (.inl rfl) λa5 c5 m5 cH bO bB=>?_
  have dF:=hE.step Pt.len (by omega) hx aQ hQ ic cH bO bB
  exact⟨L.length - (k+1),by omega,k+1,a5,c5,L'++[y],_,by omega,rfl,by rw[hw,zA1];rfl,by rw[zA1];rfl,dF⟩
 ·have dA:k=L.length:=by have:=of_decide_eq_false bM;omega
  rw[dA,List.take_length]at hE
  exact⟨m2,hE.le,Mem.le_refl _,_,_,L',μ,rfl,hE⟩
theorem Zv3(cb:Nat)(Q:Ac->Ac->Mem->Prop)(L:List Ac)(a:Option Addr)(d:Nat)(m:Mem)(aF:rowRd m a (L.map Ac.cs).flatten)(hl:L.length<=few)(lR:∀x∈L,∀m2,m.le m2->CX Tryz.prog cb #[.agg x.cs.toArray] m2 [] (λv m3 _=>∃y:Ac,v=.agg y.cs.toArray/\Q x y (nw m2 m3))):
  CX Tryz.prog 65 #[.slice a L.length d,.func (.func cb) #[] #[]] m [] (Zrt Ac.cs Q m L):=by
 have hl:L.length<=100000:=hl
 apply ZbG (p1fi:=[]) (p1ca:=[])
 refine⟨λxs css tvs m' q=>∃(k:Nat)(a':Option Addr)(c':Nat)(L':List Ac)(μ:Nat->Mem),k<=L.length/\q=L.length - k/\xs=[.slice a' L'.length c',.int .i64 k]/\tvs=[.slice a' L'.length c']/\Each Ac.cs Q m m' (L.take k) a' c' L' μ,⟨_,0,none,0,[],_,by omega,rfl,rfl,rfl,Each.nil m⟩,?_⟩
 rintro a1 n1 c1 z a2 n2 c2 m2 q _ ⟨k,a',c',L',μ,hk,hq,cZ,dK,hE⟩
 simp only[List.cons.injEq,Value.slice.injEq,Value.int.injEq,true_and,and_true]at cZ dK
 obtain⟨⟨rfl,rfl,rfl⟩,rfl⟩:=cZ
 obtain⟨rfl,rfl,rfl⟩:=dK
 have jN:L'.length=k:=by rw[hE.len,List.length_take];omega
 refine Zab (λaG=>?_) (λbM=>?_)
 ·have aR:k < L.length:=by have:=zA6 aG;omega
  obtain⟨x,hx⟩:=ZaK aR
  obtain⟨b,o,ha,bU⟩:=Zap Ac.len aF hx (by omega)
  have hw:IntKind.i64.wrap ((k:Int)+1)=((k+1:Nat):Int):=by rw[Zam (by omega) (by omega)];rfl
  refine⟨b,o,ha,⟨by omega,by omega⟩,_,_,_,_,_,_,_,_,bU.mono hE.le,λb3=>Zaa rfl ⟨_,trivial,lR x (zA2 hx) m2 hE.le,(λv _ _ ⟨y,h,_⟩=>by rw[h];rfl),?_⟩⟩
  intros
  refine Zpj λys=>?_
  rintro aQ ⟨y,hv,hQ⟩ b4 ic
  obtain rfl:ys=y.cs:=by simpa using hv
  have bI:(L'.length+1)*112<=140737488355328:=by omega
  refine Zdt Ac.len Ac.one ic y (hE.row.mono aQ) 112 bI (by omega) (.inl rfl) λa5 c5 m5 cH bO bB=>?_
  have dF:=hE.step Ac.len (by omega) hx aQ hQ ic cH bO bB
  exact⟨L.length - (k+1),by omega,k+1,a5,c5,L'++[y],_,by omega,rfl,by rw[hw,zA1];rfl,by rw[zA1];rfl,dF⟩
 ·have dA:k=L.length:=by have:=of_decide_eq_false bM;omega
  rw[dA,List.take_length]at hE
  exact⟨m2,hE.le,Mem.le_refl _,_,_,L',μ,rfl,hE⟩
theorem Zv4(cb:Nat)(Q:Ru->Ru->Mem->Prop)(L:List Ru)(a:Option Addr)(d:Nat)(m:Mem)(aF:rowRd m a (L.map Ru.cs).flatten)(hl:L.length<=few)(lR:∀x∈L,∀m2,m.le m2->CX Tryz.prog cb #[.agg x.cs.toArray] m2 [] (λv m3 _=>∃y:Ru,v=.agg y.cs.toArray/\Q x y (nw m2 m3))):
  CX Tryz.prog 48 #[.slice a L.length d,.func (.func cb) #[] #[]] m [] (Zrt Ru.cs Q m L):=by
 have hl:L.length<=100000:=hl
 apply Zcd (p1fi:=[]) (p1ca:=[])
 refine⟨λxs css tvs m' q=>∃(k:Nat)(a':Option Addr)(c':Nat)(L':List Ru)(μ:Nat->Mem),k<=L.length/\q=L.length - k/\xs=[.slice a' L'.length c',.int .i64 k]/\tvs=[.slice a' L'.length c']/\Each Ru.cs Q m m' (L.take k) a' c' L' μ,⟨_,0,none,0,[],_,by omega,rfl,rfl,rfl,Each.nil m⟩,?_⟩
 rintro a1 n1 c1 z a2 n2 c2 m2 q _ ⟨k,a',c',L',μ,hk,hq,cZ,dK,hE⟩
 simp only[List.cons.injEq,Value.slice.injEq,Value.int.injEq,true_and,and_true]at cZ dK
 obtain⟨⟨rfl,rfl,rfl⟩,rfl⟩:=cZ
 obtain⟨rfl,rfl,rfl⟩:=dK
 have jN:L'.length=k:=by rw[hE.len,List.length_take];omega
 refine Zab (λaG=>?_) (λbM=>?_)
 ·have aR:k < L.length:=by have:=zA6 aG;omega
  obtain⟨x,hx⟩:=ZaK aR
  obtain⟨b,o,ha,bU⟩:=Zap Ru.len aF hx (by omega)
  have hw:IntKind.i64.wrap ((k:Int)+1)=((k+1:Nat):Int):=by rw[Zam (by omega) (by omega)];rfl
  refine⟨b,o,ha,⟨by omega,by omega⟩,_,_,_,_,_,_,_,_,_,_,_,_,_,_,_,_,bU.mono hE.le,λb3=>Zaa rfl ⟨_,trivial,lR x (zA2 hx) m2 hE.le,(λv _ _ ⟨y,h,_⟩=>by rw[h];rfl),?_⟩⟩
  intros
  refine Zpj λys=>?_
  rintro aQ ⟨y,hv,hQ⟩ b4 ic
  obtain rfl:ys=y.cs:=by simpa using hv
  have bI:(L'.length+1)*168<=140737488355328:=by omega
  refine Zdt Ru.len Ru.one ic y (hE.row.mono aQ) 168 bI (by omega) (.inl rfl) λa5 c5 m5 cH bO bB=>?_
  have dF:=hE.step Ru.len (by omega) hx aQ hQ ic cH bO bB
  exact⟨L.length - (k+1),by omega,k+1,a5,c5,L'++[y],_,by omega,rfl,by rw[hw,zA1];rfl,by rw[zA1];rfl,dF⟩
 ·have dA:k=L.length:=by have:=of_decide_eq_false bM;omega
  rw[dA,List.take_length]at hE
  exact⟨m2,hE.le,Mem.le_refl _,_,_,L',μ,rfl,hE⟩
theorem Zv5(cb:Nat)(Q:Sta->Sta->Mem->Prop)(L:List Sta)(a:Option Addr)(d:Nat)(m:Mem)(aF:rowRd m a (L.map Sta.cs).flatten)(hl:L.length<=few)(lR:∀x∈L,∀m2,m.le m2->CX Tryz.prog cb #[.agg x.cs.toArray] m2 [] (λv m3 _=>∃y:Sta,v=.agg y.cs.toArray/\Q x y (nw m2 m3))):
  CX Tryz.prog 46 #[.slice a L.length d,.func (.func cb) #[] #[]] m [] (Zrt Sta.cs Q m L):=by
 have hl:L.length<=100000:=hl
 apply ZbU (p1fi:=[]) (p1ca:=[])
 refine⟨λxs css tvs m' q=>∃(k:Nat)(a':Option Addr)(c':Nat)(L':List Sta)(μ:Nat->Mem),k<=L.length/\q=L.length - k/\xs=[.slice a' L'.length c',.int .i64 k]/\tvs=[.slice a' L'.length c']/\Each Sta.cs Q m m' (L.take k) a' c' L' μ,⟨_,0,none,0,[],_,by omega,rfl,rfl,rfl,Each.nil m⟩,?_⟩
 rintro a1 n1 c1 z a2 n2 c2 m2 q _ ⟨k,a',c',L',μ,hk,hq,cZ,dK,hE⟩
 simp only[List.cons.injEq,Value.slice.injEq,Value.int.injEq,true_and,and_true]at cZ dK
 obtain⟨⟨rfl,rfl,rfl⟩,rfl⟩:=cZ
 obtain⟨rfl,rfl,rfl⟩:=dK
 have jN:L'.length=k:=by rw[hE.len,List.length_take];omega
 refine Zab (λaG=>?_) (λbM=>?_)
 ·have aR:k < L.length:=by have:=zA6 aG;omega
  obtain⟨x,hx⟩:=ZaK aR
  obtain⟨b,o,ha,bU⟩:=Zap Sta.len aF hx (by omega)
  have hw:IntKind.i64.wrap ((k:Int)+1)=((k+1:Nat):Int):=by rw[Zam (by omega) (by omega)];rfl
  refine⟨b,o,ha,⟨by omega,by omega⟩,_,_,bU.mono hE.le,λb3=>Zaa rfl ⟨_,trivial,lR x (zA2 hx) m2 hE.le,(λv _ _ ⟨y,h,_⟩=>by rw[h];rfl),?_⟩⟩
  intros
  refine Zpj λys=>?_
  rintro aQ ⟨y,hv,hQ⟩ b4 ic
  obtain rfl:ys=y.cs:=by simpa using hv
  have bI:(L'.length+1)*40<=140737488355328:=by omega
  refine Zdt Sta.len Sta.one ic y (hE.row.mono aQ) 40 bI (by omega) (.inl rfl) λa5 c5 m5 cH bO bB=>?_
  have dF:=hE.step Sta.len (by omega) hx aQ hQ ic cH bO bB
  exact⟨L.length - (k+1),by omega,k+1,a5,c5,L'++[y],_,by omega,rfl,by rw[hw,zA1];rfl,by rw[zA1];rfl,dF⟩
 ·have dA:k=L.length:=by have:=of_decide_eq_false bM;omega
  rw[dA,List.take_length]at hE
  exact⟨m2,hE.le,Mem.le_refl _,_,_,L',μ,rfl,hE⟩
def CpE(m:Mem)(t:E):Value->Mem->List (List Value)->Prop:=λv m' _=>∃t':E,v=t'.v/\t'.er=t.er/\RepE (nw m m') t'
theorem ZrX{m:Mem}{t:E}:∀(v:Value)(m':Mem) (css:List (List Value)),CpE m t v m' css->Shape.fits (.agg [.int .u8,.any,.str,.int .i64,.slice]) v=true:=λv _ _ ⟨t,e,_⟩=>by rw[e];rfl
theorem ZrY(t:E)(m:Mem)(hr:RepE m t)(hl:t.light=true):CX Tryz.prog 67 #[t.v] m [] (CpE m t):=by
 apply Zmg
 intro b m1 aB _ b1
 have h:=Zc8 t m1 (hr.mono' aB)
 rw[hl]at h
 refine Zah h λm2 aH=>ZdO rfl (Zak (ZlA t m2 (hr.mono' (mLt aB aH)) (zA6 hl)) Zf1 ?_)
 rintro n v s n1 a n2 c m3 aQ ⟨t',hv,hr',he,hn⟩
 obtain⟨rfl,rfl,rfl,rfl,rfl,rfl,rfl⟩:=ZqB hv
 exact Zaa rfl ⟨m3,mLt aB (mLt aH aQ),Mem.le_refl _,t',rfl,he,ZuJ t' hr' (hn.less (mLt aB aH))⟩
theorem Zzw(p:Pt)(m:Mem)(hr:RepP m p)(hl:p.e.light=true):CX Tryz.prog 69 #[.agg p.cs.toArray] m [] (λv m' _=>∃q:Pt,v=.agg q.cs.toArray/\QP p q (nw m m')):=by
 apply Zen
 intro b b1
 refine Zak (ZrY p.e m hr.e hl) ZrX ?_
 rintro n v s n1 a n2 c m3 aQ ⟨t',hv,he,cY⟩
 obtain⟨rfl,rfl,rfl,rfl,rfl,rfl,rfl⟩:=ZqB hv
 refine Zaa rfl (Zaa rfl ⟨m3,aQ,Mem.le_refl _,⟨p.k,p.s,p.g,t'⟩,rfl,?_,hr.k,hr.s,hr.g,cY⟩)
 simp only[Pt.er,he]
theorem Zx5(x:Ac)(m:Mem)(hr:RepA m x)(hl:LtA x):CX Tryz.prog 66 #[.agg x.cs.toArray] m [] (λv m' _=>∃q:Ac,v=.agg q.cs.toArray/\QA x q (nw m m')):=by
 apply Zfo
 intro b b1
 refine Zak (ZrY x.e m hr.e hl.1) ZrX ?_
 rintro n v s n1 a n2 c m1 aB ⟨t',hv,he,cY⟩
 obtain⟨rfl,rfl,rfl,rfl,rfl,rfl,rfl⟩:=ZqB hv
 refine Zaa rfl ⟨_,trivial,Zv2 69 QP x.parts x.pa x.pc m1 (hr.row.mono aB) hr.n (λp hp m2 aH=>Zzw p m2 ((hr.all p hp).mono (mLt aB aH)) (hl.2 p hp)),Zg3,?_⟩
 rintro a' n' c' m2 aH ⟨a5,c5,L',μ,hv',hE⟩
 simp only[Value.slice.injEq]at hv'
 obtain⟨rfl,rfl,rfl⟩:=hv'
 refine Zaa rfl ⟨m2,mLt aB aH,Mem.le_refl _,⟨x.k,x.s,a',c',L',t'⟩,rfl,?_,ZsX hr hE (Zel aB (Mem.le_refl _)) (cY.mono' (Zel (Mem.le_refl _) aH))⟩
 simp only[Ac.er,he,hE.same λ_ _ _ h=>h.1]
theorem Zx6(x:Ru)(m:Mem)(hr:RepR m x)(hl:LtR x):CX Tryz.prog 41 #[.agg x.cs.toArray] m [] (λv m' _=>∃q:Ru,v=.agg q.cs.toArray/\QR x q (nw m m')):=by
 apply Zeo
 intro b b1
 refine Zak (ZrR x.t m hr.t (zA6 hl.1)) ZrQ ?_
 rintro n0 n1 n2 n3 n4 n5 n6 a n c m1 aB ⟨t',hv,he,cY⟩
 simp only[T.v,Value.agg.injEq,Array.mk.injEq,List.cons.injEq,Value.int.injEq,Value.slice.injEq,true_and,and_true]at hv
 obtain⟨rfl,rfl,rfl,rfl,rfl,rfl,rfl,rfl,rfl,rfl⟩:=hv
 refine⟨_,trivial,Zv3 66 QA x.acts x.aa x.ac m1 (hr.row.mono aB) hr.len (λp hp m2 aH=>Zx5 p m2 ((hr.all p hp).mono (mLt aB aH)) (hl.2 p hp)),Zg3,?_⟩
 rintro a' n' c' m2 aH ⟨a5,c5,L',μ,hv',hE⟩
 simp only[Value.slice.injEq]at hv'
 obtain⟨rfl,rfl,rfl⟩:=hv'
 refine⟨m2,mLt aB aH,Mem.le_refl _,⟨x.k,x.bg,x.en,t',x.s,x.n,a',c',L',x.go,x.code⟩,rfl,?_,ZsY hr hE (Zel aB (Mem.le_refl _)) (cY.mono (Zel (Mem.le_refl _) aH))⟩
 simp only[Ru.er,he,hE.same λ_ _ _ h=>h.1]
theorem Zzx(x:Sta)(m0 m:Mem)(h0:m0.le m)(hr:RepS m x)(hl:∀r∈x.rules,LtR r):CX Tryz.prog 47 #[.agg x.cs.toArray] m [] (λv m' _=>∃q:Sta,v=.agg q.cs.toArray/\QS m0 x q (nw m m')):=by
 apply Zj3
 intro b m1 aB _ b1
 refine⟨λ_ _ μ=>Zrt Ru.cs QR μ x.rules,_,rfl,Zv4 41 QR x.rules x.ra x.rc m1 (hr.row.mono aB) hr.len (λp hp m2 aH=>Zx6 p m2 ((hr.all p hp).mono (mLt aB aH)) (hl p hp)),Zg3,?_⟩
 rintro a' n' c' m2 aH ⟨a5,c5,L',μ,hv',hE⟩ M _ hM
 simp only[Value.slice.injEq]at hv'
 obtain⟨rfl,rfl,rfl⟩:=hv'
 exact⟨m2,mLt aB aH,hM,⟨x.s,a',c',L'⟩,rfl,(Zxv (mLt h0 aB) (hr.mono aB) hE).mono (Zel aB (Mem.le_refl _))⟩
def Zy0(m:Mem)(l:List Va):Value->Mem->List (List Value)->Prop:=λv m' _=>∃a' c',v=.slice a' l.length c'/\rowRd (nw m m') a' (l.map Va.cs).flatten/\l.length<=c'
theorem Zpk(a:Option Addr)(c:Nat)(l:List Va)(m:Mem)(h:rowRd m a (l.map Va.cs).flatten)(hl:l.length<=few):CXT Tryz.prog 45 #[.slice a l.length c] m 4 (Zy0 m l):=by
 have hl:l.length<=100000:=hl
 apply ZbL
 have aT:(l.map Va.cs).flatten.length=l.length*4:=ZaU Va.len l
 refine Zab (λha=>?_) (λha=>⟨⟨rfl,Int.le_refl _,by decide,by decide⟩,λb hf _=>⟨.inl rfl,[],(l.map Va.cs).flatten,rfl,aT,.inl rfl,h,?_,by omega,by omega,λa' c' m' hm aF kO=>⟨rfl,?_⟩⟩⟩)
 ·obtain rfl:a=none:=by simpa using ha
  have h0:l=[]:=by
   rcases h with h|⟨_,_,h,_⟩
   ·rw[h]at aT;exact List.eq_nil_of_length_eq_zero (by simp at aT;omega)
   ·cases h
  subst h0
  exact⟨rfl,none,0,rfl,.inl rfl,Nat.le_refl _⟩
 ·intro u hu
  simp only[List.mem_flatten,List.mem_map]at hu
  obtain⟨_,⟨e,_,rfl⟩,hu⟩:=hu
  exact Va.one e u hu
 ·simp only[Nat.zero_add]at kO ⊢
  refine⟨a',c',rfl,Zrs aF ?_,kO.1⟩
  rcases(kO.old (λ_ _ e=>by cases e;rfl)).2 with h1|⟨b',h1,h2|h2⟩
  ·exact .inr λb o e=>by rw[h1]at e;cases e
  ·exact .inr λb' o e=>by rw[<-h2]at e;cases e;exact hf
  ·exact .inr λb o e=>by rw[h1]at e;cases e;exact h2
def CpC(m:Mem)(s:Sc):Value->Mem->List (List Value)->Prop:=λv m' _=>∃s':Sc,v=s'.v/\s'.er=s.er/\RepC (nw m m') s'/\(s'.states=[]\/∃b μ,SepC m m' s' b μ)
theorem Zv6{m:Mem}{s:Sc}:∀(v:Value)(m':Mem) (css:List (List Value)),CpC m s v m' css->Shape.fits (.agg [.int .i64,.slice,.slice]) v=true:=λv _ _ ⟨t,e,_⟩=>by rw[e];rfl
theorem ZtA{m:Mem}{l:List Va}:∀(v:Value)(m':Mem) (css:List (List Value)),Zy0 m l v m' css->Shape.fits .slice v=true:=λv _ _ ⟨_,_,h,_⟩=>by rw[h];rfl
theorem Zx7(s:Sc)(m:Mem)(hr:RepC m s)(hl:s.light=true):CX Tryz.prog 13 #[s.v] m [] (CpC m s):=by
 apply ZoP
 intro b m1 aB _ b1
 have h:=Zda s m1 (hr.mono aB)
 rw[hl]at h
 refine Zah h λm2 aH=>ZdO rfl ?_
 have gG:=hr.mono (mLt aB aH)
 have fH:=mLt aB aH
 refine⟨λi _ μ=>if i=4 then Zy0 μ s.vars else Zrt Sta.cs (QS m) μ s.states,_,rfl,(Zpk s.va s.vc s.vars m2 gG.vrow gG.vlen).toCX,ZtA,?_⟩
 rintro a n c m3 aQ ⟨a',c',hv,aF,cG⟩
 simp only[Value.slice.injEq]at hv
 obtain⟨rfl,rfl,rfl⟩:=hv
 refine⟨_,rfl,Zv5 47 (QS m) s.states s.sa s.sc m3 (gG.row.mono aQ) gG.len (λx hx m4 bJ=>Zzx x m m4 (mLt fH (mLt aQ bJ)) ((gG.all x hx).mono (mLt aQ bJ)) (Zvq hl x hx)),Zg3,?_⟩
 rintro a4 n4 c4 m4 bJ ⟨a5,c5,L',μ,hv',hE⟩ M _ iO ju
 simp only[Value.slice.injEq]at hv'
 obtain⟨rfl,rfl,rfl⟩:=hv'
 have cT:=mLt fH aQ
 have mo:(nw m3 m4).le (nw m M):=Zel cT ju
 refine⟨M,mLt fH (mLt aQ iO),Mem.le_refl _,⟨s.n,a,c,s.vars,a4,c4,L'⟩,rfl,?_,⟨hr.n,hr.vlen,aF.mono (Zel fH iO),hr.vall,by rw[hE.len];exact hr.len,hE.rows.mono mo,λy hy=>?_,cG,hE.cap⟩,?_⟩
 ·simp only[Sc.er,hE.same (f:=Sta.er) (g:=Sta.er) λ_ _ _ h=>h.1]
 ·obtain⟨i,x,_,_,hq,hs⟩:=hE.at hy
  exact hq.2.1.mono (mLt hs mo)
 ·rcases hE.blk with⟨h1,_⟩|⟨_,b,hb,hf,hk,hμ⟩
  ·exact .inl (List.eq_nil_of_length_eq_zero (by rw[hE.len,h1];rfl))
  ·refine .inr ⟨b,μ,hb,⟨Zb6 cT hf,Zl6 cT hk⟩,λi y hy=>?_,λi j sF hj b'=>hE.ap i j sF (by rw[<-hE.len];exact hj) b',nw m2 m3,aF,Zel fH iO,Zb6 (Zjf _ _) hf,λi hi b'=>?_⟩
   ·have aG:i < s.states.length:=by rw[<-hE.len];exact(zA0 hy).1
    have hq:=hE.q i _ _ (zA3 aG) hy
    exact⟨hq.2.1,hq.2.2,mLt (hE.sub i aG) mo,(hμ i aG).1⟩
   ·by_cases iF:(nw m2 m3).free b'
    ·exact .inl iF
    ·exact .inr (Zb6 (hE.sub i (by rw[<-hE.len];exact hi)) (Zqk λh=>iF (Zb6 (Zjf _ _) h)))
end Go.Proofs.YtdopppmkbkkmiaaGreatDoor
namespace Go.Proofs.YtdopppmkbkkmiaaGreatDoor
open Go Go.Eng Go.Proofs Go.RowKit
open Go.Value (int slice agg bool string tuple func)
open Go.IntKind (u8 u64 i64)
set_option maxRecDepth 100000
def Zpl:Env:={ EB with
 joins:=swI none [(1,some [(6,.bool)])]
 frzNew:=[3] }
theorem ZmM(aA:Int)(aM:Option Addr)(aK aN:Nat)(aJ:Option Addr)(aI aO:Nat)(p1 p2:Int)(m:Mem)(R:RT)(h:
 lV [int i64 aA,slice aM aK aN,slice aJ aI aO] λxL=>fzM m xL λb m'=>∃(b_1:Bool),lV [bool b_1] λxL_1=>lE [some (Box.mk b xL 30 3 true true)] λxL_2=>(kB pG 39 [agg (.mk xL)] m' λb m'
 => br b (br (decide (p1 ≥ 0)) (br (decide (p1 < (↑aI:Int))) (br (decide (p2 ≥ 0)) (atA aJ λb o=>Zag p1 aI/\∃(v:Value),m' b (o+Int.toNat p1*2+1)=some v/\chk (Zbl v) (Zae xL_2/\[bool (decide
 (p2 < (↑(slN v):Int)))]=xL_1)) (Zae xL_2/\[bool false]=xL_1)) (Zae xL_2/\[bool false]=xL_1)) (Zae xL_2/\[bool false]=xL_1)) (Zae xL_2/\[bool false]=xL_1))/\rtM m m' R (bool b_1)):CX Tryz.prog 42 #[.agg #[.int .i64 aA,.slice aM aK aN,.slice aJ aI aO],.int .i64 p1,.int .i64 p2] m [] R:=
 Zad (E:=Zpl) Zal mix Tryz.func42 (by kernel_rfl) (Eq.mp (by kernel_rfl) h)
end Go.Proofs.YtdopppmkbkkmiaaGreatDoor
namespace Go.Proofs.YtdopppmkbkkmiaaGreatDoor
open Go Go.Eng Go.Rx Go.Proofs Go.RowKit Go.Shelf
set_option maxRecDepth 100000
end Go.Proofs.YtdopppmkbkkmiaaGreatDoor
namespace Go.Proofs.YtdopppmkbkkmiaaGreatDoor
open Go Go.Eng Go.Rx Go.Proofs Go.RowKit
set_option maxRecDepth 100000
theorem Zv7(s:Sc)(i k:Int)(m:Mem)(hr:RepC m s):CX Tryz.prog 42 #[s.v,.int .i64 i,.int .i64 k] m [] (Ret (.bool (Zie s i k))):=by
 apply ZmM
 intro b m1 aB _
 refine⟨Zie s i k,Zah (Zda s m1 (hr.mono aB)) λm2 aH=>?_,Zac aB rfl⟩
 refine Zab (λh1=>Zab (λh2=>Zab (λh3=>Zab (λh4=>?_) (λh4=>⟨rfl,?_⟩)) (λh3=>⟨rfl,?_⟩)) (λh2=>⟨rfl,?_⟩)) (λh1=>⟨rfl,?_⟩)
 ·have h2':0<=i:=zA6 h2
  have h3':i < s.states.length:=zA6 h3
  obtain⟨x,hx⟩:=ZaK (l:=s.states) (k:=i.toNat) (by omega)
  obtain⟨bs,o,ha,bU⟩:=Zap Sta.len (hr.mono (mLt aB aH)).row hx (by omega)
  refine⟨bs,o,ha,⟨h2',h3'⟩,_,bU 1 _ rfl,Zaa rfl ⟨rfl,?_⟩⟩
  simp only[Zie,h1,h2,h3,h4,hx,Bool.true_and]
  rfl
 ·simp only[Zie,h1,h2,h3,h4,Bool.true_and,Bool.false_and]
 ·simp only[Zie,h1,h2,h3,Bool.true_and,Bool.false_and]
 ·simp only[Zie,h1,h2,Bool.true_and,Bool.false_and]
 ·simp only[Zie,h1,Bool.false_and]
theorem Zzy{s:Sc}{n:Int}{a a1:Option Addr}{p c p1 c1:Nat}(h:Value.agg #[.int .i64 n,.slice a p c,.slice a1 p1 c1]=s.v):n=s.n/\a=s.va/\p=s.vars.length/\c=s.vc/\a1=s.sa/\p1=s.states.length/\c1=s.sc:=by
 simpa[Sc.v,and_assoc]using h
end Go.Proofs.YtdopppmkbkkmiaaGreatDoor
namespace Go.Proofs.YtdopppmkbkkmiaaGreatDoor
open Go Go.Eng Go.Proofs Go.RowKit
open Go.Value (int slice agg bool string tuple func)
open Go.IntKind (u8 u64 i64)
set_option maxRecDepth 100000
def Zv8:Env:={ EB with
 frzNew:=[1] }
theorem ZtB(aA:Int)(aC aD:Bool)(aE aZ aW aV dP dQ eC:Int)(cB:Option Addr)(cC cD:Nat)(cU:ByteArray)(cP:Int)(cJ:Option Addr)(cK cL:Nat)(dC:ByteArray)(dD:Int)(m:Mem)(R:RT)(h:
 lV [int u8 aA,bool aC,bool aD,int u8 aE,int u64 aZ,int u64 aW,int u64 aV,int u64 dP,int i64 dQ,int i64 eC,slice cB cC cD,string cU,int i64 cP,slice cJ cK cL,string
 dC,int i64 dD] λxL=>fzM m xL λb m'=>∀(b:Nat) b,m'.free b->∀(b_1:Nat),Mem.free (m'.add b xL) b_1->rtM m (Mem.add (m'.add b xL) b_1 [string bE0,slice (some (Addr.mk b 0 none)) 1 1]) R (agg (.mk [int i64
 0,slice none 0 0,slice (some (Addr.mk b_1 0 none)) 1 1]))):CX Tryz.prog 40 #[.agg #[.int .u8 aA,.bool aC,.bool aD,.int .u8 aE,.int .u64 aZ,.int .u64 aW,.int .u64 aV,.int .u64 dP,.int .i64 dQ,.int .i64 eC,.slice cB cC cD,.string cU,.int .i64 cP,.slice cJ cK cL,.string dC,.int .i64 dD]] m [] R:=
 Zad (E:=Zv8) Zal mix Tryz.func40 (by kernel_rfl) (Eq.mp (by kernel_rfl) h)
end Go.Proofs.YtdopppmkbkkmiaaGreatDoor
namespace Go.Proofs.YtdopppmkbkkmiaaGreatDoor
open Go Go.Eng Go.Rx Go.Proofs Go.RowKit
set_option maxRecDepth 100000
theorem Zzz(r:Ru)(m:Mem)(hr:RepR m r):CX Tryz.prog 40 #[.agg r.cs.toArray] m [] (λv m' _=>∃s:Sc,v=s.v/\RepC m' s/\s.light=Zl7 r):=by
 apply ZtB
 intro b m1 aB _ b1 b2 jr b3 gZ
 have h2:m1.le (m1.add b2 r.cs):=Mem.le_add jr _
 have h3:(m1.add b2 r.cs).le ((m1.add b2 r.cs).add b3 [.string ⟨#[]⟩,.slice (some ⟨b2,0,none⟩) 1 1]):=Mem.le_add gZ _
 have uS:=mLt aB (mLt h2 h3)
 refine⟨_,uS,Mem.le_refl _,⟨0,none,0,[],some ⟨b3,0,none⟩,1,[⟨⟨#[]⟩,some ⟨b2,0,none⟩,1,[r]⟩]⟩,rfl,⟨by show I64 0;unfold I64;omega,by show 0<=few;omega,.inl rfl,by simp,by show 1<=few;unfold few;omega,ZcA,λx hx=>?_,Nat.le_refl _,Nat.le_refl _⟩,?_⟩
 ·simp only[List.mem_singleton]at hx
  subst hx
  have aF:rowRd (m1.add b2 r.cs) (some ⟨b2,0,none⟩) ([r].map Ru.cs).flatten:=by simpa using(ZcA (m:=m1) (b:=b2) (cs:=r.cs))
  exact⟨by show(ByteArray.mk #[]).size<=_;decide,by show 1<=few;unfold few;omega,aF.mono h3,λp hp=>by
   simp only[List.mem_singleton]at hp;subst hp;exact hr.mono uS⟩
 ·unfold Sc.light Sc.weight Zl7
  simp only[List.length_nil,List.length_singleton,List.map_cons,List.map_nil,ZbA,wS]
  congr 1
  refine propext ?_
  constructor <;> intro h <;> simp only[Int.add_zero]at h ⊢ <;> omega
theorem Zv9{r:Ru}:∀(v:Value)(m':Mem) (css:List (List Value)),(∃s:Sc,v=s.v/\RepC m' s/\s.light=Zl7 r)->Shape.fits (.agg [.int .i64,.slice,.slice]) v=true:=λv _ _ ⟨t,e,_⟩=>by rw[e];rfl
end Go.Proofs.YtdopppmkbkkmiaaGreatDoor
namespace Go.Proofs.YtdopppmkbkkmiaaGreatDoor
open Go Go.Eng Go.Proofs Go.RowKit
open Go.Value (int slice agg bool string tuple func)
open Go.IntKind (u8 u64 i64)
set_option maxRecDepth 100000
def ZkF:Env:=EB
theorem Ze0(p0:Int)(m:Mem)(R:RT)(h:
 ∀(b b:Nat),lE (u8.wrap (Int.tdiv p0 (64:Int))) λyL=>lE (1+Int.toNat yL*1) λyL_1=>lV (ZaD [int u8 2,int u64 0,int u64 0,int u64 0,int u64 0,int i64 0,int i64 0,slice none 0 0] yL_1 [int u64 (u64.wrap
 ((1:Int)*(2:Int) ^ min (Int.toNat (Int.tmod p0 (64:Int))) 64))]) λxL=>(64:Int)≠0/\(64:Int)≠0/\(0:Int)<=Int.tmod p0 (64:Int)/\Zag yL 4/\chk (Nat.ble yL_1 (nat_lit 7)) (chk (Nat.beq (xL.length) 8 &&
 Zdv xL) (rtM m m R (agg (.mk xL))))):CX Tryz.prog 57 #[.int .u8 p0] m [] R:=
 Zad (E:=ZkF) Zal mix Tryz.func57 (by kernel_rfl) (Eq.mp (by kernel_rfl) h)
def ZkG:Env:=EB
theorem ZiQ  (m:Mem)(R:RT)(h:
 ∀(b:Nat),∃R_1,True/\CX pG 57 (.mk [int u8 120]) m [] R_1/\Za6 (shT) R_1/\∀n n_1 n_2 n_3 n_4 n_5 n_6 a n_7 c m',lV [int u8 n,int u64 n_1,int u64 n_2,int u64 n_3,int u64 n_4,int i64 n_5,int i64 n_6,slice a n_7 c]
 λxL=>m.le m'->R_1 (agg (.mk xL)) m' []->∀b,m'.free b->∃R_2,True/\CX pG 57 (.mk [int u8 121]) (m'.add b xL) [] R_2/\Za6 (shT) R_2/\∀n n_8 n_9 n_10 n_11 n_12 n_13 a n_14 c (m'_1:Mem),lV [int u8 n,int u64 n_8,
 int u64 n_9,int u64 n_10,int u64 n_11,int i64 n_12,int i64 n_13,slice a n_14 c] λxL_1=>Mem.le (m'.add b xL) m'_1->R_2 (agg (.mk xL_1)) m'_1 []->∀b_1,m'_1.free b_1->rtM m (m'_1.add b_1 (int u8 6::int u64 0::int
 u64 0::int u64 0::int u64 0::int i64 0::int i64 0::slice (some (Addr.mk b 0 none)) 1 1::xL_1)) R (agg (.mk [bool false,bool false,int u8 3,int u64 0,int u64 0,int u64 0,int u64 0,int i64 0,int i64 0,slice
 (some (Addr.mk b_1 0 none)) 2 2]))):CX Tryz.prog 29 #[] m [] R:=
 Zad (E:=ZkG) Zal mix Tryz.func29 (by kernel_rfl) (Eq.mp (by kernel_rfl) h)
def Zpm:Env:={ EB with
 frzNew:=[1] }
theorem ZmN(aA:Int)(aC aD:Bool)(aE aZ aW aV dP dQ eC:Int)(cB:Option Addr)(cC cD:Nat)(cU:ByteArray)(cP:Int)(cJ:Option Addr)(cK cL:Nat)(dC:ByteArray)(dD:Int)(m:Mem)(R:RT)(h:
 lV [int u8 aA,bool aC,bool aD,int u8 aE,int u64 aZ,int u64 aW,int u64 aV,int u64 dP,int i64 dQ,int i64 eC,slice cB cC cD,string cU,int i64 cP,slice cJ cK cL,string
 dC,int i64 dD] λxL=>fzM m xL λb m'=>∀(b:Nat) b,lM (m'.add b [string (.mk (.mk [110])),bool true,string bE0,Value.float FloatKind.f64 0,string (.mk (.mk [116])),bool false,string bE0,Value.float .f64 0])
 λmL=>m'.free b->∀b_1,mL.free b_1->∀(b_2:Nat),Mem.free (mL.add b_1 xL) b_2->rtM m (Mem.add (mL.add b_1 xL) b_2 [string (.mk (.mk [97])),slice (some (Addr.mk b_1 0 none)) 1 1]) R (agg (.mk [int i64 9,slice (some
 (Addr.mk b 0 none)) 2 2,slice (some (Addr.mk b_2 0 none)) 1 1]))):CX Tryz.prog 28 #[.agg #[.int .u8 aA,.bool aC,.bool aD,.int .u8 aE,.int .u64 aZ,.int .u64 aW,.int .u64 aV,.int .u64 dP,.int .i64 dQ,.int .i64 eC,.slice cB cC cD,.string cU,.int .i64 cP,.slice cJ cK cL,.string dC,.int .i64 dD]] m [] R:=
 Zad (E:=Zpm) Zal mix Tryz.func28 (by kernel_rfl) (Eq.mp (by kernel_rfl) h)
def ZmO:Env:={ EB with
 loops:=swI nLa [(3,⟨[(9,.int .i64)],[3],[(18,8)],false⟩)]
 tokOf:=swI 0 [(18,18)] }
theorem ZkH(p0a:Option Addr)(p0n p0c:Nat)(m:Mem)(R:RT)(h:
 ∀b,∃I,inI I [int i64 0] [[int u8 1,string bE0,slice none 0 0,int u8 0,Value.float .f64 0,string bE0,int i64 0,slice none 0 0]] [slice none 0 0] m/\∀n (cs:List Value) a n_1 c m' (n_2:Nat),m.le m'->I [int i64 n]
 [cs] [slice a n_1 c] m' n_2->br (decide (n < (↑p0n:Int))) (atA p0a λb_1 o=>Zag n p0n/\∃(v:Value),lV (Array.toList (Value.cells v)) λxL=>lV (List.append xL (List.drop (2+xL.length) [int u8 3,string bE0,int
 i64 0,int u8 0,Value.float .f64 0,string bE0,int i64 0,slice none 0 0])) λxL_1=>lV (int u8 3::string bE0::List.append xL_1 []) λxL_2=>m' b_1 (o+Int.toNat n*1)=some v/\Eng.Zt7 cs 2 λv=>lE (slN v+1)
 λyL=>chk (Nat.beq (xL.length) 1&&true) (chk (Nat.beq (xL_1.length) (nat_lit 6)&&true) (∀b_2,lM (m'.add b_2 xL_2) λmL=>m'.free b_2->chk (Zbl v&&true) ((Tok.mk (slice a n_1 c) 8=Tok.mk v 8\/v=slice none 0 0
 \/ slC v < yL)/\∃(xs:List Value),∃(ys:List Value),xs.length=slN v*8/\ys.length=1*8/\rowRd mL (slA v) xs/\rowRd mL (some (Addr.mk b_2 0 none)) ys/\(∀(u:Value),u∈ys->u.oneCell'=true)/\yL*96 <=
 140737488355328/\yL<=9223372036854775807/\∀(a':Option Addr) c' m',mL.le m'->rowRd m' a' (List.append xs ys)->chk (Nat.ble 3 (cs.length)) (Zae [some (Box.mk b [] 57 8 false true)]/\nxI n_2 I [int i64 (i64.wrap (n +
 1))] [ZaD cs 2 [slice a' yL c']] [slice a' yL c'] m'))))) (chk (Nat.beq (cs.length) 8&&true) (∀b,m'.free b->rtM m (m'.add b (List.append cs [])) R (slice (some (Addr.mk b 0 none)) 1 1)))):CX Tryz.prog 30 #[.slice p0a p0n p0c] m [] R:=
 Zad (E:=ZmO) Zal mix Tryz.func30 (by kernel_rfl) (Eq.mp (by kernel_rfl) h)
def ZhH:Env:=EB
theorem Zgs(p0 p1 p2 p3:Int)(m:Mem)(R:RT)(h:
 ∀(b:Nat),rtM m m R (agg (.mk [int i64 (-1),int i64 p0,int i64 p1,int i64 p2,int i64 p3]))):CX Tryz.prog 27 #[.int .i64 p0,.int .i64 p1,.int .i64 p2,.int .i64 p3] m [] R:=
 Zad (E:=ZhH) Zal mix Tryz.func27 (by kernel_rfl) (Eq.mp (by kernel_rfl) h)
def ZkI:Env:={ EB with
 loops:=swI nLa [(7,⟨[(85,.int .i64)],[],[],false⟩)]
 joins:=swI none [(10,some [(112,.bool)])]
 dr:=swI [] [(6,[dO 0 [],⟨1,[25],[25],none,[],[]⟩,⟨2,[25],[25],none,[0,1],[0,1]⟩,dO 3 [0,1,2],⟨4,[],[],none,[0,1,2,3],[2]⟩,dO 5 [],⟨6,[],[],none,[0,1,2,3,4,5],[4]⟩,dO 7 [0,1,2,3,4,5,6],⟨8,[],[],none,[0,1,2,3,4,5,6],[6]⟩,⟨9,[33],[33],none,[],[]⟩,⟨10,[33],[33],none,[0,1,2,3,4,5,6,8,9],[8,9]⟩,dO 11 [0,1,2,3,4,5,6,8,9,10],⟨12,[],[],none,[0,1,2,3,4,5,6,8,9,10,11],[10]⟩,dO 13 [],⟨14,[],[],none,rg 0 7++rg 8 6,[12]⟩,dO 15 (rg 0 7++rg 8 7),⟨16,[40],[40],none,[],[]⟩,⟨17,[40],[40],none,rg 0 7++rg 8 7++[16],[14,16]⟩,dO 18 (rg 0 7++rg 8 7++[16,17]),⟨19,[],[],none,rg 0 7++rg 8 7++[16,17,18],[17]⟩,dO 20 [],⟨21,[],[],none,rg 0 7++rg 8 7++rg 16 5,[19]⟩,dO 22 (rg 0 7++rg 8 7++rg 16 6),dO 23 [],⟨24,[],[],none,rg 0 7++rg 8 7++rg 16 6++[23],[21]⟩,dO 25 [],⟨26,[],[],none,rg 0 7++rg 8 7++rg 16 6++[23,24,25],[24]⟩,dO 27 (rg 0 7++rg 8 7++rg 16 6++rg 23 4),⟨28,[11],[],none,[],[]⟩,⟨29,[11],[],none,[28],[]⟩,⟨30,[],[],none,rg 0 7++rg 8 7++rg 16 6++rg 23 4++[28,29],[26]⟩,dO 31 [],⟨32,[],[],none,rg 0 7++rg 8 7++rg 16 6++rg 23 4++rg 28 4,[30]⟩,dO 33 (rg 0 7++rg 8 7++rg 16 6++rg 23 4++rg 28 5),⟨34,[15],[],none,[],[]⟩,⟨35,[15],[],none,[34],[]⟩,⟨36,[],[],none,rg 0 7++rg 8 7++rg 16 6++rg 23 4++rg 28 5++[34,35],[32]⟩,dO 37 [],⟨38,[],[],none,rg 0 7++rg 8 7++rg 16 6++rg 23 4++rg 28 5++rg 34 4,[36]⟩,dO 39 (rg 0 7++rg 8 7++rg 16 6++rg 23 4++rg 28 5++rg 34 5),⟨40,[4],[],none,[],[]⟩,dO 41 [],⟨42,[],[],none,rg 0 7++rg 8 7++rg 16 6++rg 23 4++rg 28 5++rg 34 5++[41],[38]⟩,dO 43 (rg 0 7++rg 8 7++rg 16 6++rg 23 4++rg 28 5++rg 34 5++[40,41,42]),dO 44 [],dO 45 [],⟨46,[],[],none,rg 0 7++rg 8 7++rg 16 6++rg 23 4++rg 28 5++rg 34 5++[41,42,45],[42]⟩,dO 47 (rg 0 7++rg 8 7++rg 16 6++rg 23 4++rg 28 5++rg 34 5++[41,42,44,45,46]),dO 48 [],dO 49 [],⟨50,[],[],none,rg 0 7++rg 8 7++rg 16 6++rg 23 4++rg 28 5++rg 34 5++[41,42,45,46,49],[46]⟩,dO 51 (rg 0 7++rg 8 7++rg 16 6++rg 23 4++rg 28 5++rg 34 5++[41,42,45,46,48,49,50]),⟨52,[76],[76],none,[],[]⟩,⟨53,[76],[76],none,rg 0 7++rg 8 7++rg 16 6++rg 23 4++rg 28 5++rg 34 5++[41,42,45,46,49,50,52],[50,52]⟩,dO 54 (rg 0 7++rg 8 7++rg 16 6++rg 23 4++rg 28 5++rg 34 5++[41,42,45,46,49,50,52,53]),⟨55,[],[],none,rg 0 7++rg 8 7++rg 16 6++rg 23 4++rg 28 5++rg 34 5++[41,42,45,46,49,50,52,53,54],[53]⟩,dO 56 [],⟨57,[],[],none,rg 0 7++rg 8 7++rg 16 6++rg 23 4++rg 28 5++rg 34 5++[41,42,45,46,49,50]++rg 52 5,[55]⟩,dO 58 (rg 0 7++rg 8 7++rg 16 6++rg 23 4++rg 28 5++rg 34 5++[41,42,45,46,49,50]++rg 52 6),⟨59,[83],[83],none,rg 0 59,[57]⟩,⟨60,[83],[],none,rg 0 60,[]⟩,dO 61 []])]
 tokOf:=swI 0 [(22,22)]
 capF:=true }
theorem ZiR  (m:Mem)(R:RT)(h:
 ∀(b:Nat),lV [agg (.mk [int u8 3,bool false,bool false,int u8 0,int u64 0,int u64 0,int u64 0,int u64 0,int i64 0,int i64 0,slice none 0 0,string bE0,int i64 0,slice (some (Addr.mk b 0 none)) 1 1,string bE0,int
 i64 0])] λxL=>lM (m.add b [int u8 3,string (.mk (.mk [110])),slice none 0 0,int u8 9,Value.float .f64 0,string (.mk (.mk [109])),int i64 0,slice none 0 0]) λmL=>lE [some (Box.mk b [int u8 3,string (.mk (.mk
 [110])),slice none 0 0,int u8 9,Value.float .f64 0,string (.mk (.mk [109])),int i64 0,slice none 0 0] 57 8 true true)] λe0=>m.free b->∀b,lM (mL.add b [int u8 1,string (.mk (.mk [120])),int i64 0,int u8 0,
 Value.float .f64 0,string bE0,int i64 0,slice none 0 0]) λa7=>lE (some (Box.mk b [int u8 1,string (.mk (.mk [120])),int i64 0,int u8 0,Value.float .f64 0,string bE0,int i64 0,slice none 0 0] 54 8 true true)::e0)
 λe1=>lV [int u8 2,string (.mk (.mk [110])),slice (some (Addr.mk b 0 none)) 1 1,int u8 0,Value.float .f64 0,string bE0,int i64 0,slice none 0 0] λa8=>mL.free b->∀b,lE (some (Box.mk b a8 57 8 true true)::e1)
 λe2=>lV [agg (.mk [int u8 3,bool false,bool false,int u8 0,int u64 0,int u64 0,int u64 0,int u64 0,int i64 0,int i64 0,slice none 0 0,string bE0,int i64 0,slice (some (Addr.mk b 0 none)) 1 1,string bE0,int i64
 0])] λbg=>a7.free b->∃R_1,True/\CX pG 28 (.mk [agg (.mk [int u8 3,bool false,bool false,int u8 0,int u64 0,int u64 0,int u64 0,int u64 0,int i64 0,int i64 0,slice none 0 0,string bE0,int i64 0,slice none 0 0,
 string bE0,int i64 0])]) (a7.add b a8) [] R_1/\Za6 (.agg [.int i64,.slice,.slice]) R_1/\∀n a e3 c a9 (ay:Nat) ba (m':Mem),lX (int i64 n) λyL=>lX (slice a e3 c) λbb=>lE (ay+1) λav=>Mem.le (a7.add b a8)
 m'->R_1 (agg (.mk [yL,bb,slice a9 ay ba])) m' []->∀b az,lM (m'.add az [string (.mk (.mk [97])),slice none 0 0]) λmL=>lE (some (Box.mk az [string (.mk (.mk [97])),slice none 0 0] 34 2 true true)) λe4=>m'.free az->
 (slice a9 ay ba=slice none 0 0\/ba < av)/\∃(xs:List Value),∃(ys:List Value),xs.length=ay*2/\ys.length=1*2/\rowRd mL a9 xs/\rowRd mL (some (Addr.mk az 0 none)) ys/\(∀(u:Value),u∈ys->u.oneCell'=true)
 /\ av*40<=140737488355328/\av<=9223372036854775807/\∀a' c' m',lX (slice a' av c') λbc=>lE [some (Tok.mk bc 2)] λaa=>lE (e4::some (Box.mk b [yL,bb,bc] 30 3 false true)::e2) λe5=>mL.le m'->rowRd m' a'
 (List.append xs ys)->av<=c'->∃(f:Fx),∃R_2,R_2=f 0 [] m'/\CX pG 29 (.mk []) m' [] R_2/\Za6 (.agg [.bool,.bool,.int u8,.int u64,.int u64,.int u64,.int u64,.int i64,.int i64,.slice]) R_2/\∀(b bh:Bool) n e6
 e7 e8 e9 fa fb a fc c a0,lX (int u8 n) λbi=>lX (int u64 e7) λbj=>lX (int u64 e6) λbk=>lX (int u64 e8) λbl=>lX (int i64 fb) λbm=>lX (int u64 e9) λbn=>lX (int i64 fa) λbo=>lX (slice a fc c) λbp
 => m'.le a0->R_2 (agg (.mk [bool b,bool bh,bi,bk,bj,bl,bn,bo,bm,bp])) a0 []->∀(a1:Nat),lV [slice (some (Addr.mk a1 0 none)) 2 2] λbq=>lM (m'.add a1 [int i64 1,int i64 2]) λmL=>lE (some (Box.mk a1 [int i64
 1,int i64 2] 3 2 true true)) λbs=>m'.free a1->∀V,m'.le V->a0.le V->mL.le V->∃R_3,R_3=f 2 bq V/\CX pG 30 (.mk bq) V [] R_3/\Za6 .slice R_3/\∀a n c ab,lV [agg (.mk [int u8 1,bool b,bool bh,bi,bk,bj,bl,
 bn,bo,bm,bp,string bE0,int i64 0,slice a n c,string (.mk (.mk [97])),int i64 0])] λbt=>V.le ab->R_3 (slice a n c) ab []->∃R_4,R_4=f 4 bt ab/\CX pG 28 (.mk bt) ab [] R_4/\Za6 (.agg [.int i64,.slice,.slice])
 R_4/\∀n a fd c fe ff fg ac,lX (int i64 n) λbu=>lX (slice fe ff fg) λbv=>lX (slice a fd c) λbw=>ab.le ac->R_4 (agg (.mk [bu,bw,bv])) ac []->∃R_5,R_5=f 6 [int i64 0,int i64 0,int i64 0,int i64 1] ac/\CX
 pG 27 (.mk [int i64 0,int i64 0,int i64 0,int i64 1]) ac [] R_5/\Za6 (.agg [.int i64,.int i64,.int i64,.int i64,.int i64]) R_5/\∀n fh fi fj fk ad,lX (int i64 n) λbx=>lX (int i64 fi) λbz=>lX (int i64 fk) fun
 ca=>lX (int i64 fj) λcb=>lX (int i64 fh) λcc=>ac.le ad->R_5 (agg (.mk [bx,cc,bz,cb,ca])) ad []->∃R_6,R_6=f 8 [] ad/\CX pG 29 (.mk []) ad [] R_6/\Za6 (.agg [.bool,.bool,.int u8,.int u64,.int u64,.int
 u64,.int u64,.int i64,.int i64,.slice]) R_6/\∀(b cd:Bool) n fl fm fn fo fp fq a fr c a2,lX (int u64 fl) λce=>lX (int u64 fo) λcf=>lX (int i64 fq) λcg=>lX (int u8 n) λch=>lX (int i64 fp) λci=>lX
 (int u64 fn) λcj=>lX (int u64 fm) λck=>lX (slice a fr c) λcl=>ad.le a2->R_6 (agg (.mk [bool b,bool cd,ch,ce,ck,cj,cf,ci,cg,cl])) a2 []->∀(a3:Nat),lV [slice (some (Addr.mk a3 0 none)) 2 2] λcm=>lM
 (m'.add a3 [int i64 1,int i64 0]) λcn=>lE (some (Box.mk a3 [int i64 1,int i64 0] 3 2 true true)) λco=>m'.free a3->∀V,m'.le V->a2.le V->cn.le V->∃R_7,R_7=f 10 cm V/\CX pG 30 (.mk cm) V [] R_7/\Za6 .slice
 R_7/\∀a n c ae,lV [agg (.mk [int u8 1,bool b,bool cd,ch,ce,ck,cj,cf,ci,cg,cl,string bE0,int i64 0,slice a n c,string (.mk (.mk [97])),int i64 0])] λcp=>V.le ae->R_7 (slice a n c) ae []->∃R_8,R_8=f 12
 cp ae/\CX pG 28 (.mk cp) ae [] R_8/\Za6 (.agg [.int i64,.slice,.slice]) R_8/\∀n a fs c ft fu fv af,lX (int i64 n) λcq=>lX (slice ft fu fv) λcr=>lX (slice a fs c) λcs=>ae.le af->R_8 (agg (.mk [cq,cs,cr]))
 af []->∃R_9,R_9=f 14 [int i64 (-1),int i64 (-1),int i64 (-1),int i64 (-1)] af/\CX pG 27 (.mk [int i64 (-1),int i64 (-1),int i64 (-1),int i64 (-1)]) af [] R_9/\Za6 (.agg [.int i64,.int i64,.int i64,.int i64,.int
 i64]) R_9/\∀n fw fx fy fz a4,lX (int i64 fy) λct=>lX (int i64 n) λcu=>lX (int i64 fx) λcv=>lX (int i64 fz) λcw=>lX (int i64 fw) λcx=>af.le a4->R_9 (agg (.mk [cu,cx,cv,ct,cw])) a4 []->∀b,lM
 (m'.add b [int i64 0]) λcy=>lV [slice (some (Addr.mk b 0 none)) 1 1] λcz=>lE (some (Box.mk b [int i64 0] 3 1 true true)) λda=>m'.free b->∀V,m'.le V->a4.le V->cy.le V->∃R_10,R_10=f 17 cz V/\CX pG 30 (.mk
 cz) V [] R_10/\Za6 .slice R_10/\∀a n c ag,lV [agg (.mk [int u8 2,bool false,bool false,int u8 0,int u64 0,int u64 0,int u64 0,int u64 0,int i64 0,int i64 0,slice none 0 0,string (.mk (.mk [97,98])),int i64 0,
 slice a n c,string bE0,int i64 256])] λdb=>V.le ag->R_10 (slice a n c) ag []->∃R_11,R_11=f 19 db ag/\CX pG 28 (.mk db) ag [] R_11/\Za6 (.agg [.int i64,.slice,.slice]) R_11/\∀n a f0 c f1 f2 f3 ah,lX (int i64 n)
 λdc=>lX (slice a f0 c) λdd=>lX (slice f1 f2 f3) λde=>ag.le ah->R_11 (agg (.mk [dc,dd,de])) ah []->∃R_12,R_12=f 21 [int i64 0,int i64 0,int i64 (-1),int i64 (-1)] ah/\CX pG 27 (.mk [int i64 0,int i64 0,
 int i64 (-1),int i64 (-1)]) ah [] R_12/\Za6 (.agg [.int i64,.int i64,.int i64,.int i64,.int i64]) R_12/\∀n f4 f5 f6 f7 ai,lX (int i64 f4) λdf=>lX (int i64 f5) λdg=>lX (int i64 f7) λdh=>lX (int i64 f6) fun
 di=>lX (int i64 n) λdj=>ah.le ai->R_12 (agg (.mk [dj,df,dg,di,dh])) ai []->∃R_13,R_13=f 24 [agg (.mk [int u8 4,bool false,bool false,int u8 0,int u64 0,int u64 0,int u64 0,int u64 0,int i64 0,int i64 0,
 slice none 0 0,string bE0,int i64 0,slice none 0 0,string bE0,int i64 0])] ai/\CX pG 28 (.mk [agg (.mk [int u8 4,bool false,bool false,int u8 0,int u64 0,int u64 0,int u64 0,int u64 0,int i64 0,int i64 0,slice none
 0 0,string bE0,int i64 0,slice none 0 0,string bE0,int i64 0])]) ai [] R_13/\Za6 (.agg [.int i64,.slice,.slice]) R_13/\∀n a f8 c f9 ga gb aj,lX (int i64 n) λdk=>lX (slice a f8 c) λdl=>lX (slice f9 ga gb) fun
 dm=>ai.le aj->R_13 (agg (.mk [dk,dl,dm])) aj []->∃R_14,R_14=f 26 [int i64 0,int i64 0,int i64 (-1),int i64 (-1)] aj/\CX pG 27 (.mk [int i64 0,int i64 0,int i64 (-1),int i64 (-1)]) aj [] R_14/\Za6 (.agg [.int
 i64,.int i64,.int i64,.int i64,.int i64]) R_14/\∀n gc gd ge gf ak,lX (int i64 n) λdn=>lX (int i64 gc) λdp=>lX (int i64 gd) λdq=>lX (int i64 ge) λdr=>lX (int i64 gf) λds=>aj.le ak->R_14 (agg (.mk
 [dn,dp,dq,dr,ds])) ak []->∃R_15,R_15=f 30 xL ak/\CX pG 28 (.mk xL) ak [] R_15/\Za6 (.agg [.int i64,.slice,.slice]) R_15/\∀n a gg c gh gi gj al,lX (int i64 n) λdt=>lX (slice a gg c) λdu=>lX (slice gh gi
 gj) λdv=>ak.le al->R_15 (agg (.mk [dt,du,dv])) al []->∃R_16,R_16=f 32 [int i64 0,int i64 0,int i64 0,int i64 (-1)] al/\CX pG 27 (.mk [int i64 0,int i64 0,int i64 0,int i64 (-1)]) al [] R_16/\Za6 (.agg [.int
 i64,.int i64,.int i64,.int i64,.int i64]) R_16/\∀n gk gl gm gn am,lX (int i64 gm) λdw=>lX (int i64 gl) λdx=>lX (int i64 gn) λdy=>lX (int i64 n) λdz=>lX (int i64 gk) λd0=>al.le am->R_16 (agg (.mk
 [dz,d0,dx,dw,dy])) am []->∃R_17,R_17=f 36 bg am/\CX pG 28 (.mk bg) am [] R_17/\Za6 (.agg [.int i64,.slice,.slice]) R_17/\∀n a go c gp gq gr an,lX (int i64 n) λd1=>lX (slice a go c) λd2=>lX (slice gp gq
 gr) λd3=>am.le an->R_17 (agg (.mk [d1,d2,d3])) an []->∃R_18,R_18=f 38 [int i64 0,int i64 0,int i64 0,int i64 (-1)] an/\CX pG 27 (.mk [int i64 0,int i64 0,int i64 0,int i64 (-1)]) an [] R_18/\Za6 (.agg [.int
 i64,.int i64,.int i64,.int i64,.int i64]) R_18/\∀n gs gt gu gv ao,lX (int i64 n) λd4=>lX (int i64 gu) λd5=>lX (int i64 gv) λd6=>lX (int i64 gs) λd7=>lX (int i64 gt) λd8=>an.le ao->R_18 (agg (.mk
 [d4,d7,d8,d5,d6])) ao []->∃R_19,R_19=f 42 [int i64 1,int i64 (-1),int i64 (-1),int i64 (-1)] ao/\CX pG 27 (.mk [int i64 1,int i64 (-1),int i64 (-1),int i64 (-1)]) ao [] R_19/\Za6 (.agg [.int i64,.int i64,.int
 i64,.int i64,.int i64]) R_19/\∀n gw gx gy gz ap,lX (int i64 gw) λd9=>lX (int i64 gy) λea=>lX (int i64 n) λeb=>lX (int i64 gz) λec=>lX (int i64 gx) λed=>ao.le ap->R_19 (agg (.mk [eb,d9,ed,ea,ec]))
 ap []->∃R_20,R_20=f 46 [int i64 (-1),int i64 (-1),int i64 (-1),int i64 (-1)] ap/\CX pG 27 (.mk [int i64 (-1),int i64 (-1),int i64 (-1),int i64 (-1)]) ap [] R_20/\Za6 (.agg [.int i64,.int i64,.int i64,.int i64,
 .int i64]) R_20/\∀n g0 g1 g2 g3 aq,lX (int i64 g3) λee=>lX (int i64 g1) λef=>lX (int i64 g0) λeg=>lX (int i64 g2) λeh=>lX (int i64 n) λei=>ap.le aq->R_20 (agg (.mk [ei,eg,ef,eh,ee])) aq []->∃
 R_21,R_21=f 50 [int i64 (-1),int i64 (-1),int i64 (-1),int i64 (-1)] aq/\CX pG 27 (.mk [int i64 (-1),int i64 (-1),int i64 (-1),int i64 (-1)]) aq [] R_21/\Za6 (.agg [.int i64,.int i64,.int i64,.int i64,.int i64])
 R_21/\∀n g4 g5 g6 g7 a5,lX (int i64 g5) λej=>lX (int i64 g4) λek=>lX (int i64 g6) λel=>lX (int i64 n) λem=>lX (int i64 g7) λen=>aq.le a5->R_21 (agg (.mk [em,ek,ej,el,en])) a5 []->∀b,lM (m'.add b
 [int i64 0]) λeo=>lV [slice (some (Addr.mk b 0 none)) 1 1] λxL=>lE (some (Box.mk b [int i64 0] 3 1 true true)) λep=>m'.free b->∀V,m'.le V->a5.le V->eo.le V->∃R_22,R_22=f 53 xL V/\CX pG 30 (.mk xL) V []
 R_22/\Za6 .slice R_22/\∀a n c ar,lV [agg (.mk [int u8 3,bool false,bool false,int u8 0,int u64 0,int u64 0,int u64 0,int u64 0,int i64 0,int i64 0,slice none 0 0,string bE0,int i64 0,slice a n c,string bE0,int
 i64 0])] λxL=>V.le ar->R_22 (slice a n c) ar []->∃R_23,R_23=f 55 xL ar/\CX pG 28 (.mk xL) ar [] R_23/\Za6 (.agg [.int i64,.slice,.slice]) R_23/\∀n a g8 c g9 ha hb au,lX (int i64 n) λeq=>lX (slice a g8 c)
 λer=>lX (slice g9 ha hb) λes=>ar.le au->R_23 (agg (.mk [eq,er,es])) au []->∃R_24,R_24=f 57 [int i64 0,int i64 0,int i64 0,int i64 0] au/\CX pG 27 (.mk [int i64 0,int i64 0,int i64 0,int i64 0]) au [] R_24
 /\ Za6 (.agg [.int i64,.int i64,.int i64,.int i64,.int i64]) R_24/\∀n et eu ev ew aw,lV [bu,bw,bv,bx,cc,bz,cb,ca,int i64 309,cq,cs,cr,cu,cx,cv,ct,cw,int i64 0,dc,dd,de,dj,df,dg,di,dh,int i64 306,
 dk,dl,dm,dn,dp,dq,dr,ds,int i64 304,dt,du,dv,dz,d0,dx,dw,dy,int i64 308,d1,d2,d3,d4,d7,d8,d5,d6,int i64 308,yL,bb,bc,eb,d9,ed,ea,ec,int i64 303,int i64 9,slice none 0 0,slice none 0 0,ei,eg,
 ef,eh,ee,int i64 302,int i64 1,slice none 0 0,slice none 0 0,em,ek,ej,el,en,int i64 300,eq,er,es,int i64 n,int i64 et,int i64 eu,int i64 ev,int i64 ew,int i64 309] λxL=>au.le aw->R_24 (agg (.mk [int i64
 n,int i64 et,int i64 eu,int i64 ev,int i64 ew])) aw []->∀b,lE (bs::bs::co::co::da::da::ep::ep::some (Box.mk b xL 95 90 true true)::e5) λex=>aw.free b->∀M,m'.le M->a0.le M->mL.le M->ab.le M->
 ac.le M->ad.le M->a2.le M->cn.le M->ae.le M->af.le M->a4.le M->cy.le M->ag.le M->ah.le M->ai.le M->aj.le M->ak.le M->al.le M->am.le M->an.le M->ao.le M->ap.le M->aq.le M->a5.le M->eo.le M->ar.le M->au.le M->
 aw.le M->Mem.le (aw.add b xL) M->∃I,inI I [int i64 0] [] [] M/\∀(n:Int) m' (ey:Nat),lV (List.take 9 (List.drop (Int.toNat n*9) xL)) λxL=>lV [agg (.mk (List.take 3 xL))] λez=>M.le m'->I [int i64 n] [] [] m'
 ey->br (decide (n < (↑(10:Nat):Int))) (Zag n 10/\chk (Nat.ble (Int.toNat n*9) (2+1+1+1+1+1+1+1+1+1+1+1+1+1+1+1+1+1+1+1+1+1+1+1+1+1+1+1+1+1+1+1+1+1+1 +
 1+1+1+1+1+1+1+1+1+1+1+1+1+1+1+1+1+1+1+1+1+1+1+1+1+1+1+1+1+1+1+1+1+1+1+1+1+1+1+1+1+1+1+1+1)) (∀b,lE (some (Box.mk b xL 95 9 false true) ::
 ex) λhc=>chk (Nat.beq (xL.length) 9&&Zdv xL) (chk (Nat.ble 3 (xL.length)) (∃R_25,True/\CX pG 20 (.mk ez) m' [] R_25/\Za6 (.tup [.agg [.int i64,.int i64,.int i64,.int i64,.int i64],.int i64]) R_25/\∀hd he hf hg
 hh bd ax,lV [int i64 hd,int i64 he,int i64 hf,int i64 hg,int i64 hh] λbe=>m'.le ax->R_25 (tuple (.mk [agg (.mk be),int i64 bd])) ax []->∀b,∃(a6:Bool),lE (some (Box.mk b be 64 5 false true)::hc) λbf=>chk
 (Nat.ble 8 (xL.length)) (∃(b:Bool),EqIs pG 64 (agg (.mk be)) (agg (.mk (List.take 5 (List.drop 3 xL)))) b/\br (!b) (Zae bf/\aa=aa/\[bool true]=[bool a6]) (Eng.Zt7 xL 8 λv=>chk (ZaR i64 v) (br (!bd ==
 RowKit.intOf v) (Zae bf/\aa=aa/\[bool true]=[bool a6]) (chk (Nat.ble 3 (xL.length)) (kB pG 22 ez ax λb m'=>Zae bf/\aa=aa/\[bool !b == (bd == 0)]=[bool a6])))))/\br a6 (rtM m ax R (bool false)) (Zae ex/\
 aa=aa/\nxI ey I [int i64 (i64.wrap (n+1))] [] [] ax))))) (kT pG 31 [int i64 306] m' λs m'=>rtM m m' R (bool (ByteArray.toList s == ByteArray.toList (.mk (.mk [101,110,100])))))):CX Tryz.prog 6 #[] m [] R:=
 Zad (E:=ZkI) Zal mix Tryz.func6 (by kernel_rfl) (Eq.mp (by kernel_rfl) h)
end Go.Proofs.YtdopppmkbkkmiaaGreatDoor
namespace Go.Proofs.YtdopppmkbkkmiaaGreatDoor
open Go Go.Eng Go.Rx Go.Proofs Go.RowKit
set_option maxRecDepth 100000
theorem Zwa(x:Sta)(name:ByteArray)(b:Nat)(m:Mem)(hb:m.reads b 0 [.string name]):CX Tryz.prog 167 #[.agg x.cs.toArray,.pointer (some ⟨b,0,none⟩)] m [] (Ret (.bool (eqS x.s name))):=by
 apply Zkr (c0b:=b) (c0o:=0)
 intro b1 m1 aB _
 exact⟨_,(hb.mono aB) 0 _ rfl,Zaa rfl (Zac aB rfl)⟩
def Zz4(s:Sc)(name:ByteArray):Value->Mem->List (List Value)->Prop:=λv _ _=>∃n:Int,v=.tuple #[.int .i64 n,.bool (Zeh s name)]
theorem ZtC{s name}:∀(v:Value)(m':Mem) (css:List (List Value)),Zz4 s name v m' css->Shape.fits (.tup [.int .i64,.bool]) v=true:=λv _ _ ⟨_,e⟩=>by rw[e];rfl
theorem Zx8(s:Sc)(name:ByteArray)(m:Mem)(hr:RepC m s):CX Tryz.prog 134 #[s.v,.string name] m [] (Zz4 s name):=by
 apply Zpb
 intro b m1 aB _ b1 m2 aH cA
 have fO:=hr.len
 unfold few at fO
 have bH:=mLt aB aH
 refine ZaC (ZlB s.states s.sa s.sc _ [.pointer (some ⟨b1,0,none⟩)] (λx=>eqS x.s name) m2 (by omega) (hr.row.mono bH) λx _ m' hm'=>Zwa x name b1 m' (cA.mono hm')) λm3 aQ=>?_
 have cT:=mLt bH aQ
 cases h:s.states.any (λx=>eqS x.s name)with
 | true=>
  refine⟨!s.light,ZdO (decide_eq_false (by simp)) ?_,Zab (λhl=>Zac cT ⟨_,by unfold Zeh;rw[h];simp at hl;rw[hl];rfl⟩) (λhl=>Zac cT ⟨_,by unfold Zeh;rw[h];simp at hl;rw[hl];rfl⟩)⟩
  exact Zah (Zda s m3 (hr.mono cT)) λm4 bJ=>⟨by trivial,rfl⟩
 | false=>
  refine⟨true,ZrH rfl ⟨by trivial,rfl⟩,ZrH rfl (Zac cT ⟨_,by unfold Zeh;rw[h];rfl⟩)⟩
def ZBb(a:Int×Nat×List Value):List Value:=[.int .i64 a.1,.func (.func a.2.1) #[] a.2.2.toArray]
theorem Zwb(a:Int×Nat×List Value):(ZBb a).length=2:=rfl
theorem Zf3(l:List ((Int×Nat×List Value)×Bool))(a:Option Addr)(c:Nat)(m:Mem)(hl:l.length<=100000)(hr:rowRd m a (l.map λx=>ZBb x.1).flatten)
  (hp:∀x∈l,∀m',m.le m'->CX Tryz.prog x.1.2.1 x.1.2.2.toArray m' [] (Ret (.bool x.2))):
  CX Tryz.prog 117 #[.slice a l.length c] m [] (Ret (.int .i64 (ZaZ (l.map λx=>(x.1.1,x.2))))):=by
 apply Ziz a l.length c
 refine⟨λxs _ _ m'' q=>∃i:Nat,i<=l.length/\xs=[.int .i64 0,.int .i64 i]/\ZaZ (l.map λx=>(x.1.1,x.2))=ZaZ ((l.drop i).map λx=>(x.1.1,x.2))/\q=l.length - i,⟨l.length,0,by omega,rfl,rfl,by omega⟩,?_⟩
 rintro n k m1 q aB ⟨i,hi,hx,he,hq⟩
 simp only[List.cons.injEq,Value.int.injEq,and_true,true_and]at hx
 obtain⟨rfl,rfl⟩:=hx
 refine ZaE (λaG=>?_) (λbM=>?_)
 ·have aR:i < l.length:=by have:(i:Int) < (l.length:Int):=aG;omega
  obtain⟨x,hx⟩:=Zet aR
  have hd:l.drop i=x::l.drop (i+1):=by
   rw[List.drop_eq_getElem_cons aR,(zA0 hx).2]
  obtain⟨b1,o1,ha,dV⟩:=Zap (cs:=λx:(Int×Nat×List Value)×Bool=>ZBb x.1) (λx=>Zwb x.1) (hr.mono aB) hx (by omega)
  refine⟨b1,o1,ha,⟨by omega,by show(i:Int) < (l.length:Int);omega⟩,_,_,dV,λb2=>Zaa rfl ⟨_,_,_,rfl,?_⟩⟩
  refine Zah (hp x (zA2 hx) m1 aB) λm2 aH=>Zab (λh=>Zac (mLt aB aH) ?_) (λh=>?_)
  ·show Value.int _ _=Value.int _ _
   rw[he,hd,List.map_cons,ZaZ,if_pos h]
  ·refine⟨l.length - (i+1),by omega,i+1,by omega,by rw[Zam (by omega) (by omega)];rfl,?_,rfl⟩
   rw[he,hd,List.map_cons,ZaZ,if_neg (by rw[h];decide)]
 ·have hi':i=l.length:=by have:¬(i:Int) < (l.length:Int):=bM;omega
  refine Zac aB ?_
  show Value.int _ _=Value.int _ _
  rw[he,hi',List.drop_length];rfl
theorem ZtD(v:Va)(m:Mem):CX Tryz.prog 120 #[.agg #[.bool v.b,.string v.t,.float .f64 v.x]] m [] (Ret (.bool (Zfk v))):=by
 apply Zkt
 intro b m1 aB _
 refine Zab (λhb=>⟨Zfk v,Zah (Zo2 v.x m1) λm2 aH=>Zab (λh=>⟨by trivial,Zaf ?_⟩) (λh=>⟨by trivial,Zaf ?_⟩),Zac aB rfl⟩) (λhb=>⟨Zfk v,⟨_,Zo1 v.x,Zaa rfl (Zab (λh=>⟨by trivial,Zaf ?_⟩) (λh=>⟨by trivial,Zaf ?_⟩))⟩,Zac aB rfl⟩)
 ·unfold Zfk;rw[hb,if_pos rfl,h,Zcf];rfl
 ·unfold Zfk;rw[hb,if_pos rfl,h];rfl
 ·unfold Zfk;rw[hb,if_neg (by decide)]
  have:v.x=0:=by
   have h2:=eq_of_beq (show((v.x:Int) == 0)=true from h);omega
  rw[this]
  show decide ((v.t.size:Int)<=512)=(true&&decide (v.t.size<=512))
  rw[Bool.true_and,decide_eq_decide];omega
 ·unfold Zfk;rw[hb,if_neg (by decide)]
  have:¬v.x=0:=by
   intro e
   have h2:((v.x:Int) == 0)=false:=h
   rw[e]at h2;simp at h2
  rw[beq_eq_false_iff_ne.2 this];rfl
theorem ZkJ(p q:Pt)(b:Nat)(m:Mem)(hq:RepP m q)(hb:m.reads b 0 q.cs):CX Tryz.prog 173 #[p.v,.pointer (some ⟨b,0,none⟩)] m [] (Ret (.bool (q.s.toList == p.s.toList&&(q.g == p.g&&(p.k == 4||Zlo q.e))))):=by
 apply Zc9 (c0b:=b) (c0o:=0)
 intro b1 m1 aB _
 have cA:=hb.mono aB
 refine⟨q.s.toList == p.s.toList&&(q.g == p.g&&(p.k == 4||Zlo q.e)),⟨_,cA 1 _ rfl,Zaa rfl (Zab (λh=>⟨_,cA 2 _ rfl,Zaa rfl (Zab (λh2=>Zab (λh3=>⟨by trivial,Zaf ?_⟩) (λh3=>⟨q.e.k |> Value.int .u8,.float .f64 q.e.x,.string q.e.s,.int .i64 q.e.g,.slice q.e.a q.e.subs.length q.e.c,?_,?_⟩)) (λh2=>⟨by trivial,Zaf ?_⟩))⟩) (λh=>⟨by trivial,Zaf ?_⟩))⟩,Zac aB rfl⟩
 ·have h:(q.s.toList == p.s.toList)=true:=h
  have h2:(q.g == p.g)=true:=h2
  rw[h,h2,h3];rfl
 ·exact λi v hi=>by
   have:=cA (3+i) v (by unfold Pt.cs;rw[show 3+i=i+3 from by omega];exact hi)
   rw[show 0+3+i=0+(3+i) from by omega];exact this
 ·have h:(q.s.toList == p.s.toList)=true:=h
  have h2:(q.g == p.g)=true:=h2
  refine Zah (ZrU q.e E0 m1 (RepE.mono aB _ hq.e) (Zlh m1)) λm2 aH=>⟨by trivial,Zaf ?_⟩
  rw[h,h2,h3];rfl
 ·have h:(q.s.toList == p.s.toList)=true:=h
  have h2:(q.g == p.g)=false:=h2
  rw[h,h2];rfl
 ·have h:(q.s.toList == p.s.toList)=false:=h
  rw[h];rfl
theorem ZmP(p:Pt)(m:Mem)(hp:RepP m p):CX Tryz.prog 144 #[p.v] m [] (Ret (.bool (Za0 p))):=by
 apply Zdz
 intro b m1 aB hb
 have sA:=hp.mono aB
 have one:=λ(p':Pt)(M:Mem)(hM:m1.le M)=>ZkJ p' p b M (sA.mono hM) (hb.mono hM)
 have j8:∀x:ByteArray,((⟨#[]⟩:ByteArray).toList == x.toList)=(x.size == 0):=λx=>by rw[<-Zcf,Bool.beq_comm]
 refine Zab (λh1=>⟨Za0 p,ZaE (λh2=>ZaE (λh3=>Zah (one ⟨p.k,p.s,0,E0⟩ m1 (Mem.le_refl _)) λm2 aH=>⟨by trivial,Zaf ?_⟩) (λh3=>⟨by trivial,Zaf ?_⟩)) (λh2=>⟨by trivial,Zaf ?_⟩),Zac aB rfl⟩)
  (λh1=>Zab (λh2=>⟨Za0 p,Zah (ZhG p.s hp.s m1) λm2 aH=>Zab (λh3=>Zah (one ⟨p.k,p.s,0,E0⟩ m2 aH) λm3 aQ=>⟨by trivial,Zaf ?_⟩) (λh3=>⟨by trivial,Zaf ?_⟩),Zac aB rfl⟩)
   (λh2=>Zab (λh3=>⟨Za0 p,ZaE (λh4=>ZaE (λh5=>Zah (one ⟨p.k,⟨#[]⟩,p.g,E0⟩ m1 (Mem.le_refl _)) λm2 aH=>⟨by trivial,Zaf ?_⟩) (λh5=>⟨by trivial,Zaf ?_⟩)) (λh4=>⟨by trivial,Zaf ?_⟩),Zac aB rfl⟩)
    (λh3=>Zab (λh4=>⟨Za0 p,Zah (Zpe p.e m1 (RepE.mono aB _ hp.e)) λm2 aH=>Zab (λh5=>Zah (one ⟨p.k,⟨#[]⟩,0,E0⟩ m2 aH) λm3 aQ=>⟨by trivial,Zaf ?_⟩) (λh5=>⟨by trivial,Zaf ?_⟩),Zac aB rfl⟩) (λh4=>Zac aB ?_))))
 ·have k1:p.k=1:=by simpa using h1
  have g2:p.s.size > 0:=by omega
  have g3:p.s.size<=512:=by omega
  unfold Za0;simp[k1,g2,g3]
 ·have k1:p.k=1:=by simpa using h1
  have g3:¬p.s.size<=512:=by omega
  unfold Za0;rw[if_pos k1,decide_eq_false g3];simp
 ·have k1:p.k=1:=by simpa using h1
  have g2:¬p.s.size > 0:=by omega
  unfold Za0;rw[if_pos k1,decide_eq_false g2];rfl
 ·have k2:p.k=2:=by simpa using h2
  unfold Za0;simp[k2,h3]
 ·have k2:p.k=2:=by simpa using h2
  unfold Za0;simp[k2,h3]
 ·have k3:p.k=3:=by simpa using h3
  unfold Za0;rw[if_neg (by omega),if_neg (by omega),if_pos k3,decide_eq_true h4,decide_eq_true h5,Zcf];simp[k3]
 ·have k3:p.k=3:=by simpa using h3
  unfold Za0;rw[if_neg (by omega),if_neg (by omega),if_pos k3,decide_eq_false h5];simp
 ·have k3:p.k=3:=by simpa using h3
  unfold Za0;rw[if_neg (by omega),if_neg (by omega),if_pos k3,decide_eq_false h4];simp
 ·have k4:p.k=4:=by simpa using h4
  unfold Za0;rw[if_neg (by omega),if_neg (by omega),if_neg (by omega),if_pos k4,h5,Zcf];simp[k4]
 ·have k4:p.k=4:=by simpa using h4
  unfold Za0;rw[if_neg (by omega),if_neg (by omega),if_neg (by omega),if_pos k4,h5];rfl
 ·have k1:¬p.k=1:=by simpa using h1
  have k2:¬p.k=2:=by simpa using h2
  have k3:¬p.k=3:=by simpa using h3
  have k4:¬p.k=4:=by simpa using h4
  show Value.bool false=Value.bool (Za0 p)
  unfold Za0;rw[if_neg k1,if_neg k2,if_neg k3,if_neg k4]
theorem ZtE(r:Ru)(m:Mem)(hr:RepR m r):CX Tryz.prog 130 #[.agg r.cs.toArray] m [] (Ret (.bool (ZaS r))):=by
 apply Zht
 intro b m1 aB _
 refine⟨Zr5 r,Zab (λh=>⟨by trivial,Zaf ?_⟩) (λh=>Zab (λh2=>⟨by trivial,Zaf ?_⟩) (λh2=>Zah (ZxK r.t T0 m1 (hr.t.mono aB) (Zoe m1)) λm2 aH=>⟨by trivial,Zaf ?_⟩)),?_⟩
 ·unfold Zr5;rw[h];rfl
 ·unfold Zr5;rw[h,h2];rfl
 ·unfold Zr5;rw[h,h2];rfl
 refine Zab (λk2=>?_) (λk2=>Zab (λk4=>?_) (λk4=>Zab (λk3=>?_) (λk3=>Zab (λk1=>?_) (λk1=>?_))))
 ·have k2:r.k=2:=by simpa using k2
  refine⟨ZaS r,Zab (λh=>Zab (λh2=>Zah (Zeu r.s.size 1 64 m1) λm2 aH=>⟨by trivial,Zaf ?_⟩) (λh2=>⟨by trivial,Zaf ?_⟩)) (λh=>⟨by trivial,Zaf ?_⟩),Zac aB rfl⟩
  ·unfold ZaS;rw[if_pos k2,h,show(r.n == 0)=true from h2];rfl
  ·unfold ZaS;rw[if_pos k2,h,show(r.n == 0)=false from h2];rfl
  ·unfold ZaS;rw[if_pos k2,h];rfl
 ·have k2:¬r.k=2:=by simpa using k2
  have k4:r.k=4:=by simpa using k4
  refine⟨ZaS r,Zab (λh=>Zab (λh2=>Zah (Zeu r.n 1 1000 m1) λm2 aH=>⟨by trivial,Zaf ?_⟩) (λh2=>⟨by trivial,Zaf ?_⟩)) (λh=>⟨by trivial,Zaf ?_⟩),Zac aB rfl⟩
  ·rw[Zcf]at h2;unfold ZaS;rw[if_neg k2,if_pos k4,h,h2];rfl
  ·rw[Zcf]at h2;unfold ZaS;rw[if_neg k2,if_pos k4,h,h2];rfl
  ·unfold ZaS;rw[if_neg k2,if_pos k4,h];rfl
 ·have k2:¬r.k=2:=by simpa using k2
  have k4:¬r.k=4:=by simpa using k4
  have k3:r.k=3:=by simpa using k3
  refine Zab (λh=>Zac aB ?_) (λh=>⟨ZaS r,Zab (λh2=>⟨by trivial,Zaf ?_⟩) (λh2=>⟨by trivial,Zaf ?_⟩),Zac aB rfl⟩)
  ·show Value.bool false=Value.bool (ZaS r)
   unfold ZaS;rw[if_neg k2,if_neg k4,if_pos k3,h];rfl
  ·rw[Zcf]at h2;unfold ZaS;rw[if_neg k2,if_neg k4,if_pos k3,h,h2];rfl
  ·rw[Zcf]at h2;unfold ZaS;rw[if_neg k2,if_neg k4,if_pos k3,h,h2];rfl
 ·have k2:¬r.k=2:=by simpa using k2
  have k4:¬r.k=4:=by simpa using k4
  have k3:¬r.k=3:=by simpa using k3
  have k1:r.k=1:=by simpa using k1
  refine⟨ZaS r,Zab (λh2=>⟨by trivial,Zaf ?_⟩) (λh2=>⟨by trivial,Zaf ?_⟩),Zac aB rfl⟩
  ·rw[Zcf]at h2;unfold ZaS;rw[if_neg k2,if_neg k4,if_neg k3,if_pos k1,h2];rfl
  ·rw[Zcf]at h2;unfold ZaS;rw[if_neg k2,if_neg k4,if_neg k3,if_pos k1,h2];rfl
 ·have k2:¬r.k=2:=by simpa using k2
  have k4:¬r.k=4:=by simpa using k4
  have k3:¬r.k=3:=by simpa using k3
  have k1:¬r.k=1:=by simpa using k1
  refine Zac aB ?_
  show Value.bool false=Value.bool (ZaS r)
  unfold ZaS;rw[if_neg k2,if_neg k4,if_neg k3,if_neg k1]
theorem ZbX{m:Mem}{b o:Nat}{cs:List Value}(h:m.reads b o cs)(k n:Nat):m.reads b (o+k) ((cs.drop k).take n):=λi v hi=>by
 rw[Nat.add_assoc]
 refine h (k+i) v ?_
 rw[List.getElem?_take]at hi
 split at hi
 ·rwa [List.getElem?_drop]at hi
 ·cases hi
theorem Zpn{α:Type}{cs:α->List Value}{m:Mem}{a:Option Addr}{L:List α}(h:rowRd m a (L.map cs).flatten)(k:Nat):rowRd m a ((L.take k).map cs).flatten:=by
 have e:(L.map cs).flatten=((L.take k).map cs).flatten++((L.drop k).map cs).flatten:=by
  rw[<-List.flatten_append,<-List.map_append,List.take_append_drop]
 rw[e]at h
 rcases h with h|⟨b,o,ha,h⟩
 ·exact .inl (List.append_eq_nil_iff.1 h).1
 ·refine .inr ⟨b,o,ha,λj v hj=>h j v ?_⟩
  rw[zA5 (zA0 hj).1];exact hj
variable {m:Mem} {b:Nat}
theorem ZtF(s:Sc)(hb:m.reads b 0 s.cs):CX Tryz.prog 123 #[.pointer (some ⟨b,0,none⟩)] m [] (Ret (.bool (!Zbe s.n 2 256))):=by
 apply Zgi (c0b:=b) (c0o:=0)
 refine⟨_,hb 0 _ rfl,Zah (Zeu s.n 2 256 m) λm1 aB=>Zac aB rfl⟩
theorem ZtG(s:Sc)(hb:m.reads b 0 s.cs):CX Tryz.prog 125 #[.pointer (some ⟨b,0,none⟩)] m [] (Ret (.bool (!Zbe s.states.length 1 24||decide (s.vars.length > 12)))):=by
 apply Zgj (c0b:=b) (c0o:=0)
 refine⟨!Zbe s.states.length 1 24||decide (s.vars.length > 12),⟨_,hb 2 _ rfl,Zaa rfl (Zah (Zeu s.states.length 1 24 m) λm1 aB=>Zab (λh=>Zaf ?_) (λh=>⟨_,(hb.mono aB) 1 _ rfl,Zaa rfl (Zaf ?_)⟩))⟩,Zac (Mem.le_refl m) rfl⟩
 ·rw[h];rfl
 ·rw[h]
  show decide ((s.vars.length:Int) > 12)=(false||decide (s.vars.length > 12))
  rw[Bool.false_or,decide_eq_decide];omega
theorem Zwc(s:Sc)(hr:RepC m s):CX Tryz.prog 98 #[s.v] m [] (Ret (.int .i64 (Zeg s))):=by
 apply ZiD
 intro b m1 aB hb b1 hf
 have bH:=Mem.le_add hf ([.int .i64 300,.func (.func 123) #[] #[.pointer (some ⟨b,0,none⟩)],.int .i64 302,.func (.func 125) #[] #[.pointer (some ⟨b,0,none⟩)]])
 refine ZaC (Zf3 [((300,123,[.pointer (some ⟨b,0,none⟩)]),!Zbe s.n 2 256),((302,125,[.pointer (some ⟨b,0,none⟩)]),!Zbe s.states.length 1 24||decide (s.vars.length > 12))] _ 2 _ (by simp) (.inr ⟨b1,0,rfl,Zaw m1 b1 _⟩) λx hx m' hm'=>?_) λm2 aH=>Zac (mLt aB (mLt bH aH)) rfl
 have hb':=hb.mono (mLt bH hm')
 simp only[List.mem_cons,List.not_mem_nil,or_false]at hx
 rcases hx with rfl|rfl
 ·exact ZtF s hb'
 ·exact ZtG s hb'
theorem ZkK(v x:Va)(m:Mem)(b:Nat)(hb:m.reads b 0 v.cs):CX Tryz.prog 122 #[.agg x.cs.toArray,.pointer (some ⟨b,0,none⟩)] m [] (Ret (.bool (eqS x.s v.s))):=by
 apply ZdA (c0b:=b) (c0o:=0)
 intro b1 m1 aB _
 exact⟨_,(hb.mono aB) 0 _ rfl,Zaa rfl (Zac aB rfl)⟩
theorem ZmQ(s:Sc)(i:Nat)(v:Va)(m:Mem)(b0 b1 b2:Nat)(hr:RepC m s)(hi:i<=s.vars.length)(hv:RepV v)(h0:m.reads b0 0 v.cs)(h1:m.reads b1 0 s.cs)(h2:m.reads b2 0 [.int .i64 i]):
  CX Tryz.prog 118 #[.pointer (some ⟨b0,0,none⟩),.pointer (some ⟨b1,0,none⟩),.pointer (some ⟨b2,0,none⟩)] m [] (Ret (.bool (!Zcb v.s||(!Zfk v||(s.vars.take i).any λx=>eqS x.s v.s)))):=by
 apply Zer (c0b:=b0) (c0o:=0) (c1b:=b1) (c1o:=0) (c2b:=b2) (c2o:=0)
 have gD:=hr.vlen
 unfold few at gD
 refine⟨_,h0 0 _ rfl,Zah (ZhG v.s hv.s m) λm1 aB=>Zab (λh=>Zac aB ?_) (λh=>⟨_,_,_,ZbX (h0.mono aB) 1 3,Zah (ZtD v m1) λm2 aH=>Zab (λh'=>Zac (mLt aB aH) ?_) (λh'=>?_)⟩)⟩
 ·show Value.bool true=Value.bool _
  rw[h];rfl
 ·show Value.bool true=Value.bool _
  rw[h,h'];rfl
 ·have hm:=mLt aB aH
  have hc:=hr.vcap
  have key:=Zty (s.vars.take i) s.va s.vc 122 [.pointer (some ⟨b0,0,none⟩)] (λx=>eqS x.s v.s) m2 (by rw[List.length_take];omega) (Zpn (hr.vrow.mono hm) i) λx _ m' hm'=>ZkK v x m' b0 (h0.mono (mLt hm hm'))
  rw[List.length_take,Nat.min_eq_left hi]at key
  refine⟨_,(h1.mono hm) 1 _ rfl,_,(h2.mono hm) 0 _ rfl,Zaa rfl (Zaa rfl ⟨⟨Int.natCast_nonneg i,by show(i:Int)<=(s.vc:Int);omega⟩,Zah key λm3 aQ=>Zac (mLt hm aQ) ?_⟩)⟩
  show Value.bool _=Value.bool _
  rw[h,h'];rfl
theorem Zpo(s:Sc)(i:Nat)(v:Va)(m:Mem)(hr:RepC m s)(hi:s.vars[i]?=some v):CX Tryz.prog 97 #[s.v,.int .i64 i] m [] (Ret (.int .i64 (Za4 s i v))):=by
 apply Zfu
 intro b m1 aB hb b1 m2 aH cA
 have gD:=hr.vlen
 unfold few at gD
 have aG:=(zA0 hi).1
 have bH:=mLt aB aH
 obtain⟨b2,o2,ha,hx⟩:=Zap Va.len (hr.vrow.mono bH) hi (by omega)
 refine⟨b2,o2,ha,⟨by omega,by omega⟩,_,_,_,_,hx,λb3=>Zaa rfl λb4 hf m3 aQ dW=>?_⟩
 have mV:=mLt (Mem.le_add hf _) aQ
 have cT:=mLt bH mV
 refine ZaC (Zf3 [((301,118,[.pointer (some ⟨b3,0,none⟩),.pointer (some ⟨b,0,none⟩),.pointer (some ⟨b1,0,none⟩)]),!Zcb v.s||(!Zfk v||(s.vars.take i).any λx=>eqS x.s v.s))] _ 1 _ (by simp) (.inr ⟨b4,0,rfl,(Zaw m2 b4 _).mono aQ⟩) λx hx m' hm'=>?_) λm4 bJ=>Zac (mLt cT bJ) rfl
 simp only[List.mem_cons,List.not_mem_nil,or_false]at hx
 subst hx
 have hl':=mLt mV hm'
 exact ZmQ s i v m' b3 b b1 (hr.mono (mLt cT hm')) (by omega) (hr.vall v (zA2 hi)) (dW.mono hm') (hb.mono (mLt aH hl')) (cA.mono hl')
theorem ZqG(v x:Sta)(m:Mem)(b:Nat)(hb:m.reads b 0 v.cs):CX Tryz.prog 128 #[.agg x.cs.toArray,.pointer (some ⟨b,0,none⟩)] m [] (Ret (.bool (eqS x.s v.s))):=by
 apply ZeP (c0b:=b) (c0o:=0)
 intro b1 m1 aB _
 exact⟨_,(hb.mono aB) 0 _ rfl,Zaa rfl (Zac aB rfl)⟩
theorem ZtH(s:Sc)(i:Nat)(v:Sta)(m:Mem)(b0 b1 b2:Nat)(hr:RepC m s)(hi:i<=s.states.length)(hv:RepS m v)(h0:m.reads b0 0 v.cs)(h1:m.reads b1 0 s.cs)(h2:m.reads b2 0 [.int .i64 i]):
  CX Tryz.prog 126 #[.pointer (some ⟨b0,0,none⟩),.pointer (some ⟨b1,0,none⟩),.pointer (some ⟨b2,0,none⟩)] m [] (Ret (.bool (!Zcb v.s||(decide (v.rules.length > 12)||(s.states.take i).any λx=>eqS x.s v.s)))):=by
 apply Zgl (c0b:=b0) (c0o:=0) (c1b:=b1) (c1o:=0) (c2b:=b2) (c2o:=0)
 have gD:=hr.len
 unfold few at gD
 refine⟨_,h0 0 _ rfl,Zah (ZhG v.s hv.s m) λm1 aB=>Zab (λh=>Zac aB ?_) (λh=>⟨_,(h0.mono aB) 1 _ rfl,Zaa rfl (ZaE (λh'=>Zac aB ?_) (λh'=>?_))⟩)⟩
 ·show Value.bool true=Value.bool _
  rw[h];rfl
 ·have h':(v.rules.length:Int) > 12:=h'
  show Value.bool true=Value.bool _
  rw[h,decide_eq_true (by omega)];rfl
 ·have h':¬(v.rules.length:Int) > 12:=h'
  have hc:=hr.scap
  have key:=Ztx (s.states.take i) s.sa s.sc 128 [.pointer (some ⟨b0,0,none⟩)] (λx=>eqS x.s v.s) m1 (by rw[List.length_take];omega) (Zpn (hr.row.mono aB) i) λx _ m' hm'=>ZqG v x m' b0 (h0.mono (mLt aB hm'))
  rw[List.length_take,Nat.min_eq_left hi]at key
  refine⟨_,(h1.mono aB) 2 _ rfl,_,(h2.mono aB) 0 _ rfl,Zaa rfl (Zaa rfl ⟨⟨Int.natCast_nonneg i,by show(i:Int)<=(s.sc:Int);omega⟩,Zah key λm3 aQ=>Zac (mLt aB aQ) ?_⟩)⟩
  show Value.bool _=Value.bool _
  rw[h,decide_eq_false (by omega)];rfl
theorem Zwd(s:Sc)(i:Nat)(v:Sta)(m:Mem)(hr:RepC m s)(hi:s.states[i]?=some v):CX Tryz.prog 99 #[s.v,.int .i64 i] m [] (Ret (.int .i64 (Zde s i v))):=by
 apply ZiE
 intro b m1 aB hb b1 m2 aH cA
 have gD:=hr.len
 unfold few at gD
 have aG:=(zA0 hi).1
 have bH:=mLt aB aH
 obtain⟨b2,o2,ha,hx⟩:=Zap Sta.len (hr.row.mono bH) hi (by omega)
 refine⟨b2,o2,ha,⟨by omega,by omega⟩,_,_,hx,λb3=>Zaa rfl λb4 hf m3 aQ dW=>?_⟩
 have mV:=mLt (Mem.le_add hf _) aQ
 have cT:=mLt bH mV
 refine ZaC (Zf3 [((303,126,[.pointer (some ⟨b3,0,none⟩),.pointer (some ⟨b,0,none⟩),.pointer (some ⟨b1,0,none⟩)]),!Zcb v.s||(decide (v.rules.length > 12)||(s.states.take i).any λx=>eqS x.s v.s))] _ 1 _ (by simp) (.inr ⟨b4,0,rfl,(Zaw m2 b4 _).mono aQ⟩) λx hx m' hm'=>?_) λm4 bJ=>Zac (mLt cT bJ) rfl
 simp only[List.mem_cons,List.not_mem_nil,or_false]at hx
 subst hx
 have hl':=mLt mV hm'
 have h0':=mLt cT hm'
 exact ZtH s i v m' b3 b b1 (hr.mono h0') (by omega) ((hr.all v (zA2 hi)).mono h0') (dW.mono hm') (hb.mono (mLt aH hl')) (cA.mono hl')
theorem Zwe(r:Ru)(m:Mem)(b:Nat)(hr:RepR m r)(hb:m.reads b 0 r.cs):CX Tryz.prog 129 #[.pointer (some ⟨b,0,none⟩)] m [] (Ret (.bool (!ZaS r||decide (r.acts.length > 8)))):=by
 apply Zhx (c0b:=b) (c0o:=0)
 refine⟨!ZaS r||decide (r.acts.length > 8),⟨_,_,_,_,_,_,_,_,_,_,_,_,_,_,_,_,hb,Zah (ZtE r m hr) λm1 aB=>Zab (λh=>Zaf ?_) (λh=>⟨_,(hb.mono aB) 13 _ rfl,Zaa rfl (Zaf ?_)⟩)⟩,Zac (Mem.le_refl m) rfl⟩
 ·rw[h];rfl
 ·rw[h]
  show decide ((r.acts.length:Int) > 8)=(false||decide (r.acts.length > 8))
  rw[Bool.false_or,decide_eq_decide];omega
theorem Zwf(r:Ru)(total:Int)(m:Mem)(b b1:Nat)(hr:RepR m r)(hb:m.reads b 0 r.cs)(cA:m.reads b1 0 [.int .i64 total]):CX Tryz.prog 131 #[.pointer (some ⟨b,0,none⟩),.pointer (some ⟨b1,0,none⟩)] m [] (Ret (.bool (r.k == 1&&(!(r.t.check == 0)||decide (total > 600))))):=by
 apply Zhy (c0b:=b) (c0o:=0) (c1b:=b1) (c1o:=0)
 refine⟨r.k == 1&&(!(r.t.check == 0)||decide (total > 600)),⟨_,hb 0 _ rfl,Zaa rfl (Zab (λh=>⟨_,_,_,_,_,_,_,_,_,_,ZbX hb 1 10,ZaC (ZvH r.bg r.en r.t m hr.t) λm1 aB=>Zab (λh2=>Zaf ?_) (λh2=>⟨_,(cA.mono aB) 0 _ rfl,Zaa rfl (Zaf ?_)⟩)⟩) (λh=>Zaf ?_))⟩,Zac (Mem.le_refl m) rfl⟩
 ·rw[show(r.k == 1)=true from h,h2];rfl
 ·rw[show(r.k == 1)=true from h,h2];rfl
 ·rw[show(r.k == 1)=false from h];rfl
theorem Zwg(s:Sc)(r:Ru)(m:Mem)(b b1:Nat)(hs:RepC m s)(hr:RepR m r)(hb:m.reads b 0 s.cs)(cA:m.reads b1 0 r.cs):CX Tryz.prog 133 #[.pointer (some ⟨b,0,none⟩),.pointer (some ⟨b1,0,none⟩)] m [] (Ret (.bool (if r.go.size=0 then !Zbe r.code 0 255 else !Zeh s r.go||!(r.code == 0)))):=by
 apply Zhz (c0b:=b) (c0o:=0) (c1b:=b1) (c1o:=0)
 refine⟨_,_,_,hb,_,cA 14 _ rfl,Zak (Zx8 s r.go m hs) ZtC ?_⟩
 rintro n ok m1 aB ⟨n',hv⟩
 have bN:ok=Zeh s r.go:=by
  have hv:Value.tuple (Array.mk [Value.int .i64 n,Value.bool ok])=Value.tuple #[.int .i64 n',.bool (Zeh s r.go)]:=hv
  simp only[Value.tuple.injEq,Array.mk.injEq,List.cons.injEq,Value.bool.injEq,and_true]at hv
  exact hv.2
 subst bN
 refine⟨_,(cA.mono aB) 14 _ rfl,Zaa rfl (Zab (λh=>⟨_,(cA.mono aB) 15 _ rfl,Zah (Zeu r.code 0 255 m1) λm2 aH=>Zac (mLt aB aH) ?_⟩) (λh=>⟨!Zeh s r.go||!(r.code == 0),Zab (λh2=>Zaf ?_) (λh2=>⟨_,(cA.mono aB) 15 _ rfl,Zaa rfl (Zaf ?_)⟩),Zac aB ?_⟩))⟩
 ·have h:(r.go.size == 0)=true:=by rw[<-Zcf];exact h
  show Value.bool _=Value.bool _
  rw[if_pos (by simpa using h)]
 ·rw[h2];rfl
 ·rw[h2];rfl
 ·have h:(r.go.size == 0)=false:=by rw[<-Zcf];exact h
  show Value.bool _=Value.bool _
  rw[if_neg (by simpa using h)]
theorem Zx9(s:Sc)(r:Ru)(total:Int)(m:Mem)(hs:RepC m s)(hr:RepR m r):CX Tryz.prog 100 #[s.v,.agg r.cs.toArray,.int .i64 total] m [] (Ret (.int .i64 (ZcM s r total))):=by
 apply Zkz
 intro b m1 aB hb b1 m2 aH cA b2 m3 aQ eF b3 hf
 have cT:=mLt aB (mLt aH aQ)
 refine ZaC (Zf3 [((304,129,[.pointer (some ⟨b1,0,none⟩)]),!ZaS r||decide (r.acts.length > 8)),((305,131,[.pointer (some ⟨b1,0,none⟩),.pointer (some ⟨b2,0,none⟩)]),r.k == 1&&(!(r.t.check == 0)||decide (total > 600))),
  ((306,133,[.pointer (some ⟨b,0,none⟩),.pointer (some ⟨b1,0,none⟩)]),if r.go.size=0 then !Zbe r.code 0 255 else !Zeh s r.go||!(r.code == 0))] _ 3 _ (by simp) (.inr ⟨b3,0,rfl,Zaw m3 b3 _⟩) λx hx m' hm'=>?_) λm4 bJ=>Zac (mLt cT (mLt (Mem.le_add hf _) bJ)) rfl
 have hl:=mLt (Mem.le_add hf _) hm'
 have h0':=mLt cT hl
 simp only[List.mem_cons,List.not_mem_nil,or_false]at hx
 rcases hx with rfl|rfl|rfl
 ·exact Zwe r m' b1 (hr.mono h0') (cA.mono (mLt aQ hl))
 ·exact Zwf r total m' b1 b2 (hr.mono h0') (cA.mono (mLt aQ hl)) (eF.mono hl)
 ·exact Zwg s r m' b b1 (hs.mono h0') (hr.mono h0') (hb.mono (mLt aH (mLt aQ hl))) (cA.mono (mLt aQ hl))
end Go.Proofs.YtdopppmkbkkmiaaGreatDoor
end
