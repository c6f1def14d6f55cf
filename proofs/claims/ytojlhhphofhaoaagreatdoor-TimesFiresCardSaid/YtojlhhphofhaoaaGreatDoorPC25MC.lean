/- Part of the proof: functions of the program. No condition. -/
import Derived.Test.YtojlhhphofhaoaaGreatDoorPVEN
import Derived.Test.YtojlhhphofhaoaaGreatDoorPC25MA
import Derived.Test.YtojlhhphofhaoaaGreatDoorPC25D
import Derived.Test.YtojlhhphofhaoaaGreatDoorMr
set_option linter.unusedVariables false
set_option linter.unusedSimpArgs false
set_option linter.unusedSectionVars false
namespace Go.Proofs.YtojlhhphofhaoaaGreatDoor
open Go Go.Eng Go.Rx Go.Proofs Go.RowKit
set_option maxRecDepth 100000
theorem Ziw(m:Mem):CX Tryz.prog 32 #[] m [] (Zzp ZjW):=by
 apply ZgI
 intro b hf
 exact ZaQ (Mem.le_add hf _) ⟨_,_,rfl,Zbx⟩
theorem Zn4(m:Mem):CX Tryz.prog 33 #[] m [] (Zzp Zfd):=by
 apply Zjd
 intro b hf
 exact ZaQ (Mem.le_add hf _) ⟨_,_,rfl,Zbx⟩
theorem Zp8(m:Mem):CX Tryz.prog 34 #[] m [] (Zzp ZxC):=by
 apply Zje
 intro b hf
 exact ZaQ (Mem.le_add hf _) ⟨_,_,rfl,Zbx⟩
theorem Zmm{m:Mem}{b:Nat}:∀{L:List E} {o:Nat},m.reads b o (L.map E.cs).flatten->(∀z∈L,RepE m z)->RepEAt m b o L
 | [],o,_,_=>by simp only[RepEAt]
 | z::L,o,h,hz=>by
  rw[List.map_cons,List.flatten_cons]at h
  simp only[RepEAt]
  refine⟨λi v hi=>h i v (by rw[List.getElem?_append_left (List.getElem?_eq_some_iff.1 hi).1];exact hi),hz z (by simp),Zmm (λi v hi=>?_) (λy hy=>hz y (by simp[hy]))⟩
  rw[Nat.add_assoc]
  refine h (5+i) v ?_
  rw[List.getElem?_append_right (by rw[E.len];omega),E.len,Nat.add_sub_cancel_left];exact hi
theorem ZsF{m:Mem}{k:Int}{x:Nat}{s:ByteArray}{g:Int}{a:Option Addr}{c:Nat}{L:List E}(h:rowRd m a (L.map E.cs).flatten)(hz:∀z∈L,RepE m z)(hl:L.length<=1000000000000000)(ho:OkE k s g):RepE m (.node k x s g a c L):=by
 simp only[RepE]
 refine⟨hl,?_,ho⟩
 rcases h with h|⟨b,o,ha,h⟩
 ·refine .inl ?_
  have:=congrArg List.length h
  rw[ZaT E.len]at this
  exact List.eq_nil_of_length_eq_zero (by simp at this;omega)
 ·exact .inr ⟨b,o,ha,Zmm h hz⟩
theorem Zmn(e:E)(c:Int)(m:Mem)(hr:RepE m e)(cC:∀x∈e.nodes,okN 9 x)(hl:e.nodes.length<=1000):CX Tryz.prog 104 #[e.v,.int .i64 c] m [] (ER (BoE c e)):=by
 apply ZgJ
 intro b b1
 refine⟨decide (e.k=10)&&decide (e.g > c),Zaa (λh=>⟨rfl,Zaf ?_⟩) (λh=>⟨rfl,Zaf ?_⟩),Zaa (λh=>?_) (λh=>?_)⟩
 ·have:e.k=10:=by simpa using h
  rw[decide_eq_true this,Bool.true_and]
 ·have:¬e.k=10:=by simpa using h
  rw[decide_eq_false this,Bool.false_and]
 ·rw[Bool.and_eq_true,decide_eq_true_iff,decide_eq_true_iff]at h
  exact ZaQ (Mem.le_refl _) ⟨Zzn ⟨#[121]⟩,rfl,ZeD (by omega) (by decide) (by omega),Zym (by simp[ZjW]) h.1⟩
 have hk:¬(e.k=10/\e.g > c):=by
  rintro⟨h1,h2⟩
  rw[decide_eq_true h1,decide_eq_true h2]at h;cases h
 have eC:e.subs.length<=1000:=by
  have:=Zex e.subs
  rw[ZbE,List.length_cons]at hl;omega
 refine⟨λxs css tvs m' q=>∃(ts:List E)(a:Option Addr)(d:Nat),ts.length<=e.subs.length/\xs=[.int .i64 ts.length]/\css=[[.int .u8 e.k,.float .f64 e.x,.string e.s,.int .i64 e.g,.slice a ts.length d]]/\tvs=[.slice a ts.length d]/\rowRd m' a (ts.map E.cs).flatten/\(∀t∈ts,RepE m' t)/\(∀(i:Nat)(x y:E),e.subs[i]?=some x->ts[i]?=some y->BoE c x y)/\q=e.subs.length - ts.length,⟨_,[],none,0,by simp,rfl,rfl,rfl,.inl rfl,by simp,by simp,rfl⟩,?_⟩
 rintro n cs a n1 d m1 q aB ⟨ts,a',d',i7,hx,cN,eF,aM,bB,qh,hq⟩
 simp only[List.cons.injEq,Value.slice.injEq,Value.int.injEq,true_and,and_true]at hx cN eF
 obtain⟨rfl,rfl,rfl⟩:=eF
 subst hx cN
 refine Zaz (λaP=>?_) (λbX=>?_)
 ·have aV:ts.length < e.subs.length:=by omega
  obtain⟨x,hx⟩:=ZaF aV
  obtain⟨ph,h0|⟨b3,o3,gA,fR⟩⟩:=ZeP hr
  ·rw[h0]at aV;simp at aV
  obtain⟨dM,eH⟩:=(fR.mono' aB).get hx
  have jM:=List.mem_of_getElem? hx
  have bU:=Zl5 jM
  have sg:∀z∈x.nodes,z∈Zap e.subs:=λz hz=>by rw[ZcE hx];exact List.mem_append_right _ (List.mem_append_left _ hz)
  have jH:x.nodes.length<=1000:=by
   rw[ZbE,List.length_cons,ZcE hx,List.length_append,List.length_append]at hl;omega
  have hw:IntKind.i64.wrap ((ts.length:Int)+1)=((ts.length+1:Nat):Int):=by rw[Zan (by omega) (by omega)];rfl
  refine⟨b3,o3,gA,⟨by omega,aP⟩,_,_,_,_,_,dM,λb4=>Zab rfl ⟨λ_ _ _=>ER (BoE c x),Zaq rfl ⟨_,rfl,Zmn x c m1 eH (λz hz=>cC z (by rw[ZbE];exact List.mem_cons_of_mem _ (sg z hz))) jH,Zgm,ZzN λt m2 aN gF ht b5 jo=>Zab rfl ?_⟩⟩⟩
  refine Zh1 E.len E.one jo t (aM.mono aN) 64 (by omega) (by omega) (.inl rfl) λa5 c5 m5 dD cK=>Zab rfl λM _ gR iO ja=>⟨rfl,e.subs.length - (ts.length+1),by omega,ts++[t],a5,c5,by rw[List.length_append];exact aV,by rw[hw,List.length_append];rfl,by rw[List.length_append];rfl,by rw[List.length_append];rfl,cK.mono ja,?_,?_,by rw[List.length_append];rfl⟩
  ·intro z hz
   rcases List.mem_append.1 hz with hz|hz
   ·exact(bB z hz).mono' (mLt aN gR)
   ·rw[List.mem_singleton]at hz;subst hz;exact gF.mono' gR
  ·intro i x' y' hx' hy'
   rcases Nat.lt_or_ge i ts.length with h|h
   ·rw[List.getElem?_append_left h]at hy'
    exact qh i x' y' hx' hy'
   ·have hi:=(List.getElem?_eq_some_iff.1 hy').1
    rw[List.length_append,List.length_singleton]at hi
    obtain rfl:i=ts.length:=by omega
    rw[hx]at hx'
    simp at hy'
    cases hx';subst hy';exact ht
 ·have aX:ts.length=e.subs.length:=by omega
  have ho:=Zr7 hr
  refine Zab rfl (ZaQ aB ⟨.node e.k e.x e.s e.g a d ts,rfl,ZsF aM bB (by omega) ho,?_⟩)
  have:=Zwa (c:=c) (x:=e.x) (s:=e.s) (a:=e.a) (a':=a) (d:=e.c) (d':=d) (l:=e.subs) (r:=ts) (k:=e.k) (g:=e.g) (by cases e;exact cC _ (by simp[E.nodes,E.k,E.x,E.s,E.g,E.a,E.c,E.subs])) hk aX.symm qh
  cases e;exact this
termination_by SizeOf.sizeOf e
theorem Zmo(t:T)(m:Mem)(hr:Rep m t)(hl:t.nodes.length<=10000):CX Tryz.prog 66 #[t.v] m [] (Ret (.int .i64 (t.gr:Nat))):=by
 apply ZhX
 intro b m1 aB _
 have eC:t.subs.length<=10000:=by
  have h1:=Zkt t
  have:=Zo8 t.subs
  omega
 have ui:∀i,grL (t.subs.take i)<=10000:=λi=>by
  have h1:grL (t.subs.take i)<=szL (t.subs.take i):=List.countP_le_length
  have h2:szL t.subs=szL (t.subs.take i)+szL (t.subs.drop i):=by rw[<-ZaE,List.take_append_drop]
  have h3:=Zkt t
  omega
 refine Zaa (λh=>?_) (λh=>?_)
 all_goals
  refine⟨λxs _ _ m' q=>∃i:Nat,i<=t.subs.length/\xs=[.int .i64 (((if isG t=true then 1 else 0)+grL (t.subs.take i):Nat):Int),.int .i64 i]/\q=t.subs.length - i,⟨_,0,by omega,by unfold isG;rw[h];rfl,rfl⟩,?_⟩
  rintro n n1 m2 q aN ⟨i,hi,hx,rfl⟩
  simp only[List.cons.injEq,Value.int.injEq,true_and,and_true]at hx
  obtain⟨rfl,rfl⟩:=hx
  refine Zaz (λaP=>?_) (λbX=>Zac (mLt aB aN) ?_)
  ·have aV:i < t.subs.length:=by omega
   obtain⟨x,hx⟩:=ZaF aV
   have jM:=List.mem_of_getElem? hx
   have bU:=Zq3 jM
   have jH:x.nodes.length<=10000:=by
    have h1:=Zkt t
    have h2:szL t.subs=szL (t.subs.take i)+szL (t.subs.drop i):=by rw[<-ZaE,List.take_append_drop]
    rw[ZoY hx,ZeR]at h2;omega
   have wc:grL (t.subs.take (i+1))=grL (t.subs.take i)+x.gr:=by
    rw[List.take_add_one,hx,ZbC];show _+grL [x]=_;rw[Zdb]
   have hb:=ui i
   have hb':=ui (i+1)
   obtain⟨b3,o3,gA,dM⟩:=ZdV ((Zeu hr.subs).mono (mLt aB aN)) hx
   refine⟨b3,o3,gA,⟨by omega,aP⟩,_,_,_,_,_,_,_,_,dM,λb4=>Zab rfl (Zav (Zmo x m2 ((Zkn hr.subs x jM).mono (mLt aB aN)) jH) λm3 aW=>⟨rfl,t.subs.length - (i+1),by omega,i+1,by omega,?_,rfl⟩)⟩
   rw[wc,Zan (by split <;> omega) (by split <;> omega),Zan (by omega) (by omega)]
   simp;omega
  ·have:i=t.subs.length:=by omega
   subst this
   rw[List.take_length]
   show Value.int .i64 _=Value.int .i64 _
   rw[Zxy t]
termination_by SizeOf.sizeOf t
structure BytU (m:Mem)(a:Option Addr)(l:List Nat):Prop where
 lt:∀n∈l,n < 256
 row:rowRd m a (l.map λn:Nat=>[Value.int .u8 n]).flatten
theorem BytU.mono{m m':Mem}{a l}(h:BytU m a l)(hm:m.le m'):BytU m' a l:=⟨h.lt,h.row.mono hm⟩
theorem BytU.get{m:Mem}{a l}(h:BytU m a l){i:Nat}{n:Nat}(hi:l[i]?=some n):n < 256/\∃b o,a=some ⟨b,o,none⟩/\m b (o+i*1)=some (.int .u8 n):=by
 obtain⟨b,o,ha,h1⟩:=Zal (cs:=λn:Nat=>[Value.int .u8 n]) (n:=1) (λ_=>rfl) h.row hi (by omega)
 exact⟨h.lt n (List.mem_of_getElem? hi),b,o,ha,h1 0 _ rfl⟩
theorem Pt.one(p:Pt):∀u∈p.cs,u.oneCell'=true:=by
 intro u hu
 simp only[Pt.cs,List.mem_cons,List.not_mem_nil,or_false]at hu
 rcases hu with rfl|rfl|rfl|rfl|rfl|rfl|rfl|rfl <;> rfl
def TmR(c:Int):Value->Mem->List (List Value)->Prop:=λv m' _=>∃(l:List Pt)(a:Option Addr)(d:Nat),v=.slice a l.length d/\rowRd m' a (l.map Pt.cs).flatten/\(∀p∈l,RepP m' p)/\MkT c l
theorem ZvD{c:Int}:∀(v:Value)(m':Mem) (css:List (List Value)),TmR c v m' css->Shape.fits .slice v=true:=λv _ _ ⟨_,_,_,h,_⟩=>by rw[h];rfl
def TmI(c:Int)(N:Nat)(m:Mem):List Value->List (List Value)->List Value->Mem->Nat->Prop:=λxs _ tvs m' q=>∃(L:List Pt)(a:Option Addr)(d i:Nat),xs=[.slice a L.length d,.int .i64 i]/\tvs=[.slice a L.length d]/\i<=N/\L.length<=i/\m.le m'/\rowRd m' a (L.map Pt.cs).flatten/\(∀p∈L,RepP m' p)/\(∀p∈L,MkP c p)/\ZA9 L/\q=N - i
theorem Zux{L:List Pt}{p:Pt}(h:ZA9 L)(hp:p.k=1->∀x,L[L.length - 1]?=some x->0 < L.length->x.k≠1):ZA9 (L++[p]):=by
 intro i x y hx hy h1 h2
 rcases Nat.lt_or_ge (i+1) L.length with hi|hi
 ·rw[List.getElem?_append_left (by omega)]at hx
  rw[List.getElem?_append_left hi]at hy
  exact h i x y hx hy h1 h2
 ·have jd:=(List.getElem?_eq_some_iff.1 hy).1
  rw[List.length_append,List.length_singleton]at jd
  have e:i+1=L.length:=by omega
  rw[List.getElem?_append_left (by omega)]at hx
  rw[e]at hy
  simp at hy;subst hy
  exact hp h2 x (by rw[<-e,Nat.add_sub_cancel];exact hx) (by omega) h1
theorem TmI.next{c:Int}{N:Nat}{m m' M:Mem}{L:List Pt}{i:Nat}{p:Pt}{a:Option Addr}{d:Nat}(hi:i < N)(hL:L.length<=i)(h0:m.le m')(hM:m'.le M)(aM:rowRd M a ((L++[p]).map Pt.cs).flatten)(hr:∀x∈L,RepP m' x)(hp:RepP M p)(hk:∀x∈L,MkP c x)(wd:MkP c p)(hl:ZA9 L)(we:p.k=1->∀x,L[L.length - 1]?=some x->0 < L.length->x.k≠1):
  ∃n',n' < N - i/\TmI c N m [.slice a (L.length+1) d,.int .i64 ((i+1:Nat):Int)] [] [.slice a (L.length+1) d] M n':=by
 refine⟨N - (i+1),by omega,L++[p],a,d,i+1,by rw[List.length_append];rfl,by rw[List.length_append];rfl,by omega,by rw[List.length_append,List.length_singleton];omega,mLt h0 hM,aM,?_,?_,Zux hl we,rfl⟩
 ·intro x hx
  rcases List.mem_append.1 hx with hx|hx
  ·exact(hr x hx).mono hM
  ·rw[List.mem_singleton]at hx;subst hx;exact hp
 ·intro x hx
  rcases List.mem_append.1 hx with hx|hx
  ·exact hk x hx
  ·rw[List.mem_singleton]at hx;subst hx;exact wd
theorem Zh2{m:Mem}{k:Int}{s:ByteArray}{g:Int}(hk:0<=k/\k < 256)(hs:s.size<=1000000000000000)(hg:I64 g):RepP m ⟨k,s,g,E0⟩:=⟨hk,hs,hg,Zxv m⟩
theorem Zlp:∀s∈Zfd,s.size<=16:=by decide +kernel
theorem ZCf:∀j < 5,∃s:ByteArray,[Value.string ⟨#[97]⟩,.string ⟨#[45]⟩,.string ⟨#[97,98,32]⟩,.string ⟨#[0,255]⟩,.string ⟨#[49,50]⟩][j*1]?=some (.string s)/\0 < s.size/\s.size<=512:=by
 intro j hj
 have:j=0\/j=1\/j=2\/j=3\/j=4:=by omega
 rcases this with rfl|rfl|rfl|rfl|rfl <;> exact⟨_,rfl,by decide,by decide⟩
set_option maxHeartbeats 2000000 in
theorem ZjU(l:List Nat)(a:Option Addr)(d:Nat)(e:E)(c:Int)(m:Mem)(hb:BytU m a l)(hd:l.length<=d)(hl:l.length<=1000000000000000)(hr:RepE m e)(he:MkE c 20 e)(hc : -1<=c/\c<=10000):
  CX Tryz.prog 106 #[.slice a l.length d,e.v,.int .i64 c] m [] (TmR c):=by
 apply ZfR
 intro b m1 aB _
 have hN:(if(5:Int) < (l.length:Int)then(5:Int)else(l.length:Int))=((min 5 l.length:Nat):Int):=by split <;> omega
 simp only[hN,Int.toNat_natCast,Nat.sub_zero]
 generalize qG:min 5 l.length=N
 refine⟨⟨by omega,by omega⟩,TmI c N m1,⟨N,[],none,0,0,rfl,rfl,by omega,by simp,Mem.le_refl _,.inl rfl,by simp,by simp,λi p q h=>by simp at h,by omega⟩,?_⟩
 rintro a1 n1 c1 z1 a2 n2 c2 m2 q aN ⟨L,a',c',i,hx,eF,qH,gL,hm,aM,bB,jE,ip,rfl⟩
 simp only[List.cons.injEq,Value.slice.injEq,Value.int.injEq,true_and,and_true]at hx eF
 obtain⟨⟨rfl,rfl,rfl⟩,rfl⟩:=hx
 obtain⟨rfl,rfl,rfl⟩:=eF
 have hw:IntKind.i64.wrap ((i:Int)+1)=((i+1:Nat):Int):=by rw[Zan (by omega) (by omega)];rfl
 have wg:IntKind.i64.wrap ((L.length:Int) - 1)=(L.length:Int) - 1:=Zan (by omega) (by omega)
 have qI:=mLt aB aN
 refine Zaz (λaP=>?_) (λbX=>ZaQ qI ⟨L,a2,c2,rfl,aM,bB,by omega,jE,ip⟩)
 have aV:i < N:=by omega
 obtain⟨n,hn⟩:=ZaF (l:=l) (k:=i) (by omega)
 obtain⟨jF,bs,os,ha,hv⟩:=(hb.mono qI).get hn
 have sF:Int.tmod (n:Int) 8=((n % 8:Nat):Int):=rfl
 have sG:IntKind.i64.wrap (Int.tdiv (IntKind.i64.wrap (n:Int)) 8)=((n / 8:Nat):Int):=by
  rw[Zan (n:=(n:Int)) (by omega) (by omega),show Int.tdiv (n:Int) 8=((n / 8:Nat):Int) from rfl,Zan (by omega) (by omega)]
 simp only[hw,wg,Int.toNat_natCast]
 refine⟨bs,os,ha,⟨by omega,aP⟩,_,hv,_,rfl,by omega,by omega,?_⟩
 simp only[sF,sG]
 have wh:n / 8 < 32:=by omega
 generalize n % 8=k
 generalize n / 8=u at wh
 have stay:∀M:Mem,m2.le M->∃n',n' < N - i/\TmI c N m1 [.slice a2 L.length c2,.int .i64 ((i+1:Nat):Int)] [] [.slice a2 L.length c2] M n':=λM hM=>⟨N - (i+1),by omega,L,a2,c2,i+1,rfl,rfl,by omega,by omega,mLt hm hM,aM.mono hM,λp hp=>(bB p hp).mono hM,jE,ip,rfl⟩
 refine⟨λxs _ _ m'=>xs=[.bool (decide (k=0\/k=1))]/\m2.le m',Zaa (λh=>⟨trivial,trivial,?_,Mem.le_refl _⟩) (λh=>⟨trivial,trivial,?_,Mem.le_refl _⟩),?_⟩
 ·have:k=0:=by simp at h;omega
  rw[h,this];rfl
 ·have:¬k=0:=by simp at h;omega
  refine Zaf ?_
  rw[Bool.eq_iff_iff];simp;omega
 rintro b2 m3 aW ⟨eU,_⟩
 obtain rfl:b2=decide (k=0\/k=1):=by simpa using eU
 have dN:=mLt qI aW
 refine Zaz (λiN=>?_) (λiN=>?_)
 ·refine⟨decide (L.length=0)||!(match L[L.length - 1]? with
   | some x=>x.k == 1
   | none=>false),Zaz (λh=>⟨trivial,trivial,Zaf ?_⟩) (λh=>?_),Zaa (λhB=>?_) (λ_=>⟨trivial,stay m3 aW⟩)⟩
  ·rw[decide_eq_true (show L.length=0 by omega)];rfl
  ·obtain⟨x,hx⟩:=ZaF (l:=L) (k:=L.length - 1) (by omega)
   obtain⟨b4,o4,po,cG⟩:=Zal Pt.len (aM.mono aW) hx (by omega)
   have wi:Int.toNat ((L.length:Int) - 1)=L.length - 1:=by omega
   refine⟨b4,o4,po,⟨by omega,by omega⟩,.int .u8 x.k,by rw[wi];exact cG 0 _ rfl,_,rfl,trivial,trivial,Zaf ?_⟩
   rw[decide_eq_false (show ¬L.length=0 by omega),hx,Bool.false_or]
  ·have uj:Int.tmod (u:Int) 5=((u % 5:Nat):Int):=rfl
   have h5:u % 5 < 5:=Nat.mod_lt _ (by omega)
   intro b4 iY
   obtain⟨s,hs,j0,wj⟩:=ZCf (u % 5) h5
   refine⟨by omega,by rw[uj];exact⟨by omega,by omega⟩,Zaq (by rw[uj,Int.toNat_natCast];exact hs) ⟨s,rfl,λb5 jo=>?_⟩⟩
   have nT:=mLt aW (Mem.le_add iY [Value.string ⟨#[97]⟩,.string ⟨#[45]⟩,.string ⟨#[97,98,32]⟩,.string ⟨#[0,255]⟩,.string ⟨#[49,50]⟩])
   refine Zh1 Pt.len Pt.one jo (⟨1,s,0,E0⟩:Pt) (aM.mono nT) 96 (by omega) (by omega) (.inl trivial) λa8 c8 m8 gY gt=>⟨trivial,TmI.next aV gL (mLt hm nT) (mLt (Mem.le_add jo _) gY) gt (λx hx=>(bB x hx).mono nT) (Zh2 (by omega) (by omega) ⟨by omega,by omega⟩) jE (.lit s ⟨j0,wj⟩) ip (λ_ x hx xn qr=>?_)⟩
   rw[hx,decide_eq_false (show ¬L.length=0 by omega)]at hB
   simp[qr]at hB
 refine⟨λxs _ _ m'=>xs=[.bool (decide (k=2\/k=3))]/\m3.le m',Zaa (λh=>⟨trivial,trivial,?_,Mem.le_refl _⟩) (λh=>⟨trivial,trivial,?_,Mem.le_refl _⟩),?_⟩
 ·have:k=2:=by simp at h;omega
  rw[h,this];rfl
 ·have:¬k=2:=by simp at h;omega
  refine Zaf ?_
  rw[Bool.eq_iff_iff];simp;omega
 rintro b3 m4 bV ⟨eY,_⟩
 obtain rfl:b3=decide (k=2\/k=3):=by simpa using eY
 have jm:=mLt aW bV
 refine Zaz (λwk=>?_) (λwk=>?_)
 ·refine Zai (Zn4 m4) ZdA ?_
  rintro a5 n5 c5 m5 dD ⟨a',c',ii,gz⟩
  simp only[Value.slice.injEq]at ii
  obtain⟨rfl,rfl,rfl⟩:=ii
  have h2:u % 2 < 2:=Nat.mod_lt _ (by omega)
  obtain⟨s,hs⟩:=ZaF (l:=Zfd) (k:=u % 2) h2
  have jP:=List.mem_of_getElem? hs
  obtain⟨b6,o6,jn,cG⟩:=ZcP gz hs
  have bU:s.size<=1000000000000000:=by have:=Zlp s jP;omega
  have hu:Int.tmod (u:Int) 2=((u % 2:Nat):Int):=rfl
  have jb:=mLt jm dD
  refine⟨by omega,b6,o6,jn,by rw[hu];exact⟨by omega,by show((u % 2:Nat):Int) < (2:Nat);omega⟩,_,by rw[hu,Int.toNat_natCast];exact cG,s,rfl,λb7 pA=>?_⟩
  refine Zh1 Pt.len Pt.one pA (⟨2,s,0,E0⟩:Pt) (aM.mono jb) 96 (by omega) (by omega) (.inl trivial) λa8 c8 m8 gY gt=>⟨trivial,TmI.next aV gL (mLt hm jb) (mLt (Mem.le_add pA _) gY) gt (λx hx=>(bB x hx).mono jb) (Zh2 (by omega) bU ⟨by omega,by omega⟩) jE (.var s (.inr jP)) ip (λh=>absurd (show(2:Int)=1 from h) (by decide))⟩
 refine Zaa (λh4=>?_) (λh4=>?_)
 ·refine Zai (Ziw m4) ZdA ?_
  rintro a5 n5 c5 m5 dD ⟨a',c',ii,gz⟩
  simp only[Value.slice.injEq]at ii
  obtain⟨rfl,rfl,rfl⟩:=ii
  have h2:u % 4 < 4:=Nat.mod_lt _ (by omega)
  obtain⟨s,hs⟩:=ZaF (l:=ZjW) (k:=u % 4) h2
  have jP:=List.mem_of_getElem? hs
  obtain⟨b6,o6,jn,cG⟩:=ZcP gz hs
  have bU:s.size<=1000000000000000:=by have:=Zlo s jP;omega
  have hu:Int.tmod (u:Int) 4=((u % 4:Nat):Int):=rfl
  have jb:=mLt jm dD
  refine⟨by omega,b6,o6,jn,by rw[hu];exact⟨by omega,by show((u % 4:Nat):Int) < (4:Nat);omega⟩,_,by rw[hu,Int.toNat_natCast];exact cG,s,rfl,λb7 pA=>?_⟩
  refine Zh1 Pt.len Pt.one pA (⟨2,s,0,E0⟩:Pt) (aM.mono jb) 96 (by omega) (by omega) (.inl trivial) λa8 c8 m8 gY gt=>⟨trivial,TmI.next aV gL (mLt hm jb) (mLt (Mem.le_add pA _) gY) gt (λx hx=>(bB x hx).mono jb) (Zh2 (by omega) bU ⟨by omega,by omega⟩) jE (.var s (.inl jP)) ip (λh=>absurd (show(2:Int)=1 from h) (by decide))⟩
 refine⟨λxs _ _ m'=>xs=[.bool (decide (k=5\/k=6))]/\m4.le m',Zaa (λh=>⟨trivial,trivial,?_,Mem.le_refl _⟩) (λh=>⟨trivial,trivial,?_,Mem.le_refl _⟩),?_⟩
 ·have:k=5:=by simp at h;omega
  rw[h,this];rfl
 ·have:¬k=5:=by simp at h;omega
  refine Zaf ?_
  rw[Bool.eq_iff_iff];simp;omega
 rintro b4 m5 dD ⟨nO,_⟩
 obtain rfl:b4=decide (k=5\/k=6):=by simpa using nO
 have jb:=mLt jm dD
 refine Zaz (λwl=>?_) (λwl=>?_)
 ·refine Zaz (λhp=>?_) (λhp=>⟨trivial,stay m5 jb⟩)
  obtain⟨C,l6,sk,hC⟩:∃C:Nat,(C:Int)<=c/\C<=9/\IntKind.i64.wrap ((if(9:Int) < c then(9:Int)else c)+1)=((C+1:Nat):Int):=by
   by_cases h9:9 < c
   ·exact⟨9,by omega,by omega,by rw[if_pos h9];rfl⟩
   ·refine⟨c.toNat,by omega,by omega,?_⟩
    rw[if_neg h9,Zan (by omega) (by omega)];omega
  have lB:Int.tmod (u:Int) ((C+1:Nat):Int)=((u % (C+1):Nat):Int):=rfl
  have aP:u % (C+1) < C+1:=Nat.mod_lt _ (by omega)
  simp only[hC,lB]
  refine⟨by omega,λb6 iJ=>?_⟩
  refine Zh1 Pt.len Pt.one iJ (⟨3,.empty,((u % (C+1):Nat):Int),E0⟩:Pt) (aM.mono jb) 96 (by omega) (by omega) (.inl trivial) λa8 c8 m8 gY gt=>⟨trivial,TmI.next aV gL (mLt hm jb) (mLt (Mem.le_add iJ _) gY) gt (λx hx=>(bB x hx).mono jb) (Zh2 (by omega) (by rw[ZaM];omega) ⟨by omega,by omega⟩) jE (.cap _ (by omega)) ip (λh=>absurd (show(3:Int)=1 from h) (by decide))⟩
 ·intro b6 iJ
  have pB:=Mem.le_add iJ (⟨4,.empty,0,e⟩:Pt).cs
  refine Zh1 Pt.len Pt.one iJ (⟨4,.empty,0,e⟩:Pt) (aM.mono jb) 96 (by omega) (by omega) (.inl trivial) λa8 c8 m8 gY gt=>⟨trivial,TmI.next aV gL (mLt hm jb) (mLt pB gY) gt (λx hx=>(bB x hx).mono jb) ⟨by show(0:Int)<=4/\(4:Int) < 256;omega,by show ByteArray.empty.size<=_;rw[ZaM];omega,⟨by show(-9223372036854775808:Int)<=0;omega,by show(0:Int)<=9223372036854775807;omega⟩,hr.mono' (mLt qI (mLt jb (mLt pB gY)))⟩ jE (.clc e he) ip (λh=>absurd (show(4:Int)=1 from h) (by decide))⟩
theorem ZBx(i:Nat):Int.tdiv (i:Int) 64=((i / 64:Nat):Int):=rfl
theorem ZA0(i:Nat):Int.tmod (i:Int) 64=((i % 64:Nat):Int):=rfl
theorem ZBy{n:Int}(h1:0<=n)(h2:n < 256):IntKind.u8.wrap n=n:=by
 unfold IntKind.wrap
 simp only[IntKind.bits,IntKind.signed,Bool.false_and,Bool.false_eq_true,if_false]
 have e:(2:Int) ^ 8=256:=by decide
 rw[e];omega
theorem ZwV(t:T)(m:Mem)(hr:Rep m t):CX Tryz.prog 102 #[t.v] m [] (ZoZ (λu=>∃a c,u=Zcc 6 0 0 a c [t])):=by
 apply Zjj
 intro b m1 aB _ b1 b2 hf
 have bM:=Mem.le_add hf t.cs
 refine ZaQ (mLt aB bM) ⟨Zcc 6 0 0 (some ⟨b2,0,none⟩) 1 [t],rfl,Zge (Zr5 ?_ (hr.mono (mLt aB bM))) (by omega) (by omega) (by omega),_,_,rfl⟩
 intro j v hj
 rw[Nat.zero_add,Mem.add_same];exact hj
theorem ZyN(t:T)(mn mx:Int)(h1 : -9223372036854775808<=mn/\mn<=9223372036854775807)(h2 : -9223372036854775808<=mx/\mx<=9223372036854775807)(m:Mem)(hr:Rep m t):CX Tryz.prog 103 #[t.v,.int .i64 mn,.int .i64 mx] m [] (ZoZ (λu=>∃a c,u=Zcc 5 mn mx a c [t])):=by
 apply Zny
 intro b m1 aB _ b1 b2 hf
 have bM:=Mem.le_add hf t.cs
 refine ZaQ (mLt aB bM) ⟨Zcc 5 mn mx (some ⟨b2,0,none⟩) 1 [t],rfl,Zge (Zr5 ?_ (hr.mono (mLt aB bM))) (by omega) h1 h2,_,_,rfl⟩
 intro j v hj
 rw[Nat.zero_add,Mem.add_same];exact hj
def ZeE(s:ByteArray):List Nat:=s.data.toList.map λb=>b.toNat
theorem ZrA(s:ByteArray):(ZeE s).length=s.size:=by unfold ZeE;rw[List.length_map,Array.length_toList];rfl
theorem Zuy(s:ByteArray):∀c∈ZeE s,c < 256:=by
 intro c hc
 unfold ZeE at hc
 obtain⟨b,_,rfl⟩:=List.mem_map.1 hc
 exact b.toBitVec.isLt
theorem ZwW{s:ByteArray}{k c:Nat}(h:(ZeE s)[k]?=some c):ZgU s k=(c:Int):=by
 unfold ZeE at h
 rw[List.getElem?_map]at h
 obtain⟨b,hb,rfl⟩:=Option.map_eq_some_iff.1 h
 unfold ZgU
 rw[List.getD_eq_getElem?_getD,hb];rfl
theorem Zp9(s:ByteArray)(hs:(ZeE s).length<=100000)(m:Mem):CX Tryz.prog 99 #[.string s] m [] (ZoZ (λt=>t=Zko (ZeE s))):=by
 apply Zjk
 intro b b1
 have aX:=ZrA s
 refine⟨λxs css tvs m' q=>∃k:Nat,k<=s.size/\xs=[.int .i64 k]/\css=[Zvf ((ZeE s).take k)]/\q=s.size - k,⟨_,0,by omega,rfl,rfl,rfl⟩,?_⟩
 rintro n cs m1 q aB ⟨k,hk,hn,cN,hq⟩
 obtain rfl:n=k:=by simpa using hn
 obtain rfl:cs=Zvf ((ZeE s).take k):=by simpa using cN
 refine Zaa (λaP=>?_) (λbX=>?_)
 ·have aV:k < s.size:=by have:=of_decide_eq_true aP;omega
  obtain⟨c,hc⟩:=ZaF (l:=ZeE s) (k:=k) (by omega)
  have pC:=Zuy s c (List.mem_of_getElem? hc)
  have hw:IntKind.i64.wrap ((k:Int)+1)=((k+1:Nat):Int):=by rw[Zan (by omega) (by omega)];rfl
  have sG:IntKind.u8.wrap (Int.tdiv (c:Int) 64)=((c / 64:Nat):Int):=by rw[ZBx];exact ZBy (by omega) (by omega)
  have hr:IntKind.u64.wrap (1*2 ^ min (Int.toNat (Int.tmod (c:Int) 64)) 64)=((2 ^ (c % 64):Nat):Int):=by
   rw[ZA0,Int.toNat_natCast,Nat.min_eq_left (by omega),Int.one_mul]
   have:=ZAI (2 ^ (c % 64)) (by
    have:2 ^ (c % 64) < 2 ^ 64:=Nat.pow_lt_pow_right (by omega) (by omega)
    exact this)
   rw[<-this];push_cast;rfl
  have h2:(2:Nat) ^ (c % 64) < 18446744073709551616:=by
   have:(2:Nat) ^ (c % 64) < 2 ^ 64:=Nat.pow_lt_pow_right (by omega) (by omega)
   exact this
  have hj:c / 64 < 4:=by omega
  simp only[hw,Int.toNat_natCast,ZwW hc,sG,hr,Nat.zero_add,Nat.mul_one]
  refine⟨⟨by omega,by omega⟩,by omega,⟨by omega,by omega⟩,Zaq (ZtE _ hj) ⟨⟨by omega,by omega⟩,by omega,by rw[ZA0];omega,Zab rfl ⟨⟨by omega,by omega⟩,Zab (by rw[Nat.ble_eq];show c / 64+1<=4;omega) ⟨by trivial,s.size - (k+1),by omega,k+1,by omega,rfl,?_,rfl⟩⟩⟩⟩
  simp only[intOf]
  rw[Zv8 _ _ (Zve _ _) h2,Zq7 _ rfl hj,Zr4 hc]
 ·have:k=s.size:=by have:=of_decide_eq_false bX;omega
  subst this
  rw[<-aX,List.take_length]
  exact Zab rfl (Zab rfl (Zac aB ⟨Zko (ZeE s),rfl,Zo0 _ m,rfl⟩))
theorem ZrB(n:Nat)(hn:n < 256)(m:Mem):CX Tryz.prog 100 #[.int .u8 n] m [] (λv _ _=>∃s,v=.string s/\ZeE s=Zdy n):=by
 apply ZgL
 intro b hf
 have ht:Int.tmod (n:Int) 12=((n % 12:Nat):Int):=rfl
 simp only[ht,Int.toNat_natCast,Nat.mul_one]
 refine⟨by omega,⟨by omega,by omega⟩,?_⟩
 have h:n % 12=0\/n % 12=1\/n % 12=2\/n % 12=3\/n % 12=4\/n % 12=5\/n % 12=6\/n % 12=7\/n % 12=8\/n % 12=9\/n % 12=10\/n % 12=11:=by omega
 unfold Zdy
 rcases h with e|e|e|e|e|e|e|e|e|e|e|e <;>
 ·rw[e]
  refine Zaq rfl ?_
  exact⟨_,Mem.le_add hf _,Mem.le_refl _,_,rfl,rfl⟩
theorem ZeY(k:Int)(t:T):Za2 k t=if t.k=k then t.subs else if k=3/\t.k=1 then[]else[t]:=rfl
theorem Zd5(l:List T):∀u∈Rx.ZcR l,u.oneCell'=true:=by
 intro u hu
 simp only[Rx.ZcR,List.mem_flatten,List.mem_map]at hu
 obtain⟨_,⟨t,_,rfl⟩,h⟩:=hu
 simp only[T.cs,List.mem_cons,List.not_mem_nil,or_false,T.sl]at h
 rcases h with rfl|rfl|rfl|rfl|rfl|rfl|rfl|rfl <;> rfl
theorem Zn5(k:Int)(t u:T)(hk:k=3\/k=4)(m:Mem)(hr:Rep m t)(hu:Rep m u)(ht:(Za2 k t).length<=10000)(wm:(Za2 k u).length<=10000):CX Tryz.prog 101 #[.int .u8 k,t.v,u.v] m [] (ZoZ (λr=>∃a c,r=ZfB k a c (Za2 k t++Za2 k u))):=by
 apply Zjl
 intro b m1 aB _ b1 m2 aN _ b2 b3 iI
 have j8:=mLt aB aN
 have ia:m.le (m2.add b3 (t.cs++u.cs)):=mLt j8 (Mem.le_add iI _)
 refine⟨λxs css tvs m' q=>∃(i:Nat)(l:List T)(a:Option Addr)(c:Nat),i<=2/\xs=[.slice a l.length c,.int .i64 i]/\tvs=[.slice a l.length c]/\l=(([t,u].take i).map (Za2 k)).flatten/\rowRd m' a (Rx.ZcR l)/\q=2 - i,⟨2,0,[],none,0,by omega,rfl,rfl,rfl,.inl rfl,rfl⟩,?_⟩
 rintro a n c z a1 n1 c1 m3 q aW ⟨i,l,a',c',hi,dG,eF,hl,aM,hq⟩
 simp only[List.cons.injEq,Value.slice.injEq,Value.int.injEq,true_and,and_true]at dG eF
 obtain⟨⟨rfl,rfl,rfl⟩,rfl⟩:=dG
 obtain⟨rfl,rfl,rfl⟩:=eF
 have jr:=mLt ia aW
 have ip:l.length<=20000:=by
  rw[hl]
  have:i=0\/i=1\/i=2:=by omega
  rcases this with rfl|rfl|rfl <;> simp <;> omega
 refine Zaa (λaP=>?_) (λbX=>?_)
 ·have h2:i=0\/i=1:=by have:=of_decide_eq_true aP;omega
  rcases h2 with rfl|rfl
  ·
   refine⟨⟨by omega,by omega⟩,Zab rfl λb4=>Zab rfl (Zaq (v:=.int .u8 t.k) rfl (Zab rfl (Zaa (λdU=>Zaq (v:=t.sl) rfl (Zab rfl ?_)) (λdU=>?_))))⟩
   ·have gO:t.k=k:=by simpa[RowKit.intOf]using dU
    have hj:Za2 k t=t.subs:=by rw[ZeY,if_pos gO]
    have aX:=ht
    rw[hj]at aX
    refine⟨.inl rfl,Rx.ZcR l,Rx.ZcR t.subs,Zar _,Zar _,aM,(Zeu (hr.subs)).mono jr,Zd5 _,?_,?_,λa2 c2 m4 bV dS=>⟨by trivial,1,by omega,1,l++t.subs,a2,c2,by omega,?_,?_,?_,?_,?_⟩⟩
    ·simp only[T.sl,slN];omega
    ·simp only[T.sl,slN];omega
    ·rw[List.length_append];rfl
    ·rw[List.length_append];rfl
    ·rw[hl,<-hj];simp
    ·rw[ZaL];exact dS
    ·omega
   ·have gO:¬t.k=k:=by simpa[RowKit.intOf]using dU
    refine⟨k == 3&&t.k == 1,Zaa (λh=>Zaq (v:=.int .u8 t.k) rfl (Zab rfl ⟨by trivial,by trivial,?_⟩)) (λh=>⟨by trivial,by trivial,?_⟩),Zaa (λh=>⟨by trivial,1,by omega,1,l,_,_,by omega,rfl,rfl,?_,aM,by omega⟩) (λh=>Zab rfl λb6 iJ=>?_)⟩
    ·rw[h];rfl
    ·rw[h];rfl
    ·have:k=3/\t.k=1:=by simpa using h
     have hj:Za2 k t=[]:=by rw[ZeY,if_neg gO,if_pos this]
     rw[hl];simp[hj]
    ·have:¬(k=3/\t.k=1):=by simpa using h
     have hj:Za2 k t=[t]:=by rw[ZeY,if_neg gO,if_neg this]
     have gZ:=Mem.le_add iJ t.cs
     refine⟨.inl rfl,Rx.ZcR l,t.cs,Zar _,rfl,aM.mono gZ,.inr ⟨b6,0,rfl,λj v hj=>by rw[Nat.zero_add,Mem.add_same];exact hj⟩,by rw[<-Zbw];exact Zd5 _,by omega,by omega,λa2 c2 m4 bV dS=>⟨by trivial,1,by omega,1,l++[t],a2,c2,by omega,?_,?_,?_,?_,?_⟩⟩
     ·rw[List.length_append];rfl
     ·rw[List.length_append];rfl
     ·rw[hl];simp[hj]
     ·rw[ZaL,Zbw];exact dS
     ·omega
  ·
   refine⟨⟨by omega,by omega⟩,Zab rfl λb4=>Zab rfl (Zaq (v:=.int .u8 u.k) rfl (Zab rfl (Zaa (λdU=>Zaq (v:=u.sl) rfl (Zab rfl ?_)) (λdU=>?_))))⟩
   ·have gO:u.k=k:=by simpa[RowKit.intOf]using dU
    have hj:Za2 k u=u.subs:=by rw[ZeY,if_pos gO]
    have aX:=wm
    rw[hj]at aX
    refine⟨.inl rfl,Rx.ZcR l,Rx.ZcR u.subs,Zar _,Zar _,aM,(Zeu (hu.subs)).mono jr,Zd5 _,?_,?_,λa2 c2 m4 bV dS=>⟨by trivial,0,by omega,2,l++u.subs,a2,c2,by omega,?_,?_,?_,?_,?_⟩⟩
    ·simp only[T.sl,slN];omega
    ·simp only[T.sl,slN];omega
    ·rw[List.length_append];rfl
    ·rw[List.length_append];rfl
    ·rw[hl,<-hj];simp
    ·rw[ZaL];exact dS
    ·omega
   ·have gO:¬u.k=k:=by simpa[RowKit.intOf]using dU
    refine⟨k == 3&&u.k == 1,Zaa (λh=>Zaq (v:=.int .u8 u.k) rfl (Zab rfl ⟨by trivial,by trivial,?_⟩)) (λh=>⟨by trivial,by trivial,?_⟩),Zaa (λh=>⟨by trivial,0,by omega,2,l,_,_,by omega,rfl,rfl,?_,aM,by omega⟩) (λh=>Zab rfl λb6 iJ=>?_)⟩
    ·rw[h];rfl
    ·rw[h];rfl
    ·have:k=3/\u.k=1:=by simpa using h
     have hj:Za2 k u=[]:=by rw[ZeY,if_neg gO,if_pos this]
     rw[hl];simp[hj]
    ·have:¬(k=3/\u.k=1):=by simpa using h
     have hj:Za2 k u=[u]:=by rw[ZeY,if_neg gO,if_neg this]
     have gZ:=Mem.le_add iJ u.cs
     refine⟨.inl rfl,Rx.ZcR l,u.cs,Zar _,rfl,aM.mono gZ,.inr ⟨b6,0,rfl,λj v hj=>by rw[Nat.zero_add,Mem.add_same];exact hj⟩,by rw[<-Zbw];exact Zd5 _,by omega,by omega,λa2 c2 m4 bV dS=>⟨by trivial,0,by omega,2,l++[u],a2,c2,by omega,?_,?_,?_,?_,?_⟩⟩
     ·rw[List.length_append];rfl
     ·rw[List.length_append];rfl
     ·rw[hl];simp[hj]
     ·rw[ZaL,Zbw];exact dS
     ·omega
 ·have:i=2:=by have:=of_decide_eq_false bX;omega
  subst this
  have hl':Za2 k t++Za2 k u=l:=by rw[hl];simp
  rw[hl']
  have bB:∀x∈l,Rep m3 x:=by
   have key:∀t:T,Rep m t->∀x∈Za2 k t,Rep m3 x:=by
    intro t hr x hx
    rw[ZeY]at hx
    split at hx
    ·exact Zkn (hr.subs.mono jr) x hx
    ·split at hx
     ·simp at hx
     ·simp at hx;subst hx;exact hr.mono jr
   rw[<-hl']
   intro x hx
   rcases List.mem_append.1 hx with hx|hx
   ·exact key t hr x hx
   ·exact key u hu x hx
  refine Zaa (λh0=>?_) (λh0=>Zaa (λh1=>?_) (λh1=>?_))
  ·have:l=[]:=by simpa using h0
   subst this
   exact Zac jr ⟨T1,rfl,Zx9 _,none,0,rfl⟩
  ·have qz:l.length=1:=by
    have:((l.length:Int) == 1)=true:=h1
    have:=of_decide_eq_true this;omega
   obtain⟨x,rfl⟩:∃x,l=[x]:=by
    match l,qz with
    | [x],_=>exact⟨x,rfl⟩
   rcases aM with aM|⟨b6,o,ha,cG⟩
   ·simp[Rx.ZcR,T.cs]at aM
   ·rw[Zbw]at cG
    exact⟨b6,o,ha,⟨by omega,by simp⟩,_,_,_,_,_,_,_,_,cG,Zab rfl (ZaQ jr ⟨x,rfl,bB x (by simp),none,0,rfl⟩)⟩
  ·have wn:¬l.length=0:=λe=>by rw[e]at h0;simp at h0
   have ln:¬l.length=1:=λe=>by rw[e]at h1;simp at h1
   obtain⟨x,y,r,rfl⟩:∃x y r,l=x::y::r:=by
    match l,wn,ln with
    | [],h,_=>simp at h
    | [x],_,h=>simp at h
    | x::y::r,_,_=>exact⟨x,y,r,rfl⟩
   refine ZaQ jr ⟨Zcc k 0 0 _ _ (x::y::r),rfl,Zge (Zvd aM bB (by omega)) (by omega) (by omega) (by omega),_,_,rfl⟩
structure Sm (m:Mem)(a:Option Addr)(l:List (Nat×Nat×Nat)):Prop where
 len:l.length<=9223372036854775807
 byte:∀s∈l,s.1 < 256/\s.2.1 < 256/\s.2.2 < 256
 at':∀i s,l[i]?=some s->∃b o,a=some ⟨b,o,none⟩/\m.reads b (o+i*3) [.int .u8 s.1,.int .u8 s.2.1,.int .u8 s.2.2]
theorem Sm.mono{m m':Mem}{a l}(h:Sm m a l)(hm:m.le m'):Sm m' a l:=
 ⟨h.len,h.byte,λi s hi=>by obtain⟨b,o,h1,h2⟩:=h.at' i s hi;exact⟨b,o,h1,h2.mono hm⟩⟩
theorem Zqa(n:Nat):(([[97],[98],[97,98],[97],[98],[99],[97,98,99],[98,99],[10],[0,255],[97],[98]][n % 12]?).getD []:List Nat).length<=100000:=by
 have h:n % 12=0\/n % 12=1\/n % 12=2\/n % 12=3\/n % 12=4\/n % 12=5\/n % 12=6\/n % 12=7\/n % 12=8\/n % 12=9\/n % 12=10\/n % 12=11:=by omega
 rcases h with e|e|e|e|e|e|e|e|e|e|e|e <;> rw[e] <;> decide
theorem ZyO:∀L < 3,∀Mo < 4,((Mo < L\/Mo=0\/(L=1/\Mo=1))->Zkm (L:Nat) (-1)=true/\Zv7 (L:Nat) (-1)<=((max 1 L:Nat):Int))/\(¬(Mo < L\/Mo=0\/(L=1/\Mo=1))->Zkm (L:Nat) (Mo:Nat)=true/\Zv7 (L:Nat) (Mo:Nat)<=((max 1 (max L Mo):Nat):Int)):=by
 intro L hL Mo hM
 have h1:L=0\/L=1\/L=2:=by omega
 have h2:Mo=0\/Mo=1\/Mo=2\/Mo=3:=by omega
 rcases h1 with rfl|rfl|rfl <;> rcases h2 with rfl|rfl|rfl|rfl <;> exact⟨λ_=>by first|exact⟨by decide,by decide⟩|omega,λ_=>by first|exact⟨by decide,by decide⟩|omega⟩
theorem Zuz(l:List (Nat×Nat×Nat))(a:Option Addr)(c:Nat)(m:Mem)(hl:Sm m a l)(hc:l.length<=c):CX Tryz.prog 65 #[.slice a l.length c] m [] (ZoZ (λt=>t.check=0/\t.nodes.length<=26)):=by
 apply Zlm
 have aX:=hl.len
 intro b
 have hN:(if(25:Int) < (l.length:Int)then(25:Int)else(l.length:Int))=((min 25 l.length:Nat):Int):=by split <;> omega
 simp only[hN,Int.toNat_natCast,Nat.sub_zero]
 generalize qG:min 25 l.length=N
 refine⟨⟨by omega,by omega⟩,λxs css tvs m' q=>∃(i:Nat)(ts:List T)(a:Option Addr)(c:Nat)(u g:Nat)(mb:Mem),i<=N/\xs=[.slice a ts.length c,.int .i64 u,.int .i64 g,.int .i64 i]/\tvs=[.slice a ts.length c]/\ts.length<=c/\m.le mb/\mb.le m'/\Apart mb a/\rowRd m' a (Rx.ZcR ts)/\(∀t∈ts,Rep mb t)/\J i ts u g/\q=N - i,⟨N,0,[],none,0,1,0,m,by omega,rfl,rfl,by simp,Mem.le_refl _,Mem.le_refl _,.inl rfl,.inl rfl,by simp,J.zero,by omega⟩,?_⟩
 rintro a1 n1 c1 z1 z2 z3 a2 n2 c2 m1 q _ ⟨i,ts,a',c',u,g,mb,hi,dG,eF,dB,fO,dH,eJ,aM,bB,hJ,hq⟩
 simp only[List.cons.injEq,Value.slice.injEq,Value.int.injEq,true_and,and_true]at dG eF
 obtain⟨⟨rfl,rfl,rfl⟩,rfl,rfl,rfl⟩:=dG
 obtain⟨rfl,rfl,rfl⟩:=eF
 have i7:ts.length<=25:=by have:=hJ.sz;have:=Zo8 ts;omega
 refine Zaa (λaP=>?_) (λbX=>?_)
 ·have qH:i < N:=by have:=of_decide_eq_true aP;omega
  have hi':i < l.length:=by omega
  obtain⟨s,hs⟩:=ZaF hi'
  obtain⟨bs,os,ha,cG⟩:=(hl.mono (mLt fO dH)).at' i s hs
  obtain⟨s1,s2,s3⟩:=s
  obtain⟨pw,j6,l4⟩:=hl.byte _ (List.mem_of_getElem? hs)
  have hw:IntKind.i64.wrap ((i:Int)+1)=((i+1:Nat):Int):=by rw[Zan (by omega) (by omega)];rfl
  have np:Int.tmod (intOf (Value.int .u8 (s1:Nat))) 12=((s1 % 12:Nat):Int):=rfl
  simp only[hw,Int.toNat_natCast]
  refine⟨bs,os,ha,⟨by omega,by omega⟩,_,_,_,cG,λb2=>Zab rfl (Zab rfl ⟨by omega,?_⟩)⟩
  simp only[np]
  refine Zaa (λh1=>?_) (λh1=>Zaa (λh2=>?_) (λh2=>?_))
  ·refine Zai (ZrB s2 j6 m1) (λv _ _ ⟨s,e,_⟩=>by rw[e];rfl) ?_
   rintro str m2 aN ⟨s',hv,hb⟩
   cases hv
   refine Zai (Zp9 str (by rw[hb];unfold Zdy;exact Zqa _) m2) Zfw (Zq6 λt m3 aW hr ht b3 iI=>?_)
   rw[hb]at ht
   have ia:=mLt aN (mLt aW (Mem.le_add iI t.cs))
   obtain⟨k1,k2,k3,k4⟩:=Zse s2
   refine⟨.inl trivial,Rx.ZcR ts,t.cs,Zar _,rfl,aM.mono (ia),.inr ⟨b3,0,rfl,λj v hj=>by rw[Nat.zero_add,Mem.add_same];exact hj⟩,by rw[<-Zbw];exact Zd5 _,by omega,by omega,λa4 c4 m4 bV dS bD=>⟨by trivial,N - (i+1),by omega,i+1,ts++[t],a4,c4,u,g,mb,by omega,?_,?_,by have:=bD.1;rw[List.length_append];exact this,fO,mLt dH (mLt (ia) bV),eJ.tok (mLt dH (ia)) bD,?_,?_,?_,by omega⟩⟩
   ·rw[List.length_append];rfl
   ·rw[List.length_append];rfl
   ·rw[ZaL,Zbw];exact dS
   ·intro x hx
    rcases List.mem_append.1 hx with hx|hx
    ·exact bB x hx
    ·simp at hx;subst hx;exact(by rw[ht];exact Zo0 _ _)
   ·rw[ht];exact hJ.push k1 k2 k3 k4
  ·intro b3 iI
   have ia:=Mem.le_add iI T1.cs
   refine⟨.inl trivial,Rx.ZcR ts,T1.cs,Zar _,rfl,aM.mono (ia),.inr ⟨b3,0,rfl,λj v hj=>by rw[Nat.zero_add,Mem.add_same];exact hj⟩,by rw[<-Zbw];exact Zd5 _,by omega,by omega,λa4 c4 m4 bV dS bD=>⟨by trivial,N - (i+1),by omega,i+1,ts++[T1],a4,c4,u,g,mb,by omega,?_,?_,by have:=bD.1;rw[List.length_append];exact this,fO,mLt dH (mLt (ia) bV),eJ.tok (mLt dH (ia)) bD,?_,?_,?_,by omega⟩⟩
   ·rw[List.length_append];rfl
   ·rw[List.length_append];rfl
   ·rw[ZaL,Zbw];exact dS
   ·intro x hx
    rcases List.mem_append.1 hx with hx|hx
    ·exact bB x hx
    ·simp at hx;subst hx;exact Zx9 _
   ·exact hJ.push Zye.1 Zye.2.1 Zye.2.2.1 Zye.2.2.2
  ·refine⟨decide (s1 % 12 < 7)&&decide (1 < ts.length),Zaa (λh3=>⟨by trivial,by trivial,?_⟩) (λh3=>⟨by trivial,by trivial,?_⟩),Zaa (λh3=>?_) (λh3=>?_)⟩
   ·refine Zaf ?_
    rw[Bool.eq_iff_iff];simp;have:=of_decide_eq_true h3;omega
   ·refine Zaf ?_
    rw[eq_comm,Bool.and_eq_false_iff];left;have:=of_decide_eq_false h3;exact decide_eq_false (by omega)
   ·skip
    obtain⟨r,x,y,rfl⟩:=ZAU (ts:=ts) (by simp at h3;omega)
    have gE:(r++[x,y]).length=r.length+2:=by simp
    have iE:IntKind.i64.wrap (((r++[x,y]).length:Int) - 2)=(r.length:Int):=by rw[gE,Zan (by omega) (by omega)];omega
    have iQ:IntKind.i64.wrap (((r++[x,y]).length:Int) - 1)=((r.length+1:Nat):Int):=by rw[gE,Zan (by omega) (by omega)];omega
    simp only[iE,iQ,Int.toNat_natCast,Nat.sub_zero]
    obtain⟨bb,jp,iA,o',u',hu'⟩:=eJ.base aM (by simp)
    obtain⟨bx,ox,jq,iM⟩:=ZdV aM (i:=r.length) (t:=x) (by simp)
    obtain⟨by',oy,py,pz⟩:=ZdV aM (i:=r.length+1) (t:=y) (by simp)
    have sH:(Za2 3 x).length<=10000:=by
     have:=hJ.sz
     rw[ZaE,show szL [x,y]=szL ([x]++[y]) from rfl,ZaE,Zbn,Zbn]at this
     have:=Zew (k:=3) (t:=x)
     omega
    have sI:(Za2 3 y).length<=10000:=by
     have:=hJ.sz
     rw[ZaE,show szL [x,y]=szL ([x]++[y]) from rfl,ZaE,Zbn,Zbn]at this
     have:=Zew (k:=3) (t:=y)
     omega
    refine⟨λ_ _ _=>Zqw mb m1 (λr=>∃a c,r=ZfB 3 a c (Za2 3 x++Za2 3 y)),⟨by omega,by omega⟩,⟨by omega,by omega⟩,bx,ox,jq,⟨by omega,by omega⟩,_,_,_,_,_,_,_,_,iM,by',oy,py,⟨by omega,by omega⟩,_,_,_,_,_,_,_,_,pz,Zqw mb m1 (λr=>∃a c,r=ZfB 3 a c (Za2 3 x++Za2 3 y)),rfl,(Zn5 3 x y (by omega) mb (bB x (by simp)) (bB y (by simp)) sH sI).frame2 dH,Zdv,ZjR λt m0 m3 aW h0 iN cL gF ht b6 iJ=>?_⟩
    obtain⟨at',ct,ht⟩:=ht
    have gZ:=Mem.le_add iJ t.cs
    have fN:Apart m0 _:=.inr ⟨bb,jp,λo=>by rw[cL bb o' u' hu' o];exact iA o⟩
    refine⟨.inr (.inr (by omega)),Rx.ZcR r,t.cs,Zar _,rfl,((Zsv aM).mono aW).mono gZ,.inr ⟨b6,0,rfl,λj v hj=>by rw[Nat.zero_add,Mem.add_same];exact hj⟩,by rw[<-Zbw];exact Zd5 _,by omega,by omega,λa4 c4 m4 bV dS bD M jL gR iO ja=>⟨by trivial,N - (i+1),by omega,i+1,r++[t],a4,c4,u,g,m0,by omega,?_,?_,by have:=bD.1;rw[List.length_append];exact this,mLt fO h0,mLt iN gR,fN.tok (mLt iN gZ) bD,?_,?_,?_,by omega⟩⟩
    ·rw[List.length_append];rfl
    ·rw[List.length_append];rfl
    ·rw[ZaL,Zbw];exact dS.mono ja
    ·intro z hz
     rcases List.mem_append.1 hz with hz|hz
     ·exact(bB z (by simp[hz])).mono h0
     ·simp at hz;subst hz;exact gF
    ·rw[ht];exact hJ.join (by omega) (by omega) _ _
   ·refine⟨decide (s1 % 12 < 9)&&decide (1 < ts.length),Zaa (λh4=>⟨by trivial,by trivial,?_⟩) (λh4=>⟨by trivial,by trivial,?_⟩),Zaa (λh4=>?_) (λh4=>?_)⟩
    ·refine Zaf ?_
     rw[Bool.eq_iff_iff];simp;have:=of_decide_eq_true h4;omega
    ·refine Zaf ?_
     rw[eq_comm,Bool.and_eq_false_iff];left;have:=of_decide_eq_false h4;exact decide_eq_false (by omega)
    ·skip
     obtain⟨r,x,y,rfl⟩:=ZAU (ts:=ts) (by simp at h4;omega)
     have gE:(r++[x,y]).length=r.length+2:=by simp
     have iE:IntKind.i64.wrap (((r++[x,y]).length:Int) - 2)=(r.length:Int):=by rw[gE,Zan (by omega) (by omega)];omega
     have iQ:IntKind.i64.wrap (((r++[x,y]).length:Int) - 1)=((r.length+1:Nat):Int):=by rw[gE,Zan (by omega) (by omega)];omega
     simp only[iE,iQ,Int.toNat_natCast,Nat.sub_zero]
     obtain⟨bb,jp,iA,o',u',hu'⟩:=eJ.base aM (by simp)
     obtain⟨bx,ox,jq,iM⟩:=ZdV aM (i:=r.length) (t:=x) (by simp)
     obtain⟨by',oy,py,pz⟩:=ZdV aM (i:=r.length+1) (t:=y) (by simp)
     have sH:(Za2 4 x).length<=10000:=by
      have:=hJ.sz
      rw[ZaE,show szL [x,y]=szL ([x]++[y]) from rfl,ZaE,Zbn,Zbn]at this
      have:=Zew (k:=4) (t:=x)
      omega
     have sI:(Za2 4 y).length<=10000:=by
      have:=hJ.sz
      rw[ZaE,show szL [x,y]=szL ([x]++[y]) from rfl,ZaE,Zbn,Zbn]at this
      have:=Zew (k:=4) (t:=y)
      omega
     refine⟨λ_ _ _=>Zqw mb m1 (λr=>∃a c,r=ZfB 4 a c (Za2 4 x++Za2 4 y)),⟨by omega,by omega⟩,⟨by omega,by omega⟩,bx,ox,jq,⟨by omega,by omega⟩,_,_,_,_,_,_,_,_,iM,by',oy,py,⟨by omega,by omega⟩,_,_,_,_,_,_,_,_,pz,Zqw mb m1 (λr=>∃a c,r=ZfB 4 a c (Za2 4 x++Za2 4 y)),rfl,(Zn5 4 x y (by omega) mb (bB x (by simp)) (bB y (by simp)) sH sI).frame2 dH,Zdv,ZjR λt m0 m3 aW h0 iN cL gF ht b6 iJ=>?_⟩
     obtain⟨at',ct,ht⟩:=ht
     have gZ:=Mem.le_add iJ t.cs
     have fN:Apart m0 _:=.inr ⟨bb,jp,λo=>by rw[cL bb o' u' hu' o];exact iA o⟩
     refine⟨.inr (.inr (by omega)),Rx.ZcR r,t.cs,Zar _,rfl,((Zsv aM).mono aW).mono gZ,.inr ⟨b6,0,rfl,λj v hj=>by rw[Nat.zero_add,Mem.add_same];exact hj⟩,by rw[<-Zbw];exact Zd5 _,by omega,by omega,λa4 c4 m4 bV dS bD M jL gR iO ja=>⟨by trivial,N - (i+1),by omega,i+1,r++[t],a4,c4,u,g,m0,by omega,?_,?_,by have:=bD.1;rw[List.length_append];exact this,mLt fO h0,mLt iN gR,fN.tok (mLt iN gZ) bD,?_,?_,?_,by omega⟩⟩
     ·rw[List.length_append];rfl
     ·rw[List.length_append];rfl
     ·rw[ZaL,Zbw];exact dS.mono ja
     ·intro z hz
      rcases List.mem_append.1 hz with hz|hz
      ·exact(bB z (by simp[hz])).mono h0
      ·simp at hz;subst hz;exact gF
     ·rw[ht];exact hJ.join (by omega) (by omega) _ _
    ·refine⟨decide (s1 % 12=9)&&(decide (0 < ts.length)&&decide (g < 9)),Zaa (λh5=>Zaa (λh6=>⟨by trivial,by trivial,?_⟩) (λh6=>⟨by trivial,by trivial,?_⟩)) (λh5=>⟨by trivial,by trivial,?_⟩),Zaa (λh5=>?_) (λh5=>?_)⟩
     ·refine Zaf ?_
      have e1:=of_decide_eq_true h6
      have e2:s1 % 12=9:=by have:=h5;simp at this;omega
      rw[decide_eq_true e2,decide_eq_true (show 0 < ts.length by omega),Bool.true_and,Bool.true_and,Bool.eq_iff_iff];simp;omega
     ·refine Zaf ?_
      have e1:=of_decide_eq_false h6
      rw[decide_eq_false (show ¬0 < ts.length by omega)];simp
     ·refine Zaf ?_
      have e2:¬s1 % 12=9:=by have:=h5;simp at this;omega
      rw[decide_eq_false e2];rfl
     ·
      have wo:g < 9:=by simp at h5;omega
      skip
      obtain⟨r,x,rfl⟩:=ZAV (ts:=ts) (by simp at h5;omega)
      have gE:(r++[x]).length=r.length+1:=by simp
      have iQ:IntKind.i64.wrap (((r++[x]).length:Int) - 1)=(r.length:Int):=by rw[gE,Zan (by omega) (by omega)];omega
      obtain⟨bb,jp,iA,o',u',hu'⟩:=eJ.base aM (by simp)
      subst jp
      obtain⟨bx,ox,jq,iM⟩:=ZdV aM (i:=r.length) (t:=x) (by simp)
      cases jq
      have sJ:IntKind.i64.wrap ((g:Int)+1)=((g+1:Nat):Int):=by rw[Zan (by omega) (by omega)];rfl
      simp only[iQ,sJ,Int.toNat_natCast]
      refine⟨_,_,rfl,⟨by omega,by omega⟩,_,_,_,_,_,_,_,_,iM,Zai ((ZwV x mb (bB x (by simp))).frame2 dH) (Zdv (mb:=mb) (M0:=m1)) (ZjR λt m0 m3 aW h0 iN cL gF ht=>?_)⟩
      obtain⟨at',ct,ht⟩:=ht
      have fN:m0.free bb:=λo=>by rw[cL bb o' u' hu' o];exact iA o
      refine⟨bb,0,rfl,⟨by omega,by omega⟩,rfl,by omega,by trivial,N - (i+1),by omega,i+1,r++[t],_,_,u,g+1,m0,by omega,?_,?_,by rw[List.length_append];rw[gE]at dB;exact dB,mLt fO h0,Mem.le_upd iN fN _ _,.inr ⟨bb,rfl,fN⟩,Zsw (aM.mono aW),?_,?_,by omega⟩
      ·rw[gE,List.length_append];rfl
      ·rw[gE,List.length_append];rfl
      ·intro z hz
       rcases List.mem_append.1 hz with hz|hz
       ·exact(bB z (by simp[hz])).mono h0
       ·simp at hz;subst hz;exact gF
      ·rw[ht];exact hJ.group wo _ _
     ·by_cases h0:0 < ts.length
      ·skip
       obtain⟨r,x,rfl⟩:=ZAV (ts:=ts) (by exact h0)
       have gE:(r++[x]).length=r.length+1:=by simp
       have iQ:IntKind.i64.wrap (((r++[x]).length:Int) - 1)=(r.length:Int):=by rw[gE,Zan (by omega) (by omega)];omega
       obtain⟨bb,jp,iA,o',u',hu'⟩:=eJ.base aM (by simp)
       subst jp
       obtain⟨bx,ox,jq,iM⟩:=ZdV aM (i:=r.length) (t:=x) (by simp)
       cases jq
       have wp:IntKind.i64.wrap (Int.tmod (intOf (Value.int .u8 (s2:Nat))) 3)=((s2 % 3:Nat):Int):=by
        rw[show Int.tmod (intOf (Value.int .u8 (s2:Nat))) 3=((s2 % 3:Nat):Int) from rfl,Zan (by omega) (by omega)]
       have wq:IntKind.i64.wrap (Int.tmod (intOf (Value.int .u8 (s3:Nat))) 4)=((s3 % 4:Nat):Int):=by
        rw[show Int.tmod (intOf (Value.int .u8 (s3:Nat))) 4=((s3 % 4:Nat):Int) from rfl,Zan (by omega) (by omega)]
       simp only[iQ,wp,wq,Int.toNat_natCast]
       have qF:s2 % 3 < 3:=by omega
       have ja:s3 % 4 < 4:=by omega
       generalize s2 % 3=L at *
       generalize s3 % 4=Mo at *
       refine⟨decide (9 < s1 % 12)&&!(x.k == 1),Zaa (λh6=>Zaa (λh7=>⟨_,_,rfl,⟨by omega,by omega⟩,.int .u8 x.k,iM 0 _ rfl,Zab rfl ⟨by trivial,by trivial,?_⟩⟩) (λh7=>absurd h7 (by simp))) (λh6=>⟨by trivial,by trivial,?_⟩),Zaa (λh6=>Zab rfl ⟨by omega,Zab rfl ⟨by omega,?_⟩⟩) (λh6=>⟨by trivial,N - (i+1),by omega,i+1,r++[x],_,_,u,g,mb,by omega,rfl,rfl,dB,fO,dH,eJ,aM,bB,hJ.skip,by omega⟩)⟩
       ·refine Zaf ?_
        have:=of_decide_eq_true h6
        rw[decide_eq_true (show 9 < s1 % 12 by omega),Bool.true_and];rfl
       ·refine Zaf ?_
        have:=of_decide_eq_false h6
        rw[decide_eq_false (show ¬9 < s1 % 12 by omega)];rfl
       ·have iD:x.k≠1:=by
         rw[Bool.and_eq_true]at h6
         simpa using h6.2
        obtain⟨tab1,tab2⟩:=ZyO L qF Mo ja
        refine⟨decide (Mo < L\/Mo=0\/(L=1/\Mo=1)),Zaa (λg1=>⟨by trivial,by trivial,Zaf ?_⟩) (λg1=>Zaa (λg2=>⟨by trivial,by trivial,Zaf ?_⟩) (λg2=>Zaa (λg3=>⟨by trivial,by trivial,Zaf ?_⟩) (λg3=>⟨by trivial,by trivial,Zaf ?_⟩))),Zaa (λg4=>?_) (λg4=>?_)⟩
        ·have:=of_decide_eq_true g1
         exact(decide_eq_true (by omega)).symm
        ·have:Mo=0:=by simp at g2;omega
         exact(decide_eq_true (by omega)).symm
        ·have e1:=of_decide_eq_false g1
         have e2:¬Mo=0:=by simp at g2;omega
         have e3:L=1:=by simp at g3;omega
         rw[Bool.eq_iff_iff];simp;omega
        ·have e1:=of_decide_eq_false g1
         have e2:¬Mo=0:=by simp at g2;omega
         have e3:¬L=1:=by simp at g3;omega
         exact(decide_eq_false (by omega)).symm
        ·
         have hA:(if(1:Int) > (if(-1:Int) > (L:Int)then(-1:Int)else(L:Int))then(1:Int)else(if(-1:Int) > (L:Int)then(-1:Int)else(L:Int)))=((max 1 L:Nat):Int):=by
          split <;> split <;> omega
         obtain⟨tb,tp⟩:=tab1 (of_decide_eq_true g4)
         have ls:u*max 1 L<=48:=by have:=Nat.mul_le_mul hJ.u16 (show max 1 L<=3 by omega);omega
         have sK:IntKind.i64.wrap ((u:Int)*((max 1 L:Nat):Int))=((u*max 1 L:Nat):Int):=by rw[<-Int.natCast_mul];exact Zan (by omega) (by omega)
         simp only[hA,sK]
         refine Zaa (λg5=>?_) (λg5=>⟨by trivial,N - (i+1),by omega,i+1,r++[x],_,_,u,g,mb,by omega,rfl,rfl,dB,fO,dH,eJ,aM,bB,hJ.skip,by omega⟩)
         have nq:u*max 1 L<=16:=by have:=of_decide_eq_true g5;omega
         refine⟨_,_,rfl,⟨by omega,by omega⟩,_,_,_,_,_,_,_,_,iM,Zai ((ZyN x (L:Nat) (-1:Int) ⟨by omega,by omega⟩ ⟨by omega,by omega⟩ mb (bB x (by simp))).frame2 dH) (Zdv (mb:=mb) (M0:=m1)) (ZjR λt m0 m3 aW h0 iN cL gF ht=>?_)⟩
         obtain⟨at',ct,ht⟩:=ht
         have fN:m0.free bb:=λo=>by rw[cL bb o' u' hu' o];exact iA o
         refine⟨bb,0,rfl,⟨by omega,by omega⟩,rfl,by omega,by trivial,N - (i+1),by omega,i+1,r++[t],_,_,u*max 1 L,g,m0,by omega,?_,?_,by rw[List.length_append];rw[gE]at dB;exact dB,mLt fO h0,Mem.le_upd iN fN _ _,.inr ⟨bb,rfl,fN⟩,Zsw (aM.mono aW),?_,?_,by omega⟩
         ·rw[gE,List.length_append];rfl
         ·rw[gE,List.length_append];rfl
         ·intro z hz
          rcases List.mem_append.1 hz with hz|hz
          ·exact(bB z (by simp[hz])).mono h0
          ·simp at hz;subst hz;exact gF
         ·rw[ht];exact hJ.rep iD tb tp (by omega) nq _ _
        ·
         have hA:(if(1:Int) > (if((Mo:Int)) > (L:Int)then((Mo:Int))else(L:Int))then(1:Int)else(if((Mo:Int)) > (L:Int)then((Mo:Int))else(L:Int)))=((max 1 (max L Mo):Nat):Int):=by
          split <;> split <;> omega
         obtain⟨tb,tp⟩:=tab2 (of_decide_eq_false g4)
         have ls:u*max 1 (max L Mo)<=48:=by have:=Nat.mul_le_mul hJ.u16 (show max 1 (max L Mo)<=3 by omega);omega
         have sK:IntKind.i64.wrap ((u:Int)*((max 1 (max L Mo):Nat):Int))=((u*max 1 (max L Mo):Nat):Int):=by rw[<-Int.natCast_mul];exact Zan (by omega) (by omega)
         simp only[hA,sK]
         refine Zaa (λg5=>?_) (λg5=>⟨by trivial,N - (i+1),by omega,i+1,r++[x],_,_,u,g,mb,by omega,rfl,rfl,dB,fO,dH,eJ,aM,bB,hJ.skip,by omega⟩)
         have nq:u*max 1 (max L Mo)<=16:=by have:=of_decide_eq_true g5;omega
         refine⟨_,_,rfl,⟨by omega,by omega⟩,_,_,_,_,_,_,_,_,iM,Zai ((ZyN x (L:Nat) ((Mo:Int)) ⟨by omega,by omega⟩ ⟨by omega,by omega⟩ mb (bB x (by simp))).frame2 dH) (Zdv (mb:=mb) (M0:=m1)) (ZjR λt m0 m3 aW h0 iN cL gF ht=>?_)⟩
         obtain⟨at',ct,ht⟩:=ht
         have fN:m0.free bb:=λo=>by rw[cL bb o' u' hu' o];exact iA o
         refine⟨bb,0,rfl,⟨by omega,by omega⟩,rfl,by omega,by trivial,N - (i+1),by omega,i+1,r++[t],_,_,u*max 1 (max L Mo),g,m0,by omega,?_,?_,by rw[List.length_append];rw[gE]at dB;exact dB,mLt fO h0,Mem.le_upd iN fN _ _,.inr ⟨bb,rfl,fN⟩,Zsw (aM.mono aW),?_,?_,by omega⟩
         ·rw[gE,List.length_append];rfl
         ·rw[gE,List.length_append];rfl
         ·intro z hz
          rcases List.mem_append.1 hz with hz|hz
          ·exact(bB z (by simp[hz])).mono h0
          ·simp at hz;subst hz;exact gF
         ·rw[ht];exact hJ.rep iD tb tp (by omega) nq _ _
      ·refine⟨false,Zaa (λh6=>Zaa (λh7=>absurd (of_decide_eq_true h7) (by omega)) (λh7=>⟨by trivial,by trivial,rfl⟩)) (λh6=>⟨by trivial,by trivial,rfl⟩),ZcI rfl ⟨by trivial,N - (i+1),by omega,i+1,ts,_,_,u,g,mb,by omega,rfl,rfl,dB,fO,dH,eJ,aM,bB,hJ.skip,by omega⟩⟩
 ·have qH:i=N:=by have:=of_decide_eq_false bX;omega
  have aB:=mLt fO dH
  refine Zaa (λh0=>?_) (λh0=>?_)
  ·have sL:(ZeE ⟨#[97]⟩)=Zdy 0:=by rfl
   refine Zai (Zp9 ⟨#[97]⟩ (by decide) m1) Zfw (Zq6 λt m2 aN hr ht=>ZaQ (mLt aB aN) ⟨t,rfl,hr,?_⟩)
   rw[sL]at ht
   obtain⟨k1,k2,k3,k4⟩:=Zse 0
   rw[<-ht]at k1 k2 k3 k4
   exact(F26.leaf ⟨k1,by simp,by simp[szL,ZaA,k2],by simp[Zfv];omega,by simp[grL,ZaA,k4]⟩ k2).done
  ·obtain⟨t0,rest,rfl⟩:∃t r,ts=t::r:=by cases ts with
    | nil=>simp at h0
    | cons t r=>exact⟨t,r,rfl⟩
   have hF:=F26.start hJ (by omega)
   obtain⟨bb,jp,iA,o',u',hu'⟩:=eJ.base aM (by simp)
   subst jp
   obtain⟨bx,ox,jq,iM⟩:=ZdV aM (i:=0) (t:=t0) rfl
   cases jq
   rw[List.length_cons]at i7 dB
   refine⟨_,_,rfl,⟨by omega,by simp⟩,_,_,_,_,_,_,_,_,iM,λb2=>Zab rfl ⟨⟨by omega,by rw[List.length_cons];omega⟩,?_⟩⟩
   refine⟨λxs css tvs m' q=>∃(k:Nat)(t:T),k<=rest.length/\xs=[.int .i64 k]/\css=[t.cs]/\m1.le m'/\Rep m' t/\F26 t (rest.drop k)/\q=rest.length - k,⟨rest.length,0,t0,by omega,rfl,rfl,Mem.le_refl _,(bB t0 (by simp)).mono dH,hF,by omega⟩,?_⟩
   rintro z cs m2 q2 _ ⟨k,t,hk,hz,cN,aN,gF,lb,ov⟩
   obtain rfl:z=k:=by simpa using hz
   obtain rfl:cs=t.cs:=by simpa using cN
   have jN:((t0::rest).length - Int.toNat 1)=rest.length:=by simp
   simp only[jN]
   refine Zaa (λaP=>?_) (λfM=>Zab rfl (ZaQ (mLt aB aN) ⟨t,rfl,gF,by rw[show k=rest.length by have:=of_decide_eq_false fM;omega,List.drop_length]at lb;exact lb.done⟩))
   have aV:k < rest.length:=by have:=of_decide_eq_true aP;omega
   obtain⟨x,hx⟩:=ZaF aV
   obtain⟨b3,o3,gA,mQ⟩:=ZdV (aM.mono aN) (i:=k+1) (t:=x) (by simpa using hx)
   cases gA
   have iF:IntKind.i64.wrap ((k:Int)+1)=((k+1:Nat):Int):=by rw[Zan (by omega) (by omega)];rfl
   simp only[iF,Int.toNat_natCast]
   rw[ZoY hx]at lb
   have bU:=lb.f.sz
   rw[ZeR]at bU
   have nP:=Zew (k:=4) (t:=t)
   have tT:=Zew (k:=4) (t:=x)
   have iP:ZaV (some (⟨bb,0,none⟩:Addr)) (Int.toNat 1) c2 8=some ⟨bb,0+8,none⟩:=by
    unfold ZaV
    have:Nat.beq c2 1=false:=by
     cases hb:Nat.beq c2 1 with
     | false=>rfl
     | true=>have:=Nat.eq_of_beq_eq_true hb;omega
    show(bif Nat.beq c2 1 then _ else some (Addr.add _ (1*8)))=_
    rw[this,ZbR];rfl
   refine⟨_,_,iP,⟨by omega,by omega⟩,_,_,_,_,_,_,_,_,by rw[show 0+8+k*8=0+(k+1)*8 by omega];exact mQ,λb4=>Zab rfl (Zai (Zn5 4 t x (.inr rfl) m2 gF ((bB x (by simp[List.mem_of_getElem? hx])).mono (mLt dH aN)) (by omega) (by omega)) Zfw (Zq6 λt' m3 aW hr' ht'=>⟨by trivial,by trivial,rest.length - (k+1),by omega,k+1,t',by omega,rfl,rfl,mLt aN aW,hr',?_,by omega⟩))⟩
   obtain⟨a3,c3,ht'⟩:=ht'
   rw[ht'];exact lb.step _ _
structure SAct where
 k:Nat
 n:Nat
 pa:Option Addr
 pl:List Nat
 pd:Nat
 ea:Option Addr
 el:List (Nat×Nat×Nat)
 ed:Nat
def SAct.cs(x:SAct):List Value:=[.int .u8 x.k,.int .u8 x.n,.slice x.pa x.pl.length x.pd,.slice x.ea x.el.length x.ed]
theorem SAct.len(x:SAct):x.cs.length=4:=rfl
structure RepSA (m:Mem)(x:SAct):Prop where
 k:x.k < 256
 n:x.n < 256
 p:BytU m x.pa x.pl
 pl:x.pl.length<=1000000000000000
 pd:x.pl.length<=x.pd
 e:SmE m x.ea x.el
 ed:x.el.length<=x.ed
theorem RepSA.mono{m m':Mem}{x:SAct}(h:RepSA m x)(hm:m.le m'):RepSA m' x:=⟨h.k,h.n,h.p.mono hm,h.pl,h.pd,h.e.mono hm,h.ed⟩
theorem SmE.take{m:Mem}{a:Option Addr}{l:List (Nat×Nat×Nat)}(h:SmE m a l)(n:Nat):SmE m a (l.take n):=
 ⟨by rw[List.length_take];have:=h.len;omega,λs hs=>h.byte s (List.mem_of_mem_take hs),λi s hi=>h.at' i s (by
  have aP:=(List.getElem?_eq_some_iff.1 hi).1
  rw[List.length_take]at aP
  rw[List.getElem?_take_of_lt (by omega)]at hi;exact hi)⟩
def AcR(c:Int):Value->Mem->List (List Value)->Prop:=λv m' _=>∃a:Ac,v=.agg a.cs.toArray/\RepA m' a/\MkA c a
theorem ZyP{c:Int}:∀(v:Value)(m':Mem) (css:List (List Value)),AcR c v m' css->Shape.fits (.agg [.int .u8,.str,.slice,.int .u8,.any,.str,.int .i64,.slice]) v=true:=λv _ _ ⟨_,h,_⟩=>by rw[h];rfl
theorem ZvE{c:Int}{l:List Pt}(h:MkT c l):l.length<=few:=by have:=h.len;unfold few;omega
theorem ZyQ(x:SAct)(c:Int)(m:Mem)(hx:RepSA m x)(hc : -1<=c/\c<=10000):CX Tryz.prog 67 #[.agg x.cs.toArray,.int .i64 c] m [] (AcR c):=by
 apply ZhZ
 intro b m1 aB _ b1
 have pD:=hx.e.len
 have hN:(if(8:Int) < (x.el.length:Int)then(8:Int)else(x.el.length:Int))=((min 8 x.el.length:Nat):Int):=by split <;> omega
 simp only[hN,Int.toNat_natCast,Nat.sub_zero]
 have hd:=hx.ed
 have gD:(x.el.take 8).length=min 8 x.el.length:=List.length_take ..
 have hM:=ZwU (x.el.take 8) x.ea x.ed m1 ((hx.e.mono aB).take 8) (by omega)
 rw[gD]at hM
 refine⟨⟨by omega,by omega⟩,Zai hM Zgm (ZzN λe1 m2 aN eV uk=>?_)⟩
 have ln:=uk.len
 refine Zai (Zmn e1 c m2 eV uk.all (by omega)) Zgm (ZzN λe m3 aW hr he b2=>Zab rfl ⟨by omega,?_⟩)
 have hE:MkE c 20 e:=he.toMk (by omega)
 have dN:=mLt aB (mLt aN aW)
 have kE:=hx.mono dN
 refine Zaa (λh2=>?_) (λh2=>Zaa (λh3=>?_) (λh3=>?_))
 ·refine⟨λk _ _=>if k=0 then Zzp Zfd else TmR c,_,rfl,Zn4 m3,ZdA,?_⟩
  rintro a5 n5 c5 m5 dD ⟨a',c',ii,gz⟩
  simp only[Value.slice.injEq]at ii
  obtain⟨rfl,rfl,rfl⟩:=ii
  have aP:x.n % 2 < 2:=Nat.mod_lt _ (by omega)
  obtain⟨s,hs⟩:=ZaF (l:=Zfd) (k:=x.n % 2) aP
  have jP:=List.mem_of_getElem? hs
  obtain⟨b6,o6,jn,cG⟩:=ZcP gz hs
  have bU:s.size<=1000000000000000:=by have:=Zlp s jP;omega
  have hu:Int.tmod (x.n:Int) 2=((x.n % 2:Nat):Int):=rfl
  refine⟨by omega,b6,o6,jn,by rw[hu];exact⟨by omega,by show((x.n % 2:Nat):Int) < (2:Nat);omega⟩,_,by rw[hu,Int.toNat_natCast];exact cG,s,rfl,_,rfl,ZjU x.pl x.pa x.pd e c m5 (kE.p.mono dD) hx.pd hx.pl (hr.mono' dD) hE hc,ZvD,?_⟩
  rintro a7 n7 c7 m7 jB ⟨L,aL,dL,pE,aM,bB,hT⟩ M jL _ iO
  simp only[Value.slice.injEq]at pE
  obtain⟨rfl,rfl,rfl⟩:=pE
  exact ZaQ (mLt dN jL) ⟨⟨2,s,a7,c7,L,E0⟩,rfl,⟨by show(0:Int)<=2/\(2:Int) < 256;omega,bU,ZvE hT,aM.mono iO,λp hp=>(bB p hp).mono iO,Zxv M⟩,.set s jP _ _ L hT⟩
 ·refine⟨λ_ _ _=>Zzp ZjW,_,rfl,Ziw m3,ZdA,?_⟩
  rintro a5 n5 c5 m5 dD ⟨a',c',ii,gz⟩
  simp only[Value.slice.injEq]at ii
  obtain⟨rfl,rfl,rfl⟩:=ii
  have aP:x.n % 4 < 4:=Nat.mod_lt _ (by omega)
  obtain⟨s,hs⟩:=ZaF (l:=ZjW) (k:=x.n % 4) aP
  have jP:=List.mem_of_getElem? hs
  obtain⟨b6,o6,jn,cG⟩:=ZcP gz hs
  have bU:s.size<=1000000000000000:=by have:=Zlo s jP;omega
  have hu:Int.tmod (x.n:Int) 4=((x.n % 4:Nat):Int):=rfl
  refine⟨by omega,b6,o6,jn,by rw[hu];exact⟨by omega,by show((x.n % 4:Nat):Int) < (4:Nat);omega⟩,_,by rw[hu,Int.toNat_natCast];exact cG,s,rfl,Zab rfl λM jL gR=>?_⟩
  exact ZaQ (mLt dN jL) ⟨⟨3,s,none,0,[],e⟩,rfl,⟨by show(0:Int)<=3/\(3:Int) < 256;omega,bU,by simp,.inl rfl,by simp,hr.mono' jL⟩,.let_ s jP e hE⟩
 ·refine Zai (ZjU x.pl x.pa x.pd e c m3 kE.p hx.pd hx.pl hr hE hc) ZvD ?_
  rintro a7 n7 c7 m7 jB ⟨L,aL,dL,pE,aM,bB,hT⟩
  simp only[Value.slice.injEq]at pE
  obtain⟨rfl,rfl,rfl⟩:=pE
  exact ZaQ (mLt dN jB) ⟨⟨1,.empty,a7,c7,L,E0⟩,rfl,⟨by show(0:Int)<=1/\(1:Int) < 256;omega,by show ByteArray.empty.size<=_;rw[ZaM];omega,ZvE hT,aM,bB,Zxv m7⟩,.send _ _ L hT⟩
structure SRul where
 k:Nat
 n:Nat
 t:Nat
 g:Nat
 ra:Option Addr
 rl:List (Nat×Nat×Nat)
 rd:Nat
 aa:Option Addr
 al:List SAct
 ad:Nat
def SRul.cs(x:SRul):List Value:=[.int .u8 x.k,.int .u8 x.n,.int .u8 x.t,.int .u8 x.g,.slice x.ra x.rl.length x.rd,.slice x.aa x.al.length x.ad]
theorem SRul.len(x:SRul):x.cs.length=6:=rfl
structure RepSR (m:Mem)(x:SRul):Prop where
 k:x.k < 256
 n:x.n < 256
 t:x.t < 256
 g:x.g < 256
 r:Sm m x.ra x.rl
 rd:x.rl.length<=x.rd
 al:x.al.length<=1000000000000000
 ad:x.al.length<=x.ad
 row:rowRd m x.aa (x.al.map SAct.cs).flatten
 all:∀a∈x.al,RepSA m a
theorem RepSR.mono{m m':Mem}{x:SRul}(h:RepSR m x)(hm:m.le m'):RepSR m' x:=⟨h.k,h.n,h.t,h.g,h.r.mono hm,h.rd,h.al,h.ad,h.row.mono hm,λa ha=>(h.all a ha).mono hm⟩
def RuR(n:Nat):Value->Mem->List (List Value)->Prop:=λv m' _=>∃r:Ru,v=.agg r.cs.toArray/\RepR m' r/\MkR n r
theorem ZyR{n:Nat}:∀(v:Value)(m':Mem) (css:List (List Value)),RuR n v m' css->Shape.fits (.agg [.int .u8,.bool,.bool,.int .u8,.int .u64,.int .u64,.int .u64,.int .u64,.int .i64,.int .i64,.slice,.str,.int .i64,.slice,.str,.int .i64]) v=true:=λv _ _ ⟨_,h,_⟩=>by rw[h];rfl
theorem Ac.one(a:Ac):∀u∈a.cs,u.oneCell'=true:=by
 intro u hu
 simp only[Ac.cs,List.mem_cons,List.not_mem_nil,or_false]at hu
 rcases hu with rfl|rfl|rfl|rfl|rfl|rfl|rfl|rfl <;> rfl
structure Ru0 (m:Mem)(r:Ru):Prop where
 kind:ZzJ r
 t:Rep m r.t
 acts:r.acts=[]/\r.aa=none/\r.ac=0
 go:r.go=.empty/\r.code=0
theorem ZyS(m:Mem):Rep m T0:=by
 simp only[T0,Rep]
 exact⟨by simp,.inl trivial,⟨by omega,by omega,by omega,by omega,by omega,by omega,by omega⟩⟩
theorem ZyT{r:Ru}(h:ZzJ r):(0<=r.k/\r.k < 256)/\r.s.size<=1000000000000000/\I64 r.n:=by
 unfold I64
 rcases h with⟨h1,_,_,h2,h3⟩|⟨_,⟨h1,h2,h3,h4⟩|⟨h1,h2,h3⟩|⟨h1,h2,h3,h4⟩⟩
 ·rw[h2,ZaM];omega
 ·omega
 ·rw[h2,ZaM];omega
 ·rw[h2,ZaM];omega
theorem Zqb{t:T}(h:t.light=true):t.groups=(t.gr:Nat):=by unfold T.groups;rw[h];rfl
theorem ZCg:∀j < 6,∃s:ByteArray,[Value.string ⟨#[97]⟩,.string ⟨#[98]⟩,.string ⟨#[97,98]⟩,.string ⟨#[98,97]⟩,.string ⟨#[97,97,98]⟩,.string ⟨#[99]⟩][j*1]?=some (.string s)/\1<=s.size/\s.size<=3:=by
 intro j hj
 have:j=0\/j=1\/j=2\/j=3\/j=4\/j=5:=by omega
 rcases this with rfl|rfl|rfl|rfl|rfl|rfl <;> exact⟨_,rfl,by decide,by decide⟩
set_option maxHeartbeats 2000000 in
theorem ZwX(x:SRul)(p:Nat)(m:Mem)(hx:RepSR m x)(hp:1<=p/\p<=4):CX Tryz.prog 35 #[.agg x.cs.toArray,.int .i64 p] m [] (RuR p):=by
 apply Zle
 intro b m1 aB _ b1 b2
 have eR:=hx.mono aB
 have sF:Int.tmod (x.k:Int) 8=((x.k % 8:Nat):Int):=rfl
 have sE:x.k % 8 < 8:=Nat.mod_lt _ (by omega)
 refine⟨λxs css _ M=>∃r:Ru,xs=[.int .i64 (Zcr r)]/\css=[r.cs]/\Ru0 M r,⟨_,rfl,by omega,?_⟩,?_⟩
 ·simp only[sF]
  generalize x.k % 8=k at sE
  refine⟨λxs _ _ m'=>xs=[.bool (decide (k<=2))]/\m1.le m',Zaa (λh=>⟨trivial,?_,Mem.le_refl _⟩) (λh=>Zaa (λh2=>⟨trivial,?_,Mem.le_refl _⟩) (λh2=>⟨trivial,?_,Mem.le_refl _⟩)),?_⟩
  ·have:k=0:=by simp at h;omega
   rw[h,this];rfl
  ·have:k=1:=by simp at h2;omega
   rw[h2,this];rfl
  ·have h0:¬k=0:=by simp at h;omega
   have h1:¬k=1:=by simp at h2;omega
   refine Zaf ?_
   rw[Bool.eq_iff_iff];simp;omega
  rintro c2 m2 aN ⟨sb,_⟩
  obtain rfl:c2=decide (k<=2):=by simpa using sb
  refine Zaz (λhk=>?_) (λhk=>?_)
  ·have hM:=Zuz x.rl x.ra x.rd m2 (eR.r.mono aN) hx.rd
   refine⟨λ_ _ _=>ZoZ (λt=>t.check=0/\t.nodes.length<=26),_,rfl,by omega,_,rfl,by omega,_,rfl,hM,Zfw,Zq6 λt m3 aW gF ht M _ iO=>?_⟩
   have hl:t.nodes.length<=10000:=by omega
   refine Zav (Zmo t M (gF.mono iO) hl) λm4 bV=>⟨trivial,⟨1,Int.tmod (x.n:Int) 5 == 4,Int.tmod (x.n:Int) 7 == 6,t,.empty,0,none,0,[],.empty,0⟩,?_,rfl,⟨.inl ⟨rfl,ht.1,ht.2,rfl,rfl⟩,gF.mono (mLt iO bV),⟨rfl,rfl,rfl⟩,rfl,rfl⟩⟩
   have hg:=Zqb (Zkw hl)
   show[Value.int .i64 _]=[Value.int .i64 (if(1:Int)=1 then t.groups else _)]
   rw[if_pos rfl,hg]
  ·refine⟨λxs _ _ m'=>xs=[.bool (decide (k<=4))]/\m2.le m',Zaa (λh=>⟨trivial,?_,Mem.le_refl _⟩) (λh=>⟨trivial,?_,Mem.le_refl _⟩),?_⟩
   ·have:k=3:=by simp at h;omega
    rw[h,this];rfl
   ·have:¬k=3:=by simp at h;omega
    refine Zaf ?_
    rw[Bool.eq_iff_iff];simp;omega
   rintro c3 m3 aW ⟨t9,_⟩
   obtain rfl:c3=decide (k<=4):=by simpa using t9
   refine Zaz (λq8=>λb5 jo=>?_) (λq8=>Zaa (λh5=>⟨trivial,⟨3,false,false,T0,.empty,0,none,0,[],.empty,0⟩,rfl,rfl,⟨.inr ⟨⟨rfl,rfl,rfl⟩,.inr (.inl ⟨rfl,rfl,rfl⟩)⟩,ZyS _,⟨rfl,rfl,rfl⟩,rfl,rfl⟩⟩) (λh5=>⟨_,rfl,by omega,trivial,?_⟩))
   ·have ul:Int.tmod (x.n:Int) 6=((x.n % 6:Nat):Int):=rfl
    have h6:x.n % 6 < 6:=Nat.mod_lt _ (by omega)
    obtain⟨s,hs,pw,l4⟩:=ZCg (x.n % 6) h6
    refine⟨_,rfl,by omega,by rw[ul];exact⟨by omega,by omega⟩,Zaq (by rw[ul,Int.toNat_natCast];exact hs) ⟨s,rfl,λM _ _=>⟨trivial,⟨2,false,false,T0,s,0,none,0,[],.empty,0⟩,rfl,rfl,⟨.inr ⟨⟨rfl,rfl,rfl⟩,.inl ⟨rfl,pw,l4,rfl⟩⟩,ZyS _,⟨rfl,rfl,rfl⟩,rfl,rfl⟩⟩⟩⟩
   ·have sn:Int.tmod (x.t:Int) 8=((x.t % 8:Nat):Int):=rfl
    have h8:x.t % 8 < 8:=Nat.mod_lt _ (by omega)
    have hw:IntKind.i64.wrap (1+IntKind.i64.wrap (Int.tmod (x.t:Int) 8))=((1+x.t % 8:Nat):Int):=by rw[sn,Zan (n:=((x.t % 8:Nat):Int)) (by omega) (by omega),Zan (by omega) (by omega)];omega
    exact⟨⟨4,false,false,T0,.empty,IntKind.i64.wrap (1+IntKind.i64.wrap (Int.tmod (x.t:Int) 8)),none,0,[],.empty,0⟩,rfl,rfl,⟨.inr ⟨⟨rfl,rfl,rfl⟩,.inr (.inr ⟨rfl,rfl,by show 1<=IntKind.i64.wrap (1+IntKind.i64.wrap (Int.tmod (x.t:Int) 8));rw[hw];omega,by show IntKind.i64.wrap (1+IntKind.i64.wrap (Int.tmod (x.t:Int) 8))<=8;rw[hw];omega⟩)⟩,ZyS _,⟨rfl,rfl,rfl⟩,rfl,rfl⟩⟩
 rintro cn cs m2 aN ⟨r,oa,jQ,hR⟩
 simp only[List.cons.injEq,Value.int.injEq,true_and,and_true]at oa jQ
 subst oa jQ
 have jH:=hx.al
 have xo:=hx.ad
 have hN:(if(3:Int) < (x.al.length:Int)then(3:Int)else(x.al.length:Int))=((min 3 x.al.length:Nat):Int):=by split <;> omega
 simp only[hN,Int.toNat_natCast,Nat.sub_zero]
 generalize qG:min 3 x.al.length=N
 have dB : -1<=Zcr r/\Zcr r<=10000:=by
  refine⟨Zsh r,?_⟩
  unfold Zcr
  rcases hR.kind with⟨h1,h2,h3,_⟩|⟨_,⟨h1,_⟩|⟨h1,_⟩|⟨h1,_⟩⟩ <;> rw[h1]
  ·rw[if_pos rfl,Zqb (Zkw (by omega))]
   have:r.t.gr<=r.t.nodes.length:=List.countP_le_length
   omega
  ·rw[if_neg (by decide),if_pos rfl];omega
  ·rw[if_neg (by decide),if_neg (by decide)];omega
  ·rw[if_neg (by decide),if_neg (by decide)];omega
 have iu:=eR.mono aN
 refine⟨⟨by omega,by omega⟩,λxs css tvs m' q=>∃(L:List Ac)(a:Option Addr)(d:Nat),L.length<=N/\xs=[.int .i64 L.length]/\css=[({ r with acts:=L,aa:=a,ac:=d }:Ru).cs]/\tvs=[.slice a L.length d]/\rowRd m' a (L.map Ac.cs).flatten/\(∀y∈L,RepA m' y)/\(∀y∈L,MkA (Zcr r) y)/\q=N - L.length,⟨N,[],none,0,by simp,rfl,?_,rfl,.inl rfl,by simp,by simp,rfl⟩,?_⟩
 ·show[r.cs]=[_]
  unfold Ru.cs
  rw[hR.acts.1,hR.acts.2.1,hR.acts.2.2]
 rintro z cs a n1 d m3 q aW ⟨L,a',d',xp,hz,cN,eF,aM,bB,jE,rfl⟩
 simp only[List.cons.injEq,Value.slice.injEq,Value.int.injEq,true_and,and_true]at hz cN eF
 obtain⟨rfl,rfl,rfl⟩:=eF
 subst hz cN
 have dN:=mLt aB (mLt aN aW)
 refine Zaz (λaP=>?_) (λbX=>?_)
 ·have aV:L.length < N:=by omega
  obtain⟨y,hy⟩:=ZaF (l:=x.al) (k:=L.length) (by omega)
  obtain⟨b3,o3,gA,ik⟩:=Zal SAct.len (iu.mono aW).row hy (by omega)
  have hw:IntKind.i64.wrap ((L.length:Int)+1)=((L.length+1:Nat):Int):=by rw[Zan (by omega) (by omega)];rfl
  refine⟨b3,o3,gA,⟨by omega,aP⟩,_,_,_,_,ik,λb4=>Zab rfl ⟨λ_ _ _=>AcR (Zcr r),Zaq rfl ⟨_,rfl,ZyQ y (Zcr r) m3 ((iu.mono aW).all y (List.mem_of_getElem? hy)) dB,ZyP,?_⟩⟩⟩
  rintro n s a3 n3 c3 n5 v s1 n6 a4 n7 c4 m4 bV ⟨w,hv,lf,sM⟩ b5 jo
  simp only[Ac.cs,Value.agg.injEq,Array.mk.injEq,List.cons.injEq,Value.int.injEq,Value.string.injEq,Value.slice.injEq,true_and,and_true]at hv
  obtain⟨rfl,rfl,⟨rfl,rfl,rfl⟩,rfl,rfl,rfl,rfl,rfl,rfl,rfl⟩:=hv
  refine Zab rfl ?_
  refine Zh1 Ac.len Ac.one jo w (aM.mono bV) 112 (by omega) (by omega) (.inl rfl) λa5 c5 m5 dD cK=>Zab rfl λM _ gR iO ja=>⟨trivial,N - (L.length+1),by omega,L++[w],a5,c5,by rw[List.length_append];exact aV,by rw[hw,List.length_append];rfl,?_,by rw[List.length_append];rfl,cK.mono ja,?_,?_,by rw[List.length_append];rfl⟩
  ·unfold Ru.cs;rw[List.length_append];rfl
  ·intro z hz
   rcases List.mem_append.1 hz with hz|hz
   ·exact(bB z hz).mono (mLt bV gR)
   ·rw[List.mem_singleton]at hz;subst hz;exact lf.mono gR
  ·intro z hz
   rcases List.mem_append.1 hz with hz|hz
   ·exact jE z hz
   ·rw[List.mem_singleton]at hz;subst hz;exact sM
 ·have wt:Int.tmod (x.g:Int) 8=((x.g % 8:Nat):Int):=rfl
  have sJ:IntKind.i64.wrap (Int.tmod (x.g:Int) 8)=((x.g % 8:Nat):Int):=by rw[wt,Zan (by omega) (by omega)]
  have hg:x.g % 8 < 8:=Nat.mod_lt _ (by omega)
  have ic:=ZyT hR.kind
  have base:∀{M:Mem},m3.le M->∀(go:ByteArray)(code:Int),go.size<=16->(0<=code/\code<=255)->RepR M { r with acts:=L,aa:=a,ac:=d,go:=go,code:=code }:=λ{M} hM go code h1 h2=>
   ⟨ic.1,hR.t.mono (mLt aW hM),ic.2.1,ic.2.2,by show L.length<=few;unfold few;omega,aM.mono hM,λy hy=>(bB y hy).mono hM,by show go.size<=_;omega,by show I64 code;unfold I64;omega⟩
  refine⟨λ_ css _ M=>∃r':Ru,css=[r'.cs]/\RepR M r'/\MkR p r',⟨_,rfl,by omega,?_⟩,?_⟩
  rw[sJ]
  generalize x.g % 8=g at hg
  refine Zaz (λh6=>?_) (λh6=>⟨by omega,Zab rfl ⟨trivial,trivial,?_⟩⟩)
  ·refine⟨λ_ _ _=>Zzp ZxC,_,rfl,Zp8 m3,ZdA,?_⟩
   rintro a5 n5 c5 m5 dD ⟨a',c',ii,gz⟩
   simp only[Value.slice.injEq]at ii
   obtain⟨rfl,rfl,rfl⟩:=ii
   have wu:g % p < p:=Nat.mod_lt _ (by omega)
   obtain⟨s,hs⟩:=ZaF (l:=ZxC) (k:=g % p) (by show g % p < 4;omega)
   have jP:=List.mem_of_getElem? hs
   obtain⟨b6,o6,jn,cG⟩:=ZcP gz hs
   have hu:Int.tmod (g:Int) (p:Int)=((g % p:Nat):Int):=rfl
   refine⟨by omega,b6,o6,jn,by rw[hu];exact⟨by omega,by show((g % p:Nat):Int) < (4:Nat);omega⟩,_,by rw[hu,Int.toNat_natCast];exact cG,s,rfl,Zab rfl λM jL _=>⟨trivial,trivial,{ r with acts:=L,aa:=a,ac:=d,go:=s,code:=0 },?_,base jL s 0 (by have:=ZnX s jP;omega) (by omega),hR.kind,by show L.length<=3;omega,jE,.inl ⟨⟨g % p,wu,hs⟩,rfl⟩⟩⟩
   show[_]=[_]
   unfold Ru.cs ZaH
   rw[hR.go.2];rfl
  ·have iy:Int.tmod (IntKind.i64.wrap ((g:Int)*41)) 256=((g*41 % 256:Nat):Int):=by
    rw[show((g:Int)*41)=((g*41:Nat):Int) by omega,Zan (by omega) (by omega)];rfl
   rw[iy]
   have pC:g*41 % 256 < 256:=Nat.mod_lt _ (by omega)
   refine⟨{ r with acts:=L,aa:=a,ac:=d,go:=.empty,code:=((g*41 % 256:Nat):Int) },?_,base (Mem.le_refl _) _ _ (by rw[ZaM];omega) (by omega),hR.kind,by show L.length<=3;omega,jE,.inr ⟨rfl,by show 0<=((g*41 % 256:Nat):Int)/\((g*41 % 256:Nat):Int)<=255;omega⟩⟩
   show[_]=[_]
   unfold Ru.cs ZaH
   rw[hR.go.1];rfl
  ·rintro cs m5 dD ⟨r',cN,hr',hk'⟩
   obtain rfl:cs=r'.cs:=by simpa using cN
   exact Zab rfl (ZaQ (mLt dN dD) ⟨r',rfl,hr',hk'⟩)
end Go.Proofs.YtojlhhphofhaoaaGreatDoor