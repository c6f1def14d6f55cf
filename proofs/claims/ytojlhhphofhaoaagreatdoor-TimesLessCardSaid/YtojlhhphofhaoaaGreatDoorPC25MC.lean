/- Part of the proof: functions of the program. No condition. -/
import Derived.Test.YtojlhhphofhaoaaGreatDoorPVEN
import Derived.Test.YtojlhhphofhaoaaGreatDoorPC25MA
import Derived.Test.YtojlhhphofhaoaaGreatDoorPC25D
import Derived.Test.YtojlhhphofhaoaaGreatDoorMr
set_option linter.unusedVariables false
set_option linter.unusedSimpArgs false
set_option linter.unusedSectionVars false
namespace Go.Proofs.YtojlhhphofhaoaaGreatDoor
open Go Go.Eng Go.Rx Go.Proofs Go.RowKit
set_option maxRecDepth 100000
theorem ZiV(m:Mem):CX Tryz.prog 32 #[] m [] (ZBr Zkv):=by
 apply Zg0
 intro b hf
 exact ZaX (Mem.le_add hf _) ⟨_,_,rfl,ZbF⟩
theorem ZoX(m:Mem):CX Tryz.prog 33 #[] m [] (ZBr Zfq):=by
 apply ZjE
 intro b hf
 exact ZaX (Mem.le_add hf _) ⟨_,_,rfl,ZbF⟩
theorem Zrc(m:Mem):CX Tryz.prog 34 #[] m [] (ZBr Zzy):=by
 apply ZjF
 intro b hf
 exact ZaX (Mem.le_add hf _) ⟨_,_,rfl,ZbF⟩
theorem Zm4{m:Mem}{b:Nat}:∀{L:List E} {o:Nat},m.reads b o (L.map E.cs).flatten->(∀z∈L,RepE m z)->RepEAt m b o L
 | [],o,_,_=>by simp only[RepEAt]
 | z::L,o,h,hz=>by
  rw[List.map_cons,List.flatten_cons]at h
  simp only[RepEAt]
  refine⟨λi v hi=>h i v (by rw[zA5 (zA0 hi).1];exact hi),hz z (by simp),Zm4 (λi v hi=>?_) (λy hy=>hz y (by simp[hy]))⟩
  rw[Nat.add_assoc]
  refine h (5+i) v ?_
  rw[zA4 (by rw[E.len];omega),E.len,Nat.add_sub_cancel_left];exact hi
theorem Zt8{m:Mem}{k:Int}{x:Nat}{s:ByteArray}{g:Int}{a:Option Addr}{c:Nat}{L:List E}(h:rowRd m a (L.map E.cs).flatten)(hz:∀z∈L,RepE m z)(hl:L.length<=1000000000000000)(ho:OkE k s g):RepE m (.node k x s g a c L):=by
 simp only[RepE]
 refine⟨hl,?_,ho⟩
 rcases h with h|⟨b,o,ha,h⟩
 ·refine .inl ?_
  have:=congrArg List.length h
  rw[Za1 E.len]at this
  exact List.eq_nil_of_length_eq_zero (by simp at this;omega)
 ·exact .inr ⟨b,o,ha,Zm4 h hz⟩
theorem Zm5(e:E)(c:Int)(m:Mem)(hr:RepE m e)(cE:∀x∈e.nodes,okN 9 x)(hl:e.nodes.length<=1000):CX Tryz.prog 104 #[e.v,.int .i64 c] m [] (ER (BoE c e)):=by
 apply Zg1
 intro b b1
 refine⟨decide (e.k=10)&&decide (e.g > c),Zab (λh=>⟨rfl,Zah ?_⟩) (λh=>⟨rfl,Zah ?_⟩),Zab (λh=>?_) (λh=>?_)⟩
 ·have:e.k=10:=by simpa using h
  rw[decide_eq_true this,Bool.true_and]
 ·have:¬e.k=10:=by simpa using h
  rw[decide_eq_false this,Bool.false_and]
 ·rw[zA7,decide_eq_true_iff,decide_eq_true_iff]at h
  exact ZaX (Mem.le_refl _) ⟨ZBn ⟨#[121]⟩,rfl,ZeQ (by omega) (by decide) (by omega),ZAi (by simp[Zkv]) h.1⟩
 have hk:¬(e.k=10/\e.g > c):=by
  rintro⟨h1,h2⟩
  rw[decide_eq_true h1,decide_eq_true h2]at h;cases h
 have eG:e.subs.length<=1000:=by
  have:=ZeI e.subs
  rw[ZbA,List.length_cons]at hl;omega
 refine⟨λxs css tvs m' q=>∃(ts:List E)(a:Option Addr)(d:Nat),ts.length<=e.subs.length/\xs=[.int .i64 ts.length]/\css=[[.int .u8 e.k,.float .f64 e.x,.string e.s,.int .i64 e.g,.slice a ts.length d]]/\tvs=[.slice a ts.length d]/\rowRd m' a (ts.map E.cs).flatten/\(∀t∈ts,RepE m' t)/\(∀(i:Nat)(x y:E),e.subs[i]?=some x->ts[i]?=some y->BoE c x y)/\q=e.subs.length - ts.length,⟨_,[],none,0,by simp,rfl,rfl,rfl,.inl rfl,by simp,by simp,rfl⟩,?_⟩
 rintro n cs a n1 d m1 q aB ⟨ts,a',d',ju,hx,cD,eI,aN,bC,qv,hq⟩
 simp only[List.cons.injEq,Value.slice.injEq,Value.int.injEq,true_and,and_true]at hx cD eI
 obtain⟨rfl,rfl,rfl⟩:=eI
 subst hx cD
 refine Zar (λaO=>?_) (λbO=>?_)
 ·have aW:ts.length < e.subs.length:=by omega
  obtain⟨x,hx⟩:=Zas aW
  obtain⟨nq,h0|⟨b3,o3,gl,fJ⟩⟩:=Zeb hr
  ·rw[h0]at aW;simp at aW
  obtain⟨dI,dU⟩:=(fJ.mono' aB).get hx
  have jC:=zA2 hx
  have bV:=ZhE jC
  have sC:∀z∈x.nodes,z∈Zap e.subs:=λz hz=>by rw[ZcN hx];exact List.mem_append_right _ (List.mem_append_left _ hz)
  have j0:x.nodes.length<=1000:=by
   rw[ZbA,List.length_cons,ZcN hx,zA1,zA1]at hl;omega
  have hw:IntKind.i64.wrap ((ts.length:Int)+1)=((ts.length+1:Nat):Int):=by rw[Zan (by omega) (by omega)];rfl
  refine⟨b3,o3,gl,⟨by omega,aO⟩,_,_,_,_,_,dI,λb4=>Zaa rfl ⟨λ_ _ _=>ER (BoE c x),Zaq rfl ⟨_,rfl,Zm5 x c m1 dU (λz hz=>cE z (by rw[ZbA];exact List.mem_cons_of_mem _ (sC z hz))) j0,ZgE,ZBp λt m2 aM gJ ht b5 jG=>Zaa rfl ?_⟩⟩⟩
  refine Zip E.len E.one jG t (aN.mono aM) 64 (by omega) (by omega) (.inl rfl) λa5 c5 m5 cL cO=>Zaa rfl λM _ gP iM ji=>⟨rfl,e.subs.length - (ts.length+1),by omega,ts++[t],a5,c5,by rw[zA1];exact aW,by rw[hw,zA1];rfl,by rw[zA1];rfl,by rw[zA1];rfl,cO.mono ji,?_,?_,by rw[zA1];rfl⟩
  ·intro z hz
   rcases List.mem_append.1 hz with hz|hz
   ·exact(bC z hz).mono' (mLt aM gP)
   ·rw[List.mem_singleton]at hz;subst hz;exact gJ.mono' gP
  ·intro i x' y' hx' hy'
   rcases Nat.lt_or_ge i ts.length with h|h
   ·rw[zA5 h]at hy'
    exact qv i x' y' hx' hy'
   ·have hi:=(zA0 hy').1
    rw[zA1,List.length_singleton]at hi
    obtain rfl:i=ts.length:=by omega
    rw[hx]at hx'
    simp at hy'
    cases hx';subst hy';exact ht
 ·have bA:ts.length=e.subs.length:=by omega
  have ho:=Ztq hr
  refine Zaa rfl (ZaX aB ⟨.node e.k e.x e.s e.g a d ts,rfl,Zt8 aN bC (by omega) ho,?_⟩)
  have:=ZxZ (c:=c) (x:=e.x) (s:=e.s) (a:=e.a) (a':=a) (d:=e.c) (d':=d) (l:=e.subs) (r:=ts) (k:=e.k) (g:=e.g) (by cases e;exact cE _ (by simp[E.nodes,E.k,E.x,E.s,E.g,E.a,E.c,E.subs])) hk bA.symm qv
  cases e;exact this
termination_by SizeOf.sizeOf e
theorem Zm6(t:T)(m:Mem)(hr:Rep m t)(hl:t.nodes.length<=10000):CX Tryz.prog 66 #[t.v] m [] (Ret (.int .i64 (t.gr:Nat))):=by
 apply Zil
 intro b m1 aB _
 have eG:t.subs.length<=10000:=by
  have h1:=Zk5 t
  have:=Zp0 t.subs
  omega
 have uw:∀i,grL (t.subs.take i)<=10000:=λi=>by
  have h1:grL (t.subs.take i)<=szL (t.subs.take i):=List.countP_le_length
  have h2:szL t.subs=szL (t.subs.take i)+szL (t.subs.drop i):=by rw[<-ZaI,List.take_append_drop]
  have h3:=Zk5 t
  omega
 refine Zab (λh=>?_) (λh=>?_)
 all_goals
  refine⟨λxs _ _ m' q=>∃i:Nat,i<=t.subs.length/\xs=[.int .i64 (((if isG t=true then 1 else 0)+grL (t.subs.take i):Nat):Int),.int .i64 i]/\q=t.subs.length - i,⟨_,0,by omega,by unfold isG;rw[h];rfl,rfl⟩,?_⟩
  rintro n n1 m2 q aM ⟨i,hi,hx,rfl⟩
  simp only[List.cons.injEq,Value.int.injEq,true_and,and_true]at hx
  obtain⟨rfl,rfl⟩:=hx
  refine Zar (λaO=>?_) (λbO=>Zac (mLt aB aM) ?_)
  ·have aW:i < t.subs.length:=by omega
   obtain⟨x,hx⟩:=Zas aW
   have jC:=zA2 hx
   have bV:=Zsg jC
   have j0:x.nodes.length<=10000:=by
    have h1:=Zk5 t
    have h2:szL t.subs=szL (t.subs.take i)+szL (t.subs.drop i):=by rw[<-ZaI,List.take_append_drop]
    rw[ZpR hx,Ze5]at h2;omega
   have wq:grL (t.subs.take (i+1))=grL (t.subs.take i)+x.gr:=by
    rw[List.take_add_one,hx,ZbK];show _+grL [x]=_;rw[Zdm]
   have hb:=uw i
   have hb':=uw (i+1)
   obtain⟨b3,o3,gl,dI⟩:=Zd2 ((ZeF hr.subs).mono (mLt aB aM)) hx
   refine⟨b3,o3,gl,⟨by omega,aO⟩,_,_,_,_,_,_,_,_,dI,λb4=>Zaa rfl (Zav (Zm6 x m2 ((ZkX hr.subs x jC).mono (mLt aB aM)) j0) λm3 aY=>⟨rfl,t.subs.length - (i+1),by omega,i+1,by omega,?_,rfl⟩)⟩
   rw[wq,Zan (by split <;> omega) (by split <;> omega),Zan (by omega) (by omega)]
   simp;omega
  ·have:i=t.subs.length:=by omega
   subst this
   rw[List.take_length]
   show Value.int .i64 _=Value.int .i64 _
   rw[Zzv t]
termination_by SizeOf.sizeOf t
structure BytU (m:Mem)(a:Option Addr)(l:List Nat):Prop where
 lt:∀n∈l,n < 256
 row:rowRd m a (l.map λn:Nat=>[Value.int .u8 n]).flatten
theorem BytU.mono{m m':Mem}{a l}(h:BytU m a l)(hm:m.le m'):BytU m' a l:=⟨h.lt,h.row.mono hm⟩
theorem BytU.get{m:Mem}{a l}(h:BytU m a l){i:Nat}{n:Nat}(hi:l[i]?=some n):n < 256/\∃b o,a=some ⟨b,o,none⟩/\m b (o+i*1)=some (.int .u8 n):=by
 obtain⟨b,o,ha,h1⟩:=Zaj (cs:=λn:Nat=>[Value.int .u8 n]) (n:=1) (λ_=>rfl) h.row hi (by omega)
 exact⟨h.lt n (zA2 hi),b,o,ha,h1 0 _ rfl⟩
theorem Pt.one(p:Pt):∀u∈p.cs,u.oneCell'=true:=by
 intro u hu
 simp only[Pt.cs,List.mem_cons,List.not_mem_nil,or_false]at hu
 rcases hu with rfl|rfl|rfl|rfl|rfl|rfl|rfl|rfl <;> rfl
def TmR(c:Int):Value->Mem->List (List Value)->Prop:=λv m' _=>∃(l:List Pt)(a:Option Addr)(d:Nat),v=.slice a l.length d/\rowRd m' a (l.map Pt.cs).flatten/\(∀p∈l,RepP m' p)/\MkT c l
theorem Zxr{c:Int}:∀(v:Value)(m':Mem) (css:List (List Value)),TmR c v m' css->Shape.fits .slice v=true:=λv _ _ ⟨_,_,_,h,_⟩=>by rw[h];rfl
def TmI(c:Int)(N:Nat)(m:Mem):List Value->List (List Value)->List Value->Mem->Nat->Prop:=λxs _ tvs m' q=>∃(L:List Pt)(a:Option Addr)(d i:Nat),xs=[.slice a L.length d,.int .i64 i]/\tvs=[.slice a L.length d]/\i<=N/\L.length<=i/\m.le m'/\rowRd m' a (L.map Pt.cs).flatten/\(∀p∈L,RepP m' p)/\(∀p∈L,MkP c p)/\ZDl L/\q=N - i
theorem Zwd{L:List Pt}{p:Pt}(h:ZDl L)(hp:p.k=1->∀x,L[L.length - 1]?=some x->0 < L.length->x.k≠1):ZDl (L++[p]):=by
 intro i x y hx hy h1 h2
 rcases Nat.lt_or_ge (i+1) L.length with hi|hi
 ·rw[zA5 (by omega)]at hx
  rw[zA5 hi]at hy
  exact h i x y hx hy h1 h2
 ·have jr:=(zA0 hy).1
  rw[zA1,List.length_singleton]at jr
  have e:i+1=L.length:=by omega
  rw[zA5 (by omega)]at hx
  rw[e]at hy
  simp at hy;subst hy
  exact hp h2 x (by rw[<-e,Nat.add_sub_cancel];exact hx) (by omega) h1
theorem TmI.next{c:Int}{N:Nat}{m m' M:Mem}{L:List Pt}{i:Nat}{p:Pt}{a:Option Addr}{d:Nat}(hi:i < N)(hL:L.length<=i)(h0:m.le m')(hM:m'.le M)(aN:rowRd M a ((L++[p]).map Pt.cs).flatten)(hr:∀x∈L,RepP m' x)(hp:RepP M p)(hk:∀x∈L,MkP c x)(wt:MkP c p)(hl:ZDl L)(wu:p.k=1->∀x,L[L.length - 1]?=some x->0 < L.length->x.k≠1):
  ∃n',n' < N - i/\TmI c N m [.slice a (L.length+1) d,.int .i64 ((i+1:Nat):Int)] [] [.slice a (L.length+1) d] M n':=by
 refine⟨N - (i+1),by omega,L++[p],a,d,i+1,by rw[zA1];rfl,by rw[zA1];rfl,by omega,by rw[zA1,List.length_singleton];omega,mLt h0 hM,aN,?_,?_,Zwd hl wu,rfl⟩
 ·intro x hx
  rcases List.mem_append.1 hx with hx|hx
  ·exact(hr x hx).mono hM
  ·rw[List.mem_singleton]at hx;subst hx;exact hp
 ·intro x hx
  rcases List.mem_append.1 hx with hx|hx
  ·exact hk x hx
  ·rw[List.mem_singleton]at hx;subst hx;exact wt
theorem Ziq{m:Mem}{k:Int}{s:ByteArray}{g:Int}(hk:0<=k/\k < 256)(hs:s.size<=1000000000000000)(hg:I64 g):RepP m ⟨k,s,g,E0⟩:=⟨hk,hs,hg,Zzr m⟩
theorem Zl2:∀s∈Zfq,s.size<=16:=by decide +kernel
theorem ZEs:∀j < 5,∃s:ByteArray,[Value.string ⟨#[97]⟩,.string ⟨#[45]⟩,.string ⟨#[97,98,32]⟩,.string ⟨#[0,255]⟩,.string ⟨#[49,50]⟩][j*1]?=some (.string s)/\0 < s.size/\s.size<=512:=by
 intro j hj
 have:j=0\/j=1\/j=2\/j=3\/j=4:=by omega
 rcases this with rfl|rfl|rfl|rfl|rfl <;> exact⟨_,rfl,by decide,by decide⟩
set_option maxHeartbeats 2000000 in
theorem Zks(l:List Nat)(a:Option Addr)(d:Nat)(e:E)(c:Int)(m:Mem)(hb:BytU m a l)(hd:l.length<=d)(hl:l.length<=1000000000000000)(hr:RepE m e)(he:MkE c 20 e)(hc : -1<=c/\c<=10000):
  CX Tryz.prog 106 #[.slice a l.length d,e.v,.int .i64 c] m [] (TmR c):=by
 apply Zf4
 intro b m1 aB _
 have hN:(if(5:Int) < (l.length:Int)then(5:Int)else(l.length:Int))=((min 5 l.length:Nat):Int):=by split <;> omega
 simp only[hN,zA8,Nat.sub_zero]
 generalize qW:min 5 l.length=N
 refine⟨⟨by omega,by omega⟩,TmI c N m1,⟨N,[],none,0,0,rfl,rfl,by omega,by simp,Mem.le_refl _,.inl rfl,by simp,by simp,λi p q h=>by simp at h,by omega⟩,?_⟩
 rintro a1 n1 c1 z1 a2 n2 c2 m2 q aM ⟨L,a',c',i,hx,eI,qX,gQ,hm,aN,bC,jo,iC,rfl⟩
 simp only[List.cons.injEq,Value.slice.injEq,Value.int.injEq,true_and,and_true]at hx eI
 obtain⟨⟨rfl,rfl,rfl⟩,rfl⟩:=hx
 obtain⟨rfl,rfl,rfl⟩:=eI
 have hw:IntKind.i64.wrap ((i:Int)+1)=((i+1:Nat):Int):=by rw[Zan (by omega) (by omega)];rfl
 have ww:IntKind.i64.wrap ((L.length:Int) - 1)=(L.length:Int) - 1:=Zan (by omega) (by omega)
 have qY:=mLt aB aM
 refine Zar (λaO=>?_) (λbO=>ZaX qY ⟨L,a2,c2,rfl,aN,bC,by omega,jo,iC⟩)
 have aW:i < N:=by omega
 obtain⟨n,hn⟩:=Zas (l:=l) (k:=i) (by omega)
 obtain⟨jX,bs,os,ha,hv⟩:=(hb.mono qY).get hn
 have sU:Int.tmod (n:Int) 8=((n % 8:Nat):Int):=rfl
 have sV:IntKind.i64.wrap (Int.tdiv (IntKind.i64.wrap (n:Int)) 8)=((n / 8:Nat):Int):=by
  rw[Zan (n:=(n:Int)) (by omega) (by omega),show Int.tdiv (n:Int) 8=((n / 8:Nat):Int) from rfl,Zan (by omega) (by omega)]
 simp only[hw,ww,zA8]
 refine⟨bs,os,ha,⟨by omega,aO⟩,_,hv,_,rfl,by omega,by omega,?_⟩
 simp only[sU,sV]
 have wx:n / 8 < 32:=by omega
 generalize n % 8=k
 generalize n / 8=u at wx
 have stay:∀M:Mem,m2.le M->∃n',n' < N - i/\TmI c N m1 [.slice a2 L.length c2,.int .i64 ((i+1:Nat):Int)] [] [.slice a2 L.length c2] M n':=λM hM=>⟨N - (i+1),by omega,L,a2,c2,i+1,rfl,rfl,by omega,by omega,mLt hm hM,aN.mono hM,λp hp=>(bC p hp).mono hM,jo,iC,rfl⟩
 refine⟨λxs _ _ m'=>xs=[.bool (decide (k=0\/k=1))]/\m2.le m',Zab (λh=>⟨trivial,trivial,?_,Mem.le_refl _⟩) (λh=>⟨trivial,trivial,?_,Mem.le_refl _⟩),?_⟩
 ·have:k=0:=by simp at h;omega
  rw[h,this];rfl
 ·have:¬k=0:=by simp at h;omega
  refine Zah ?_
  rw[Bool.eq_iff_iff];simp;omega
 rintro b2 m3 aY ⟨eR,_⟩
 obtain rfl:b2=decide (k=0\/k=1):=by simpa using eR
 have dM:=mLt qY aY
 refine Zar (λi9=>?_) (λi9=>?_)
 ·refine⟨decide (L.length=0)||!(match L[L.length - 1]? with
   | some x=>x.k == 1
   | none=>false),Zar (λh=>⟨trivial,trivial,Zah ?_⟩) (λh=>?_),Zab (λhB=>?_) (λ_=>⟨trivial,stay m3 aY⟩)⟩
  ·rw[decide_eq_true (show L.length=0 by omega)];rfl
  ·obtain⟨x,hx⟩:=Zas (l:=L) (k:=L.length - 1) (by omega)
   obtain⟨b4,o4,pD,cK⟩:=Zaj Pt.len (aN.mono aY) hx (by omega)
   have wy:Int.toNat ((L.length:Int) - 1)=L.length - 1:=by omega
   refine⟨b4,o4,pD,⟨by omega,by omega⟩,.int .u8 x.k,by rw[wy];exact cK 0 _ rfl,_,rfl,trivial,trivial,Zah ?_⟩
   rw[decide_eq_false (show ¬L.length=0 by omega),hx,Bool.false_or]
  ·have ux:Int.tmod (u:Int) 5=((u % 5:Nat):Int):=rfl
   have h5:u % 5 < 5:=Nat.mod_lt _ (by omega)
   intro b4 jh
   obtain⟨s,hs,kt,wz⟩:=ZEs (u % 5) h5
   refine⟨by omega,by rw[ux];exact⟨by omega,by omega⟩,Zaq (by rw[ux,zA8];exact hs) ⟨s,rfl,λb5 jG=>?_⟩⟩
   have om:=mLt aY (Mem.le_add jh [Value.string ⟨#[97]⟩,.string ⟨#[45]⟩,.string ⟨#[97,98,32]⟩,.string ⟨#[0,255]⟩,.string ⟨#[49,50]⟩])
   refine Zip Pt.len Pt.one jG (⟨1,s,0,E0⟩:Pt) (aN.mono om) 96 (by omega) (by omega) (.inl trivial) λa8 c8 m8 ia gy=>⟨trivial,TmI.next aW gQ (mLt hm om) (mLt (Mem.le_add jG _) ia) gy (λx hx=>(bC x hx).mono om) (Ziq (by omega) (by omega) ⟨by omega,by omega⟩) jo (.lit s ⟨kt,wz⟩) iC (λ_ x hx xu qE=>?_)⟩
   rw[hx,decide_eq_false (show ¬L.length=0 by omega)]at hB
   simp[qE]at hB
 refine⟨λxs _ _ m'=>xs=[.bool (decide (k=2\/k=3))]/\m3.le m',Zab (λh=>⟨trivial,trivial,?_,Mem.le_refl _⟩) (λh=>⟨trivial,trivial,?_,Mem.le_refl _⟩),?_⟩
 ·have:k=2:=by simp at h;omega
  rw[h,this];rfl
 ·have:¬k=2:=by simp at h;omega
  refine Zah ?_
  rw[Bool.eq_iff_iff];simp;omega
 rintro b3 m4 bP ⟨eY,_⟩
 obtain rfl:b3=decide (k=2\/k=3):=by simpa using eY
 have ib:=mLt aY bP
 refine Zar (λwB=>?_) (λwB=>?_)
 ·refine Zai (ZoX m4) ZdH ?_
  rintro a5 n5 c5 m5 cL ⟨a',c',iv,fX⟩
  simp only[Value.slice.injEq]at iv
  obtain⟨rfl,rfl,rfl⟩:=iv
  have h2:u % 2 < 2:=Nat.mod_lt _ (by omega)
  obtain⟨s,hs⟩:=Zas (l:=Zfq) (k:=u % 2) h2
  have j5:=zA2 hs
  obtain⟨b6,o6,jF,cK⟩:=Zc0 fX hs
  have bV:s.size<=1000000000000000:=by have:=Zl2 s j5;omega
  have hu:Int.tmod (u:Int) 2=((u % 2:Nat):Int):=rfl
  have jp:=mLt ib cL
  refine⟨by omega,b6,o6,jF,by rw[hu];exact⟨by omega,by show((u % 2:Nat):Int) < (2:Nat);omega⟩,_,by rw[hu,zA8];exact cK,s,rfl,λb7 pM=>?_⟩
  refine Zip Pt.len Pt.one pM (⟨2,s,0,E0⟩:Pt) (aN.mono jp) 96 (by omega) (by omega) (.inl trivial) λa8 c8 m8 ia gy=>⟨trivial,TmI.next aW gQ (mLt hm jp) (mLt (Mem.le_add pM _) ia) gy (λx hx=>(bC x hx).mono jp) (Ziq (by omega) bV ⟨by omega,by omega⟩) jo (.var s (.inr j5)) iC (λh=>absurd (show(2:Int)=1 from h) (by decide))⟩
 refine Zab (λh4=>?_) (λh4=>?_)
 ·refine Zai (ZiV m4) ZdH ?_
  rintro a5 n5 c5 m5 cL ⟨a',c',iv,fX⟩
  simp only[Value.slice.injEq]at iv
  obtain⟨rfl,rfl,rfl⟩:=iv
  have h2:u % 4 < 4:=Nat.mod_lt _ (by omega)
  obtain⟨s,hs⟩:=Zas (l:=Zkv) (k:=u % 4) h2
  have j5:=zA2 hs
  obtain⟨b6,o6,jF,cK⟩:=Zc0 fX hs
  have bV:s.size<=1000000000000000:=by have:=Zl1 s j5;omega
  have hu:Int.tmod (u:Int) 4=((u % 4:Nat):Int):=rfl
  have jp:=mLt ib cL
  refine⟨by omega,b6,o6,jF,by rw[hu];exact⟨by omega,by show((u % 4:Nat):Int) < (4:Nat);omega⟩,_,by rw[hu,zA8];exact cK,s,rfl,λb7 pM=>?_⟩
  refine Zip Pt.len Pt.one pM (⟨2,s,0,E0⟩:Pt) (aN.mono jp) 96 (by omega) (by omega) (.inl trivial) λa8 c8 m8 ia gy=>⟨trivial,TmI.next aW gQ (mLt hm jp) (mLt (Mem.le_add pM _) ia) gy (λx hx=>(bC x hx).mono jp) (Ziq (by omega) bV ⟨by omega,by omega⟩) jo (.var s (.inl j5)) iC (λh=>absurd (show(2:Int)=1 from h) (by decide))⟩
 refine⟨λxs _ _ m'=>xs=[.bool (decide (k=5\/k=6))]/\m4.le m',Zab (λh=>⟨trivial,trivial,?_,Mem.le_refl _⟩) (λh=>⟨trivial,trivial,?_,Mem.le_refl _⟩),?_⟩
 ·have:k=5:=by simp at h;omega
  rw[h,this];rfl
 ·have:¬k=5:=by simp at h;omega
  refine Zah ?_
  rw[Bool.eq_iff_iff];simp;omega
 rintro b4 m5 cL ⟨mj,_⟩
 obtain rfl:b4=decide (k=5\/k=6):=by simpa using mj
 have jp:=mLt ib cL
 refine Zar (λwC=>?_) (λwC=>?_)
 ·refine Zar (λhp=>?_) (λhp=>⟨trivial,stay m5 jp⟩)
  obtain⟨C,mo,sG,hC⟩:∃C:Nat,(C:Int)<=c/\C<=9/\IntKind.i64.wrap ((if(9:Int) < c then(9:Int)else c)+1)=((C+1:Nat):Int):=by
   by_cases h9:9 < c
   ·exact⟨9,by omega,by omega,by rw[if_pos h9];rfl⟩
   ·refine⟨c.toNat,by omega,by omega,?_⟩
    rw[if_neg h9,Zan (by omega) (by omega)];omega
  have lN:Int.tmod (u:Int) ((C+1:Nat):Int)=((u % (C+1):Nat):Int):=rfl
  have aO:u % (C+1) < C+1:=Nat.mod_lt _ (by omega)
  simp only[hC,lN]
  refine⟨by omega,λb6 iW=>?_⟩
  refine Zip Pt.len Pt.one iW (⟨3,.empty,((u % (C+1):Nat):Int),E0⟩:Pt) (aN.mono jp) 96 (by omega) (by omega) (.inl trivial) λa8 c8 m8 ia gy=>⟨trivial,TmI.next aW gQ (mLt hm jp) (mLt (Mem.le_add iW _) ia) gy (λx hx=>(bC x hx).mono jp) (Ziq (by omega) (by rw[ZaT];omega) ⟨by omega,by omega⟩) jo (.cap _ (by omega)) iC (λh=>absurd (show(3:Int)=1 from h) (by decide))⟩
 ·intro b6 iW
  have pN:=Mem.le_add iW (⟨4,.empty,0,e⟩:Pt).cs
  refine Zip Pt.len Pt.one iW (⟨4,.empty,0,e⟩:Pt) (aN.mono jp) 96 (by omega) (by omega) (.inl trivial) λa8 c8 m8 ia gy=>⟨trivial,TmI.next aW gQ (mLt hm jp) (mLt pN ia) gy (λx hx=>(bC x hx).mono jp) ⟨by show(0:Int)<=4/\(4:Int) < 256;omega,by show ByteArray.empty.size<=_;rw[ZaT];omega,⟨by show(-9223372036854775808:Int)<=0;omega,by show(0:Int)<=9223372036854775807;omega⟩,hr.mono' (mLt qY (mLt jp (mLt pN ia)))⟩ jo (.clc e he) iC (λh=>absurd (show(4:Int)=1 from h) (by decide))⟩
theorem ZDQ(i:Nat):Int.tdiv (i:Int) 64=((i / 64:Nat):Int):=rfl
theorem ZDb(i:Nat):Int.tmod (i:Int) 64=((i % 64:Nat):Int):=rfl
theorem ZDR{n:Int}(h1:0<=n)(h2:n < 256):IntKind.u8.wrap n=n:=by
 unfold IntKind.wrap
 simp only[IntKind.bits,IntKind.signed,Bool.false_and,Bool.false_eq_true,if_false]
 have e:(2:Int) ^ 8=256:=by decide
 rw[e];omega
theorem ZyR(t:T)(m:Mem)(hr:Rep m t):CX Tryz.prog 102 #[t.v] m [] (ZpS (λu=>∃a c,u=Zcn 6 0 0 a c [t])):=by
 apply ZjK
 intro b m1 aB _ b1 b2 hf
 have bW:=Mem.le_add hf t.cs
 refine ZaX (mLt aB bW) ⟨Zcn 6 0 0 (some ⟨b2,0,none⟩) 1 [t],rfl,Zgu (Zto ?_ (hr.mono (mLt aB bW))) (by omega) (by omega) (by omega),_,_,rfl⟩
 intro j v hj
 rw[Nat.zero_add,Mem.add_same];exact hj
theorem ZAO(t:T)(mn mx:Int)(h1 : -9223372036854775808<=mn/\mn<=9223372036854775807)(h2 : -9223372036854775808<=mx/\mx<=9223372036854775807)(m:Mem)(hr:Rep m t):CX Tryz.prog 103 #[t.v,.int .i64 mn,.int .i64 mx] m [] (ZpS (λu=>∃a c,u=Zcn 5 mn mx a c [t])):=by
 apply Zoj
 intro b m1 aB _ b1 b2 hf
 have bW:=Mem.le_add hf t.cs
 refine ZaX (mLt aB bW) ⟨Zcn 5 mn mx (some ⟨b2,0,none⟩) 1 [t],rfl,Zgu (Zto ?_ (hr.mono (mLt aB bW))) (by omega) h1 h2,_,_,rfl⟩
 intro j v hj
 rw[Nat.zero_add,Mem.add_same];exact hj
def ZeR(s:ByteArray):List Nat:=s.data.toList.map λb=>b.toNat
theorem ZsQ(s:ByteArray):(ZeR s).length=s.size:=by unfold ZeR;rw[List.length_map,Array.length_toList];rfl
theorem Zwe(s:ByteArray):∀c∈ZeR s,c < 256:=by
 intro c hc
 unfold ZeR at hc
 obtain⟨b,_,rfl⟩:=List.mem_map.1 hc
 exact b.toBitVec.isLt
theorem ZyS{s:ByteArray}{k c:Nat}(h:(ZeR s)[k]?=some c):Zhf s k=(c:Int):=by
 unfold ZeR at h
 rw[List.getElem?_map]at h
 obtain⟨b,hb,rfl⟩:=Option.map_eq_some_iff.1 h
 unfold Zhf
 rw[List.getD_eq_getElem?_getD,hb];rfl
theorem Zrd(s:ByteArray)(hs:(ZeR s).length<=100000)(m:Mem):CX Tryz.prog 99 #[.string s] m [] (ZpS (λt=>t=ZkY (ZeR s))):=by
 apply ZjL
 intro b b1
 have bA:=ZsQ s
 refine⟨λxs css tvs m' q=>∃k:Nat,k<=s.size/\xs=[.int .i64 k]/\css=[ZwY ((ZeR s).take k)]/\q=s.size - k,⟨_,0,by omega,rfl,rfl,rfl⟩,?_⟩
 rintro n cs m1 q aB ⟨k,hk,hn,cD,hq⟩
 obtain rfl:n=k:=by simpa using hn
 obtain rfl:cs=ZwY ((ZeR s).take k):=by simpa using cD
 refine Zab (λaO=>?_) (λbO=>?_)
 ·have aW:k < s.size:=by have:=zA6 aO;omega
  obtain⟨c,hc⟩:=Zas (l:=ZeR s) (k:=k) (by omega)
  have pO:=Zwe s c (zA2 hc)
  have hw:IntKind.i64.wrap ((k:Int)+1)=((k+1:Nat):Int):=by rw[Zan (by omega) (by omega)];rfl
  have sV:IntKind.u8.wrap (Int.tdiv (c:Int) 64)=((c / 64:Nat):Int):=by rw[ZDQ];exact ZDR (by omega) (by omega)
  have hr:IntKind.u64.wrap (1*2 ^ min (Int.toNat (Int.tmod (c:Int) 64)) 64)=((2 ^ (c % 64):Nat):Int):=by
   rw[ZDb,zA8,Nat.min_eq_left (by omega),Int.one_mul]
   have:=ZCP (2 ^ (c % 64)) (by
    have:2 ^ (c % 64) < 2 ^ 64:=Nat.pow_lt_pow_right (by omega) (by omega)
    exact this)
   rw[<-this];push_cast;rfl
  have h2:(2:Nat) ^ (c % 64) < 18446744073709551616:=by
   have:(2:Nat) ^ (c % 64) < 2 ^ 64:=Nat.pow_lt_pow_right (by omega) (by omega)
   exact this
  have hj:c / 64 < 4:=by omega
  simp only[hw,zA8,ZyS hc,sV,hr,Nat.zero_add,Nat.mul_one]
  refine⟨⟨by omega,by omega⟩,by omega,⟨by omega,by omega⟩,Zaq (Zvd _ hj) ⟨⟨by omega,by omega⟩,by omega,by rw[ZDb];omega,Zaa rfl ⟨⟨by omega,by omega⟩,Zaa (by rw[Nat.ble_eq];show c / 64+1<=4;omega) ⟨by trivial,s.size - (k+1),by omega,k+1,by omega,rfl,?_,rfl⟩⟩⟩⟩
  simp only[intOf]
  rw[ZxX _ _ (ZwX _ _) h2,Zsk _ rfl hj,Ztn hc]
 ·have:k=s.size:=by have:=of_decide_eq_false bO;omega
  subst this
  rw[<-bA,List.take_length]
  exact Zaa rfl (Zaa rfl (Zac aB ⟨ZkY (ZeR s),rfl,ZpT _ m,rfl⟩))
theorem ZsR(n:Nat)(hn:n < 256)(m:Mem):CX Tryz.prog 100 #[.int .u8 n] m [] (λv _ _=>∃s,v=.string s/\ZeR s=ZdG n):=by
 apply Zg3
 intro b hf
 have ht:Int.tmod (n:Int) 12=((n % 12:Nat):Int):=rfl
 simp only[ht,zA8,Nat.mul_one]
 refine⟨by omega,⟨by omega,by omega⟩,?_⟩
 have h:n % 12=0\/n % 12=1\/n % 12=2\/n % 12=3\/n % 12=4\/n % 12=5\/n % 12=6\/n % 12=7\/n % 12=8\/n % 12=9\/n % 12=10\/n % 12=11:=by omega
 unfold ZdG
 rcases h with e|e|e|e|e|e|e|e|e|e|e|e <;>
 ·rw[e]
  refine Zaq rfl ?_
  exact⟨_,Mem.le_add hf _,Mem.le_refl _,_,rfl,rfl⟩
theorem Zfd(k:Int)(t:T):Zbc k t=if t.k=k then t.subs else if k=3/\t.k=1 then[]else[t]:=rfl
theorem Zef(l:List T):∀u∈Rx.Zc2 l,u.oneCell'=true:=by
 intro u hu
 simp only[Rx.Zc2,List.mem_flatten,List.mem_map]at hu
 obtain⟨_,⟨t,_,rfl⟩,h⟩:=hu
 simp only[T.cs,List.mem_cons,List.not_mem_nil,or_false,T.sl]at h
 rcases h with rfl|rfl|rfl|rfl|rfl|rfl|rfl|rfl <;> rfl
theorem ZoY(k:Int)(t u:T)(hk:k=3\/k=4)(m:Mem)(hr:Rep m t)(hu:Rep m u)(ht:(Zbc k t).length<=10000)(wD:(Zbc k u).length<=10000):CX Tryz.prog 101 #[.int .u8 k,t.v,u.v] m [] (ZpS (λr=>∃a c,r=ZfM k a c (Zbc k t++Zbc k u))):=by
 apply ZjM
 intro b m1 aB _ b1 m2 aM _ b2 b3 iT
 have kD:=mLt aB aM
 have ie:m.le (m2.add b3 (t.cs++u.cs)):=mLt kD (Mem.le_add iT _)
 refine⟨λxs css tvs m' q=>∃(i:Nat)(l:List T)(a:Option Addr)(c:Nat),i<=2/\xs=[.slice a l.length c,.int .i64 i]/\tvs=[.slice a l.length c]/\l=(([t,u].take i).map (Zbc k)).flatten/\rowRd m' a (Rx.Zc2 l)/\q=2 - i,⟨2,0,[],none,0,by omega,rfl,rfl,rfl,.inl rfl,rfl⟩,?_⟩
 rintro a n c z a1 n1 c1 m3 q aY ⟨i,l,a',c',hi,cQ,eI,hl,aN,hq⟩
 simp only[List.cons.injEq,Value.slice.injEq,Value.int.injEq,true_and,and_true]at cQ eI
 obtain⟨⟨rfl,rfl,rfl⟩,rfl⟩:=cQ
 obtain⟨rfl,rfl,rfl⟩:=eI
 have jJ:=mLt ie aY
 have iC:l.length<=20000:=by
  rw[hl]
  have:i=0\/i=1\/i=2:=by omega
  rcases this with rfl|rfl|rfl <;> simp <;> omega
 refine Zab (λaO=>?_) (λbO=>?_)
 ·have h2:i=0\/i=1:=by have:=zA6 aO;omega
  rcases h2 with rfl|rfl
  ·
   refine⟨⟨by omega,by omega⟩,Zaa rfl λb4=>Zaa rfl (Zaq (v:=.int .u8 t.k) rfl (Zaa rfl (Zab (λdK=>Zaq (v:=t.sl) rfl (Zaa rfl ?_)) (λdK=>?_))))⟩
   ·have gT:t.k=k:=by simpa[RowKit.intOf]using dK
    have hj:Zbc k t=t.subs:=by rw[Zfd,if_pos gT]
    have bA:=ht
    rw[hj]at bA
    refine⟨.inl rfl,Rx.Zc2 l,Rx.Zc2 t.subs,Zat _,Zat _,aN,(ZeF (hr.subs)).mono jJ,Zef _,?_,?_,λa2 c2 m4 bP dW=>⟨by trivial,1,by omega,1,l++t.subs,a2,c2,by omega,?_,?_,?_,?_,?_⟩⟩
    ·simp only[T.sl,slN];omega
    ·simp only[T.sl,slN];omega
    ·rw[zA1];rfl
    ·rw[zA1];rfl
    ·rw[hl,<-hj];simp
    ·rw[ZaS];exact dW
    ·omega
   ·have gT:¬t.k=k:=by simpa[RowKit.intOf]using dK
    refine⟨k == 3&&t.k == 1,Zab (λh=>Zaq (v:=.int .u8 t.k) rfl (Zaa rfl ⟨by trivial,by trivial,?_⟩)) (λh=>⟨by trivial,by trivial,?_⟩),Zab (λh=>⟨by trivial,1,by omega,1,l,_,_,by omega,rfl,rfl,?_,aN,by omega⟩) (λh=>Zaa rfl λb6 iW=>?_)⟩
    ·rw[h];rfl
    ·rw[h];rfl
    ·have:k=3/\t.k=1:=by simpa using h
     have hj:Zbc k t=[]:=by rw[Zfd,if_neg gT,if_pos this]
     rw[hl];simp[hj]
    ·have:¬(k=3/\t.k=1):=by simpa using h
     have hj:Zbc k t=[t]:=by rw[Zfd,if_neg gT,if_neg this]
     have ic:=Mem.le_add iW t.cs
     refine⟨.inl rfl,Rx.Zc2 l,t.cs,Zat _,rfl,aN.mono ic,.inr ⟨b6,0,rfl,λj v hj=>by rw[Nat.zero_add,Mem.add_same];exact hj⟩,by rw[<-ZbE];exact Zef _,by omega,by omega,λa2 c2 m4 bP dW=>⟨by trivial,1,by omega,1,l++[t],a2,c2,by omega,?_,?_,?_,?_,?_⟩⟩
     ·rw[zA1];rfl
     ·rw[zA1];rfl
     ·rw[hl];simp[hj]
     ·rw[ZaS,ZbE];exact dW
     ·omega
  ·
   refine⟨⟨by omega,by omega⟩,Zaa rfl λb4=>Zaa rfl (Zaq (v:=.int .u8 u.k) rfl (Zaa rfl (Zab (λdK=>Zaq (v:=u.sl) rfl (Zaa rfl ?_)) (λdK=>?_))))⟩
   ·have gT:u.k=k:=by simpa[RowKit.intOf]using dK
    have hj:Zbc k u=u.subs:=by rw[Zfd,if_pos gT]
    have bA:=wD
    rw[hj]at bA
    refine⟨.inl rfl,Rx.Zc2 l,Rx.Zc2 u.subs,Zat _,Zat _,aN,(ZeF (hu.subs)).mono jJ,Zef _,?_,?_,λa2 c2 m4 bP dW=>⟨by trivial,0,by omega,2,l++u.subs,a2,c2,by omega,?_,?_,?_,?_,?_⟩⟩
    ·simp only[T.sl,slN];omega
    ·simp only[T.sl,slN];omega
    ·rw[zA1];rfl
    ·rw[zA1];rfl
    ·rw[hl,<-hj];simp
    ·rw[ZaS];exact dW
    ·omega
   ·have gT:¬u.k=k:=by simpa[RowKit.intOf]using dK
    refine⟨k == 3&&u.k == 1,Zab (λh=>Zaq (v:=.int .u8 u.k) rfl (Zaa rfl ⟨by trivial,by trivial,?_⟩)) (λh=>⟨by trivial,by trivial,?_⟩),Zab (λh=>⟨by trivial,0,by omega,2,l,_,_,by omega,rfl,rfl,?_,aN,by omega⟩) (λh=>Zaa rfl λb6 iW=>?_)⟩
    ·rw[h];rfl
    ·rw[h];rfl
    ·have:k=3/\u.k=1:=by simpa using h
     have hj:Zbc k u=[]:=by rw[Zfd,if_neg gT,if_pos this]
     rw[hl];simp[hj]
    ·have:¬(k=3/\u.k=1):=by simpa using h
     have hj:Zbc k u=[u]:=by rw[Zfd,if_neg gT,if_neg this]
     have ic:=Mem.le_add iW u.cs
     refine⟨.inl rfl,Rx.Zc2 l,u.cs,Zat _,rfl,aN.mono ic,.inr ⟨b6,0,rfl,λj v hj=>by rw[Nat.zero_add,Mem.add_same];exact hj⟩,by rw[<-ZbE];exact Zef _,by omega,by omega,λa2 c2 m4 bP dW=>⟨by trivial,0,by omega,2,l++[u],a2,c2,by omega,?_,?_,?_,?_,?_⟩⟩
     ·rw[zA1];rfl
     ·rw[zA1];rfl
     ·rw[hl];simp[hj]
     ·rw[ZaS,ZbE];exact dW
     ·omega
 ·have:i=2:=by have:=of_decide_eq_false bO;omega
  subst this
  have hl':Zbc k t++Zbc k u=l:=by rw[hl];simp
  rw[hl']
  have bC:∀x∈l,Rep m3 x:=by
   have key:∀t:T,Rep m t->∀x∈Zbc k t,Rep m3 x:=by
    intro t hr x hx
    rw[Zfd]at hx
    split at hx
    ·exact ZkX (hr.subs.mono jJ) x hx
    ·split at hx
     ·simp at hx
     ·simp at hx;subst hx;exact hr.mono jJ
   rw[<-hl']
   intro x hx
   rcases List.mem_append.1 hx with hx|hx
   ·exact key t hr x hx
   ·exact key u hu x hx
  refine Zab (λh0=>?_) (λh0=>Zab (λh1=>?_) (λh1=>?_))
  ·have:l=[]:=by simpa using h0
   subst this
   exact Zac jJ ⟨T1,rfl,Zz5 _,none,0,rfl⟩
  ·have qP:l.length=1:=by
    have:((l.length:Int) == 1)=true:=h1
    have:=zA6 this;omega
   obtain⟨x,rfl⟩:∃x,l=[x]:=by
    match l,qP with
    | [x],_=>exact⟨x,rfl⟩
   rcases aN with aN|⟨b6,o,ha,cK⟩
   ·simp[Rx.Zc2,T.cs]at aN
   ·rw[ZbE]at cK
    exact⟨b6,o,ha,⟨by omega,by simp⟩,_,_,_,_,_,_,_,_,cK,Zaa rfl (ZaX jJ ⟨x,rfl,bC x (by simp),none,0,rfl⟩)⟩
  ·have wE:¬l.length=0:=λe=>by rw[e]at h0;simp at h0
   have ly:¬l.length=1:=λe=>by rw[e]at h1;simp at h1
   obtain⟨x,y,r,rfl⟩:∃x y r,l=x::y::r:=by
    match l,wE,ly with
    | [],h,_=>simp at h
    | [x],_,h=>simp at h
    | x::y::r,_,_=>exact⟨x,y,r,rfl⟩
   refine ZaX jJ ⟨Zcn k 0 0 _ _ (x::y::r),rfl,Zgu (ZwW aN bC (by omega)) (by omega) (by omega) (by omega),_,_,rfl⟩
structure Sm (m:Mem)(a:Option Addr)(l:List (Nat×Nat×Nat)):Prop where
 len:l.length<=9223372036854775807
 byte:∀s∈l,s.1 < 256/\s.2.1 < 256/\s.2.2 < 256
 at':∀i s,l[i]?=some s->∃b o,a=some ⟨b,o,none⟩/\m.reads b (o+i*3) [.int .u8 s.1,.int .u8 s.2.1,.int .u8 s.2.2]
theorem Sm.mono{m m':Mem}{a l}(h:Sm m a l)(hm:m.le m'):Sm m' a l:=
 ⟨h.len,h.byte,λi s hi=>by obtain⟨b,o,h1,h2⟩:=h.at' i s hi;exact⟨b,o,h1,h2.mono hm⟩⟩
theorem Zre(n:Nat):(([[97],[98],[97,98],[97],[98],[99],[97,98,99],[98,99],[10],[0,255],[97],[98]][n % 12]?).getD []:List Nat).length<=100000:=by
 have h:n % 12=0\/n % 12=1\/n % 12=2\/n % 12=3\/n % 12=4\/n % 12=5\/n % 12=6\/n % 12=7\/n % 12=8\/n % 12=9\/n % 12=10\/n % 12=11:=by omega
 rcases h with e|e|e|e|e|e|e|e|e|e|e|e <;> rw[e] <;> decide
theorem ZAP:∀L < 3,∀Mo < 4,((Mo < L\/Mo=0\/(L=1/\Mo=1))->ZkW (L:Nat) (-1)=true/\ZxW (L:Nat) (-1)<=((max 1 L:Nat):Int))/\(¬(Mo < L\/Mo=0\/(L=1/\Mo=1))->ZkW (L:Nat) (Mo:Nat)=true/\ZxW (L:Nat) (Mo:Nat)<=((max 1 (max L Mo):Nat):Int)):=by
 intro L hL Mo hM
 have h1:L=0\/L=1\/L=2:=by omega
 have h2:Mo=0\/Mo=1\/Mo=2\/Mo=3:=by omega
 rcases h1 with rfl|rfl|rfl <;> rcases h2 with rfl|rfl|rfl|rfl <;> exact⟨λ_=>by first|exact⟨by decide,by decide⟩|omega,λ_=>by first|exact⟨by decide,by decide⟩|omega⟩
theorem Zwf(l:List (Nat×Nat×Nat))(a:Option Addr)(c:Nat)(m:Mem)(hl:Sm m a l)(hc:l.length<=c):CX Tryz.prog 65 #[.slice a l.length c] m [] (ZpS (λt=>t.check=0/\t.nodes.length<=26)):=by
 apply ZlZ
 have bA:=hl.len
 intro b
 have hN:(if(25:Int) < (l.length:Int)then(25:Int)else(l.length:Int))=((min 25 l.length:Nat):Int):=by split <;> omega
 simp only[hN,zA8,Nat.sub_zero]
 generalize qW:min 25 l.length=N
 refine⟨⟨by omega,by omega⟩,λxs css tvs m' q=>∃(i:Nat)(ts:List T)(a:Option Addr)(c:Nat)(u g:Nat)(mb:Mem),i<=N/\xs=[.slice a ts.length c,.int .i64 u,.int .i64 g,.int .i64 i]/\tvs=[.slice a ts.length c]/\ts.length<=c/\m.le mb/\mb.le m'/\Apart mb a/\rowRd m' a (Rx.Zc2 ts)/\(∀t∈ts,Rep mb t)/\J i ts u g/\q=N - i,⟨N,0,[],none,0,1,0,m,by omega,rfl,rfl,by simp,Mem.le_refl _,Mem.le_refl _,.inl rfl,.inl rfl,by simp,J.zero,by omega⟩,?_⟩
 rintro a1 n1 c1 z1 z2 z3 a2 n2 c2 m1 q _ ⟨i,ts,a',c',u,g,mb,hi,cQ,eI,dE,fP,dN,eL,aN,bC,hJ,hq⟩
 simp only[List.cons.injEq,Value.slice.injEq,Value.int.injEq,true_and,and_true]at cQ eI
 obtain⟨⟨rfl,rfl,rfl⟩,rfl,rfl,rfl⟩:=cQ
 obtain⟨rfl,rfl,rfl⟩:=eI
 have ju:ts.length<=25:=by have:=hJ.sz;have:=Zp0 ts;omega
 refine Zab (λaO=>?_) (λbO=>?_)
 ·have qX:i < N:=by have:=zA6 aO;omega
  have hi':i < l.length:=by omega
  obtain⟨s,hs⟩:=Zas hi'
  obtain⟨bs,os,ha,cK⟩:=(hl.mono (mLt fP dN)).at' i s hs
  obtain⟨s1,s2,s3⟩:=s
  obtain⟨pI,kA,mh⟩:=hl.byte _ (zA2 hs)
  have hw:IntKind.i64.wrap ((i:Int)+1)=((i+1:Nat):Int):=by rw[Zan (by omega) (by omega)];rfl
  have nG:Int.tmod (intOf (Value.int .u8 (s1:Nat))) 12=((s1 % 12:Nat):Int):=rfl
  simp only[hw,zA8]
  refine⟨bs,os,ha,⟨by omega,by omega⟩,_,_,_,cK,λb2=>Zaa rfl (Zaa rfl ⟨by omega,?_⟩)⟩
  simp only[nG]
  refine Zab (λh1=>?_) (λh1=>Zab (λh2=>?_) (λh2=>?_))
  ·refine Zai (ZsR s2 kA m1) (λv _ _ ⟨s,e,_⟩=>by rw[e];rfl) ?_
   rintro str m2 aM ⟨s',hv,hb⟩
   cases hv
   refine Zai (Zrd str (by rw[hb];unfold ZdG;exact Zre _) m2) ZfH (Zsj λt m3 aY hr ht b3 iT=>?_)
   rw[hb]at ht
   have ie:=mLt aM (mLt aY (Mem.le_add iT t.cs))
   obtain⟨k1,k2,k3,k4⟩:=Ztv s2
   refine⟨.inl trivial,Rx.Zc2 ts,t.cs,Zat _,rfl,aN.mono (ie),.inr ⟨b3,0,rfl,λj v hj=>by rw[Nat.zero_add,Mem.add_same];exact hj⟩,by rw[<-ZbE];exact Zef _,by omega,by omega,λa4 c4 m4 bP dW bF=>⟨by trivial,N - (i+1),by omega,i+1,ts++[t],a4,c4,u,g,mb,by omega,?_,?_,by have:=bF.1;rw[zA1];exact this,fP,mLt dN (mLt (ie) bP),eL.tok (mLt dN (ie)) bF,?_,?_,?_,by omega⟩⟩
   ·rw[zA1];rfl
   ·rw[zA1];rfl
   ·rw[ZaS,ZbE];exact dW
   ·intro x hx
    rcases List.mem_append.1 hx with hx|hx
    ·exact bC x hx
    ·simp at hx;subst hx;exact(by rw[ht];exact ZpT _ _)
   ·rw[ht];exact hJ.push k1 k2 k3 k4
  ·intro b3 iT
   have ie:=Mem.le_add iT T1.cs
   refine⟨.inl trivial,Rx.Zc2 ts,T1.cs,Zat _,rfl,aN.mono (ie),.inr ⟨b3,0,rfl,λj v hj=>by rw[Nat.zero_add,Mem.add_same];exact hj⟩,by rw[<-ZbE];exact Zef _,by omega,by omega,λa4 c4 m4 bP dW bF=>⟨by trivial,N - (i+1),by omega,i+1,ts++[T1],a4,c4,u,g,mb,by omega,?_,?_,by have:=bF.1;rw[zA1];exact this,fP,mLt dN (mLt (ie) bP),eL.tok (mLt dN (ie)) bF,?_,?_,?_,by omega⟩⟩
   ·rw[zA1];rfl
   ·rw[zA1];rfl
   ·rw[ZaS,ZbE];exact dW
   ·intro x hx
    rcases List.mem_append.1 hx with hx|hx
    ·exact bC x hx
    ·simp at hx;subst hx;exact Zz5 _
   ·exact hJ.push ZAa.1 ZAa.2.1 ZAa.2.2.1 ZAa.2.2.2
  ·refine⟨decide (s1 % 12 < 7)&&decide (1 < ts.length),Zab (λh3=>⟨by trivial,by trivial,?_⟩) (λh3=>⟨by trivial,by trivial,?_⟩),Zab (λh3=>?_) (λh3=>?_)⟩
   ·refine Zah ?_
    rw[Bool.eq_iff_iff];simp;have:=zA6 h3;omega
   ·refine Zah ?_
    rw[eq_comm,Bool.and_eq_false_iff];left;have:=of_decide_eq_false h3;exact decide_eq_false (by omega)
   ·skip
    obtain⟨r,x,y,rfl⟩:=ZC5 (ts:=ts) (by simp at h3;omega)
    have gI:(r++[x,y]).length=r.length+2:=by simp
    have iP:IntKind.i64.wrap (((r++[x,y]).length:Int) - 2)=(r.length:Int):=by rw[gI,Zan (by omega) (by omega)];omega
    have jc:IntKind.i64.wrap (((r++[x,y]).length:Int) - 1)=((r.length+1:Nat):Int):=by rw[gI,Zan (by omega) (by omega)];omega
    simp only[iP,jc,zA8,Nat.sub_zero]
    obtain⟨bb,jH,iU,o',u',hu'⟩:=eL.base aN (by simp)
    obtain⟨bx,ox,jI,i7⟩:=Zd2 aN (i:=r.length) (t:=x) (by simp)
    obtain⟨by',oy,pK,pL⟩:=Zd2 aN (i:=r.length+1) (t:=y) (by simp)
    have sW:(Zbc 3 x).length<=10000:=by
     have:=hJ.sz
     rw[ZaI,show szL [x,y]=szL ([x]++[y]) from rfl,ZaI,Zbt,Zbt]at this
     have:=ZeH (k:=3) (t:=x)
     omega
    have sX:(Zbc 3 y).length<=10000:=by
     have:=hJ.sz
     rw[ZaI,show szL [x,y]=szL ([x]++[y]) from rfl,ZaI,Zbt,Zbt]at this
     have:=ZeH (k:=3) (t:=y)
     omega
    refine⟨λ_ _ _=>ZrJ mb m1 (λr=>∃a c,r=ZfM 3 a c (Zbc 3 x++Zbc 3 y)),⟨by omega,by omega⟩,⟨by omega,by omega⟩,bx,ox,jI,⟨by omega,by omega⟩,_,_,_,_,_,_,_,_,i7,by',oy,pK,⟨by omega,by omega⟩,_,_,_,_,_,_,_,_,pL,ZrJ mb m1 (λr=>∃a c,r=ZfM 3 a c (Zbc 3 x++Zbc 3 y)),rfl,(ZoY 3 x y (by omega) mb (bC x (by simp)) (bC y (by simp)) sW sX).frame2 dN,ZdD,Zkp λt m0 m3 aY h0 i9 cP gJ ht b6 iW=>?_⟩
    obtain⟨at',ct,ht⟩:=ht
    have ic:=Mem.le_add iW t.cs
    have fQ:Apart m0 _:=.inr ⟨bb,jH,λo=>by rw[cP bb o' u' hu' o];exact iU o⟩
    refine⟨.inr (.inr (by omega)),Rx.Zc2 r,t.cs,Zat _,rfl,((ZtZ aN).mono aY).mono ic,.inr ⟨b6,0,rfl,λj v hj=>by rw[Nat.zero_add,Mem.add_same];exact hj⟩,by rw[<-ZbE];exact Zef _,by omega,by omega,λa4 c4 m4 bP dW bF M jn gP iM ji=>⟨by trivial,N - (i+1),by omega,i+1,r++[t],a4,c4,u,g,m0,by omega,?_,?_,by have:=bF.1;rw[zA1];exact this,mLt fP h0,mLt i9 gP,fQ.tok (mLt i9 ic) bF,?_,?_,?_,by omega⟩⟩
    ·rw[zA1];rfl
    ·rw[zA1];rfl
    ·rw[ZaS,ZbE];exact dW.mono ji
    ·intro z hz
     rcases List.mem_append.1 hz with hz|hz
     ·exact(bC z (by simp[hz])).mono h0
     ·simp at hz;subst hz;exact gJ
    ·rw[ht];exact hJ.join (by omega) (by omega) _ _
   ·refine⟨decide (s1 % 12 < 9)&&decide (1 < ts.length),Zab (λh4=>⟨by trivial,by trivial,?_⟩) (λh4=>⟨by trivial,by trivial,?_⟩),Zab (λh4=>?_) (λh4=>?_)⟩
    ·refine Zah ?_
     rw[Bool.eq_iff_iff];simp;have:=zA6 h4;omega
    ·refine Zah ?_
     rw[eq_comm,Bool.and_eq_false_iff];left;have:=of_decide_eq_false h4;exact decide_eq_false (by omega)
    ·skip
     obtain⟨r,x,y,rfl⟩:=ZC5 (ts:=ts) (by simp at h4;omega)
     have gI:(r++[x,y]).length=r.length+2:=by simp
     have iP:IntKind.i64.wrap (((r++[x,y]).length:Int) - 2)=(r.length:Int):=by rw[gI,Zan (by omega) (by omega)];omega
     have jc:IntKind.i64.wrap (((r++[x,y]).length:Int) - 1)=((r.length+1:Nat):Int):=by rw[gI,Zan (by omega) (by omega)];omega
     simp only[iP,jc,zA8,Nat.sub_zero]
     obtain⟨bb,jH,iU,o',u',hu'⟩:=eL.base aN (by simp)
     obtain⟨bx,ox,jI,i7⟩:=Zd2 aN (i:=r.length) (t:=x) (by simp)
     obtain⟨by',oy,pK,pL⟩:=Zd2 aN (i:=r.length+1) (t:=y) (by simp)
     have sW:(Zbc 4 x).length<=10000:=by
      have:=hJ.sz
      rw[ZaI,show szL [x,y]=szL ([x]++[y]) from rfl,ZaI,Zbt,Zbt]at this
      have:=ZeH (k:=4) (t:=x)
      omega
     have sX:(Zbc 4 y).length<=10000:=by
      have:=hJ.sz
      rw[ZaI,show szL [x,y]=szL ([x]++[y]) from rfl,ZaI,Zbt,Zbt]at this
      have:=ZeH (k:=4) (t:=y)
      omega
     refine⟨λ_ _ _=>ZrJ mb m1 (λr=>∃a c,r=ZfM 4 a c (Zbc 4 x++Zbc 4 y)),⟨by omega,by omega⟩,⟨by omega,by omega⟩,bx,ox,jI,⟨by omega,by omega⟩,_,_,_,_,_,_,_,_,i7,by',oy,pK,⟨by omega,by omega⟩,_,_,_,_,_,_,_,_,pL,ZrJ mb m1 (λr=>∃a c,r=ZfM 4 a c (Zbc 4 x++Zbc 4 y)),rfl,(ZoY 4 x y (by omega) mb (bC x (by simp)) (bC y (by simp)) sW sX).frame2 dN,ZdD,Zkp λt m0 m3 aY h0 i9 cP gJ ht b6 iW=>?_⟩
     obtain⟨at',ct,ht⟩:=ht
     have ic:=Mem.le_add iW t.cs
     have fQ:Apart m0 _:=.inr ⟨bb,jH,λo=>by rw[cP bb o' u' hu' o];exact iU o⟩
     refine⟨.inr (.inr (by omega)),Rx.Zc2 r,t.cs,Zat _,rfl,((ZtZ aN).mono aY).mono ic,.inr ⟨b6,0,rfl,λj v hj=>by rw[Nat.zero_add,Mem.add_same];exact hj⟩,by rw[<-ZbE];exact Zef _,by omega,by omega,λa4 c4 m4 bP dW bF M jn gP iM ji=>⟨by trivial,N - (i+1),by omega,i+1,r++[t],a4,c4,u,g,m0,by omega,?_,?_,by have:=bF.1;rw[zA1];exact this,mLt fP h0,mLt i9 gP,fQ.tok (mLt i9 ic) bF,?_,?_,?_,by omega⟩⟩
     ·rw[zA1];rfl
     ·rw[zA1];rfl
     ·rw[ZaS,ZbE];exact dW.mono ji
     ·intro z hz
      rcases List.mem_append.1 hz with hz|hz
      ·exact(bC z (by simp[hz])).mono h0
      ·simp at hz;subst hz;exact gJ
     ·rw[ht];exact hJ.join (by omega) (by omega) _ _
    ·refine⟨decide (s1 % 12=9)&&(decide (0 < ts.length)&&decide (g < 9)),Zab (λh5=>Zab (λh6=>⟨by trivial,by trivial,?_⟩) (λh6=>⟨by trivial,by trivial,?_⟩)) (λh5=>⟨by trivial,by trivial,?_⟩),Zab (λh5=>?_) (λh5=>?_)⟩
     ·refine Zah ?_
      have e1:=zA6 h6
      have e2:s1 % 12=9:=by have:=h5;simp at this;omega
      rw[decide_eq_true e2,decide_eq_true (show 0 < ts.length by omega),Bool.true_and,Bool.true_and,Bool.eq_iff_iff];simp;omega
     ·refine Zah ?_
      have e1:=of_decide_eq_false h6
      rw[decide_eq_false (show ¬0 < ts.length by omega)];simp
     ·refine Zah ?_
      have e2:¬s1 % 12=9:=by have:=h5;simp at this;omega
      rw[decide_eq_false e2];rfl
     ·
      have wF:g < 9:=by simp at h5;omega
      skip
      obtain⟨r,x,rfl⟩:=ZC6 (ts:=ts) (by simp at h5;omega)
      have gI:(r++[x]).length=r.length+1:=by simp
      have jc:IntKind.i64.wrap (((r++[x]).length:Int) - 1)=(r.length:Int):=by rw[gI,Zan (by omega) (by omega)];omega
      obtain⟨bb,jH,iU,o',u',hu'⟩:=eL.base aN (by simp)
      subst jH
      obtain⟨bx,ox,jI,i7⟩:=Zd2 aN (i:=r.length) (t:=x) (by simp)
      cases jI
      have sY:IntKind.i64.wrap ((g:Int)+1)=((g+1:Nat):Int):=by rw[Zan (by omega) (by omega)];rfl
      simp only[jc,sY,zA8]
      refine⟨_,_,rfl,⟨by omega,by omega⟩,_,_,_,_,_,_,_,_,i7,Zai ((ZyR x mb (bC x (by simp))).frame2 dN) (ZdD (mb:=mb) (M0:=m1)) (Zkp λt m0 m3 aY h0 i9 cP gJ ht=>?_)⟩
      obtain⟨at',ct,ht⟩:=ht
      have fQ:m0.free bb:=λo=>by rw[cP bb o' u' hu' o];exact iU o
      refine⟨bb,0,rfl,⟨by omega,by omega⟩,rfl,by omega,by trivial,N - (i+1),by omega,i+1,r++[t],_,_,u,g+1,m0,by omega,?_,?_,by rw[zA1];rw[gI]at dE;exact dE,mLt fP h0,Mem.le_upd i9 fQ _ _,.inr ⟨bb,rfl,fQ⟩,Zt0 (aN.mono aY),?_,?_,by omega⟩
      ·rw[gI,zA1];rfl
      ·rw[gI,zA1];rfl
      ·intro z hz
       rcases List.mem_append.1 hz with hz|hz
       ·exact(bC z (by simp[hz])).mono h0
       ·simp at hz;subst hz;exact gJ
      ·rw[ht];exact hJ.group wF _ _
     ·by_cases h0:0 < ts.length
      ·skip
       obtain⟨r,x,rfl⟩:=ZC6 (ts:=ts) (by exact h0)
       have gI:(r++[x]).length=r.length+1:=by simp
       have jc:IntKind.i64.wrap (((r++[x]).length:Int) - 1)=(r.length:Int):=by rw[gI,Zan (by omega) (by omega)];omega
       obtain⟨bb,jH,iU,o',u',hu'⟩:=eL.base aN (by simp)
       subst jH
       obtain⟨bx,ox,jI,i7⟩:=Zd2 aN (i:=r.length) (t:=x) (by simp)
       cases jI
       have wG:IntKind.i64.wrap (Int.tmod (intOf (Value.int .u8 (s2:Nat))) 3)=((s2 % 3:Nat):Int):=by
        rw[show Int.tmod (intOf (Value.int .u8 (s2:Nat))) 3=((s2 % 3:Nat):Int) from rfl,Zan (by omega) (by omega)]
       have wH:IntKind.i64.wrap (Int.tmod (intOf (Value.int .u8 (s3:Nat))) 4)=((s3 % 4:Nat):Int):=by
        rw[show Int.tmod (intOf (Value.int .u8 (s3:Nat))) 4=((s3 % 4:Nat):Int) from rfl,Zan (by omega) (by omega)]
       simp only[jc,wG,wH,zA8]
       have qV:s2 % 3 < 3:=by omega
       have ji:s3 % 4 < 4:=by omega
       generalize s2 % 3=L at *
       generalize s3 % 4=Mo at *
       refine⟨decide (9 < s1 % 12)&&!(x.k == 1),Zab (λh6=>Zab (λh7=>⟨_,_,rfl,⟨by omega,by omega⟩,.int .u8 x.k,i7 0 _ rfl,Zaa rfl ⟨by trivial,by trivial,?_⟩⟩) (λh7=>absurd h7 (by simp))) (λh6=>⟨by trivial,by trivial,?_⟩),Zab (λh6=>Zaa rfl ⟨by omega,Zaa rfl ⟨by omega,?_⟩⟩) (λh6=>⟨by trivial,N - (i+1),by omega,i+1,r++[x],_,_,u,g,mb,by omega,rfl,rfl,dE,fP,dN,eL,aN,bC,hJ.skip,by omega⟩)⟩
       ·refine Zah ?_
        have:=zA6 h6
        rw[decide_eq_true (show 9 < s1 % 12 by omega),Bool.true_and];rfl
       ·refine Zah ?_
        have:=of_decide_eq_false h6
        rw[decide_eq_false (show ¬9 < s1 % 12 by omega)];rfl
       ·have iO:x.k≠1:=by
         rw[zA7]at h6
         simpa using h6.2
        obtain⟨tab1,tab2⟩:=ZAP L qV Mo ji
        refine⟨decide (Mo < L\/Mo=0\/(L=1/\Mo=1)),Zab (λg1=>⟨by trivial,by trivial,Zah ?_⟩) (λg1=>Zab (λg2=>⟨by trivial,by trivial,Zah ?_⟩) (λg2=>Zab (λg3=>⟨by trivial,by trivial,Zah ?_⟩) (λg3=>⟨by trivial,by trivial,Zah ?_⟩))),Zab (λg4=>?_) (λg4=>?_)⟩
        ·have:=zA6 g1
         exact(decide_eq_true (by omega)).symm
        ·have:Mo=0:=by simp at g2;omega
         exact(decide_eq_true (by omega)).symm
        ·have e1:=of_decide_eq_false g1
         have e2:¬Mo=0:=by simp at g2;omega
         have e3:L=1:=by simp at g3;omega
         rw[Bool.eq_iff_iff];simp;omega
        ·have e1:=of_decide_eq_false g1
         have e2:¬Mo=0:=by simp at g2;omega
         have e3:¬L=1:=by simp at g3;omega
         exact(decide_eq_false (by omega)).symm
        ·
         have hA:(if(1:Int) > (if(-1:Int) > (L:Int)then(-1:Int)else(L:Int))then(1:Int)else(if(-1:Int) > (L:Int)then(-1:Int)else(L:Int)))=((max 1 L:Nat):Int):=by
          split <;> split <;> omega
         obtain⟨tb,tp⟩:=tab1 (zA6 g4)
         have lH:u*max 1 L<=48:=by have:=Nat.mul_le_mul hJ.u16 (show max 1 L<=3 by omega);omega
         have sZ:IntKind.i64.wrap ((u:Int)*((max 1 L:Nat):Int))=((u*max 1 L:Nat):Int):=by rw[<-Int.natCast_mul];exact Zan (by omega) (by omega)
         simp only[hA,sZ]
         refine Zab (λg5=>?_) (λg5=>⟨by trivial,N - (i+1),by omega,i+1,r++[x],_,_,u,g,mb,by omega,rfl,rfl,dE,fP,dN,eL,aN,bC,hJ.skip,by omega⟩)
         have nH:u*max 1 L<=16:=by have:=zA6 g5;omega
         refine⟨_,_,rfl,⟨by omega,by omega⟩,_,_,_,_,_,_,_,_,i7,Zai ((ZAO x (L:Nat) (-1:Int) ⟨by omega,by omega⟩ ⟨by omega,by omega⟩ mb (bC x (by simp))).frame2 dN) (ZdD (mb:=mb) (M0:=m1)) (Zkp λt m0 m3 aY h0 i9 cP gJ ht=>?_)⟩
         obtain⟨at',ct,ht⟩:=ht
         have fQ:m0.free bb:=λo=>by rw[cP bb o' u' hu' o];exact iU o
         refine⟨bb,0,rfl,⟨by omega,by omega⟩,rfl,by omega,by trivial,N - (i+1),by omega,i+1,r++[t],_,_,u*max 1 L,g,m0,by omega,?_,?_,by rw[zA1];rw[gI]at dE;exact dE,mLt fP h0,Mem.le_upd i9 fQ _ _,.inr ⟨bb,rfl,fQ⟩,Zt0 (aN.mono aY),?_,?_,by omega⟩
         ·rw[gI,zA1];rfl
         ·rw[gI,zA1];rfl
         ·intro z hz
          rcases List.mem_append.1 hz with hz|hz
          ·exact(bC z (by simp[hz])).mono h0
          ·simp at hz;subst hz;exact gJ
         ·rw[ht];exact hJ.rep iO tb tp (by omega) nH _ _
        ·
         have hA:(if(1:Int) > (if((Mo:Int)) > (L:Int)then((Mo:Int))else(L:Int))then(1:Int)else(if((Mo:Int)) > (L:Int)then((Mo:Int))else(L:Int)))=((max 1 (max L Mo):Nat):Int):=by
          split <;> split <;> omega
         obtain⟨tb,tp⟩:=tab2 (of_decide_eq_false g4)
         have lH:u*max 1 (max L Mo)<=48:=by have:=Nat.mul_le_mul hJ.u16 (show max 1 (max L Mo)<=3 by omega);omega
         have sZ:IntKind.i64.wrap ((u:Int)*((max 1 (max L Mo):Nat):Int))=((u*max 1 (max L Mo):Nat):Int):=by rw[<-Int.natCast_mul];exact Zan (by omega) (by omega)
         simp only[hA,sZ]
         refine Zab (λg5=>?_) (λg5=>⟨by trivial,N - (i+1),by omega,i+1,r++[x],_,_,u,g,mb,by omega,rfl,rfl,dE,fP,dN,eL,aN,bC,hJ.skip,by omega⟩)
         have nH:u*max 1 (max L Mo)<=16:=by have:=zA6 g5;omega
         refine⟨_,_,rfl,⟨by omega,by omega⟩,_,_,_,_,_,_,_,_,i7,Zai ((ZAO x (L:Nat) ((Mo:Int)) ⟨by omega,by omega⟩ ⟨by omega,by omega⟩ mb (bC x (by simp))).frame2 dN) (ZdD (mb:=mb) (M0:=m1)) (Zkp λt m0 m3 aY h0 i9 cP gJ ht=>?_)⟩
         obtain⟨at',ct,ht⟩:=ht
         have fQ:m0.free bb:=λo=>by rw[cP bb o' u' hu' o];exact iU o
         refine⟨bb,0,rfl,⟨by omega,by omega⟩,rfl,by omega,by trivial,N - (i+1),by omega,i+1,r++[t],_,_,u*max 1 (max L Mo),g,m0,by omega,?_,?_,by rw[zA1];rw[gI]at dE;exact dE,mLt fP h0,Mem.le_upd i9 fQ _ _,.inr ⟨bb,rfl,fQ⟩,Zt0 (aN.mono aY),?_,?_,by omega⟩
         ·rw[gI,zA1];rfl
         ·rw[gI,zA1];rfl
         ·intro z hz
          rcases List.mem_append.1 hz with hz|hz
          ·exact(bC z (by simp[hz])).mono h0
          ·simp at hz;subst hz;exact gJ
         ·rw[ht];exact hJ.rep iO tb tp (by omega) nH _ _
      ·refine⟨false,Zab (λh6=>Zab (λh7=>absurd (zA6 h7) (by omega)) (λh7=>⟨by trivial,by trivial,rfl⟩)) (λh6=>⟨by trivial,by trivial,rfl⟩),ZdQ rfl ⟨by trivial,N - (i+1),by omega,i+1,ts,_,_,u,g,mb,by omega,rfl,rfl,dE,fP,dN,eL,aN,bC,hJ.skip,by omega⟩⟩
 ·have qX:i=N:=by have:=of_decide_eq_false bO;omega
  have aB:=mLt fP dN
  refine Zab (λh0=>?_) (λh0=>?_)
  ·have s4:(ZeR ⟨#[97]⟩)=ZdG 0:=by rfl
   refine Zai (Zrd ⟨#[97]⟩ (by decide) m1) ZfH (Zsj λt m2 aM hr ht=>ZaX (mLt aB aM) ⟨t,rfl,hr,?_⟩)
   rw[s4]at ht
   obtain⟨k1,k2,k3,k4⟩:=Ztv 0
   rw[<-ht]at k1 k2 k3 k4
   exact(F26.leaf ⟨k1,by simp,by simp[szL,ZaB,k2],by simp[Ze2];omega,by simp[grL,ZaB,k4]⟩ k2).done
  ·obtain⟨t0,rest,rfl⟩:∃t r,ts=t::r:=by cases ts with
    | nil=>simp at h0
    | cons t r=>exact⟨t,r,rfl⟩
   have hF:=F26.start hJ (by omega)
   obtain⟨bb,jH,iU,o',u',hu'⟩:=eL.base aN (by simp)
   subst jH
   obtain⟨bx,ox,jI,i7⟩:=Zd2 aN (i:=0) (t:=t0) rfl
   cases jI
   rw[List.length_cons]at ju dE
   refine⟨_,_,rfl,⟨by omega,by simp⟩,_,_,_,_,_,_,_,_,i7,λb2=>Zaa rfl ⟨⟨by omega,by rw[List.length_cons];omega⟩,?_⟩⟩
   refine⟨λxs css tvs m' q=>∃(k:Nat)(t:T),k<=rest.length/\xs=[.int .i64 k]/\css=[t.cs]/\m1.le m'/\Rep m' t/\F26 t (rest.drop k)/\q=rest.length - k,⟨rest.length,0,t0,by omega,rfl,rfl,Mem.le_refl _,(bC t0 (by simp)).mono dN,hF,by omega⟩,?_⟩
   rintro z cs m2 q2 _ ⟨k,t,hk,hz,cD,aM,gJ,lj,oJ⟩
   obtain rfl:z=k:=by simpa using hz
   obtain rfl:cs=t.cs:=by simpa using cD
   have jD:((t0::rest).length - Int.toNat 1)=rest.length:=by simp
   simp only[jD]
   refine Zab (λaO=>?_) (λeH=>Zaa rfl (ZaX (mLt aB aM) ⟨t,rfl,gJ,by rw[show k=rest.length by have:=of_decide_eq_false eH;omega,List.drop_length]at lj;exact lj.done⟩))
   have aW:k < rest.length:=by have:=zA6 aO;omega
   obtain⟨x,hx⟩:=Zas aW
   obtain⟨b3,o3,gl,nf⟩:=Zd2 (aN.mono aM) (i:=k+1) (t:=x) (by simpa using hx)
   cases gl
   have iQ:IntKind.i64.wrap ((k:Int)+1)=((k+1:Nat):Int):=by rw[Zan (by omega) (by omega)];rfl
   simp only[iQ,zA8]
   rw[ZpR hx]at lj
   have bV:=lj.f.sz
   rw[Ze5]at bV
   have oe:=ZeH (k:=4) (t:=t)
   have t9:=ZeH (k:=4) (t:=x)
   have jb:Za4 (some (⟨bb,0,none⟩:Addr)) (Int.toNat 1) c2 8=some ⟨bb,0+8,none⟩:=by
    unfold Za4
    have:Nat.beq c2 1=false:=by
     cases hb:Nat.beq c2 1 with
     | false=>rfl
     | true=>have:=Nat.eq_of_beq_eq_true hb;omega
    show(bif Nat.beq c2 1 then _ else some (Addr.add _ (1*8)))=_
    rw[this,ZbX];rfl
   refine⟨_,_,jb,⟨by omega,by omega⟩,_,_,_,_,_,_,_,_,by rw[show 0+8+k*8=0+(k+1)*8 by omega];exact nf,λb4=>Zaa rfl (Zai (ZoY 4 t x (.inr rfl) m2 gJ ((bC x (by simp[zA2 hx])).mono (mLt dN aM)) (by omega) (by omega)) ZfH (Zsj λt' m3 aY hr' ht'=>⟨by trivial,by trivial,rest.length - (k+1),by omega,k+1,t',by omega,rfl,rfl,mLt aM aY,hr',?_,by omega⟩))⟩
   obtain⟨a3,c3,ht'⟩:=ht'
   rw[ht'];exact lj.step _ _
structure SAct where
 k:Nat
 n:Nat
 pa:Option Addr
 pl:List Nat
 pd:Nat
 ea:Option Addr
 el:List (Nat×Nat×Nat)
 ed:Nat
def SAct.cs(x:SAct):List Value:=[.int .u8 x.k,.int .u8 x.n,.slice x.pa x.pl.length x.pd,.slice x.ea x.el.length x.ed]
theorem SAct.len(x:SAct):x.cs.length=4:=rfl
structure RepSA (m:Mem)(x:SAct):Prop where
 k:x.k < 256
 n:x.n < 256
 p:BytU m x.pa x.pl
 pl:x.pl.length<=1000000000000000
 pd:x.pl.length<=x.pd
 e:SmE m x.ea x.el
 ed:x.el.length<=x.ed
theorem RepSA.mono{m m':Mem}{x:SAct}(h:RepSA m x)(hm:m.le m'):RepSA m' x:=⟨h.k,h.n,h.p.mono hm,h.pl,h.pd,h.e.mono hm,h.ed⟩
theorem SmE.take{m:Mem}{a:Option Addr}{l:List (Nat×Nat×Nat)}(h:SmE m a l)(n:Nat):SmE m a (l.take n):=
 ⟨by rw[List.length_take];have:=h.len;omega,λs hs=>h.byte s (List.mem_of_mem_take hs),λi s hi=>h.at' i s (by
  have aO:=(zA0 hi).1
  rw[List.length_take]at aO
  rw[List.getElem?_take_of_lt (by omega)]at hi;exact hi)⟩
def AcR(c:Int):Value->Mem->List (List Value)->Prop:=λv m' _=>∃a:Ac,v=.agg a.cs.toArray/\RepA m' a/\MkA c a
theorem ZAQ{c:Int}:∀(v:Value)(m':Mem) (css:List (List Value)),AcR c v m' css->Shape.fits (.agg [.int .u8,.str,.slice,.int .u8,.any,.str,.int .i64,.slice]) v=true:=λv _ _ ⟨_,h,_⟩=>by rw[h];rfl
theorem Zxs{c:Int}{l:List Pt}(h:MkT c l):l.length<=few:=by have:=h.len;unfold few;omega
theorem ZAR(x:SAct)(c:Int)(m:Mem)(hx:RepSA m x)(hc : -1<=c/\c<=10000):CX Tryz.prog 67 #[.agg x.cs.toArray,.int .i64 c] m [] (AcR c):=by
 apply Zin
 intro b m1 aB _ b1
 have pP:=hx.e.len
 have hN:(if(8:Int) < (x.el.length:Int)then(8:Int)else(x.el.length:Int))=((min 8 x.el.length:Nat):Int):=by split <;> omega
 simp only[hN,zA8,Nat.sub_zero]
 have hd:=hx.ed
 have gH:(x.el.take 8).length=min 8 x.el.length:=List.length_take ..
 have hM:=ZyQ (x.el.take 8) x.ea x.ed m1 ((hx.e.mono aB).take 8) (by omega)
 rw[gH]at hM
 refine⟨⟨by omega,by omega⟩,Zai hM ZgE (ZBp λe1 m2 aM eM uy=>?_)⟩
 have ly:=uy.len
 refine Zai (Zm5 e1 c m2 eM uy.all (by omega)) ZgE (ZBp λe m3 aY hr he b2=>Zaa rfl ⟨by omega,?_⟩)
 have hE:MkE c 20 e:=he.toMk (by omega)
 have dM:=mLt aB (mLt aM aY)
 have jT:=hx.mono dM
 refine Zab (λh2=>?_) (λh2=>Zab (λh3=>?_) (λh3=>?_))
 ·refine⟨λk _ _=>if k=0 then ZBr Zfq else TmR c,_,rfl,ZoX m3,ZdH,?_⟩
  rintro a5 n5 c5 m5 cL ⟨a',c',iv,fX⟩
  simp only[Value.slice.injEq]at iv
  obtain⟨rfl,rfl,rfl⟩:=iv
  have aO:x.n % 2 < 2:=Nat.mod_lt _ (by omega)
  obtain⟨s,hs⟩:=Zas (l:=Zfq) (k:=x.n % 2) aO
  have j5:=zA2 hs
  obtain⟨b6,o6,jF,cK⟩:=Zc0 fX hs
  have bV:s.size<=1000000000000000:=by have:=Zl2 s j5;omega
  have hu:Int.tmod (x.n:Int) 2=((x.n % 2:Nat):Int):=rfl
  refine⟨by omega,b6,o6,jF,by rw[hu];exact⟨by omega,by show((x.n % 2:Nat):Int) < (2:Nat);omega⟩,_,by rw[hu,zA8];exact cK,s,rfl,_,rfl,Zks x.pl x.pa x.pd e c m5 (jT.p.mono cL) hx.pd hx.pl (hr.mono' cL) hE hc,Zxr,?_⟩
  rintro a7 n7 c7 m7 i6 ⟨L,aL,dL,pQ,aN,bC,hT⟩ M jn _ iM
  simp only[Value.slice.injEq]at pQ
  obtain⟨rfl,rfl,rfl⟩:=pQ
  exact ZaX (mLt dM jn) ⟨⟨2,s,a7,c7,L,E0⟩,rfl,⟨by show(0:Int)<=2/\(2:Int) < 256;omega,bV,Zxs hT,aN.mono iM,λp hp=>(bC p hp).mono iM,Zzr M⟩,.set s j5 _ _ L hT⟩
 ·refine⟨λ_ _ _=>ZBr Zkv,_,rfl,ZiV m3,ZdH,?_⟩
  rintro a5 n5 c5 m5 cL ⟨a',c',iv,fX⟩
  simp only[Value.slice.injEq]at iv
  obtain⟨rfl,rfl,rfl⟩:=iv
  have aO:x.n % 4 < 4:=Nat.mod_lt _ (by omega)
  obtain⟨s,hs⟩:=Zas (l:=Zkv) (k:=x.n % 4) aO
  have j5:=zA2 hs
  obtain⟨b6,o6,jF,cK⟩:=Zc0 fX hs
  have bV:s.size<=1000000000000000:=by have:=Zl1 s j5;omega
  have hu:Int.tmod (x.n:Int) 4=((x.n % 4:Nat):Int):=rfl
  refine⟨by omega,b6,o6,jF,by rw[hu];exact⟨by omega,by show((x.n % 4:Nat):Int) < (4:Nat);omega⟩,_,by rw[hu,zA8];exact cK,s,rfl,Zaa rfl λM jn gP=>?_⟩
  exact ZaX (mLt dM jn) ⟨⟨3,s,none,0,[],e⟩,rfl,⟨by show(0:Int)<=3/\(3:Int) < 256;omega,bV,by simp,.inl rfl,by simp,hr.mono' jn⟩,.let_ s j5 e hE⟩
 ·refine Zai (Zks x.pl x.pa x.pd e c m3 jT.p hx.pd hx.pl hr hE hc) Zxr ?_
  rintro a7 n7 c7 m7 i6 ⟨L,aL,dL,pQ,aN,bC,hT⟩
  simp only[Value.slice.injEq]at pQ
  obtain⟨rfl,rfl,rfl⟩:=pQ
  exact ZaX (mLt dM i6) ⟨⟨1,.empty,a7,c7,L,E0⟩,rfl,⟨by show(0:Int)<=1/\(1:Int) < 256;omega,by show ByteArray.empty.size<=_;rw[ZaT];omega,Zxs hT,aN,bC,Zzr m7⟩,.send _ _ L hT⟩
structure SRul where
 k:Nat
 n:Nat
 t:Nat
 g:Nat
 ra:Option Addr
 rl:List (Nat×Nat×Nat)
 rd:Nat
 aa:Option Addr
 al:List SAct
 ad:Nat
def SRul.cs(x:SRul):List Value:=[.int .u8 x.k,.int .u8 x.n,.int .u8 x.t,.int .u8 x.g,.slice x.ra x.rl.length x.rd,.slice x.aa x.al.length x.ad]
theorem SRul.len(x:SRul):x.cs.length=6:=rfl
structure RepSR (m:Mem)(x:SRul):Prop where
 k:x.k < 256
 n:x.n < 256
 t:x.t < 256
 g:x.g < 256
 r:Sm m x.ra x.rl
 rd:x.rl.length<=x.rd
 al:x.al.length<=1000000000000000
 ad:x.al.length<=x.ad
 row:rowRd m x.aa (x.al.map SAct.cs).flatten
 all:∀a∈x.al,RepSA m a
theorem RepSR.mono{m m':Mem}{x:SRul}(h:RepSR m x)(hm:m.le m'):RepSR m' x:=⟨h.k,h.n,h.t,h.g,h.r.mono hm,h.rd,h.al,h.ad,h.row.mono hm,λa ha=>(h.all a ha).mono hm⟩
def RuR(n:Nat):Value->Mem->List (List Value)->Prop:=λv m' _=>∃r:Ru,v=.agg r.cs.toArray/\RepR m' r/\MkR n r
theorem ZAS{n:Nat}:∀(v:Value)(m':Mem) (css:List (List Value)),RuR n v m' css->Shape.fits (.agg [.int .u8,.bool,.bool,.int .u8,.int .u64,.int .u64,.int .u64,.int .u64,.int .i64,.int .i64,.slice,.str,.int .i64,.slice,.str,.int .i64]) v=true:=λv _ _ ⟨_,h,_⟩=>by rw[h];rfl
theorem Ac.one(a:Ac):∀u∈a.cs,u.oneCell'=true:=by
 intro u hu
 simp only[Ac.cs,List.mem_cons,List.not_mem_nil,or_false]at hu
 rcases hu with rfl|rfl|rfl|rfl|rfl|rfl|rfl|rfl <;> rfl
structure Ru0 (m:Mem)(r:Ru):Prop where
 kind:ZBK r
 t:Rep m r.t
 acts:r.acts=[]/\r.aa=none/\r.ac=0
 go:r.go=.empty/\r.code=0
theorem ZAT(m:Mem):Rep m T0:=by
 simp only[T0,Rep]
 exact⟨by simp,.inl trivial,⟨by omega,by omega,by omega,by omega,by omega,by omega,by omega⟩⟩
theorem ZAU{r:Ru}(h:ZBK r):(0<=r.k/\r.k < 256)/\r.s.size<=1000000000000000/\I64 r.n:=by
 unfold I64
 rcases h with⟨h1,_,_,h2,h3⟩|⟨_,⟨h1,h2,h3,h4⟩|⟨h1,h2,h3⟩|⟨h1,h2,h3,h4⟩⟩
 ·rw[h2,ZaT];omega
 ·omega
 ·rw[h2,ZaT];omega
 ·rw[h2,ZaT];omega
theorem Zrf{t:T}(h:t.light=true):t.groups=(t.gr:Nat):=by unfold T.groups;rw[h];rfl
theorem ZEt:∀j < 6,∃s:ByteArray,[Value.string ⟨#[97]⟩,.string ⟨#[98]⟩,.string ⟨#[97,98]⟩,.string ⟨#[98,97]⟩,.string ⟨#[97,97,98]⟩,.string ⟨#[99]⟩][j*1]?=some (.string s)/\1<=s.size/\s.size<=3:=by
 intro j hj
 have:j=0\/j=1\/j=2\/j=3\/j=4\/j=5:=by omega
 rcases this with rfl|rfl|rfl|rfl|rfl|rfl <;> exact⟨_,rfl,by decide,by decide⟩
set_option maxHeartbeats 2000000 in
theorem ZyT(x:SRul)(p:Nat)(m:Mem)(hx:RepSR m x)(hp:1<=p/\p<=4):CX Tryz.prog 35 #[.agg x.cs.toArray,.int .i64 p] m [] (RuR p):=by
 apply ZlR
 intro b m1 aB _ b1 b2
 have eW:=hx.mono aB
 have sU:Int.tmod (x.k:Int) 8=((x.k % 8:Nat):Int):=rfl
 have sT:x.k % 8 < 8:=Nat.mod_lt _ (by omega)
 refine⟨λxs css _ M=>∃r:Ru,xs=[.int .i64 (Zcg r)]/\css=[r.cs]/\Ru0 M r,⟨_,rfl,by omega,?_⟩,?_⟩
 ·simp only[sU]
  generalize x.k % 8=k at sT
  refine⟨λxs _ _ m'=>xs=[.bool (decide (k<=2))]/\m1.le m',Zab (λh=>⟨trivial,?_,Mem.le_refl _⟩) (λh=>Zab (λh2=>⟨trivial,?_,Mem.le_refl _⟩) (λh2=>⟨trivial,?_,Mem.le_refl _⟩)),?_⟩
  ·have:k=0:=by simp at h;omega
   rw[h,this];rfl
  ·have:k=1:=by simp at h2;omega
   rw[h2,this];rfl
  ·have h0:¬k=0:=by simp at h;omega
   have h1:¬k=1:=by simp at h2;omega
   refine Zah ?_
   rw[Bool.eq_iff_iff];simp;omega
  rintro c2 m2 aM ⟨su,_⟩
  obtain rfl:c2=decide (k<=2):=by simpa using su
  refine Zar (λhk=>?_) (λhk=>?_)
  ·have hM:=Zwf x.rl x.ra x.rd m2 (eW.r.mono aM) hx.rd
   refine⟨λ_ _ _=>ZpS (λt=>t.check=0/\t.nodes.length<=26),_,rfl,by omega,_,rfl,by omega,_,rfl,hM,ZfH,Zsj λt m3 aY gJ ht M _ iM=>?_⟩
   have hl:t.nodes.length<=10000:=by omega
   refine Zav (Zm6 t M (gJ.mono iM) hl) λm4 bP=>⟨trivial,⟨1,Int.tmod (x.n:Int) 5 == 4,Int.tmod (x.n:Int) 7 == 6,t,.empty,0,none,0,[],.empty,0⟩,?_,rfl,⟨.inl ⟨rfl,ht.1,ht.2,rfl,rfl⟩,gJ.mono (mLt iM bP),⟨rfl,rfl,rfl⟩,rfl,rfl⟩⟩
   have hg:=Zrf (Zk8 hl)
   show[Value.int .i64 _]=[Value.int .i64 (if(1:Int)=1 then t.groups else _)]
   rw[if_pos rfl,hg]
  ·refine⟨λxs _ _ m'=>xs=[.bool (decide (k<=4))]/\m2.le m',Zab (λh=>⟨trivial,?_,Mem.le_refl _⟩) (λh=>⟨trivial,?_,Mem.le_refl _⟩),?_⟩
   ·have:k=3:=by simp at h;omega
    rw[h,this];rfl
   ·have:¬k=3:=by simp at h;omega
    refine Zah ?_
    rw[Bool.eq_iff_iff];simp;omega
   rintro c3 m3 aY ⟨ul,_⟩
   obtain rfl:c3=decide (k<=4):=by simpa using ul
   refine Zar (λry=>λb5 jG=>?_) (λry=>Zab (λh5=>⟨trivial,⟨3,false,false,T0,.empty,0,none,0,[],.empty,0⟩,rfl,rfl,⟨.inr ⟨⟨rfl,rfl,rfl⟩,.inr (.inl ⟨rfl,rfl,rfl⟩)⟩,ZAT _,⟨rfl,rfl,rfl⟩,rfl,rfl⟩⟩) (λh5=>⟨_,rfl,by omega,trivial,?_⟩))
   ·have uz:Int.tmod (x.n:Int) 6=((x.n % 6:Nat):Int):=rfl
    have h6:x.n % 6 < 6:=Nat.mod_lt _ (by omega)
    obtain⟨s,hs,pI,mh⟩:=ZEt (x.n % 6) h6
    refine⟨_,rfl,by omega,by rw[uz];exact⟨by omega,by omega⟩,Zaq (by rw[uz,zA8];exact hs) ⟨s,rfl,λM _ _=>⟨trivial,⟨2,false,false,T0,s,0,none,0,[],.empty,0⟩,rfl,rfl,⟨.inr ⟨⟨rfl,rfl,rfl⟩,.inl ⟨rfl,pI,mh,rfl⟩⟩,ZAT _,⟨rfl,rfl,rfl⟩,rfl,rfl⟩⟩⟩⟩
   ·have sI:Int.tmod (x.t:Int) 8=((x.t % 8:Nat):Int):=rfl
    have h8:x.t % 8 < 8:=Nat.mod_lt _ (by omega)
    have hw:IntKind.i64.wrap (1+IntKind.i64.wrap (Int.tmod (x.t:Int) 8))=((1+x.t % 8:Nat):Int):=by rw[sI,Zan (n:=((x.t % 8:Nat):Int)) (by omega) (by omega),Zan (by omega) (by omega)];omega
    exact⟨⟨4,false,false,T0,.empty,IntKind.i64.wrap (1+IntKind.i64.wrap (Int.tmod (x.t:Int) 8)),none,0,[],.empty,0⟩,rfl,rfl,⟨.inr ⟨⟨rfl,rfl,rfl⟩,.inr (.inr ⟨rfl,rfl,by show 1<=IntKind.i64.wrap (1+IntKind.i64.wrap (Int.tmod (x.t:Int) 8));rw[hw];omega,by show IntKind.i64.wrap (1+IntKind.i64.wrap (Int.tmod (x.t:Int) 8))<=8;rw[hw];omega⟩)⟩,ZAT _,⟨rfl,rfl,rfl⟩,rfl,rfl⟩⟩
 rintro cn cs m2 aM ⟨r,oA,j6,hR⟩
 simp only[List.cons.injEq,Value.int.injEq,true_and,and_true]at oA j6
 subst oA j6
 have j0:=hx.al
 have xv:=hx.ad
 have hN:(if(3:Int) < (x.al.length:Int)then(3:Int)else(x.al.length:Int))=((min 3 x.al.length:Nat):Int):=by split <;> omega
 simp only[hN,zA8,Nat.sub_zero]
 generalize qW:min 3 x.al.length=N
 have dE : -1<=Zcg r/\Zcg r<=10000:=by
  refine⟨Zty r,?_⟩
  unfold Zcg
  rcases hR.kind with⟨h1,h2,h3,_⟩|⟨_,⟨h1,_⟩|⟨h1,_⟩|⟨h1,_⟩⟩ <;> rw[h1]
  ·rw[if_pos rfl,Zrf (Zk8 (by omega))]
   have:r.t.gr<=r.t.nodes.length:=List.countP_le_length
   omega
  ·rw[if_neg (by decide),if_pos rfl];omega
  ·rw[if_neg (by decide),if_neg (by decide)];omega
  ·rw[if_neg (by decide),if_neg (by decide)];omega
 have gR:=eW.mono aM
 refine⟨⟨by omega,by omega⟩,λxs css tvs m' q=>∃(L:List Ac)(a:Option Addr)(d:Nat),L.length<=N/\xs=[.int .i64 L.length]/\css=[({ r with acts:=L,aa:=a,ac:=d }:Ru).cs]/\tvs=[.slice a L.length d]/\rowRd m' a (L.map Ac.cs).flatten/\(∀y∈L,RepA m' y)/\(∀y∈L,MkA (Zcg r) y)/\q=N - L.length,⟨N,[],none,0,by simp,rfl,?_,rfl,.inl rfl,by simp,by simp,rfl⟩,?_⟩
 ·show[r.cs]=[_]
  unfold Ru.cs
  rw[hR.acts.1,hR.acts.2.1,hR.acts.2.2]
 rintro z cs a n1 d m3 q aY ⟨L,a',d',xw,hz,cD,eI,aN,bC,jo,rfl⟩
 simp only[List.cons.injEq,Value.slice.injEq,Value.int.injEq,true_and,and_true]at hz cD eI
 obtain⟨rfl,rfl,rfl⟩:=eI
 subst hz cD
 have dM:=mLt aB (mLt aM aY)
 refine Zar (λaO=>?_) (λbO=>?_)
 ·have aW:L.length < N:=by omega
  obtain⟨y,hy⟩:=Zas (l:=x.al) (k:=L.length) (by omega)
  obtain⟨b3,o3,gl,iy⟩:=Zaj SAct.len (gR.mono aY).row hy (by omega)
  have hw:IntKind.i64.wrap ((L.length:Int)+1)=((L.length+1:Nat):Int):=by rw[Zan (by omega) (by omega)];rfl
  refine⟨b3,o3,gl,⟨by omega,aO⟩,_,_,_,_,iy,λb4=>Zaa rfl ⟨λ_ _ _=>AcR (Zcg r),Zaq rfl ⟨_,rfl,ZAR y (Zcg r) m3 ((gR.mono aY).all y (zA2 hy)) dE,ZAQ,?_⟩⟩⟩
  rintro n s a3 n3 c3 n5 v s1 n6 a4 n7 c4 m4 bP ⟨w,hv,lp,s6⟩ b5 jG
  simp only[Ac.cs,Value.agg.injEq,Array.mk.injEq,List.cons.injEq,Value.int.injEq,Value.string.injEq,Value.slice.injEq,true_and,and_true]at hv
  obtain⟨rfl,rfl,⟨rfl,rfl,rfl⟩,rfl,rfl,rfl,rfl,rfl,rfl,rfl⟩:=hv
  refine Zaa rfl ?_
  refine Zip Ac.len Ac.one jG w (aN.mono bP) 112 (by omega) (by omega) (.inl rfl) λa5 c5 m5 cL cO=>Zaa rfl λM _ gP iM ji=>⟨trivial,N - (L.length+1),by omega,L++[w],a5,c5,by rw[zA1];exact aW,by rw[hw,zA1];rfl,?_,by rw[zA1];rfl,cO.mono ji,?_,?_,by rw[zA1];rfl⟩
  ·unfold Ru.cs;rw[zA1];rfl
  ·intro z hz
   rcases List.mem_append.1 hz with hz|hz
   ·exact(bC z hz).mono (mLt bP gP)
   ·rw[List.mem_singleton]at hz;subst hz;exact lp.mono gP
  ·intro z hz
   rcases List.mem_append.1 hz with hz|hz
   ·exact jo z hz
   ·rw[List.mem_singleton]at hz;subst hz;exact s6
 ·have wI:Int.tmod (x.g:Int) 8=((x.g % 8:Nat):Int):=rfl
  have sY:IntKind.i64.wrap (Int.tmod (x.g:Int) 8)=((x.g % 8:Nat):Int):=by rw[wI,Zan (by omega) (by omega)]
  have hg:x.g % 8 < 8:=Nat.mod_lt _ (by omega)
  have ip:=ZAU hR.kind
  have base:∀{M:Mem},m3.le M->∀(go:ByteArray)(code:Int),go.size<=16->(0<=code/\code<=255)->RepR M { r with acts:=L,aa:=a,ac:=d,go:=go,code:=code }:=λ{M} hM go code h1 h2=>
   ⟨ip.1,hR.t.mono (mLt aY hM),ip.2.1,ip.2.2,by show L.length<=few;unfold few;omega,aN.mono hM,λy hy=>(bC y hy).mono hM,by show go.size<=_;omega,by show I64 code;unfold I64;omega⟩
  refine⟨λ_ css _ M=>∃r':Ru,css=[r'.cs]/\RepR M r'/\MkR p r',⟨_,rfl,by omega,?_⟩,?_⟩
  rw[sY]
  generalize x.g % 8=g at hg
  refine Zar (λh6=>?_) (λh6=>⟨by omega,Zaa rfl ⟨trivial,trivial,?_⟩⟩)
  ·refine⟨λ_ _ _=>ZBr Zzy,_,rfl,Zrc m3,ZdH,?_⟩
   rintro a5 n5 c5 m5 cL ⟨a',c',iv,fX⟩
   simp only[Value.slice.injEq]at iv
   obtain⟨rfl,rfl,rfl⟩:=iv
   have wJ:g % p < p:=Nat.mod_lt _ (by omega)
   obtain⟨s,hs⟩:=Zas (l:=Zzy) (k:=g % p) (by show g % p < 4;omega)
   have j5:=zA2 hs
   obtain⟨b6,o6,jF,cK⟩:=Zc0 fX hs
   have hu:Int.tmod (g:Int) (p:Int)=((g % p:Nat):Int):=rfl
   refine⟨by omega,b6,o6,jF,by rw[hu];exact⟨by omega,by show((g % p:Nat):Int) < (4:Nat);omega⟩,_,by rw[hu,zA8];exact cK,s,rfl,Zaa rfl λM jn _=>⟨trivial,trivial,{ r with acts:=L,aa:=a,ac:=d,go:=s,code:=0 },?_,base jn s 0 (by have:=ZoP s j5;omega) (by omega),hR.kind,by show L.length<=3;omega,jo,.inl ⟨⟨g % p,wJ,hs⟩,rfl⟩⟩⟩
   show[_]=[_]
   unfold Ru.cs ZaE
   rw[hR.go.2];rfl
  ·have iG:Int.tmod (IntKind.i64.wrap ((g:Int)*41)) 256=((g*41 % 256:Nat):Int):=by
    rw[show((g:Int)*41)=((g*41:Nat):Int) by omega,Zan (by omega) (by omega)];rfl
   rw[iG]
   have pO:g*41 % 256 < 256:=Nat.mod_lt _ (by omega)
   refine⟨{ r with acts:=L,aa:=a,ac:=d,go:=.empty,code:=((g*41 % 256:Nat):Int) },?_,base (Mem.le_refl _) _ _ (by rw[ZaT];omega) (by omega),hR.kind,by show L.length<=3;omega,jo,.inr ⟨rfl,by show 0<=((g*41 % 256:Nat):Int)/\((g*41 % 256:Nat):Int)<=255;omega⟩⟩
   show[_]=[_]
   unfold Ru.cs ZaE
   rw[hR.go.1];rfl
  ·rintro cs m5 cL ⟨r',cD,hr',hk'⟩
   obtain rfl:cs=r'.cs:=by simpa using cD
   exact Zaa rfl (ZaX (mLt dM cL) ⟨r',rfl,hr',hk'⟩)
end Go.Proofs.YtojlhhphofhaoaaGreatDoor