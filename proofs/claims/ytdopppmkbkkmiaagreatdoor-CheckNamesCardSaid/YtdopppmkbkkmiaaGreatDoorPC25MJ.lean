/- Part of the proof: functions of the program. No condition. -/
import Derived.Test.YtdopppmkbkkmiaaGreatDoorPVEN
import Derived.Test.YtdopppmkbkkmiaaGreatDoorPC25MA
import Derived.Test.YtdopppmkbkkmiaaGreatDoorPC13P
import Derived.Test.YtdopppmkbkkmiaaGreatDoorMr
import Derived.Test.YtdopppmkbkkmiaaGreatDoorPVEM
set_option linter.unusedVariables false
set_option linter.unusedSimpArgs false
set_option linter.unusedSectionVars false
namespace Go.Proofs.YtdopppmkbkkmiaaGreatDoor
open Go Go.Eng Go.Rx Go.Proofs Go.RowKit
set_option maxRecDepth 100000
theorem Ziv(m:Mem):CX Tryz.prog 33 #[] m [] (ZAs Zgj):=by
 apply ZgB
 intro b hf
 exact ZaH (Mem.le_add hf _) ⟨_,_,rfl,Zdn⟩
theorem Zoi(m:Mem):CX Tryz.prog 34 #[] m [] (ZAs Zdi):=by
 apply ZiR
 intro b hf
 exact ZaH (Mem.le_add hf _) ⟨_,_,rfl,Zdn⟩
theorem Zqf(m:Mem):CX Tryz.prog 35 #[] m [] (ZAs Zv0):=by
 apply ZiS
 intro b hf
 exact ZaH (Mem.le_add hf _) ⟨_,_,rfl,Zdn⟩
theorem Zmn{m:Mem}{b:Nat}:∀{L:List E} {o:Nat},m.reads b o (L.map E.cs).flatten->(∀z∈L,RepE m z)->RepEAt m b o L
 | [],o,_,_=>by simp only[RepEAt]
 | z::L,o,h,hz=>by
  rw[List.map_cons,List.flatten_cons]at h
  simp only[RepEAt]
  refine⟨λi v hi=>h i v (by rw[zA5 (zA0 hi).1];exact hi),hz z (by simp),Zmn (λi v hi=>?_) (λy hy=>hz y (by simp[hy]))⟩
  rw[Nat.add_assoc]
  refine h (5+i) v ?_
  rw[zA4 (by rw[E.len];omega),E.len,Nat.add_sub_cancel_left];exact hi
theorem Zta{m:Mem}{k:Int}{x:Nat}{s:ByteArray}{g:Int}{a:Option Addr}{c:Nat}{L:List E}(h:rowRd m a (L.map E.cs).flatten)(hz:∀z∈L,RepE m z)(hl:L.length<=1000000000000000)(ho:OkE k s g):RepE m (.node k x s g a c L):=by
 simp only[RepE]
 refine⟨hl,?_,ho⟩
 rcases h with h|⟨b,o,ha,h⟩
 ·refine .inl ?_
  have:=congrArg List.length h
  rw[Zbe E.len]at this
  exact List.eq_nil_of_length_eq_zero (by simp at this;omega)
 ·exact .inr ⟨b,o,ha,Zmn h hz⟩
theorem Zmo(e:E)(c:Int)(m:Mem)(hr:RepE m e)(cH:∀x∈e.nodes,okN 9 x)(hl:e.nodes.length<=1000):CX Tryz.prog 89 #[e.v,.int .i64 c] m [] (ER (BoE c e)):=by
 apply ZgC
 intro b b1
 refine⟨decide (e.k=10)&&decide (e.g > c),Zab (λh=>⟨rfl,Zaf ?_⟩) (λh=>⟨rfl,Zaf ?_⟩),Zab (λh=>?_) (λh=>?_)⟩
 ·have:e.k=10:=by simpa using h
  rw[decide_eq_true this,Bool.true_and]
 ·have:¬e.k=10:=by simpa using h
  rw[decide_eq_false this,Bool.false_and]
 ·rw[zA7,decide_eq_true_iff,decide_eq_true_iff]at h
  exact ZaH (Mem.le_refl _) ⟨ZAn ⟨#[121]⟩,rfl,ZeE (by omega) (by decide) (by omega),Zzk (by simp[Zgj]) h.1⟩
 have hk:¬(e.k=10/\e.g > c):=by
  rintro⟨h1,h2⟩
  rw[decide_eq_true h1,decide_eq_true h2]at h;cases h
 have dJ:e.subs.length<=1000:=by
  have:=ZeA e.subs
  rw[ZbL,List.length_cons]at hl;omega
 refine⟨λxs css tvs m' q=>∃(ts:List E)(a:Option Addr)(d:Nat),ts.length<=e.subs.length/\xs=[.int .i64 ts.length]/\css=[[.int .u8 e.k,.float .f64 e.x,.string e.s,.int .i64 e.g,.slice a ts.length d]]/\tvs=[.slice a ts.length d]/\rowRd m' a (ts.map E.cs).flatten/\(∀t∈ts,RepE m' t)/\(∀(i:Nat)(x y:E),e.subs[i]?=some x->ts[i]?=some y->BoE c x y)/\q=e.subs.length - ts.length,⟨_,[],none,0,by simp,rfl,rfl,rfl,.inl rfl,by simp,by simp,rfl⟩,?_⟩
 rintro n cs a n1 d m1 q aB ⟨ts,a',d',jG,hx,cA,cS,aD,bA,ru,hq⟩
 simp only[List.cons.injEq,Value.slice.injEq,Value.int.injEq,true_and,and_true]at hx cA cS
 obtain⟨rfl,rfl,rfl⟩:=cS
 subst hx cA
 refine Zav (λaG=>?_) (λbK=>?_)
 ·have aT:ts.length < e.subs.length:=by omega
  obtain⟨x,hx⟩:=ZaL aT
  obtain⟨qp,h0|⟨b3,o3,hO,fI⟩⟩:=ZeX hr
  ·rw[h0]at aT;simp at aT
  obtain⟨dH,dY⟩:=(fI.mono' aB).get hx
  have md:=zA2 hx
  have bI:=Zl4 md
  have vv:∀z∈x.nodes,z∈Zap e.subs:=λz hz=>by rw[ZcI hx];exact List.mem_append_right _ (List.mem_append_left _ hz)
  have j9:x.nodes.length<=1000:=by
   rw[ZbL,List.length_cons,ZcI hx,zA1,zA1]at hl;omega
  have hw:IntKind.i64.wrap ((ts.length:Int)+1)=((ts.length+1:Nat):Int):=by rw[Zal (by omega) (by omega)];rfl
  refine⟨b3,o3,hO,⟨by omega,aG⟩,_,_,_,_,_,dH,λb4=>Zaa rfl ⟨λ_ _ _=>ER (BoE c x),Zan rfl ⟨_,rfl,Zmo x c m1 dY (λz hz=>cH z (by rw[ZbL];exact List.mem_cons_of_mem _ (vv z hz))) j9,Zgp,ZAp λt m2 aH gH ht b5 j1=>Zaa rfl ?_⟩⟩⟩
  refine Zgo E.len E.one j1 t (aD.mono aH) 64 (by omega) (by omega) (.inl rfl) λa5 c5 m5 cV cG=>Zaa rfl λM _ ic iN j0=>⟨rfl,e.subs.length - (ts.length+1),by omega,ts++[t],a5,c5,by rw[zA1];exact aT,by rw[hw,zA1];rfl,by rw[zA1];rfl,by rw[zA1];rfl,cG.mono j0,?_,?_,by rw[zA1];rfl⟩
  ·intro z hz
   rcases List.mem_append.1 hz with hz|hz
   ·exact(bA z hz).mono' (mLt aH ic)
   ·rw[List.mem_singleton]at hz;subst hz;exact gH.mono' ic
  ·intro i x' y' hx' hy'
   rcases Nat.lt_or_ge i ts.length with h|h
   ·rw[zA5 h]at hy'
    exact ru i x' y' hx' hy'
   ·have hi:=(zA0 hy').1
    rw[zA1,List.length_singleton]at hi
    obtain rfl:i=ts.length:=by omega
    rw[hx]at hx'
    simp at hy'
    cases hx';subst hy';exact ht
 ·have aQ:ts.length=e.subs.length:=by omega
  have ho:=ZsC hr
  refine Zaa rfl (ZaH aB ⟨.node e.k e.x e.s e.g a d ts,rfl,Zta aD bA (by omega) ho,?_⟩)
  have:=Zw3 (c:=c) (x:=e.x) (s:=e.s) (a:=e.a) (a':=a) (d:=e.c) (d':=d) (l:=e.subs) (r:=ts) (k:=e.k) (g:=e.g) (by cases e;exact cH _ (by simp[E.nodes,E.k,E.x,E.s,E.g,E.a,E.c,E.subs])) hk aQ.symm ru
  cases e;exact this
termination_by SizeOf.sizeOf e
theorem Zmp(t:T)(m:Mem)(hr:Rep m t)(hl:t.nodes.length<=10000):CX Tryz.prog 59 #[t.v] m [] (Ret (.int .i64 (t.gr:Nat))):=by
 apply ZhD
 intro b m1 aB _
 have dJ:t.subs.length<=10000:=by
  have h1:=Zku t
  have:=Zpr t.subs
  omega
 have vC:∀i,grL (t.subs.take i)<=10000:=λi=>by
  have h1:grL (t.subs.take i)<=szL (t.subs.take i):=List.countP_le_length
  have h2:szL t.subs=szL (t.subs.take i)+szL (t.subs.drop i):=by rw[<-ZaE,List.take_append_drop]
  have h3:=Zku t
  omega
 refine Zab (λh=>?_) (λh=>?_)
 all_goals
  refine⟨λxs _ _ m' q=>∃i:Nat,i<=t.subs.length/\xs=[.int .i64 (((if isG t=true then 1 else 0)+grL (t.subs.take i):Nat):Int),.int .i64 i]/\q=t.subs.length - i,⟨_,0,by omega,by unfold isG;rw[h];rfl,rfl⟩,?_⟩
  rintro n n1 m2 q aH ⟨i,hi,hx,rfl⟩
  simp only[List.cons.injEq,Value.int.injEq,true_and,and_true]at hx
  obtain⟨rfl,rfl⟩:=hx
  refine Zav (λaG=>?_) (λbK=>Zac (mLt aB aH) ?_)
  ·have aT:i < t.subs.length:=by omega
   obtain⟨x,hx⟩:=ZaL aT
   have md:=zA2 hx
   have bI:=Zrr md
   have j9:x.nodes.length<=10000:=by
    have h1:=Zku t
    have h2:szL t.subs=szL (t.subs.take i)+szL (t.subs.drop i):=by rw[<-ZaE,List.take_append_drop]
    rw[Zsz hx,ZeZ]at h2;omega
   have tC:grL (t.subs.take (i+1))=grL (t.subs.take i)+x.gr:=by
    rw[List.take_add_one,hx,ZbH];show _+grL [x]=_;rw[Zdh]
   have hb:=vC i
   have hb':=vC (i+1)
   obtain⟨b3,o3,hO,dH⟩:=ZdZ ((Zex hr.subs).mono (mLt aB aH)) hx
   refine⟨b3,o3,hO,⟨by omega,aG⟩,_,_,_,_,_,_,_,_,dH,λb4=>Zaa rfl (ZaC (Zmp x m2 ((Zkn hr.subs x md).mono (mLt aB aH)) j9) λm3 aS=>⟨rfl,t.subs.length - (i+1),by omega,i+1,by omega,?_,rfl⟩)⟩
   rw[tC,Zal (by split <;> omega) (by split <;> omega),Zal (by omega) (by omega)]
   simp;omega
  ·have:i=t.subs.length:=by omega
   subst this
   rw[List.take_length]
   show Value.int .i64 _=Value.int .i64 _
   rw[Zyx t]
termination_by SizeOf.sizeOf t
structure BytU (m:Mem)(a:Option Addr)(l:List Nat):Prop where
 lt:∀n∈l,n < 256
 row:rowRd m a (l.map λn:Nat=>[Value.int .u8 n]).flatten
theorem BytU.mono{m m':Mem}{a l}(h:BytU m a l)(hm:m.le m'):BytU m' a l:=⟨h.lt,h.row.mono hm⟩
theorem BytU.get{m:Mem}{a l}(h:BytU m a l){i:Nat}{n:Nat}(hi:l[i]?=some n):n < 256/\∃b o,a=some ⟨b,o,none⟩/\m b (o+i*1)=some (.int .u8 n):=by
 obtain⟨b,o,ha,h1⟩:=Zao (cs:=λn:Nat=>[Value.int .u8 n]) (n:=1) (λ_=>rfl) h.row hi (by omega)
 exact⟨h.lt n (zA2 hi),b,o,ha,h1 0 _ rfl⟩
theorem Pt.one(p:Pt):∀u∈p.cs,u.oneCell'=true:=by
 intro u hu
 simp only[Pt.cs,List.mem_cons,List.not_mem_nil,or_false]at hu
 rcases hu with rfl|rfl|rfl|rfl|rfl|rfl|rfl|rfl <;> rfl
def TmR(c:Int):Value->Mem->List (List Value)->Prop:=λv m' _=>∃(l:List Pt)(a:Option Addr)(d:Nat),v=.slice a l.length d/\rowRd m' a (l.map Pt.cs).flatten/\(∀p∈l,RepP m' p)/\MkT c l
theorem Zwm{c:Int}:∀(v:Value)(m':Mem) (css:List (List Value)),TmR c v m' css->Shape.fits .slice v=true:=λv _ _ ⟨_,_,_,h,_⟩=>by rw[h];rfl
def TmI(c:Int)(N:Nat)(m:Mem):List Value->List (List Value)->List Value->Mem->Nat->Prop:=λxs _ tvs m' q=>∃(L:List Pt)(a:Option Addr)(d i:Nat),xs=[.slice a L.length d,.int .i64 i]/\tvs=[.slice a L.length d]/\i<=N/\L.length<=i/\m.le m'/\rowRd m' a (L.map Pt.cs).flatten/\(∀p∈L,RepP m' p)/\(∀p∈L,MkP c p)/\ZCn L/\q=N - i
theorem ZuT{L:List Pt}{p:Pt}(h:ZCn L)(hp:p.k=1->∀x,L[L.length - 1]?=some x->0 < L.length->x.k≠1):ZCn (L++[p]):=by
 intro i x y hx hy h1 h2
 rcases Nat.lt_or_ge (i+1) L.length with hi|hi
 ·rw[zA5 (by omega)]at hx
  rw[zA5 hi]at hy
  exact h i x y hx hy h1 h2
 ·have jd:=(zA0 hy).1
  rw[zA1,List.length_singleton]at jd
  have e:i+1=L.length:=by omega
  rw[zA5 (by omega)]at hx
  rw[e]at hy
  simp at hy;subst hy
  exact hp h2 x (by rw[<-e,Nat.add_sub_cancel];exact hx) (by omega) h1
theorem TmI.next{c:Int}{N:Nat}{m m' M:Mem}{L:List Pt}{i:Nat}{p:Pt}{a:Option Addr}{d:Nat}(hi:i < N)(hL:L.length<=i)(h0:m.le m')(hM:m'.le M)(aD:rowRd M a ((L++[p]).map Pt.cs).flatten)(hr:∀x∈L,RepP m' x)(hp:RepP M p)(hk:∀x∈L,MkP c x)(xD:MkP c p)(hl:ZCn L)(xE:p.k=1->∀x,L[L.length - 1]?=some x->0 < L.length->x.k≠1):
  ∃n',n' < N - i/\TmI c N m [.slice a (L.length+1) d,.int .i64 ((i+1:Nat):Int)] [] [.slice a (L.length+1) d] M n':=by
 refine⟨N - (i+1),by omega,L++[p],a,d,i+1,by rw[zA1];rfl,by rw[zA1];rfl,by omega,by rw[zA1,List.length_singleton];omega,mLt h0 hM,aD,?_,?_,ZuT hl xE,rfl⟩
 ·intro x hx
  rcases List.mem_append.1 hx with hx|hx
  ·exact(hr x hx).mono hM
  ·rw[List.mem_singleton]at hx;subst hx;exact hp
 ·intro x hx
  rcases List.mem_append.1 hx with hx|hx
  ·exact hk x hx
  ·rw[List.mem_singleton]at hx;subst hx;exact xD
theorem ZhL{m:Mem}{k:Int}{s:ByteArray}{g:Int}(hk:0<=k/\k < 256)(hs:s.size<=1000000000000000)(hg:I64 g):RepP m ⟨k,s,g,E0⟩:=⟨hk,hs,hg,Zpm m⟩
theorem Zk3:∀s∈Zdi,s.size<=16:=by decide +kernel
theorem ZDD:∀j < 5,∃s:ByteArray,[Value.string ⟨#[97]⟩,.string ⟨#[45]⟩,.string ⟨#[97,98,32]⟩,.string ⟨#[0,255]⟩,.string ⟨#[49,50]⟩][j*1]?=some (.string s)/\0 < s.size/\s.size<=512:=by
 intro j hj
 have:j=0\/j=1\/j=2\/j=3\/j=4:=by omega
 rcases this with rfl|rfl|rfl|rfl|rfl <;> exact⟨_,rfl,by decide,by decide⟩
set_option maxHeartbeats 2000000 in
theorem ZjP(l:List Nat)(a:Option Addr)(d:Nat)(e:E)(c:Int)(m:Mem)(hb:BytU m a l)(hd:l.length<=d)(hl:l.length<=1000000000000000)(hr:RepE m e)(he:MkE c 20 e)(hc : -1<=c/\c<=10000):
  CX Tryz.prog 91 #[.slice a l.length d,e.v,.int .i64 c] m [] (TmR c):=by
 apply ZfL
 intro b m1 aB _
 have hN:(if(5:Int) < (l.length:Int)then(5:Int)else(l.length:Int))=((min 5 l.length:Nat):Int):=by split <;> omega
 simp only[hN,zA8,Nat.sub_zero]
 generalize rM:min 5 l.length=N
 refine⟨⟨by omega,by omega⟩,TmI c N m1,⟨N,[],none,0,0,rfl,rfl,by omega,by simp,Mem.le_refl _,.inl rfl,by simp,by simp,λi p q h=>by simp at h,by omega⟩,?_⟩
 rintro a1 n1 c1 z1 a2 n2 c2 m2 q aH ⟨L,a',c',i,hx,cS,rN,ig,hm,aD,bA,jJ,iD,rfl⟩
 simp only[List.cons.injEq,Value.slice.injEq,Value.int.injEq,true_and,and_true]at hx cS
 obtain⟨⟨rfl,rfl,rfl⟩,rfl⟩:=hx
 obtain⟨rfl,rfl,rfl⟩:=cS
 have hw:IntKind.i64.wrap ((i:Int)+1)=((i+1:Nat):Int):=by rw[Zal (by omega) (by omega)];rfl
 have xF:IntKind.i64.wrap ((L.length:Int) - 1)=(L.length:Int) - 1:=Zal (by omega) (by omega)
 have pz:=mLt aB aH
 refine Zav (λaG=>?_) (λbK=>ZaH pz ⟨L,a2,c2,rfl,aD,bA,by omega,jJ,iD⟩)
 have aT:i < N:=by omega
 obtain⟨n,hn⟩:=ZaL (l:=l) (k:=i) (by omega)
 obtain⟨kw,bs,os,ha,hv⟩:=(hb.mono pz).get hn
 have tD:Int.tmod (n:Int) 8=((n % 8:Nat):Int):=rfl
 have tE:IntKind.i64.wrap (Int.tdiv (IntKind.i64.wrap (n:Int)) 8)=((n / 8:Nat):Int):=by
  rw[Zal (n:=(n:Int)) (by omega) (by omega),show Int.tdiv (n:Int) 8=((n / 8:Nat):Int) from rfl,Zal (by omega) (by omega)]
 simp only[hw,xF,zA8]
 refine⟨bs,os,ha,⟨by omega,aG⟩,_,hv,_,rfl,by omega,by omega,?_⟩
 simp only[tD,tE]
 have xG:n / 8 < 32:=by omega
 generalize n % 8=k
 generalize n / 8=u at xG
 have stay:∀M:Mem,m2.le M->∃n',n' < N - i/\TmI c N m1 [.slice a2 L.length c2,.int .i64 ((i+1:Nat):Int)] [] [.slice a2 L.length c2] M n':=λM hM=>⟨N - (i+1),by omega,L,a2,c2,i+1,rfl,rfl,by omega,by omega,mLt hm hM,aD.mono hM,λp hp=>(bA p hp).mono hM,jJ,iD,rfl⟩
 refine⟨λxs _ _ m'=>xs=[.bool (decide (k=0\/k=1))]/\m2.le m',Zab (λh=>⟨trivial,trivial,?_,Mem.le_refl _⟩) (λh=>⟨trivial,trivial,?_,Mem.le_refl _⟩),?_⟩
 ·have:k=0:=by simp at h;omega
  rw[h,this];rfl
 ·have:¬k=0:=by simp at h;omega
  refine Zaf ?_
  rw[Bool.eq_iff_iff];simp;omega
 rintro b2 m3 aS ⟨eR,_⟩
 obtain rfl:b2=decide (k=0\/k=1):=by simpa using eR
 have dI:=mLt pz aS
 refine Zav (λji=>?_) (λji=>?_)
 ·refine⟨decide (L.length=0)||!(match L[L.length - 1]? with
   | some x=>x.k == 1
   | none=>false),Zav (λh=>⟨trivial,trivial,Zaf ?_⟩) (λh=>?_),Zab (λhB=>?_) (λ_=>⟨trivial,stay m3 aS⟩)⟩
  ·rw[decide_eq_true (show L.length=0 by omega)];rfl
  ·obtain⟨x,hx⟩:=ZaL (l:=L) (k:=L.length - 1) (by omega)
   obtain⟨b4,o4,kL,cQ⟩:=Zao Pt.len (aD.mono aS) hx (by omega)
   have xH:Int.toNat ((L.length:Int) - 1)=L.length - 1:=by omega
   refine⟨b4,o4,kL,⟨by omega,by omega⟩,.int .u8 x.k,by rw[xH];exact cQ 0 _ rfl,_,rfl,trivial,trivial,Zaf ?_⟩
   rw[decide_eq_false (show ¬L.length=0 by omega),hx,Bool.false_or]
  ·have vD:Int.tmod (u:Int) 5=((u % 5:Nat):Int):=rfl
   have h5:u % 5 < 5:=Nat.mod_lt _ (by omega)
   intro b4 iX
   obtain⟨s,hs,lh,xI⟩:=ZDD (u % 5) h5
   refine⟨by omega,by rw[vD];exact⟨by omega,by omega⟩,Zan (by rw[vD,zA8];exact hs) ⟨s,rfl,λb5 j1=>?_⟩⟩
   have pA:=mLt aS (Mem.le_add iX [Value.string ⟨#[97]⟩,.string ⟨#[45]⟩,.string ⟨#[97,98,32]⟩,.string ⟨#[0,255]⟩,.string ⟨#[49,50]⟩])
   refine Zgo Pt.len Pt.one j1 (⟨1,s,0,E0⟩:Pt) (aD.mono pA) 96 (by omega) (by omega) (.inl trivial) λa8 c8 m8 iO fB=>⟨trivial,TmI.next aT ig (mLt hm pA) (mLt (Mem.le_add j1 _) iO) fB (λx hx=>(bA x hx).mono pA) (ZhL (by omega) (by omega) ⟨by omega,by omega⟩) jJ (.lit s ⟨lh,xI⟩) iD (λ_ x hx zj l7=>?_)⟩
   rw[hx,decide_eq_false (show ¬L.length=0 by omega)]at hB
   simp[l7]at hB
 refine⟨λxs _ _ m'=>xs=[.bool (decide (k=2\/k=3))]/\m3.le m',Zab (λh=>⟨trivial,trivial,?_,Mem.le_refl _⟩) (λh=>⟨trivial,trivial,?_,Mem.le_refl _⟩),?_⟩
 ·have:k=2:=by simp at h;omega
  rw[h,this];rfl
 ·have:¬k=2:=by simp at h;omega
  refine Zaf ?_
  rw[Bool.eq_iff_iff];simp;omega
 rintro b3 m4 bM ⟨eS,_⟩
 obtain rfl:b3=decide (k=2\/k=3):=by simpa using eS
 have jK:=mLt aS bM
 refine Zav (λtF=>?_) (λtF=>?_)
 ·refine Zaj (Zoi m4) ZdK ?_
  rintro a5 n5 c5 m5 cV ⟨a',c',gS,fW⟩
  simp only[Value.slice.injEq]at gS
  obtain⟨rfl,rfl,rfl⟩:=gS
  have h2:u % 2 < 2:=Nat.mod_lt _ (by omega)
  obtain⟨s,hs⟩:=ZaL (l:=Zdi) (k:=u % 2) h2
  have kM:=zA2 hs
  obtain⟨b6,o6,js,cQ⟩:=ZcX fW hs
  have bI:s.size<=1000000000000000:=by have:=Zk3 s kM;omega
  have hu:Int.tmod (u:Int) 2=((u % 2:Nat):Int):=rfl
  have jL:=mLt jK cV
  refine⟨by omega,b6,o6,js,by rw[hu];exact⟨by omega,by show((u % 2:Nat):Int) < (2:Nat);omega⟩,_,by rw[hu,zA8];exact cQ,s,rfl,λb7 lI=>?_⟩
  refine Zgo Pt.len Pt.one lI (⟨2,s,0,E0⟩:Pt) (aD.mono jL) 96 (by omega) (by omega) (.inl trivial) λa8 c8 m8 iO fB=>⟨trivial,TmI.next aT ig (mLt hm jL) (mLt (Mem.le_add lI _) iO) fB (λx hx=>(bA x hx).mono jL) (ZhL (by omega) bI ⟨by omega,by omega⟩) jJ (.var s (.inr kM)) iD (λh=>absurd (show(2:Int)=1 from h) (by decide))⟩
 refine Zab (λh4=>?_) (λh4=>?_)
 ·refine Zaj (Ziv m4) ZdK ?_
  rintro a5 n5 c5 m5 cV ⟨a',c',gS,fW⟩
  simp only[Value.slice.injEq]at gS
  obtain⟨rfl,rfl,rfl⟩:=gS
  have h2:u % 4 < 4:=Nat.mod_lt _ (by omega)
  obtain⟨s,hs⟩:=ZaL (l:=Zgj) (k:=u % 4) h2
  have kM:=zA2 hs
  obtain⟨b6,o6,js,cQ⟩:=ZcX fW hs
  have bI:s.size<=1000000000000000:=by have:=Zk2 s kM;omega
  have hu:Int.tmod (u:Int) 4=((u % 4:Nat):Int):=rfl
  have jL:=mLt jK cV
  refine⟨by omega,b6,o6,js,by rw[hu];exact⟨by omega,by show((u % 4:Nat):Int) < (4:Nat);omega⟩,_,by rw[hu,zA8];exact cQ,s,rfl,λb7 lI=>?_⟩
  refine Zgo Pt.len Pt.one lI (⟨2,s,0,E0⟩:Pt) (aD.mono jL) 96 (by omega) (by omega) (.inl trivial) λa8 c8 m8 iO fB=>⟨trivial,TmI.next aT ig (mLt hm jL) (mLt (Mem.le_add lI _) iO) fB (λx hx=>(bA x hx).mono jL) (ZhL (by omega) bI ⟨by omega,by omega⟩) jJ (.var s (.inl kM)) iD (λh=>absurd (show(2:Int)=1 from h) (by decide))⟩
 refine⟨λxs _ _ m'=>xs=[.bool (decide (k=5\/k=6))]/\m4.le m',Zab (λh=>⟨trivial,trivial,?_,Mem.le_refl _⟩) (λh=>⟨trivial,trivial,?_,Mem.le_refl _⟩),?_⟩
 ·have:k=5:=by simp at h;omega
  rw[h,this];rfl
 ·have:¬k=5:=by simp at h;omega
  refine Zaf ?_
  rw[Bool.eq_iff_iff];simp;omega
 rintro b4 m5 cV ⟨nu,_⟩
 obtain rfl:b4=decide (k=5\/k=6):=by simpa using nu
 have jL:=mLt jK cV
 refine Zav (λxJ=>?_) (λxJ=>?_)
 ·refine Zav (λhp=>?_) (λhp=>⟨trivial,stay m5 jL⟩)
  obtain⟨C,nI,mf,hC⟩:∃C:Nat,(C:Int)<=c/\C<=9/\IntKind.i64.wrap ((if(9:Int) < c then(9:Int)else c)+1)=((C+1:Nat):Int):=by
   by_cases h9:9 < c
   ·exact⟨9,by omega,by omega,by rw[if_pos h9];rfl⟩
   ·refine⟨c.toNat,by omega,by omega,?_⟩
    rw[if_neg h9,Zal (by omega) (by omega)];omega
  have mI:Int.tmod (u:Int) ((C+1:Nat):Int)=((u % (C+1):Nat):Int):=rfl
  have aG:u % (C+1) < C+1:=Nat.mod_lt _ (by omega)
  simp only[hC,mI]
  refine⟨by omega,λb6 iZ=>?_⟩
  refine Zgo Pt.len Pt.one iZ (⟨3,.empty,((u % (C+1):Nat):Int),E0⟩:Pt) (aD.mono jL) 96 (by omega) (by omega) (.inl trivial) λa8 c8 m8 iO fB=>⟨trivial,TmI.next aT ig (mLt hm jL) (mLt (Mem.le_add iZ _) iO) fB (λx hx=>(bA x hx).mono jL) (ZhL (by omega) (by rw[Zax];omega) ⟨by omega,by omega⟩) jJ (.cap _ (by omega)) iD (λh=>absurd (show(3:Int)=1 from h) (by decide))⟩
 ·intro b6 iZ
  have qw:=Mem.le_add iZ (⟨4,.empty,0,e⟩:Pt).cs
  refine Zgo Pt.len Pt.one iZ (⟨4,.empty,0,e⟩:Pt) (aD.mono jL) 96 (by omega) (by omega) (.inl trivial) λa8 c8 m8 iO fB=>⟨trivial,TmI.next aT ig (mLt hm jL) (mLt qw iO) fB (λx hx=>(bA x hx).mono jL) ⟨by show(0:Int)<=4/\(4:Int) < 256;omega,by show ByteArray.empty.size<=_;rw[Zax];omega,⟨by show(-9223372036854775808:Int)<=0;omega,by show(0:Int)<=9223372036854775807;omega⟩,hr.mono' (mLt pz (mLt jL (mLt qw iO)))⟩ jJ (.clc e he) iD (λh=>absurd (show(4:Int)=1 from h) (by decide))⟩
theorem ZDE(l:List T):∀u∈Rx.ZcL l,u.oneCell'=true:=by
 intro u hu
 simp only[Rx.ZcL,List.mem_flatten,List.mem_map]at hu
 obtain⟨_,⟨t,_,rfl⟩,h⟩:=hu
 simp only[T.cs,T.sl,List.mem_cons,List.not_mem_nil,or_false]at h
 rcases h with rfl|rfl|rfl|rfl|rfl|rfl|rfl|rfl <;> rfl
theorem Znv(a:Option Addr)(c:Nat)(l:List T)(m:Mem)(h:rowRd m a (Rx.ZcL l))(hl:l.length<=1000000000000):CXT Tryz.prog 115 #[.slice a l.length c] m 8 (λv m' _=>∃a' c',v=.slice a' l.length c'/\rowRd m' a' (Rx.ZcL l)/\l.length<=c'/\(l.length=0\/∃b,a'=some ⟨b,0,none⟩/\m.free b)):=by
 apply ZbR
 have aQ:=Zar l
 refine Zab (λha=>?_) (λha=>⟨⟨rfl,Int.le_refl _,by decide,by decide⟩,λb hf _=>⟨.inl rfl,[],Rx.ZcL l,rfl,aQ,.inl rfl,h,ZDE l,by omega,by omega,λa' c' m' hm aD j2=>⟨rfl,?_⟩⟩⟩)
 ·obtain rfl:a=none:=by simpa using ha
  have h0:l=[]:=by
   rcases h with h|⟨_,_,h,_⟩
   ·rw[h]at aQ;exact List.eq_nil_of_length_eq_zero (by simp at aQ;omega)
   ·cases h
  subst h0
  exact⟨rfl,none,0,rfl,.inl rfl,Nat.le_refl _,.inl rfl⟩
 ·simp only[Nat.zero_add]at j2 ⊢
  refine⟨a',c',rfl,aD,j2.1,?_⟩
  rcases(j2.old (λ_ _ e=>by cases e;rfl)).2 with h1|⟨b',h1,h2|h2⟩
  ·subst h1
   left
   rcases aD with h3|⟨_,_,h3,_⟩
   ·have h4:(Rx.ZcL l).length=0:=congrArg List.length h3
    omega
   ·cases h3
  ·right;rw[<-h2];exact⟨b,rfl,hf⟩
  ·exact .inr ⟨b',h1,h2⟩
theorem ZxC{m:Mem}{b:Nat}{ts r:List T}{x t:T}(h:rowRd m (some ⟨b,0,none⟩) (Rx.ZcL (ts++x::r))):rowRd (m.upd b (0+ts.length*8) t.cs) (some ⟨b,0,none⟩) (Rx.ZcL (ts++t::r)):=by
 rcases h with h|⟨b',o',ha,h⟩
 ·have hl:(Rx.ZcL (ts++x::r)).length=0:=by rw[h];rfl
  rw[Zar,zA1,List.length_cons]at hl
  omega
 cases ha
 have e:∀y:T,Rx.ZcL (ts++y::r)=Rx.ZcL ts++(y.cs++Rx.ZcL r):=λy=>by simp[Rx.ZcL]
 have h8:∀y:T,y.cs.length=8:=λ_=>rfl
 refine .inr ⟨b,0,rfl,λj v hj=>?_⟩
 rw[e]at hj
 unfold Mem.upd;try dsimp only
 rw[Nat.zero_add,Nat.zero_add,h8]
 rcases Nat.lt_or_ge j (ts.length*8)with aG|bK
 ·rw[if_neg (by omega)]
  rw[zA5 (by rw[Zar];exact aG)]at hj
  have:=h j v (by rw[e,zA5 (by rw[Zar];exact aG)];exact hj)
  rwa [Nat.zero_add]at this
 ·rw[zA4 (by rw[Zar];exact bK),Zar]at hj
  rcases Nat.lt_or_ge j (ts.length*8+8)with aG|eI
  ·rw[if_pos ⟨rfl,bK,aG⟩]
   rw[zA5 (by rw[h8];omega)]at hj
   exact hj
  ·rw[if_neg (by omega)]
   rw[zA4 (by rw[h8];omega),h8]at hj
   have:=h j v (by
    rw[e,zA4 (by rw[Zar];exact bK),Zar,zA4 (by rw[h8];omega),h8];exact hj)
   rwa [Nat.zero_add]at this
theorem ZxD{m m':Mem}(h:m.le m'){b:Nat}(hf:m'.free b):m.free b:=λo=>by
 cases he:m b o with
 | none=>rfl
 | some v=>have:=h _ _ _ he;rw[hf o]at this;cases this
def NewT(m:Mem)(t:T):Prop:=∀x∈t.nodes,x.subs=[]\/∃b,x.a=some ⟨b,0,none⟩/\m.free b
theorem NewT.less{m m':Mem}{t:T}(hn:NewT m' t)(h:m.le m'):NewT m t:=λx hx=>(hn x hx).imp id λ⟨b,e,hf⟩=>⟨b,e,ZxD h hf⟩
theorem ZuU{m:Mem}{k s0 s1 s2 s3 mn mx:Int}{a:Option Addr}{c:Nat}{l:List T}(h:l=[]\/∃b,a=some ⟨b,0,none⟩/\m.free b)(hl:∀x∈l,NewT m x):NewT m (.node k s0 s1 s2 s3 mn mx a c l):=by
 intro x hx
 simp only[T.nodes,List.mem_cons]at hx
 rcases hx with rfl|hx
 ·exact h
 ·have:∀l:List T,(∀x∈l,NewT m x)->∀x∈Zaz l,x.subs=[]\/∃b,x.a=some ⟨b,0,none⟩/\m.free b:=by
   intro l
   induction l with
   | nil=>intro _ x hx;simp[Zaz]at hx
   | cons y l ih=>
    intro h x hx
    simp only[Zaz,List.mem_append]at hx
    rcases hx with hx|hx
    ·exact h y (by simp) x hx
    ·exact ih (λz hz=>h z (by simp[hz])) x hx
  exact this l hl x hx
set_option maxHeartbeats 800000 in
theorem Zmq(t:T)(m:Mem)(hr:Rep m t)(hz:t.nodes.length<=10000):CX Tryz.prog 94 #[t.v] m [] (Zpk λt'=>t'.er=t.er/\(t'.caps/\NewT m t')):=by
 have bI:szL t.subs<=10000:=by rw[Zku]at hz;omega
 have fO:t.subs.length<=10000:=Nat.le_trans (Zpr _) bI
 apply Zm3
 intro b b1
 refine⟨_,Znv t.a t.c t.subs m (Zex hr.subs) (by omega),(λv _ _ ⟨a,c,e,_⟩=>by rw[e];rfl),?_⟩
 rintro a n c m1 aB ⟨a',c',hv,aD,jk,bG⟩
 simp only[Value.slice.injEq]at hv
 obtain⟨rfl,rfl,rfl⟩:=hv
 have bA:∀x∈t.subs,Rep m x:=Zkn hr.subs
 refine⟨λxs css tvs m' q=>∃(k:Nat)(L:List T)(mb:Mem),k<=t.subs.length/\xs=[.int .i64 k]/\q=t.subs.length - k/\L.length=k/\L.map T.er=(t.subs.take k).map T.er/\m.le mb/\mb.le m'/\(t.subs.length=0\/∃b,a=some ⟨b,0,none⟩/\mb.free b)/\(∀x∈L,Rep mb x/\(x.caps/\NewT m x))/\(t.subs.length=0\/∃b,a=some ⟨b,0,none⟩/\m.free b)/\rowRd m' a (Rx.ZcL (L++t.subs.drop k)),⟨_,0,[],m,by omega,rfl,rfl,rfl,rfl,Mem.le_refl _,aB,bG,by simp,bG,aD⟩,?_⟩
 rintro z m2 q _ ⟨k,L,mb,hk,cT,hq,kN,nJ,fJ,j3,fK,mg,cC,dZ⟩
 obtain rfl:z=k:=by simpa using cT
 refine Zab (λaG=>?_) (λbK=>?_)
 ·have aT:k < t.subs.length:=by have:=zA6 aG;omega
  obtain⟨x,hx⟩:=ZaL aT
  have dH:=bA x (zA2 hx)
  have mC:x.nodes.length<=10000:=by
   obtain⟨h1,h2⟩:=zA0 hx
   have:=congrArg List.length (ZdN hx)
   unfold szL at bI
   simp only[zA1]at this
   omega
  have jt:t.subs.drop k=x::t.subs.drop (k+1):=by
   rw[List.drop_eq_getElem_cons aT,(zA0 hx).2]
  rcases fK with fK|⟨bk,rfl,dT⟩
  ·omega
  obtain⟨b0,o0,tG,cQ⟩:=ZdZ dZ (i:=k) (t:=x) (by rw[zA4 (by omega),kN,Nat.sub_self,jt];rfl)
  cases tG
  have hw:IntKind.i64.wrap ((k:Int)+1)=((k+1:Nat):Int):=by rw[Zal (by omega) (by omega)];rfl
  simp only[hw,zA8]
  have gJ:CX Tryz.prog 94 #[x.v] m2 [] (ZqV mb m2 λt'=>t'.er=x.er/\(t'.caps/\NewT mb t')):=(Zmq x mb (Rep.mono fJ x dH) mC).frame2 j3
  refine⟨bk,0,rfl,⟨by omega,by omega⟩,_,_,_,_,_,_,_,_,cQ,λb3=>Zaa rfl ⟨λ_ _ _=>ZqV mb m2 λt'=>t'.er=x.er/\(t'.caps/\NewT mb t'),ZqV mb m2 λt'=>t'.er=x.er/\(t'.caps/\NewT mb t'),rfl,gJ,ZdG,ZjO λt' m0 m3 aS h0 dI dQ hr' ht'=>⟨bk,0,rfl,⟨by omega,by omega⟩,λM ic iN=>⟨rfl,by omega,by trivial,by trivial,t.subs.length - (k+1),by omega,k+1,L++[t'],m0,by omega,rfl,rfl,by simp[kN],?_,mLt fJ h0,?_,.inr ⟨bk,rfl,?_⟩,?_,cC,?_⟩⟩⟩⟩
  ·rw[List.map_append,nJ,ZsA hx,List.map_append]
   simp[ht'.1]
  ·refine Mem.le_upd (mLt dI iN) ?_ _ _
   intro o'
   have hc:m2 bk (0+k*8+0)=some (.int .u8 x.k):=cQ 0 _ rfl
   rw[dQ _ _ _ hc o'];exact dT o'
  ·intro o'
   have hc:m2 bk (0+k*8+0)=some (.int .u8 x.k):=cQ 0 _ rfl
   rw[dQ _ _ _ hc o'];exact dT o'
  ·intro y hy
   rcases List.mem_append.1 hy with hy|hy
   ·exact⟨Rep.mono h0 y (mg y hy).1,(mg y hy).2⟩
   ·simp at hy;subst hy;exact⟨hr',ht'.2.1,ht'.2.2.less fJ⟩
  ·rw[jt]at dZ
   have h5:=ZxC (t:=t') (dZ.mono ic)
   rw[kN]at h5
   rw[List.append_assoc]
   exact h5
 ·have dS:k=t.subs.length:=by have:=of_decide_eq_false bK;omega
  subst dS
  rw[List.drop_length,List.append_nil]at dZ
  rw[List.take_length]at nJ
  have cH:=ZA5 hr
  refine⟨m2,mLt fJ j3,Mem.le_refl _,.node t.k t.s0 t.s1 t.s2 t.s3 t.mn t.mx a c L,?_,?_,?_⟩
  ·simp only[T.v,T.k,T.s0,T.s1,T.s2,T.s3,T.mn,T.mx,T.a,T.c,T.subs,kN]
  ·have:=ZvW dZ (λx hx=>Rep.mono j3 x (mg x hx).1) (by omega)
   exact ZA6 this.1 this.2 cH
  ·have:=Zzm (k:=t.k) (s0:=t.s0) (s1:=t.s1) (s2:=t.s2) (s3:=t.s3) (mn:=t.mn) (mx:=t.mx) (a:=a) (a':=t.a) (c:=c) (c':=t.c) nJ
   refine⟨this.trans ?_,Zun (by omega) λx hx=>(mg x hx).2.1,ZuU (cC.imp (λh=>List.eq_nil_of_length_eq_zero (by omega)) id) λx hx=>(mg x hx).2.2⟩
   cases t;rfl
termination_by SizeOf.sizeOf t
decreasing_by exact Zrr (zA2 hx)
mutual
theorem ZzI{m m':Mem}:∀(t:T),Rep m' t->NewT m t->Rep (nw m m') t
 | .node k s0 s1 s2 s3 mn mx a c l,hr,hn=>by
  have h0:=hn _ (by rw[ZcH];exact List.mem_cons_self)
  simp only[Rep]at hr ⊢
  refine⟨hr.1,?_,hr.2.2⟩
  rcases hr.2.1 with h|⟨b,o,ha,fI⟩
  ·exact .inl h
  rcases h0 with h|⟨b',hb',hf⟩
  ·exact .inl h
  ·have e:a=some ⟨b',0,none⟩:=hb'
   rw[ha]at e
   simp only[Option.some.injEq,Addr.mk.injEq,and_true]at e
   obtain⟨rfl,rfl⟩:=e
   exact .inr ⟨b,0,ha,Ztb b hf 0 l fI λx hx y hy=>hn y (by
    rw[ZcH]
    refine List.mem_cons_of_mem _ ?_
    obtain⟨i,hi⟩:=List.getElem?_of_mem hx
    rw[show(T.node k s0 s1 s2 s3 mn mx a c l).subs=l from rfl,ZdN hi]
    simp[hy])⟩
theorem Ztb{m m':Mem}(b:Nat)(hf:m.free b):∀(o:Nat)(l:List T),RepAt m' b o l->(∀x∈l,NewT m x)->RepAt (nw m m') b o l
 | _,[],_,_=>by simp only[RepAt]
 | o,t::l,hr,hn=>by
  simp only[RepAt]at hr ⊢
  exact⟨λj v hj=>by rw[Zyz hf];exact hr.1 j v hj,ZzI t hr.2.1 (hn t (by simp)),Ztb b hf (o+8) l hr.2.2 λx hx=>hn x (by simp[hx])⟩
end
def CpT(m:Mem)(t:T):Value->Mem->List (List Value)->Prop:=λv m' _=>∃t':T,v=t'.v/\t'.er=t.er/\Rep (nw m m') t'
theorem ZxE{m:Mem}{t:T}:∀(v:Value)(m':Mem) (css:List (List Value)),CpT m t v m' css->Shape.fits (.agg [.int .u8,.int .u64,.int .u64,.int .u64,.int .u64,.int .i64,.int .i64,.slice]) v=true:=λv _ _ ⟨t,e,_⟩=>by rw[e];rfl
theorem ZxF(t:T)(m:Mem)(hr:Rep m t)(hz:t.nodes.length<=10000):CX Tryz.prog 64 #[t.v] m [] (CpT m t):=by
 apply ZrQ
 intro b m1 aB _ b1
 have hl:t.light=true:=by unfold T.light;exact decide_eq_true hz
 have h:=Zd7 t m1 (hr.mono aB)
 rw[hl]at h
 refine Zah h λm2 aH=>Zfj rfl (Zaj (Zmq t m2 (hr.mono (mLt aB aH)) hz) ZfD (Zru λt' m3 aS hr' ht'=>?_))
 exact⟨m3,mLt aB (mLt aH aS),Mem.le_refl _,t',rfl,ht'.1,ZzI t' hr' (ht'.2.2.less (mLt aB aH))⟩
theorem Zqg(a:Option Addr)(c:Nat)(l:List E)(m:Mem)(h:rowRd m a (l.map E.cs).flatten)(hl:l.length<=1000000000000):CXT Tryz.prog 116 #[.slice a l.length c] m 5 (λv m' _=>∃a' c',v=.slice a' l.length c'/\rowRd m' a' (l.map E.cs).flatten/\l.length<=c'/\(l.length=0\/∃b,a'=some ⟨b,0,none⟩/\m.free b)):=by
 apply Zbr
 have aQ:(l.map E.cs).flatten.length=l.length*5:=Zbe E.len l
 refine Zab (λha=>?_) (λha=>⟨⟨rfl,Int.le_refl _,by decide,by decide⟩,λb hf _=>⟨.inl rfl,[],(l.map E.cs).flatten,rfl,aQ,.inl rfl,h,?_,by omega,by omega,λa' c' m' hm aD j2=>⟨rfl,?_⟩⟩⟩)
 ·obtain rfl:a=none:=by simpa using ha
  have h0:l=[]:=by
   rcases h with h|⟨_,_,h,_⟩
   ·rw[h]at aQ;exact List.eq_nil_of_length_eq_zero (by simp at aQ;omega)
   ·cases h
  subst h0
  exact⟨rfl,none,0,rfl,.inl rfl,Nat.le_refl _,.inl rfl⟩
 ·intro u hu
  simp only[List.mem_flatten,List.mem_map]at hu
  obtain⟨_,⟨e,_,rfl⟩,hu⟩:=hu
  exact E.one e u hu
 ·simp only[Nat.zero_add]at j2 ⊢
  refine⟨a',c',rfl,aD,j2.1,?_⟩
  rcases(j2.old (λ_ _ e=>by cases e;rfl)).2 with h1|⟨b',h1,h2|h2⟩
  ·subst h1
   left
   rcases aD with h3|⟨_,_,h3,_⟩
   ·have h4:(l.map E.cs).flatten.length=0:=congrArg List.length h3
    omega
   ·cases h3
  ·right;rw[<-h2];exact⟨b,rfl,hf⟩
  ·exact .inr ⟨b',h1,h2⟩
theorem ZuV{m:Mem}{b:Nat}{ts r:List E}{x t:E}(h:rowRd m (some ⟨b,0,none⟩) ((ts++x::r).map E.cs).flatten):rowRd (m.upd b (0+ts.length*5) t.cs) (some ⟨b,0,none⟩) ((ts++t::r).map E.cs).flatten:=by
 have hl:∀l:List E,(l.map E.cs).flatten.length=l.length*5:=Zbe E.len
 rcases h with h|⟨b',o',ha,h⟩
 ·have:=congrArg List.length h
  rw[hl,zA1,List.length_cons]at this
  simp at this
 cases ha
 have e:∀y:E,((ts++y::r).map E.cs).flatten=(ts.map E.cs).flatten++(y.cs++(r.map E.cs).flatten):=λy=>by simp
 refine .inr ⟨b,0,rfl,λj v hj=>?_⟩
 rw[e]at hj
 unfold Mem.upd;try dsimp only
 rw[Nat.zero_add,Nat.zero_add,E.len]
 rcases Nat.lt_or_ge j (ts.length*5)with aG|bK
 ·rw[if_neg (by omega)]
  rw[zA5 (by rw[hl];exact aG)]at hj
  have:=h j v (by rw[e,zA5 (by rw[hl];exact aG)];exact hj)
  rwa [Nat.zero_add]at this
 ·rw[zA4 (by rw[hl];exact bK),hl]at hj
  rcases Nat.lt_or_ge j (ts.length*5+5)with aG|eI
  ·rw[if_pos ⟨rfl,bK,aG⟩]
   rw[zA5 (by rw[E.len];omega)]at hj
   exact hj
  ·rw[if_neg (by omega)]
   rw[zA4 (by rw[E.len];omega),E.len]at hj
   have:=h j v (by
    rw[e,zA4 (by rw[hl];exact bK),hl,zA4 (by rw[E.len];omega),E.len];exact hj)
   rwa [Nat.zero_add]at this
def NewE(m:Mem)(t:E):Prop:=∀x∈t.nodes,x.subs=[]\/∃b,x.a=some ⟨b,0,none⟩/\m.free b
theorem NewE.less{m m':Mem}{t:E}(hn:NewE m' t)(h:m.le m'):NewE m t:=λx hx=>(hn x hx).imp id λ⟨b,e,hf⟩=>⟨b,e,Zdj h hf⟩
theorem ZjQ{y x:E}{l:List E}(hx:x∈l)(hy:y∈x.nodes):y∈Zap l:=by
 obtain⟨i,hi⟩:=List.getElem?_of_mem hx
 rw[ZcI hi];simp[hy]
theorem ZuW{m:Mem}{k:Int}{x:Nat}{s:ByteArray}{g:Int}{a:Option Addr}{c:Nat}{l:List E}(h:l=[]\/∃b,a=some ⟨b,0,none⟩/\m.free b)(hl:∀x∈l,NewE m x):NewE m (.node k x s g a c l):=by
 intro x hx
 simp only[E.nodes,List.mem_cons]at hx
 rcases hx with rfl|hx
 ·exact h
 ·have:∀l:List E,(∀x∈l,NewE m x)->∀x∈Zap l,x.subs=[]\/∃b,x.a=some ⟨b,0,none⟩/\m.free b:=by
   intro l
   induction l with
   | nil=>intro _ x hx;simp[Zap]at hx
   | cons y l ih=>
    intro h x hx
    simp only[Zap,List.mem_append]at hx
    rcases hx with hx|hx
    ·exact h y (by simp) x hx
    ·exact ih (λz hz=>h z (by simp[hz])) x hx
  exact this l hl x hx
mutual
theorem Zwn{m m':Mem}:∀(t:E),RepE m' t->NewE m t->RepE (nw m m') t
 | .node k x s g a c l,hr,hn=>by
  have h0:=hn _ (by rw[ZbL];exact List.mem_cons_self)
  simp only[RepE]at hr ⊢
  refine⟨hr.1,?_,hr.2.2⟩
  rcases hr.2.1 with h|⟨b,o,ha,fI⟩
  ·exact .inl h
  rcases h0 with h|⟨b',hb',hf⟩
  ·exact .inl h
  ·have e:a=some ⟨b',0,none⟩:=hb'
   rw[ha]at e
   simp only[Option.some.injEq,Addr.mk.injEq,and_true]at e
   obtain⟨rfl,rfl⟩:=e
   exact .inr ⟨b,0,ha,Zqh b hf 0 l fI λx hx y hy=>hn y (by
    rw[ZbL]
    exact List.mem_cons_of_mem _ (ZjQ hx hy))⟩
theorem Zqh{m m':Mem}(b:Nat)(hf:m.free b):∀(o:Nat)(l:List E),RepEAt m' b o l->(∀x∈l,NewE m x)->RepEAt (nw m m') b o l
 | _,[],_,_=>by simp only[RepEAt]
 | o,t::l,hr,hn=>by
  simp only[RepEAt]at hr ⊢
  exact⟨λj v hj=>by rw[Zyz hf];exact hr.1 j v hj,Zwn t hr.2.1 (hn t (by simp)),Zqh b hf (o+5) l hr.2.2 λx hx=>hn x (by simp[hx])⟩
end
theorem ZhM{m:Mem}{b:Nat}:∀(L:List E)(o:Nat),RepEAt m b o L->m.reads b o (L.map E.cs).flatten
 | [],o,_=>λj v hj=>by simp at hj
 | z::L,o,h=>λj v hj=>by
  simp only[RepEAt]at h
  rw[List.map_cons,List.flatten_cons]at hj
  rcases Nat.lt_or_ge j 5 with aG|bK
  ·rw[zA5 (by rw[E.len];exact aG)]at hj
   exact h.1 j v hj
  ·rw[zA4 (by rw[E.len];exact bK),E.len]at hj
   have:=ZhM L (o+5) h.2.2 (j - 5) v hj
   rwa [show o+5+(j - 5)=o+j by omega]at this
theorem ZxG(e:E)(m:Mem):CX Tryz.prog 96 #[e.v] m [] (Ret e.v):=by
 apply ZiP
 intro b m1 aB _ b2
 exact Zaa rfl (Zac aB rfl)
set_option maxHeartbeats 800000 in
theorem Zmr(t:E)(m:Mem)(hr:RepE m t)(hz:t.nodes.length<=10000):CX Tryz.prog 95 #[t.v,.func (.func 96) #[] #[]] m [] (ER λt'=>t'.er=t.er/\NewE m t'):=by
 have fO:t.subs.length<=10000:=by
  have:=ZeA t.subs
  rw[ZbL,List.length_cons]at hz;omega
 have bA:∀x∈t.subs,RepE m x:=λx hx=>Zl7 hr (by rw[ZbL];exact List.mem_cons_of_mem _ (ZjQ hx (by rw[ZbL];simp)))
 have qx:rowRd m t.a (t.subs.map E.cs).flatten:=by
  rcases(ZeX hr).2 with h|⟨b,o,ha,fI⟩
  ·rw[h];exact .inl rfl
  ·exact .inr ⟨b,o,ha,ZhM t.subs o fI⟩
 apply Zhz
 intro b b1
 refine⟨_,Zqg t.a t.c t.subs m qx (by omega),(λv _ _ ⟨a,c,e,_⟩=>by rw[e];rfl),?_⟩
 rintro a n c m1 aB ⟨a',c',hv,aD,jk,bG⟩
 simp only[Value.slice.injEq]at hv
 obtain⟨rfl,rfl,rfl⟩:=hv
 refine⟨λxs css tvs m' q=>∃(k:Nat)(L:List E)(mb:Mem),k<=t.subs.length/\xs=[.int .i64 k]/\q=t.subs.length - k/\L.length=k/\L.map E.er=(t.subs.take k).map E.er/\m.le mb/\mb.le m'/\(t.subs.length=0\/∃b,a=some ⟨b,0,none⟩/\mb.free b)/\(∀x∈L,RepE mb x/\NewE m x)/\(t.subs.length=0\/∃b,a=some ⟨b,0,none⟩/\m.free b)/\rowRd m' a ((L++t.subs.drop k).map E.cs).flatten,⟨_,0,[],m,by omega,rfl,rfl,rfl,rfl,Mem.le_refl _,aB,bG,by simp,bG,aD⟩,?_⟩
 rintro z m2 q _ ⟨k,L,mb,hk,cT,hq,kN,nJ,fJ,j3,fK,mg,cC,dZ⟩
 obtain rfl:z=k:=by simpa using cT
 refine Zab (λaG=>?_) (λbK=>?_)
 ·have aT:k < t.subs.length:=by have:=zA6 aG;omega
  obtain⟨x,hx⟩:=ZaL aT
  have dH:=bA x (zA2 hx)
  have mC:x.nodes.length<=10000:=by
   have:=congrArg List.length (ZcI hx)
   rw[ZbL,List.length_cons]at hz
   simp only[zA1]at this
   omega
  have jt:t.subs.drop k=x::t.subs.drop (k+1):=by
   rw[List.drop_eq_getElem_cons aT,(zA0 hx).2]
  rcases fK with fK|⟨bk,rfl,dT⟩
  ·omega
  obtain⟨b0,o0,tG,cQ⟩:=Zao E.len dZ (k:=k) (t:=x) (by rw[zA4 (by omega),kN,Nat.sub_self,jt];rfl) (by omega)
  cases tG
  have hw:IntKind.i64.wrap ((k:Int)+1)=((k+1:Nat):Int):=by rw[Zal (by omega) (by omega)];rfl
  simp only[hw,zA8]
  have gJ:CX Tryz.prog 95 #[x.v,.func (.func 96) #[] #[]] m2 [] (EF mb m2 λt'=>t'.er=x.er/\NewE mb t'):=(Zmr x mb (RepE.mono fJ x dH) mC).frame2 j3
  refine⟨bk,0,rfl,⟨by omega,by omega⟩,_,_,_,_,_,cQ,λb3=>Zaa rfl ⟨λ_ _ _=>EF mb m2 λt'=>t'.er=x.er/\NewE mb t',EF mb m2 λt'=>t'.er=x.er/\NewE mb t',rfl,gJ,Zs9,ZDd λt' m0 m3 aS h0 dI dQ hr' ht'=>⟨bk,0,rfl,⟨by omega,by omega⟩,λM ic iN=>Zaa rfl ⟨rfl,by omega,trivial,trivial,t.subs.length - (k+1),by omega,k+1,L++[t'],m0,by omega,rfl,rfl,by simp[kN],?_,mLt fJ h0,?_,.inr ⟨bk,rfl,?_⟩,?_,cC,?_⟩⟩⟩⟩
  ·rw[List.map_append,nJ,ZsA hx,List.map_append]
   simp[ht'.1]
  ·refine Mem.le_upd (mLt dI iN) ?_ _ _
   intro o'
   have hc:m2 bk (0+k*5+0)=some (.int .u8 x.k):=cQ 0 _ rfl
   rw[dQ _ _ _ hc o'];exact dT o'
  ·intro o'
   have hc:m2 bk (0+k*5+0)=some (.int .u8 x.k):=cQ 0 _ rfl
   rw[dQ _ _ _ hc o'];exact dT o'
  ·intro y hy
   rcases List.mem_append.1 hy with hy|hy
   ·exact⟨RepE.mono h0 y (mg y hy).1,(mg y hy).2⟩
   ·simp at hy;subst hy;exact⟨hr',ht'.2.less fJ⟩
  ·rw[jt]at dZ
   have h5:=ZuV (t:=t') (dZ.mono ic)
   rw[kN]at h5
   rw[List.append_assoc]
   exact h5
 ·have dS:k=t.subs.length:=by have:=of_decide_eq_false bK;omega
  subst dS
  rw[List.drop_length,List.append_nil]at dZ
  rw[List.take_length]at nJ
  have cH:=ZsC hr
  have hv:Value.agg #[.int .u8 t.k,.float .f64 t.x,.string t.s,.int .i64 t.g,.slice a t.subs.length c]=(E.node t.k t.x t.s t.g a c L).v:=by
   simp only[E.v,E.k,E.x,E.s,E.g,E.a,E.c,E.subs,kN]
  have gJ:=ZxG (.node t.k t.x t.s t.g a c L) m2
  rw[<-hv]at gJ
  refine⟨_,trivial,gJ,(λv _ _ h=>by rw[h];rfl),?_⟩
  intro n5 v5 s5 g5 a5 k5 c5 m3 aS gS
  simp only[Value.agg.injEq,Array.mk.injEq,List.cons.injEq,Value.int.injEq,Value.string.injEq,Value.slice.injEq,true_and,and_true]at gS
  obtain⟨rfl,rfl,rfl,rfl,rfl,rfl,rfl⟩:=gS
  refine Zaa rfl ⟨m3,mLt fJ (mLt j3 aS),Mem.le_refl _,.node t.k t.x t.s t.g a5 c5 L,hv,?_,?_,?_⟩
  ·exact Zta (dZ.mono aS) (λx hx=>RepE.mono (mLt j3 aS) x (mg x hx).1) (by omega) cH
  ·cases t
   simp only[E.er,E.k,E.x,E.s,E.g,E.subs,Zn7]at nJ ⊢
   rw[nJ]
  ·exact ZuW (cC.imp (λh=>List.eq_nil_of_length_eq_zero (by omega)) id) λx hx=>(mg x hx).2
termination_by SizeOf.sizeOf t
decreasing_by exact Zl4 (zA2 hx)
theorem ZCT(i:Nat):Int.tdiv (i:Int) 64=((i / 64:Nat):Int):=rfl
theorem ZB7(i:Nat):Int.tmod (i:Int) 64=((i % 64:Nat):Int):=rfl
theorem ZCU{n:Int}(h1:0<=n)(h2:n < 256):IntKind.u8.wrap n=n:=by
 unfold IntKind.wrap
 simp only[IntKind.bits,IntKind.signed,Bool.false_and,Bool.false_eq_true,if_false]
 have e:(2:Int) ^ 8=256:=by decide
 rw[e];omega
theorem ZxH(t:T)(m:Mem)(hr:Rep m t):CX Tryz.prog 87 #[t.v] m [] (Zpk (λu=>∃a c,u=ZbW 6 0 0 a c [t])):=by
 apply ZiX
 intro b m1 aB _ b1 b2 hf
 have bH:=Mem.le_add hf t.cs
 refine ZaH (mLt aB bH) ⟨ZbW 6 0 0 (some ⟨b2,0,none⟩) 1 [t],rfl,ZdD (Zn3 ?_ (hr.mono (mLt aB bH))) (by omega) (by omega) (by omega),_,_,rfl⟩
 intro j v hj
 rw[Nat.zero_add,Mem.add_same];exact hj
theorem ZzJ(t:T)(mn mx:Int)(h1 : -9223372036854775808<=mn/\mn<=9223372036854775807)(h2 : -9223372036854775808<=mx/\mx<=9223372036854775807)(m:Mem)(hr:Rep m t):CX Tryz.prog 88 #[t.v,.int .i64 mn,.int .i64 mx] m [] (Zpk (λu=>∃a c,u=ZbW 5 mn mx a c [t])):=by
 apply Zni
 intro b m1 aB _ b1 b2 hf
 have bH:=Mem.le_add hf t.cs
 refine ZaH (mLt aB bH) ⟨ZbW 5 mn mx (some ⟨b2,0,none⟩) 1 [t],rfl,ZdD (Zn3 ?_ (hr.mono (mLt aB bH))) (by omega) h1 h2,_,_,rfl⟩
 intro j v hj
 rw[Nat.zero_add,Mem.add_same];exact hj
def ZeF(s:ByteArray):List Nat:=s.data.toList.map λb=>b.toNat
theorem ZrV(s:ByteArray):(ZeF s).length=s.size:=by unfold ZeF;rw[List.length_map,Array.length_toList];rfl
theorem ZuX(s:ByteArray):∀c∈ZeF s,c < 256:=by
 intro c hc
 unfold ZeF at hc
 obtain⟨b,_,rfl⟩:=List.mem_map.1 hc
 exact b.toBitVec.isLt
theorem ZxI{s:ByteArray}{k c:Nat}(h:(ZeF s)[k]?=some c):ZgX s k=(c:Int):=by
 unfold ZeF at h
 rw[List.getElem?_map]at h
 obtain⟨b,hb,rfl⟩:=Option.map_eq_some_iff.1 h
 unfold ZgX
 rw[List.getD_eq_getElem?_getD,hb];rfl
theorem Zqi(s:ByteArray)(hs:(ZeF s).length<=100000)(m:Mem):CX Tryz.prog 84 #[.string s] m [] (Zpk (λt=>t=Zko (ZeF s))):=by
 apply ZiY
 intro b b1
 have aQ:=ZrV s
 refine⟨λxs css tvs m' q=>∃k:Nat,k<=s.size/\xs=[.int .i64 k]/\css=[ZvY ((ZeF s).take k)]/\q=s.size - k,⟨_,0,by omega,rfl,rfl,rfl⟩,?_⟩
 rintro n cs m1 q aB ⟨k,hk,hn,cA,hq⟩
 obtain rfl:n=k:=by simpa using hn
 obtain rfl:cs=ZvY ((ZeF s).take k):=by simpa using cA
 refine Zab (λaG=>?_) (λbK=>?_)
 ·have aT:k < s.size:=by have:=zA6 aG;omega
  obtain⟨c,hc⟩:=ZaL (l:=ZeF s) (k:=k) (by omega)
  have qy:=ZuX s c (zA2 hc)
  have hw:IntKind.i64.wrap ((k:Int)+1)=((k+1:Nat):Int):=by rw[Zal (by omega) (by omega)];rfl
  have tE:IntKind.u8.wrap (Int.tdiv (c:Int) 64)=((c / 64:Nat):Int):=by rw[ZCT];exact ZCU (by omega) (by omega)
  have hr:IntKind.u64.wrap (1*2 ^ min (Int.toNat (Int.tmod (c:Int) 64)) 64)=((2 ^ (c % 64):Nat):Int):=by
   rw[ZB7,zA8,Nat.min_eq_left (by omega),Int.one_mul]
   have:=ZBQ (2 ^ (c % 64)) (by
    have:2 ^ (c % 64) < 2 ^ 64:=Nat.pow_lt_pow_right (by omega) (by omega)
    exact this)
   rw[<-this];push_cast;rfl
  have h2:(2:Nat) ^ (c % 64) < 18446744073709551616:=by
   have:(2:Nat) ^ (c % 64) < 2 ^ 64:=Nat.pow_lt_pow_right (by omega) (by omega)
   exact this
  have hj:c / 64 < 4:=by omega
  simp only[hw,zA8,ZxI hc,tE,hr,Nat.zero_add,Nat.mul_one]
  refine⟨⟨by omega,by omega⟩,by omega,⟨by omega,by omega⟩,Zan (Zuf _ hj) ⟨⟨by omega,by omega⟩,by omega,by rw[ZB7];omega,Zaa rfl ⟨⟨by omega,by omega⟩,Zaa (by rw[Nat.ble_eq];show c / 64+1<=4;omega) ⟨by trivial,s.size - (k+1),by omega,k+1,by omega,rfl,?_,rfl⟩⟩⟩⟩
  simp only[RowKit.intOf]
  rw[ZwZ _ _ (ZvX _ _) h2,Zrv _ rfl hj,ZsA hc]
 ·have:k=s.size:=by have:=of_decide_eq_false bK;omega
  subst this
  rw[<-aQ,List.take_length]
  exact Zaa rfl (Zaa rfl (Zac aB ⟨Zko (ZeF s),rfl,Zpl _ m,rfl⟩))
theorem ZrW(n:Nat)(hn:n < 256)(m:Mem):CX Tryz.prog 85 #[.int .u8 n] m [] (λv _ _=>∃s,v=.string s/\ZeF s=ZdJ n):=by
 apply ZgE
 intro b hf
 have ht:Int.tmod (n:Int) 12=((n % 12:Nat):Int):=rfl
 simp only[ht,zA8,Nat.mul_one]
 refine⟨by omega,⟨by omega,by omega⟩,?_⟩
 have h:n % 12=0\/n % 12=1\/n % 12=2\/n % 12=3\/n % 12=4\/n % 12=5\/n % 12=6\/n % 12=7\/n % 12=8\/n % 12=9\/n % 12=10\/n % 12=11:=by omega
 unfold ZdJ
 rcases h with e|e|e|e|e|e|e|e|e|e|e|e <;>
 ·rw[e]
  refine Zan rfl ?_
  exact⟨_,Mem.le_add hf _,Mem.le_refl _,_,rfl,rfl⟩
theorem Ze3(k:Int)(t:T):Za6 k t=if t.k=k then t.subs else if k=3/\t.k=1 then[]else[t]:=rfl
theorem Zd8(l:List T):∀u∈Rx.ZcL l,u.oneCell'=true:=by
 intro u hu
 simp only[Rx.ZcL,List.mem_flatten,List.mem_map]at hu
 obtain⟨_,⟨t,_,rfl⟩,h⟩:=hu
 simp only[T.cs,List.mem_cons,List.not_mem_nil,or_false,T.sl]at h
 rcases h with rfl|rfl|rfl|rfl|rfl|rfl|rfl|rfl <;> rfl
theorem Zoj(k:Int)(t u:T)(hk:k=3\/k=4)(m:Mem)(hr:Rep m t)(hu:Rep m u)(ht:(Za6 k t).length<=10000)(xK:(Za6 k u).length<=10000):CX Tryz.prog 86 #[.int .u8 k,t.v,u.v] m [] (Zpk (λr=>∃a c,r=ZfG k a c (Za6 k t++Za6 k u))):=by
 apply ZiZ
 intro b m1 aB _ b1 m2 aH _ b2 b3 gZ
 have kJ:=mLt aB aH
 have iJ:m.le (m2.add b3 (t.cs++u.cs)):=mLt kJ (Mem.le_add gZ _)
 refine⟨λxs css tvs m' q=>∃(i:Nat)(l:List T)(a:Option Addr)(c:Nat),i<=2/\xs=[.slice a l.length c,.int .i64 i]/\tvs=[.slice a l.length c]/\l=(([t,u].take i).map (Za6 k)).flatten/\rowRd m' a (Rx.ZcL l)/\q=2 - i,⟨2,0,[],none,0,by omega,rfl,rfl,rfl,.inl rfl,rfl⟩,?_⟩
 rintro a n c z a1 n1 c1 m3 q aS ⟨i,l,a',c',hi,cT,cS,hl,aD,hq⟩
 simp only[List.cons.injEq,Value.slice.injEq,Value.int.injEq,true_and,and_true]at cT cS
 obtain⟨⟨rfl,rfl,rfl⟩,rfl⟩:=cT
 obtain⟨rfl,rfl,rfl⟩:=cS
 have j4:=mLt iJ aS
 have iD:l.length<=20000:=by
  rw[hl]
  have:i=0\/i=1\/i=2:=by omega
  rcases this with rfl|rfl|rfl <;> simp <;> omega
 refine Zab (λaG=>?_) (λbK=>?_)
 ·have h2:i=0\/i=1:=by have:=zA6 aG;omega
  rcases h2 with rfl|rfl
  ·
   refine⟨⟨by omega,by omega⟩,Zaa rfl λb4=>Zaa rfl (Zan (v:=.int .u8 t.k) rfl (Zaa rfl (Zab (λdS=>Zan (v:=t.sl) rfl (Zaa rfl ?_)) (λdS=>?_))))⟩
   ·have il:t.k=k:=by simpa[RowKit.intOf]using dS
    have hj:Za6 k t=t.subs:=by rw[Ze3,if_pos il]
    have aQ:=ht
    rw[hj]at aQ
    refine⟨.inl rfl,Rx.ZcL l,Rx.ZcL t.subs,Zar _,Zar _,aD,(Zex (hr.subs)).mono j4,Zd8 _,?_,?_,λa2 c2 m4 bM dF=>⟨by trivial,1,by omega,1,l++t.subs,a2,c2,by omega,?_,?_,?_,?_,?_⟩⟩
    ·simp only[T.sl,slN];omega
    ·simp only[T.sl,slN];omega
    ·rw[zA1];rfl
    ·rw[zA1];rfl
    ·rw[hl,<-hj];simp
    ·rw[ZaK];exact dF
    ·omega
   ·have il:¬t.k=k:=by simpa[RowKit.intOf]using dS
    refine⟨k == 3&&t.k == 1,Zab (λh=>Zan (v:=.int .u8 t.k) rfl (Zaa rfl ⟨by trivial,by trivial,?_⟩)) (λh=>⟨by trivial,by trivial,?_⟩),Zab (λh=>⟨by trivial,1,by omega,1,l,_,_,by omega,rfl,rfl,?_,aD,by omega⟩) (λh=>Zaa rfl λb6 iZ=>?_)⟩
    ·rw[h];rfl
    ·rw[h];rfl
    ·have:k=3/\t.k=1:=by simpa using h
     have hj:Za6 k t=[]:=by rw[Ze3,if_neg il,if_pos this]
     rw[hl];simp[hj]
    ·have:¬(k=3/\t.k=1):=by simpa using h
     have hj:Za6 k t=[t]:=by rw[Ze3,if_neg il,if_neg this]
     have ir:=Mem.le_add iZ t.cs
     refine⟨.inl rfl,Rx.ZcL l,t.cs,Zar _,rfl,aD.mono ir,.inr ⟨b6,0,rfl,λj v hj=>by rw[Nat.zero_add,Mem.add_same];exact hj⟩,by rw[<-Zby];exact Zd8 _,by omega,by omega,λa2 c2 m4 bM dF=>⟨by trivial,1,by omega,1,l++[t],a2,c2,by omega,?_,?_,?_,?_,?_⟩⟩
     ·rw[zA1];rfl
     ·rw[zA1];rfl
     ·rw[hl];simp[hj]
     ·rw[ZaK,Zby];exact dF
     ·omega
  ·
   refine⟨⟨by omega,by omega⟩,Zaa rfl λb4=>Zaa rfl (Zan (v:=.int .u8 u.k) rfl (Zaa rfl (Zab (λdS=>Zan (v:=u.sl) rfl (Zaa rfl ?_)) (λdS=>?_))))⟩
   ·have il:u.k=k:=by simpa[RowKit.intOf]using dS
    have hj:Za6 k u=u.subs:=by rw[Ze3,if_pos il]
    have aQ:=xK
    rw[hj]at aQ
    refine⟨.inl rfl,Rx.ZcL l,Rx.ZcL u.subs,Zar _,Zar _,aD,(Zex (hu.subs)).mono j4,Zd8 _,?_,?_,λa2 c2 m4 bM dF=>⟨by trivial,0,by omega,2,l++u.subs,a2,c2,by omega,?_,?_,?_,?_,?_⟩⟩
    ·simp only[T.sl,slN];omega
    ·simp only[T.sl,slN];omega
    ·rw[zA1];rfl
    ·rw[zA1];rfl
    ·rw[hl,<-hj];simp
    ·rw[ZaK];exact dF
    ·omega
   ·have il:¬u.k=k:=by simpa[RowKit.intOf]using dS
    refine⟨k == 3&&u.k == 1,Zab (λh=>Zan (v:=.int .u8 u.k) rfl (Zaa rfl ⟨by trivial,by trivial,?_⟩)) (λh=>⟨by trivial,by trivial,?_⟩),Zab (λh=>⟨by trivial,0,by omega,2,l,_,_,by omega,rfl,rfl,?_,aD,by omega⟩) (λh=>Zaa rfl λb6 iZ=>?_)⟩
    ·rw[h];rfl
    ·rw[h];rfl
    ·have:k=3/\u.k=1:=by simpa using h
     have hj:Za6 k u=[]:=by rw[Ze3,if_neg il,if_pos this]
     rw[hl];simp[hj]
    ·have:¬(k=3/\u.k=1):=by simpa using h
     have hj:Za6 k u=[u]:=by rw[Ze3,if_neg il,if_neg this]
     have ir:=Mem.le_add iZ u.cs
     refine⟨.inl rfl,Rx.ZcL l,u.cs,Zar _,rfl,aD.mono ir,.inr ⟨b6,0,rfl,λj v hj=>by rw[Nat.zero_add,Mem.add_same];exact hj⟩,by rw[<-Zby];exact Zd8 _,by omega,by omega,λa2 c2 m4 bM dF=>⟨by trivial,0,by omega,2,l++[u],a2,c2,by omega,?_,?_,?_,?_,?_⟩⟩
     ·rw[zA1];rfl
     ·rw[zA1];rfl
     ·rw[hl];simp[hj]
     ·rw[ZaK,Zby];exact dF
     ·omega
 ·have:i=2:=by have:=of_decide_eq_false bK;omega
  subst this
  have hl':Za6 k t++Za6 k u=l:=by rw[hl];simp
  rw[hl']
  have bA:∀x∈l,Rep m3 x:=by
   have key:∀t:T,Rep m t->∀x∈Za6 k t,Rep m3 x:=by
    intro t hr x hx
    rw[Ze3]at hx
    split at hx
    ·exact Zkn (hr.subs.mono j4) x hx
    ·split at hx
     ·simp at hx
     ·simp at hx;subst hx;exact hr.mono j4
   rw[<-hl']
   intro x hx
   rcases List.mem_append.1 hx with hx|hx
   ·exact key t hr x hx
   ·exact key u hu x hx
  refine Zab (λh0=>?_) (λh0=>Zab (λh1=>?_) (λh1=>?_))
  ·have:l=[]:=by simpa using h0
   subst this
   exact Zac j4 ⟨T1,rfl,Zzc _,none,0,rfl⟩
  ·have rL:l.length=1:=by
    have:((l.length:Int) == 1)=true:=h1
    have:=zA6 this;omega
   obtain⟨x,rfl⟩:∃x,l=[x]:=by
    match l,rL with
    | [x],_=>exact⟨x,rfl⟩
   rcases aD with aD|⟨b6,o,ha,cQ⟩
   ·simp[Rx.ZcL,T.cs]at aD
   ·rw[Zby]at cQ
    exact⟨b6,o,ha,⟨by omega,by simp⟩,_,_,_,_,_,_,_,_,cQ,Zaa rfl (ZaH j4 ⟨x,rfl,bA x (by simp),none,0,rfl⟩)⟩
  ·have xM:¬l.length=0:=λe=>by rw[e]at h0;simp at h0
   have jH:¬l.length=1:=λe=>by rw[e]at h1;simp at h1
   obtain⟨x,y,r,rfl⟩:∃x y r,l=x::y::r:=by
    match l,xM,jH with
    | [],h,_=>simp at h
    | [x],_,h=>simp at h
    | x::y::r,_,_=>exact⟨x,y,r,rfl⟩
   refine ZaH j4 ⟨ZbW k 0 0 _ _ (x::y::r),rfl,ZdD (ZvW aD bA (by omega)) (by omega) (by omega) (by omega),_,_,rfl⟩
structure Sm (m:Mem)(a:Option Addr)(l:List (Nat×Nat×Nat)):Prop where
 len:l.length<=9223372036854775807
 byte:∀s∈l,s.1 < 256/\s.2.1 < 256/\s.2.2 < 256
 at':∀i s,l[i]?=some s->∃b o,a=some ⟨b,o,none⟩/\m.reads b (o+i*3) [.int .u8 s.1,.int .u8 s.2.1,.int .u8 s.2.2]
theorem Sm.mono{m m':Mem}{a l}(h:Sm m a l)(hm:m.le m'):Sm m' a l:=
 ⟨h.len,h.byte,λi s hi=>by obtain⟨b,o,h1,h2⟩:=h.at' i s hi;exact⟨b,o,h1,h2.mono hm⟩⟩
theorem Zqj(n:Nat):(([[97],[98],[97,98],[97],[98],[99],[97,98,99],[98,99],[10],[0,255],[97],[98]][n % 12]?).getD []:List Nat).length<=100000:=by
 have h:n % 12=0\/n % 12=1\/n % 12=2\/n % 12=3\/n % 12=4\/n % 12=5\/n % 12=6\/n % 12=7\/n % 12=8\/n % 12=9\/n % 12=10\/n % 12=11:=by omega
 rcases h with e|e|e|e|e|e|e|e|e|e|e|e <;> rw[e] <;> decide
theorem ZzK:∀L < 3,∀Mo < 4,((Mo < L\/Mo=0\/(L=1/\Mo=1))->Zkm (L:Nat) (-1)=true/\ZwY (L:Nat) (-1)<=((max 1 L:Nat):Int))/\(¬(Mo < L\/Mo=0\/(L=1/\Mo=1))->Zkm (L:Nat) (Mo:Nat)=true/\ZwY (L:Nat) (Mo:Nat)<=((max 1 (max L Mo):Nat):Int)):=by
 intro L hL Mo hM
 have h1:L=0\/L=1\/L=2:=by omega
 have h2:Mo=0\/Mo=1\/Mo=2\/Mo=3:=by omega
 rcases h1 with rfl|rfl|rfl <;> rcases h2 with rfl|rfl|rfl|rfl <;> exact⟨λ_=>by first|exact⟨by decide,by decide⟩|omega,λ_=>by first|exact⟨by decide,by decide⟩|omega⟩
theorem ZuY(l:List (Nat×Nat×Nat))(a:Option Addr)(c:Nat)(m:Mem)(hl:Sm m a l)(hc:l.length<=c):CX Tryz.prog 58 #[.slice a l.length c] m [] (Zpk (λt=>t.check=0/\t.nodes.length<=26)):=by
 apply ZkS
 have aQ:=hl.len
 intro b
 have hN:(if(25:Int) < (l.length:Int)then(25:Int)else(l.length:Int))=((min 25 l.length:Nat):Int):=by split <;> omega
 simp only[hN,zA8,Nat.sub_zero]
 generalize rM:min 25 l.length=N
 refine⟨⟨by omega,by omega⟩,λxs css tvs m' q=>∃(i:Nat)(ts:List T)(a:Option Addr)(c:Nat)(u g:Nat)(mb:Mem),i<=N/\xs=[.slice a ts.length c,.int .i64 u,.int .i64 g,.int .i64 i]/\tvs=[.slice a ts.length c]/\ts.length<=c/\m.le mb/\mb.le m'/\Apart mb a/\rowRd m' a (Rx.ZcL ts)/\(∀t∈ts,Rep mb t)/\J i ts u g/\q=N - i,⟨N,0,[],none,0,1,0,m,by omega,rfl,rfl,by simp,Mem.le_refl _,Mem.le_refl _,.inl rfl,.inl rfl,by simp,J.zero,by omega⟩,?_⟩
 rintro a1 n1 c1 z1 z2 z3 a2 n2 c2 m1 q _ ⟨i,ts,a',c',u,g,mb,hi,cT,cS,cJ,fJ,dB,eA,aD,bA,hJ,hq⟩
 simp only[List.cons.injEq,Value.slice.injEq,Value.int.injEq,true_and,and_true]at cT cS
 obtain⟨⟨rfl,rfl,rfl⟩,rfl,rfl,rfl⟩:=cT
 obtain⟨rfl,rfl,rfl⟩:=cS
 have jG:ts.length<=25:=by have:=hJ.sz;have:=Zpr ts;omega
 refine Zab (λaG=>?_) (λbK=>?_)
 ·have rN:i < N:=by have:=zA6 aG;omega
  have hi':i < l.length:=by omega
  obtain⟨s,hs⟩:=ZaL hi'
  obtain⟨bs,os,ha,cQ⟩:=(hl.mono (mLt fJ dB)).at' i s hs
  obtain⟨s1,s2,s3⟩:=s
  obtain⟨qr,lp,nt⟩:=hl.byte _ (zA2 hs)
  have hw:IntKind.i64.wrap ((i:Int)+1)=((i+1:Nat):Int):=by rw[Zal (by omega) (by omega)];rfl
  have oP:Int.tmod (RowKit.intOf (Value.int .u8 (s1:Nat))) 12=((s1 % 12:Nat):Int):=rfl
  simp only[hw,zA8]
  refine⟨bs,os,ha,⟨by omega,by omega⟩,_,_,_,cQ,λb2=>Zaa rfl (Zaa rfl ⟨by omega,?_⟩)⟩
  simp only[oP]
  refine Zab (λh1=>?_) (λh1=>Zab (λh2=>?_) (λh2=>?_))
  ·refine Zaj (ZrW s2 lp m1) (λv _ _ ⟨s,e,_⟩=>by rw[e];rfl) ?_
   rintro str m2 aH ⟨s',hv,hb⟩
   cases hv
   refine Zaj (Zqi str (by rw[hb];unfold ZdJ;exact Zqj _) m2) ZfD (Zru λt m3 aS hr ht b3 gZ=>?_)
   rw[hb]at ht
   have iJ:=mLt aH (mLt aS (Mem.le_add gZ t.cs))
   obtain⟨k1,k2,k3,k4⟩:=ZsH s2
   refine⟨.inl trivial,Rx.ZcL ts,t.cs,Zar _,rfl,aD.mono (iJ),.inr ⟨b3,0,rfl,λj v hj=>by rw[Nat.zero_add,Mem.add_same];exact hj⟩,by rw[<-Zby];exact Zd8 _,by omega,by omega,λa4 c4 m4 bM dF bD=>⟨by trivial,N - (i+1),by omega,i+1,ts++[t],a4,c4,u,g,mb,by omega,?_,?_,by have:=bD.1;rw[zA1];exact this,fJ,mLt dB (mLt (iJ) bM),eA.tok (mLt dB (iJ)) bD,?_,?_,?_,by omega⟩⟩
   ·rw[zA1];rfl
   ·rw[zA1];rfl
   ·rw[ZaK,Zby];exact dF
   ·intro x hx
    rcases List.mem_append.1 hx with hx|hx
    ·exact bA x hx
    ·simp at hx;subst hx;exact(by rw[ht];exact Zpl _ _)
   ·rw[ht];exact hJ.push k1 k2 k3 k4
  ·intro b3 gZ
   have iJ:=Mem.le_add gZ T1.cs
   refine⟨.inl trivial,Rx.ZcL ts,T1.cs,Zar _,rfl,aD.mono (iJ),.inr ⟨b3,0,rfl,λj v hj=>by rw[Nat.zero_add,Mem.add_same];exact hj⟩,by rw[<-Zby];exact Zd8 _,by omega,by omega,λa4 c4 m4 bM dF bD=>⟨by trivial,N - (i+1),by omega,i+1,ts++[T1],a4,c4,u,g,mb,by omega,?_,?_,by have:=bD.1;rw[zA1];exact this,fJ,mLt dB (mLt (iJ) bM),eA.tok (mLt dB (iJ)) bD,?_,?_,?_,by omega⟩⟩
   ·rw[zA1];rfl
   ·rw[zA1];rfl
   ·rw[ZaK,Zby];exact dF
   ·intro x hx
    rcases List.mem_append.1 hx with hx|hx
    ·exact bA x hx
    ·simp at hx;subst hx;exact Zzc _
   ·exact hJ.push Zzf.1 Zzf.2.1 Zzf.2.2.1 Zzf.2.2.2
  ·refine⟨decide (s1 % 12 < 7)&&decide (1 < ts.length),Zab (λh3=>⟨by trivial,by trivial,?_⟩) (λh3=>⟨by trivial,by trivial,?_⟩),Zab (λh3=>?_) (λh3=>?_)⟩
   ·refine Zaf ?_
    rw[Bool.eq_iff_iff];simp;have:=zA6 h3;omega
   ·refine Zaf ?_
    rw[eq_comm,Bool.and_eq_false_iff];left;have:=of_decide_eq_false h3;exact decide_eq_false (by omega)
   ·skip
    obtain⟨r,x,y,rfl⟩:=ZB5 (ts:=ts) (by simp at h3;omega)
    have gR:(r++[x,y]).length=r.length+2:=by simp
    have iB:IntKind.i64.wrap (((r++[x,y]).length:Int) - 2)=(r.length:Int):=by rw[gR,Zal (by omega) (by omega)];omega
    have iQ:IntKind.i64.wrap (((r++[x,y]).length:Int) - 1)=((r.length+1:Nat):Int):=by rw[gR,Zal (by omega) (by omega)];omega
    simp only[iB,iQ,zA8,Nat.sub_zero]
    obtain⟨bb,jY,iY,o',u',hu'⟩:=eA.base aD (by simp)
    obtain⟨bx,ox,jZ,jh⟩:=ZdZ aD (i:=r.length) (t:=x) (by simp)
    obtain⟨by',oy,qu,qv⟩:=ZdZ aD (i:=r.length+1) (t:=y) (by simp)
    have tH:(Za6 3 x).length<=10000:=by
     have:=hJ.sz
     rw[ZaE,show szL [x,y]=szL ([x]++[y]) from rfl,ZaE,Zbq,Zbq]at this
     have:=Zez (k:=3) (t:=x)
     omega
    have tI:(Za6 3 y).length<=10000:=by
     have:=hJ.sz
     rw[ZaE,show szL [x,y]=szL ([x]++[y]) from rfl,ZaE,Zbq,Zbq]at this
     have:=Zez (k:=3) (t:=y)
     omega
    refine⟨λ_ _ _=>ZqV mb m1 (λr=>∃a c,r=ZfG 3 a c (Za6 3 x++Za6 3 y)),⟨by omega,by omega⟩,⟨by omega,by omega⟩,bx,ox,jZ,⟨by omega,by omega⟩,_,_,_,_,_,_,_,_,jh,by',oy,qu,⟨by omega,by omega⟩,_,_,_,_,_,_,_,_,qv,ZqV mb m1 (λr=>∃a c,r=ZfG 3 a c (Za6 3 x++Za6 3 y)),rfl,(Zoj 3 x y (by omega) mb (bA x (by simp)) (bA y (by simp)) tH tI).frame2 dB,ZdG,ZjO λt m0 m3 aS h0 ji cC gH ht b6 iZ=>?_⟩
    obtain⟨at',ct,ht⟩:=ht
    have ir:=Mem.le_add iZ t.cs
    have fA:Apart m0 _:=.inr ⟨bb,jY,λo=>by rw[cC bb o' u' hu' o];exact iY o⟩
    refine⟨.inr (.inr (by omega)),Rx.ZcL r,t.cs,Zar _,rfl,((Zs4 aD).mono aS).mono ir,.inr ⟨b6,0,rfl,λj v hj=>by rw[Nat.zero_add,Mem.add_same];exact hj⟩,by rw[<-Zby];exact Zd8 _,by omega,by omega,λa4 c4 m4 bM dF bD M jM ic iN j0=>⟨by trivial,N - (i+1),by omega,i+1,r++[t],a4,c4,u,g,m0,by omega,?_,?_,by have:=bD.1;rw[zA1];exact this,mLt fJ h0,mLt ji ic,fA.tok (mLt ji ir) bD,?_,?_,?_,by omega⟩⟩
    ·rw[zA1];rfl
    ·rw[zA1];rfl
    ·rw[ZaK,Zby];exact dF.mono j0
    ·intro z hz
     rcases List.mem_append.1 hz with hz|hz
     ·exact(bA z (by simp[hz])).mono h0
     ·simp at hz;subst hz;exact gH
    ·rw[ht];exact hJ.join (by omega) (by omega) _ _
   ·refine⟨decide (s1 % 12 < 9)&&decide (1 < ts.length),Zab (λh4=>⟨by trivial,by trivial,?_⟩) (λh4=>⟨by trivial,by trivial,?_⟩),Zab (λh4=>?_) (λh4=>?_)⟩
    ·refine Zaf ?_
     rw[Bool.eq_iff_iff];simp;have:=zA6 h4;omega
    ·refine Zaf ?_
     rw[eq_comm,Bool.and_eq_false_iff];left;have:=of_decide_eq_false h4;exact decide_eq_false (by omega)
    ·skip
     obtain⟨r,x,y,rfl⟩:=ZB5 (ts:=ts) (by simp at h4;omega)
     have gR:(r++[x,y]).length=r.length+2:=by simp
     have iB:IntKind.i64.wrap (((r++[x,y]).length:Int) - 2)=(r.length:Int):=by rw[gR,Zal (by omega) (by omega)];omega
     have iQ:IntKind.i64.wrap (((r++[x,y]).length:Int) - 1)=((r.length+1:Nat):Int):=by rw[gR,Zal (by omega) (by omega)];omega
     simp only[iB,iQ,zA8,Nat.sub_zero]
     obtain⟨bb,jY,iY,o',u',hu'⟩:=eA.base aD (by simp)
     obtain⟨bx,ox,jZ,jh⟩:=ZdZ aD (i:=r.length) (t:=x) (by simp)
     obtain⟨by',oy,qu,qv⟩:=ZdZ aD (i:=r.length+1) (t:=y) (by simp)
     have tH:(Za6 4 x).length<=10000:=by
      have:=hJ.sz
      rw[ZaE,show szL [x,y]=szL ([x]++[y]) from rfl,ZaE,Zbq,Zbq]at this
      have:=Zez (k:=4) (t:=x)
      omega
     have tI:(Za6 4 y).length<=10000:=by
      have:=hJ.sz
      rw[ZaE,show szL [x,y]=szL ([x]++[y]) from rfl,ZaE,Zbq,Zbq]at this
      have:=Zez (k:=4) (t:=y)
      omega
     refine⟨λ_ _ _=>ZqV mb m1 (λr=>∃a c,r=ZfG 4 a c (Za6 4 x++Za6 4 y)),⟨by omega,by omega⟩,⟨by omega,by omega⟩,bx,ox,jZ,⟨by omega,by omega⟩,_,_,_,_,_,_,_,_,jh,by',oy,qu,⟨by omega,by omega⟩,_,_,_,_,_,_,_,_,qv,ZqV mb m1 (λr=>∃a c,r=ZfG 4 a c (Za6 4 x++Za6 4 y)),rfl,(Zoj 4 x y (by omega) mb (bA x (by simp)) (bA y (by simp)) tH tI).frame2 dB,ZdG,ZjO λt m0 m3 aS h0 ji cC gH ht b6 iZ=>?_⟩
     obtain⟨at',ct,ht⟩:=ht
     have ir:=Mem.le_add iZ t.cs
     have fA:Apart m0 _:=.inr ⟨bb,jY,λo=>by rw[cC bb o' u' hu' o];exact iY o⟩
     refine⟨.inr (.inr (by omega)),Rx.ZcL r,t.cs,Zar _,rfl,((Zs4 aD).mono aS).mono ir,.inr ⟨b6,0,rfl,λj v hj=>by rw[Nat.zero_add,Mem.add_same];exact hj⟩,by rw[<-Zby];exact Zd8 _,by omega,by omega,λa4 c4 m4 bM dF bD M jM ic iN j0=>⟨by trivial,N - (i+1),by omega,i+1,r++[t],a4,c4,u,g,m0,by omega,?_,?_,by have:=bD.1;rw[zA1];exact this,mLt fJ h0,mLt ji ic,fA.tok (mLt ji ir) bD,?_,?_,?_,by omega⟩⟩
     ·rw[zA1];rfl
     ·rw[zA1];rfl
     ·rw[ZaK,Zby];exact dF.mono j0
     ·intro z hz
      rcases List.mem_append.1 hz with hz|hz
      ·exact(bA z (by simp[hz])).mono h0
      ·simp at hz;subst hz;exact gH
     ·rw[ht];exact hJ.join (by omega) (by omega) _ _
    ·refine⟨decide (s1 % 12=9)&&(decide (0 < ts.length)&&decide (g < 9)),Zab (λh5=>Zab (λh6=>⟨by trivial,by trivial,?_⟩) (λh6=>⟨by trivial,by trivial,?_⟩)) (λh5=>⟨by trivial,by trivial,?_⟩),Zab (λh5=>?_) (λh5=>?_)⟩
     ·refine Zaf ?_
      have e1:=zA6 h6
      have e2:s1 % 12=9:=by have:=h5;simp at this;omega
      rw[decide_eq_true e2,decide_eq_true (show 0 < ts.length by omega),Bool.true_and,Bool.true_and,Bool.eq_iff_iff];simp;omega
     ·refine Zaf ?_
      have e1:=of_decide_eq_false h6
      rw[decide_eq_false (show ¬0 < ts.length by omega)];simp
     ·refine Zaf ?_
      have e2:¬s1 % 12=9:=by have:=h5;simp at this;omega
      rw[decide_eq_false e2];rfl
     ·
      have xN:g < 9:=by simp at h5;omega
      skip
      obtain⟨r,x,rfl⟩:=ZB6 (ts:=ts) (by simp at h5;omega)
      have gR:(r++[x]).length=r.length+1:=by simp
      have iQ:IntKind.i64.wrap (((r++[x]).length:Int) - 1)=(r.length:Int):=by rw[gR,Zal (by omega) (by omega)];omega
      obtain⟨bb,jY,iY,o',u',hu'⟩:=eA.base aD (by simp)
      subst jY
      obtain⟨bx,ox,jZ,jh⟩:=ZdZ aD (i:=r.length) (t:=x) (by simp)
      cases jZ
      have tJ:IntKind.i64.wrap ((g:Int)+1)=((g+1:Nat):Int):=by rw[Zal (by omega) (by omega)];rfl
      simp only[iQ,tJ,zA8]
      refine⟨_,_,rfl,⟨by omega,by omega⟩,_,_,_,_,_,_,_,_,jh,Zaj ((ZxH x mb (bA x (by simp))).frame2 dB) (ZdG (mb:=mb) (M0:=m1)) (ZjO λt m0 m3 aS h0 ji cC gH ht=>?_)⟩
      obtain⟨at',ct,ht⟩:=ht
      have fA:m0.free bb:=λo=>by rw[cC bb o' u' hu' o];exact iY o
      refine⟨bb,0,rfl,⟨by omega,by omega⟩,rfl,by omega,by trivial,N - (i+1),by omega,i+1,r++[t],_,_,u,g+1,m0,by omega,?_,?_,by rw[zA1];rw[gR]at cJ;exact cJ,mLt fJ h0,Mem.le_upd ji fA _ _,.inr ⟨bb,rfl,fA⟩,Zs5 (aD.mono aS),?_,?_,by omega⟩
      ·rw[gR,zA1];rfl
      ·rw[gR,zA1];rfl
      ·intro z hz
       rcases List.mem_append.1 hz with hz|hz
       ·exact(bA z (by simp[hz])).mono h0
       ·simp at hz;subst hz;exact gH
      ·rw[ht];exact hJ.group xN _ _
     ·by_cases h0:0 < ts.length
      ·skip
       obtain⟨r,x,rfl⟩:=ZB6 (ts:=ts) (by exact h0)
       have gR:(r++[x]).length=r.length+1:=by simp
       have iQ:IntKind.i64.wrap (((r++[x]).length:Int) - 1)=(r.length:Int):=by rw[gR,Zal (by omega) (by omega)];omega
       obtain⟨bb,jY,iY,o',u',hu'⟩:=eA.base aD (by simp)
       subst jY
       obtain⟨bx,ox,jZ,jh⟩:=ZdZ aD (i:=r.length) (t:=x) (by simp)
       cases jZ
       have xO:IntKind.i64.wrap (Int.tmod (RowKit.intOf (Value.int .u8 (s2:Nat))) 3)=((s2 % 3:Nat):Int):=by
        rw[show Int.tmod (RowKit.intOf (Value.int .u8 (s2:Nat))) 3=((s2 % 3:Nat):Int) from rfl,Zal (by omega) (by omega)]
       have xP:IntKind.i64.wrap (Int.tmod (RowKit.intOf (Value.int .u8 (s3:Nat))) 4)=((s3 % 4:Nat):Int):=by
        rw[show Int.tmod (RowKit.intOf (Value.int .u8 (s3:Nat))) 4=((s3 % 4:Nat):Int) from rfl,Zal (by omega) (by omega)]
       simp only[iQ,xO,xP,zA8]
       have rO:s2 % 3 < 3:=by omega
       have j0:s3 % 4 < 4:=by omega
       generalize s2 % 3=L at *
       generalize s3 % 4=Mo at *
       refine⟨decide (9 < s1 % 12)&&!(x.k == 1),Zab (λh6=>Zab (λh7=>⟨_,_,rfl,⟨by omega,by omega⟩,.int .u8 x.k,jh 0 _ rfl,Zaa rfl ⟨by trivial,by trivial,?_⟩⟩) (λh7=>absurd h7 (by simp))) (λh6=>⟨by trivial,by trivial,?_⟩),Zab (λh6=>Zaa rfl ⟨by omega,Zaa rfl ⟨by omega,?_⟩⟩) (λh6=>⟨by trivial,N - (i+1),by omega,i+1,r++[x],_,_,u,g,mb,by omega,rfl,rfl,cJ,fJ,dB,eA,aD,bA,hJ.skip,by omega⟩)⟩
       ·refine Zaf ?_
        have:=zA6 h6
        rw[decide_eq_true (show 9 < s1 % 12 by omega),Bool.true_and];rfl
       ·refine Zaf ?_
        have:=of_decide_eq_false h6
        rw[decide_eq_false (show ¬9 < s1 % 12 by omega)];rfl
       ·have jf:x.k≠1:=by
         rw[zA7]at h6
         simpa using h6.2
        obtain⟨tab1,tab2⟩:=ZzK L rO Mo j0
        refine⟨decide (Mo < L\/Mo=0\/(L=1/\Mo=1)),Zab (λg1=>⟨by trivial,by trivial,Zaf ?_⟩) (λg1=>Zab (λg2=>⟨by trivial,by trivial,Zaf ?_⟩) (λg2=>Zab (λg3=>⟨by trivial,by trivial,Zaf ?_⟩) (λg3=>⟨by trivial,by trivial,Zaf ?_⟩))),Zab (λg4=>?_) (λg4=>?_)⟩
        ·have:=zA6 g1
         exact(decide_eq_true (by omega)).symm
        ·have:Mo=0:=by simp at g2;omega
         exact(decide_eq_true (by omega)).symm
        ·have e1:=of_decide_eq_false g1
         have e2:¬Mo=0:=by simp at g2;omega
         have e3:L=1:=by simp at g3;omega
         rw[Bool.eq_iff_iff];simp;omega
        ·have e1:=of_decide_eq_false g1
         have e2:¬Mo=0:=by simp at g2;omega
         have e3:¬L=1:=by simp at g3;omega
         exact(decide_eq_false (by omega)).symm
        ·
         have hA:(if(1:Int) > (if(-1:Int) > (L:Int)then(-1:Int)else(L:Int))then(1:Int)else(if(-1:Int) > (L:Int)then(-1:Int)else(L:Int)))=((max 1 L:Nat):Int):=by
          split <;> split <;> omega
         obtain⟨tb,tp⟩:=tab1 (zA6 g4)
         have mG:u*max 1 L<=48:=by have:=Nat.mul_le_mul hJ.u16 (show max 1 L<=3 by omega);omega
         have tK:IntKind.i64.wrap ((u:Int)*((max 1 L:Nat):Int))=((u*max 1 L:Nat):Int):=by rw[<-Int.natCast_mul];exact Zal (by omega) (by omega)
         simp only[hA,tK]
         refine Zab (λg5=>?_) (λg5=>⟨by trivial,N - (i+1),by omega,i+1,r++[x],_,_,u,g,mb,by omega,rfl,rfl,cJ,fJ,dB,eA,aD,bA,hJ.skip,by omega⟩)
         have oQ:u*max 1 L<=16:=by have:=zA6 g5;omega
         refine⟨_,_,rfl,⟨by omega,by omega⟩,_,_,_,_,_,_,_,_,jh,Zaj ((ZzJ x (L:Nat) (-1:Int) ⟨by omega,by omega⟩ ⟨by omega,by omega⟩ mb (bA x (by simp))).frame2 dB) (ZdG (mb:=mb) (M0:=m1)) (ZjO λt m0 m3 aS h0 ji cC gH ht=>?_)⟩
         obtain⟨at',ct,ht⟩:=ht
         have fA:m0.free bb:=λo=>by rw[cC bb o' u' hu' o];exact iY o
         refine⟨bb,0,rfl,⟨by omega,by omega⟩,rfl,by omega,by trivial,N - (i+1),by omega,i+1,r++[t],_,_,u*max 1 L,g,m0,by omega,?_,?_,by rw[zA1];rw[gR]at cJ;exact cJ,mLt fJ h0,Mem.le_upd ji fA _ _,.inr ⟨bb,rfl,fA⟩,Zs5 (aD.mono aS),?_,?_,by omega⟩
         ·rw[gR,zA1];rfl
         ·rw[gR,zA1];rfl
         ·intro z hz
          rcases List.mem_append.1 hz with hz|hz
          ·exact(bA z (by simp[hz])).mono h0
          ·simp at hz;subst hz;exact gH
         ·rw[ht];exact hJ.rep jf tb tp (by omega) oQ _ _
        ·
         have hA:(if(1:Int) > (if((Mo:Int)) > (L:Int)then((Mo:Int))else(L:Int))then(1:Int)else(if((Mo:Int)) > (L:Int)then((Mo:Int))else(L:Int)))=((max 1 (max L Mo):Nat):Int):=by
          split <;> split <;> omega
         obtain⟨tb,tp⟩:=tab2 (of_decide_eq_false g4)
         have mG:u*max 1 (max L Mo)<=48:=by have:=Nat.mul_le_mul hJ.u16 (show max 1 (max L Mo)<=3 by omega);omega
         have tK:IntKind.i64.wrap ((u:Int)*((max 1 (max L Mo):Nat):Int))=((u*max 1 (max L Mo):Nat):Int):=by rw[<-Int.natCast_mul];exact Zal (by omega) (by omega)
         simp only[hA,tK]
         refine Zab (λg5=>?_) (λg5=>⟨by trivial,N - (i+1),by omega,i+1,r++[x],_,_,u,g,mb,by omega,rfl,rfl,cJ,fJ,dB,eA,aD,bA,hJ.skip,by omega⟩)
         have oQ:u*max 1 (max L Mo)<=16:=by have:=zA6 g5;omega
         refine⟨_,_,rfl,⟨by omega,by omega⟩,_,_,_,_,_,_,_,_,jh,Zaj ((ZzJ x (L:Nat) ((Mo:Int)) ⟨by omega,by omega⟩ ⟨by omega,by omega⟩ mb (bA x (by simp))).frame2 dB) (ZdG (mb:=mb) (M0:=m1)) (ZjO λt m0 m3 aS h0 ji cC gH ht=>?_)⟩
         obtain⟨at',ct,ht⟩:=ht
         have fA:m0.free bb:=λo=>by rw[cC bb o' u' hu' o];exact iY o
         refine⟨bb,0,rfl,⟨by omega,by omega⟩,rfl,by omega,by trivial,N - (i+1),by omega,i+1,r++[t],_,_,u*max 1 (max L Mo),g,m0,by omega,?_,?_,by rw[zA1];rw[gR]at cJ;exact cJ,mLt fJ h0,Mem.le_upd ji fA _ _,.inr ⟨bb,rfl,fA⟩,Zs5 (aD.mono aS),?_,?_,by omega⟩
         ·rw[gR,zA1];rfl
         ·rw[gR,zA1];rfl
         ·intro z hz
          rcases List.mem_append.1 hz with hz|hz
          ·exact(bA z (by simp[hz])).mono h0
          ·simp at hz;subst hz;exact gH
         ·rw[ht];exact hJ.rep jf tb tp (by omega) oQ _ _
      ·refine⟨false,Zab (λh6=>Zab (λh7=>absurd (zA6 h7) (by omega)) (λh7=>⟨by trivial,by trivial,rfl⟩)) (λh6=>⟨by trivial,by trivial,rfl⟩),Zfj rfl ⟨by trivial,N - (i+1),by omega,i+1,ts,_,_,u,g,mb,by omega,rfl,rfl,cJ,fJ,dB,eA,aD,bA,hJ.skip,by omega⟩⟩
 ·have rN:i=N:=by have:=of_decide_eq_false bK;omega
  have aB:=mLt fJ dB
  refine Zab (λh0=>?_) (λh0=>?_)
  ·have tL:(ZeF ⟨#[97]⟩)=ZdJ 0:=by rfl
   refine Zaj (Zqi ⟨#[97]⟩ (by decide) m1) ZfD (Zru λt m2 aH hr ht=>ZaH (mLt aB aH) ⟨t,rfl,hr,?_⟩)
   rw[tL]at ht
   obtain⟨k1,k2,k3,k4⟩:=ZsH 0
   rw[<-ht]at k1 k2 k3 k4
   exact(F26.leaf ⟨k1,by simp,by simp[szL,Zaz,k2],by simp[ZeW];omega,by simp[grL,Zaz,k4]⟩ k2).done
  ·obtain⟨t0,rest,rfl⟩:∃t r,ts=t::r:=by cases ts with
    | nil=>simp at h0
    | cons t r=>exact⟨t,r,rfl⟩
   have hF:=F26.start hJ (by omega)
   obtain⟨bb,jY,iY,o',u',hu'⟩:=eA.base aD (by simp)
   subst jY
   obtain⟨bx,ox,jZ,jh⟩:=ZdZ aD (i:=0) (t:=t0) rfl
   cases jZ
   rw[List.length_cons]at jG cJ
   refine⟨_,_,rfl,⟨by omega,by simp⟩,_,_,_,_,_,_,_,_,jh,λb2=>Zaa rfl ⟨⟨by omega,by rw[List.length_cons];omega⟩,?_⟩⟩
   refine⟨λxs css tvs m' q=>∃(k:Nat)(t:T),k<=rest.length/\xs=[.int .i64 k]/\css=[t.cs]/\m1.le m'/\Rep m' t/\F26 t (rest.drop k)/\q=rest.length - k,⟨rest.length,0,t0,by omega,rfl,rfl,Mem.le_refl _,(bA t0 (by simp)).mono dB,hF,by omega⟩,?_⟩
   rintro z cs m2 q2 _ ⟨k,t,hk,hz,cA,aH,gH,ma,pS⟩
   obtain rfl:z=k:=by simpa using hz
   obtain rfl:cs=t.cs:=by simpa using cA
   have kY:((t0::rest).length - Int.toNat 1)=rest.length:=by simp
   simp only[kY]
   refine Zab (λaG=>?_) (λeI=>Zaa rfl (ZaH (mLt aB aH) ⟨t,rfl,gH,by rw[show k=rest.length by have:=of_decide_eq_false eI;omega,List.drop_length]at ma;exact ma.done⟩))
   have aT:k < rest.length:=by have:=zA6 aG;omega
   obtain⟨x,hx⟩:=ZaL aT
   obtain⟨b3,o3,hO,mB⟩:=ZdZ (aD.mono aH) (i:=k+1) (t:=x) (by simpa using hx)
   cases hO
   have iC:IntKind.i64.wrap ((k:Int)+1)=((k+1:Nat):Int):=by rw[Zal (by omega) (by omega)];rfl
   simp only[iC,zA8]
   rw[Zsz hx]at ma
   have bI:=ma.f.sz
   rw[ZeZ]at bI
   have rP:=Zez (k:=4) (t:=t)
   have vh:=Zez (k:=4) (t:=x)
   have jj:Zbb (some (⟨bb,0,none⟩:Addr)) (Int.toNat 1) c2 8=some ⟨bb,0+8,none⟩:=by
    unfold Zbb
    have:Nat.beq c2 1=false:=by
     cases hb:Nat.beq c2 1 with
     | false=>rfl
     | true=>have:=Nat.eq_of_beq_eq_true hb;omega
    show(bif Nat.beq c2 1 then _ else some (Addr.add _ (1*8)))=_
    rw[this,Zcc];rfl
   refine⟨_,_,jj,⟨by omega,by omega⟩,_,_,_,_,_,_,_,_,by rw[show 0+8+k*8=0+(k+1)*8 by omega];exact mB,λb4=>Zaa rfl (Zaj (Zoj 4 t x (.inr rfl) m2 gH ((bA x (by simp[zA2 hx])).mono (mLt dB aH)) (by omega) (by omega)) ZfD (Zru λt' m3 aS hr' ht'=>⟨by trivial,by trivial,rest.length - (k+1),by omega,k+1,t',by omega,rfl,rfl,mLt aH aS,hr',?_,by omega⟩))⟩
   obtain⟨a3,c3,ht'⟩:=ht'
   rw[ht'];exact ma.step _ _
end Go.Proofs.YtdopppmkbkkmiaaGreatDoor