/- Part of the proof: functions of the program. No condition. -/
import Derived.Test.YtpjepnkiiojgfaaGreatPVEN
import Derived.Test.YtpjepnkiiojgfaaGreatPC25MA
import Derived.Test.YtpjepnkiiojgfaaGreatPVM
import Derived.Test.YtpjepnkiiojgfaaGreatMr
set_option linter.unusedVariables false
set_option linter.unusedSimpArgs false
set_option linter.unusedSectionVars false
namespace Go.Proofs.YtpjepnkiiojgfaaGreat
open Go Go.Eng Go.Rx Go.Proofs Go.RowKit
set_option maxRecDepth 100000
theorem Zhs(m:Mem):CX Tryz.prog 24 #[] m [] (Zxw Zix):=by
 apply ZfZ
 intro b hf
 exact ZaH (Mem.le_add hf _) ⟨_,_,rfl,Zbi⟩
theorem Zmn(m:Mem):CX Tryz.prog 25 #[] m [] (Zxw ZeI):=by
 apply ZhO
 intro b hf
 exact ZaH (Mem.le_add hf _) ⟨_,_,rfl,Zbi⟩
theorem ZjG(m:Mem):CX Tryz.prog 35 #[] m [] (Zxw ZeM):=by
 apply ZhP
 intro b hf
 exact ZaH (Mem.le_add hf _) ⟨_,_,rfl,Zbi⟩
theorem ZkH{m:Mem}{b:Nat}:∀{L:List E} {o:Nat},m.reads b o (L.map E.cs).flatten->(∀z∈L,RepE m z)->RepEAt m b o L
 | [],o,_,_=>by simp only[RepEAt]
 | z::L,o,h,hz=>by
  rw[List.map_cons,List.flatten_cons]at h
  simp only[RepEAt]
  refine⟨λi v hi=>h i v (by rw[zA5 (zA0 hi).1];exact hi),hz z (by simp),ZkH (λi v hi=>?_) (λy hy=>hz y (by simp[hy]))⟩
  rw[Nat.add_assoc]
  refine h (5+i) v ?_
  rw[zA4 (by rw[E.len];omega),E.len,Nat.add_sub_cancel_left];exact hi
theorem Zq6{m:Mem}{k:Int}{x:Nat}{s:ByteArray}{g:Int}{a:Option Addr}{c:Nat}{L:List E}(h:rowRd m a (L.map E.cs).flatten)(hz:∀z∈L,RepE m z)(hl:L.length<=1000000000000000)(ho:OkE k s g):RepE m (.node k x s g a c L):=by
 simp only[RepE]
 refine⟨hl,?_,ho⟩
 rcases h with h|⟨b,o,ha,h⟩
 ·refine .inl ?_
  have:=congrArg List.length h
  rw[ZaY E.len]at this
  exact List.eq_nil_of_length_eq_zero (by simp at this;omega)
 ·exact .inr ⟨b,o,ha,ZkH h hz⟩
theorem ZkI(e:E)(c:Int)(m:Mem)(hr:RepE m e)(cN:∀x∈e.nodes,okN 9 x)(hl:e.nodes.length<=1000):CX Tryz.prog 127 #[e.v,.int .i64 c] m [] (ER (BoE c e)):=by
 apply Zf0
 intro b b1
 refine⟨decide (e.k=10)&&decide (e.g > c),Zab (λh=>⟨rfl,Zap ?_⟩) (λh=>⟨rfl,Zap ?_⟩),Zab (λh=>?_) (λh=>?_)⟩
 ·have:e.k=10:=by simpa using h
  rw[decide_eq_true this,Bool.true_and]
 ·have:¬e.k=10:=by simpa using h
  rw[decide_eq_false this,Bool.false_and]
 ·rw[zA7,decide_eq_true_iff,decide_eq_true_iff]at h
  exact ZaH (Mem.le_refl _) ⟨Zye ⟨#[121]⟩,rfl,Zd7 (by omega) (by decide) (by omega),ZwT (by simp[Zix]) h.1⟩
 have hk:¬(e.k=10/\e.g > c):=by
  rintro⟨h1,h2⟩
  rw[decide_eq_true h1,decide_eq_true h2]at h;cases h
 have dU:e.subs.length<=1000:=by
  have:=Zd2 e.subs
  rw[Zbg,List.length_cons]at hl;omega
 refine⟨λxs css tvs m' q=>∃(ts:List E)(a:Option Addr)(d:Nat),ts.length<=e.subs.length/\xs=[.int .i64 ts.length]/\css=[[.int .u8 e.k,.float .f64 e.x,.string e.s,.int .i64 e.g,.slice a ts.length d]]/\tvs=[.slice a ts.length d]/\rowRd m' a (ts.map E.cs).flatten/\(∀t∈ts,RepE m' t)/\(∀(i:Nat)(x y:E),e.subs[i]?=some x->ts[i]?=some y->BoE c x y)/\q=e.subs.length - ts.length,⟨_,[],none,0,by simp,rfl,rfl,rfl,.inl rfl,by simp,by simp,rfl⟩,?_⟩
 rintro n cs a n1 d m1 q aE ⟨ts,a',d',hO,hx,bN,cH,aB,aO,qB,hq⟩
 simp only[List.cons.injEq,Value.slice.injEq,Value.int.injEq,true_and,and_true]at hx bN cH
 obtain⟨rfl,rfl,rfl⟩:=cH
 subst hx bN
 refine ZaG (λaC=>?_) (λbL=>?_)
 ·have aI:ts.length < e.subs.length:=by omega
  obtain⟨x,hx⟩:=Zaq aI
  obtain⟨nD,h0|⟨b3,o3,fu,eT⟩⟩:=Zeo hr
  ·rw[h0]at aI;simp at aI
  obtain⟨dJ,dW⟩:=(eT.mono' aE).get hx
  have mq:=zA2 hx
  have bE:=ZgF mq
  have uV:∀z∈x.nodes,z∈Zam e.subs:=λz hz=>by rw[Zcd hx];exact List.mem_append_right _ (List.mem_append_left _ hz)
  have iZ:x.nodes.length<=1000:=by
   rw[Zbg,List.length_cons,Zcd hx,zA1,zA1]at hl;omega
  have hw:IntKind.i64.wrap ((ts.length:Int)+1)=((ts.length+1:Nat):Int):=by rw[Zak (by omega) (by omega)];rfl
  refine⟨b3,o3,fu,⟨by omega,aC⟩,_,_,_,_,_,dJ,λb4=>Zaa rfl ⟨λ_ _ _=>ER (BoE c x),Zal rfl ⟨_,rfl,ZkI x c m1 dW (λz hz=>cN z (by rw[Zbg];exact List.mem_cons_of_mem _ (uV z hz))) iZ,ZfP,ZyE λt m2 aK fC ht b5 jt=>Zaa rfl ?_⟩⟩⟩
  refine ZgX E.len E.one jt t (aB.mono aK) 64 (by omega) (by omega) (.inl rfl) λa5 c5 m5 cO bP=>Zaa rfl λM _ fy fw gJ=>⟨rfl,e.subs.length - (ts.length+1),by omega,ts++[t],a5,c5,by rw[zA1];exact aI,by rw[hw,zA1];rfl,by rw[zA1];rfl,by rw[zA1];rfl,bP.mono gJ,?_,?_,by rw[zA1];rfl⟩
  ·intro z hz
   rcases List.mem_append.1 hz with hz|hz
   ·exact(aO z hz).mono' (mLt aK fy)
   ·rw[List.mem_singleton]at hz;subst hz;exact fC.mono' fy
  ·intro i x' y' hx' hy'
   rcases Nat.lt_or_ge i ts.length with h|h
   ·rw[zA5 h]at hy'
    exact qB i x' y' hx' hy'
   ·have hi:=(zA0 hy').1
    rw[zA1,List.length_singleton]at hi
    obtain rfl:i=ts.length:=by omega
    rw[hx]at hx'
    simp at hy'
    cases hx';subst hy';exact ht
 ·have aH:ts.length=e.subs.length:=by omega
  have ho:=ZtD hr
  refine Zaa rfl (ZaH aE ⟨.node e.k e.x e.s e.g a d ts,rfl,Zq6 aB aO (by omega) ho,?_⟩)
  have:=ZuL (c:=c) (x:=e.x) (s:=e.s) (a:=e.a) (a':=a) (d:=e.c) (d':=d) (l:=e.subs) (r:=ts) (k:=e.k) (g:=e.g) (by cases e;exact cN _ (by simp[E.nodes,E.k,E.x,E.s,E.g,E.a,E.c,E.subs])) hk aH.symm qB
  cases e;exact this
termination_by SizeOf.sizeOf e
theorem ZkJ(t:T)(m:Mem)(hr:Rep m t)(hl:t.nodes.length<=10000):CX Tryz.prog 85 #[t.v] m [] (Ret (.int .i64 (t.gr:Nat))):=by
 apply ZgT
 intro b m1 aE _
 have dU:t.subs.length<=10000:=by
  have h1:=Zi8 t
  have:=ZnA t.subs
  omega
 have uW:∀i,grL (t.subs.take i)<=10000:=λi=>by
  have h1:grL (t.subs.take i)<=szL (t.subs.take i):=List.countP_le_length
  have h2:szL t.subs=szL (t.subs.take i)+szL (t.subs.drop i):=by rw[<-ZaE,List.take_append_drop]
  have h3:=Zi8 t
  omega
 refine Zab (λh=>?_) (λh=>?_)
 all_goals
  refine⟨λxs _ _ m' q=>∃i:Nat,i<=t.subs.length/\xs=[.int .i64 (((if isG t=true then 1 else 0)+grL (t.subs.take i):Nat):Int),.int .i64 i]/\q=t.subs.length - i,⟨_,0,by omega,by unfold isG;rw[h];rfl,rfl⟩,?_⟩
  rintro n n1 m2 q aK ⟨i,hi,hx,rfl⟩
  simp only[List.cons.injEq,Value.int.injEq,true_and,and_true]at hx
  obtain⟨rfl,rfl⟩:=hx
  refine ZaG (λaC=>?_) (λbL=>Zaf (mLt aE aK) ?_)
  ·have aI:i < t.subs.length:=by omega
   obtain⟨x,hx⟩:=Zaq aI
   have mq:=zA2 hx
   have bE:=Zr0 mq
   have iZ:x.nodes.length<=10000:=by
    have h1:=Zi8 t
    have h2:szL t.subs=szL (t.subs.take i)+szL (t.subs.drop i):=by rw[<-ZaE,List.take_append_drop]
    rw[Zqe hx,Zeq]at h2;omega
   have wY:grL (t.subs.take (i+1))=grL (t.subs.take i)+x.gr:=by
    rw[List.take_add_one,hx,Zbl];show _+grL [x]=_;rw[ZcN]
   have hb:=uW i
   have hb':=uW (i+1)
   obtain⟨b3,o3,fu,dJ⟩:=Zdq ((ZdY hr.subs).mono (mLt aE aK)) hx
   refine⟨b3,o3,fu,⟨by omega,aC⟩,_,_,_,_,_,_,_,_,dJ,λb4=>Zaa rfl (Zco (ZkJ x m2 ((Zi2 hr.subs x mq).mono (mLt aE aK)) iZ) λm3 aQ=>⟨rfl,t.subs.length - (i+1),by omega,i+1,by omega,?_,rfl⟩)⟩
   rw[wY,Zak (by split <;> omega) (by split <;> omega),Zak (by omega) (by omega)]
   simp;omega
  ·have:i=t.subs.length:=by omega
   subst this
   rw[List.take_length]
   show Value.int .i64 _=Value.int .i64 _
   rw[Zv3 t]
termination_by SizeOf.sizeOf t
structure BytU (m:Mem)(a:Option Addr)(l:List Nat):Prop where
 lt:∀n∈l,n < 256
 row:rowRd m a (l.map λn:Nat=>[Value.int .u8 n]).flatten
theorem BytU.mono{m m':Mem}{a l}(h:BytU m a l)(hm:m.le m'):BytU m' a l:=⟨h.lt,h.row.mono hm⟩
theorem BytU.get{m:Mem}{a l}(h:BytU m a l){i:Nat}{n:Nat}(hi:l[i]?=some n):n < 256/\∃b o,a=some ⟨b,o,none⟩/\m b (o+i*1)=some (.int .u8 n):=by
 obtain⟨b,o,ha,h1⟩:=Zai (cs:=λn:Nat=>[Value.int .u8 n]) (n:=1) (λ_=>rfl) h.row hi (by omega)
 exact⟨h.lt n (zA2 hi),b,o,ha,h1 0 _ rfl⟩
theorem Pt.one(p:Pt):∀u∈p.cs,u.oneCell'=true:=by
 intro u hu
 simp only[Pt.cs,List.mem_cons,List.not_mem_nil,or_false]at hu
 rcases hu with rfl|rfl|rfl|rfl|rfl|rfl|rfl|rfl <;> rfl
def TmR(c:Int):Value->Mem->List (List Value)->Prop:=λv m' _=>∃(l:List Pt)(a:Option Addr)(d:Nat),v=.slice a l.length d/\rowRd m' a (l.map Pt.cs).flatten/\(∀p∈l,RepP m' p)/\MkT c l
theorem Zt7{c:Int}:∀(v:Value)(m':Mem) (css:List (List Value)),TmR c v m' css->Shape.fits .slice v=true:=λv _ _ ⟨_,_,_,h,_⟩=>by rw[h];rfl
def TmI(c:Int)(N:Nat)(m:Mem):List Value->List (List Value)->List Value->Mem->Nat->Prop:=λxs _ tvs m' q=>∃(L:List Pt)(a:Option Addr)(d i:Nat),xs=[.slice a L.length d,.int .i64 i]/\tvs=[.slice a L.length d]/\i<=N/\L.length<=i/\m.le m'/\rowRd m' a (L.map Pt.cs).flatten/\(∀p∈L,RepP m' p)/\(∀p∈L,MkP c p)/\ZAa L/\q=N - i
theorem ZsP{L:List Pt}{p:Pt}(h:ZAa L)(hp:p.k=1->∀x,L[L.length - 1]?=some x->0 < L.length->x.k≠1):ZAa (L++[p]):=by
 intro i x y hx hy h1 h2
 rcases Nat.lt_or_ge (i+1) L.length with hi|hi
 ·rw[zA5 (by omega)]at hx
  rw[zA5 hi]at hy
  exact h i x y hx hy h1 h2
 ·have ii:=(zA0 hy).1
  rw[zA1,List.length_singleton]at ii
  have e:i+1=L.length:=by omega
  rw[zA5 (by omega)]at hx
  rw[e]at hy
  simp at hy;subst hy
  exact hp h2 x (by rw[<-e,Nat.add_sub_cancel];exact hx) (by omega) h1
theorem TmI.next{c:Int}{N:Nat}{m m' M:Mem}{L:List Pt}{i:Nat}{p:Pt}{a:Option Addr}{d:Nat}(hi:i < N)(hL:L.length<=i)(h0:m.le m')(hM:m'.le M)(aB:rowRd M a ((L++[p]).map Pt.cs).flatten)(hr:∀x∈L,RepP m' x)(hp:RepP M p)(hk:∀x∈L,MkP c x)(wZ:MkP c p)(hl:ZAa L)(w4:p.k=1->∀x,L[L.length - 1]?=some x->0 < L.length->x.k≠1):
  ∃n',n' < N - i/\TmI c N m [.slice a (L.length+1) d,.int .i64 ((i+1:Nat):Int)] [] [.slice a (L.length+1) d] M n':=by
 refine⟨N - (i+1),by omega,L++[p],a,d,i+1,by rw[zA1];rfl,by rw[zA1];rfl,by omega,by rw[zA1,List.length_singleton];omega,mLt h0 hM,aB,?_,?_,ZsP hl w4,rfl⟩
 ·intro x hx
  rcases List.mem_append.1 hx with hx|hx
  ·exact(hr x hx).mono hM
  ·rw[List.mem_singleton]at hx;subst hx;exact hp
 ·intro x hx
  rcases List.mem_append.1 hx with hx|hx
  ·exact hk x hx
  ·rw[List.mem_singleton]at hx;subst hx;exact wZ
theorem ZgY{m:Mem}{k:Int}{s:ByteArray}{g:Int}(hk:0<=k/\k < 256)(hs:s.size<=1000000000000000)(hg:I64 g):RepP m ⟨k,s,g,E0⟩:=⟨hk,hs,hg,Zyy m⟩
theorem ZjH:∀s∈ZeI,s.size<=16:=by decide +kernel
theorem ZBs:∀j < 5,∃s:ByteArray,[Value.string ⟨#[97]⟩,.string ⟨#[45]⟩,.string ⟨#[97,98,32]⟩,.string ⟨#[0,255]⟩,.string ⟨#[49,50]⟩][j*1]?=some (.string s)/\0 < s.size/\s.size<=512:=by
 intro j hj
 have:j=0\/j=1\/j=2\/j=3\/j=4:=by omega
 rcases this with rfl|rfl|rfl|rfl|rfl <;> exact⟨_,rfl,by decide,by decide⟩
set_option maxHeartbeats 2000000 in
theorem Ziv(l:List Nat)(a:Option Addr)(d:Nat)(e:E)(c:Int)(m:Mem)(hb:BytU m a l)(hd:l.length<=d)(hl:l.length<=1000000000000000)(hr:RepE m e)(he:MkE c 20 e)(hc : -1<=c/\c<=10000):
  CX Tryz.prog 129 #[.slice a l.length d,e.v,.int .i64 c] m [] (TmR c):=by
 apply Zfd
 intro b m1 aE _
 have hN:(if(5:Int) < (l.length:Int)then(5:Int)else(l.length:Int))=((min 5 l.length:Nat):Int):=by split <;> omega
 simp only[hN,zA8,Nat.sub_zero]
 generalize qT:min 5 l.length=N
 refine⟨⟨by omega,by omega⟩,TmI c N m1,⟨N,[],none,0,0,rfl,rfl,by omega,by simp,Mem.le_refl _,.inl rfl,by simp,by simp,λi p q h=>by simp at h,by omega⟩,?_⟩
 rintro a1 n1 c1 z1 a2 n2 c2 m2 q aK ⟨L,a',c',i,hx,cH,qU,fL,hm,aB,aO,iw,gx,rfl⟩
 simp only[List.cons.injEq,Value.slice.injEq,Value.int.injEq,true_and,and_true]at hx cH
 obtain⟨⟨rfl,rfl,rfl⟩,rfl⟩:=hx
 obtain⟨rfl,rfl,rfl⟩:=cH
 have hw:IntKind.i64.wrap ((i:Int)+1)=((i+1:Nat):Int):=by rw[Zak (by omega) (by omega)];rfl
 have w5:IntKind.i64.wrap ((L.length:Int) - 1)=(L.length:Int) - 1:=Zak (by omega) (by omega)
 have qV:=mLt aE aK
 refine ZaG (λaC=>?_) (λbL=>ZaH qV ⟨L,a2,c2,rfl,aB,aO,by omega,iw,gx⟩)
 have aI:i < N:=by omega
 obtain⟨n,hn⟩:=Zaq (l:=l) (k:=i) (by omega)
 obtain⟨jg,bs,os,ha,hv⟩:=(hb.mono qV).get hn
 have sV:Int.tmod (n:Int) 8=((n % 8:Nat):Int):=rfl
 have sW:IntKind.i64.wrap (Int.tdiv (IntKind.i64.wrap (n:Int)) 8)=((n / 8:Nat):Int):=by
  rw[Zak (n:=(n:Int)) (by omega) (by omega),show Int.tdiv (n:Int) 8=((n / 8:Nat):Int) from rfl,Zak (by omega) (by omega)]
 simp only[hw,w5,zA8]
 refine⟨bs,os,ha,⟨by omega,aC⟩,_,hv,_,rfl,by omega,by omega,?_⟩
 simp only[sV,sW]
 have w6:n / 8 < 32:=by omega
 generalize n % 8=k
 generalize n / 8=u at w6
 have stay:∀M:Mem,m2.le M->∃n',n' < N - i/\TmI c N m1 [.slice a2 L.length c2,.int .i64 ((i+1:Nat):Int)] [] [.slice a2 L.length c2] M n':=λM hM=>⟨N - (i+1),by omega,L,a2,c2,i+1,rfl,rfl,by omega,by omega,mLt hm hM,aB.mono hM,λp hp=>(aO p hp).mono hM,iw,gx,rfl⟩
 refine⟨λxs _ _ m'=>xs=[.bool (decide (k=0\/k=1))]/\m2.le m',Zab (λh=>⟨trivial,trivial,?_,Mem.le_refl _⟩) (λh=>⟨trivial,trivial,?_,Mem.le_refl _⟩),?_⟩
 ·have:k=0:=by simp at h;omega
  rw[h,this];rfl
 ·have:¬k=0:=by simp at h;omega
  refine Zap ?_
  rw[Bool.eq_iff_iff];simp;omega
 rintro b2 m3 aQ ⟨gk,_⟩
 obtain rfl:b2=decide (k=0\/k=1):=by simpa using gk
 have dQ:=mLt qV aQ
 refine ZaG (λgI=>?_) (λgI=>?_)
 ·refine⟨decide (L.length=0)||!(match L[L.length - 1]? with
   | some x=>x.k == 1
   | none=>false),ZaG (λh=>⟨trivial,trivial,Zap ?_⟩) (λh=>?_),Zab (λhB=>?_) (λ_=>⟨trivial,stay m3 aQ⟩)⟩
  ·rw[decide_eq_true (show L.length=0 by omega)];rfl
  ·obtain⟨x,hx⟩:=Zaq (l:=L) (k:=L.length - 1) (by omega)
   obtain⟨b4,o4,lr,cG⟩:=Zai Pt.len (aB.mono aQ) hx (by omega)
   have w7:Int.toNat ((L.length:Int) - 1)=L.length - 1:=by omega
   refine⟨b4,o4,lr,⟨by omega,by omega⟩,.int .u8 x.k,by rw[w7];exact cG 0 _ rfl,_,rfl,trivial,trivial,Zap ?_⟩
   rw[decide_eq_false (show ¬L.length=0 by omega),hx,Bool.false_or]
  ·have uX:Int.tmod (u:Int) 5=((u % 5:Nat):Int):=rfl
   have h5:u % 5 < 5:=Nat.mod_lt _ (by omega)
   intro b4 fM
   obtain⟨s,hs,kK,w8⟩:=ZBs (u % 5) h5
   refine⟨by omega,by rw[uX];exact⟨by omega,by omega⟩,Zal (by rw[uX,zA8];exact hs) ⟨s,rfl,λb5 jt=>?_⟩⟩
   have sX:=mLt aQ (Mem.le_add fM [Value.string ⟨#[97]⟩,.string ⟨#[45]⟩,.string ⟨#[97,98,32]⟩,.string ⟨#[0,255]⟩,.string ⟨#[49,50]⟩])
   refine ZgX Pt.len Pt.one jt (⟨1,s,0,E0⟩:Pt) (aB.mono sX) 96 (by omega) (by omega) (.inl trivial) λa8 c8 m8 eZ eQ=>⟨trivial,TmI.next aI fL (mLt hm sX) (mLt (Mem.le_add jt _) eZ) eQ (λx hx=>(aO x hx).mono sX) (ZgY (by omega) (by omega) ⟨by omega,by omega⟩) iw (.lit s ⟨kK,w8⟩) gx (λ_ x hx yG jP=>?_)⟩
   rw[hx,decide_eq_false (show ¬L.length=0 by omega)]at hB
   simp[jP]at hB
 refine⟨λxs _ _ m'=>xs=[.bool (decide (k=2\/k=3))]/\m3.le m',Zab (λh=>⟨trivial,trivial,?_,Mem.le_refl _⟩) (λh=>⟨trivial,trivial,?_,Mem.le_refl _⟩),?_⟩
 ·have:k=2:=by simp at h;omega
  rw[h,this];rfl
 ·have:¬k=2:=by simp at h;omega
  refine Zap ?_
  rw[Bool.eq_iff_iff];simp;omega
 rintro b3 m4 bZ ⟨gl,_⟩
 obtain rfl:b3=decide (k=2\/k=3):=by simpa using gl
 have gB:=mLt aQ bZ
 refine ZaG (λw9=>?_) (λw9=>?_)
 ·refine Zan (Zmn m4) ZcT ?_
  rintro a5 n5 c5 m5 cO ⟨a',c',fN,eX⟩
  simp only[Value.slice.injEq]at fN
  obtain⟨rfl,rfl,rfl⟩:=fN
  have h2:u % 2 < 2:=Nat.mod_lt _ (by omega)
  obtain⟨s,hs⟩:=Zaq (l:=ZeI) (k:=u % 2) h2
  have ju:=zA2 hs
  obtain⟨b6,o6,iL,cG⟩:=ZcS eX hs
  have bE:s.size<=1000000000000000:=by have:=ZjH s ju;omega
  have hu:Int.tmod (u:Int) 2=((u % 2:Nat):Int):=rfl
  have iy:=mLt gB cO
  refine⟨by omega,b6,o6,iL,by rw[hu];exact⟨by omega,by show((u % 2:Nat):Int) < (2:Nat);omega⟩,_,by rw[hu,zA8];exact cG,s,rfl,λb7 mr=>?_⟩
  refine ZgX Pt.len Pt.one mr (⟨2,s,0,E0⟩:Pt) (aB.mono iy) 96 (by omega) (by omega) (.inl trivial) λa8 c8 m8 eZ eQ=>⟨trivial,TmI.next aI fL (mLt hm iy) (mLt (Mem.le_add mr _) eZ) eQ (λx hx=>(aO x hx).mono iy) (ZgY (by omega) bE ⟨by omega,by omega⟩) iw (.var s (.inr ju)) gx (λh=>absurd (show(2:Int)=1 from h) (by decide))⟩
 refine Zab (λh4=>?_) (λh4=>?_)
 ·refine Zan (Zhs m4) ZcT ?_
  rintro a5 n5 c5 m5 cO ⟨a',c',fN,eX⟩
  simp only[Value.slice.injEq]at fN
  obtain⟨rfl,rfl,rfl⟩:=fN
  have h2:u % 4 < 4:=Nat.mod_lt _ (by omega)
  obtain⟨s,hs⟩:=Zaq (l:=Zix) (k:=u % 4) h2
  have ju:=zA2 hs
  obtain⟨b6,o6,iL,cG⟩:=ZcS eX hs
  have bE:s.size<=1000000000000000:=by have:=ZjF s ju;omega
  have hu:Int.tmod (u:Int) 4=((u % 4:Nat):Int):=rfl
  have iy:=mLt gB cO
  refine⟨by omega,b6,o6,iL,by rw[hu];exact⟨by omega,by show((u % 4:Nat):Int) < (4:Nat);omega⟩,_,by rw[hu,zA8];exact cG,s,rfl,λb7 mr=>?_⟩
  refine ZgX Pt.len Pt.one mr (⟨2,s,0,E0⟩:Pt) (aB.mono iy) 96 (by omega) (by omega) (.inl trivial) λa8 c8 m8 eZ eQ=>⟨trivial,TmI.next aI fL (mLt hm iy) (mLt (Mem.le_add mr _) eZ) eQ (λx hx=>(aO x hx).mono iy) (ZgY (by omega) bE ⟨by omega,by omega⟩) iw (.var s (.inl ju)) gx (λh=>absurd (show(2:Int)=1 from h) (by decide))⟩
 refine⟨λxs _ _ m'=>xs=[.bool (decide (k=5\/k=6))]/\m4.le m',Zab (λh=>⟨trivial,trivial,?_,Mem.le_refl _⟩) (λh=>⟨trivial,trivial,?_,Mem.le_refl _⟩),?_⟩
 ·have:k=5:=by simp at h;omega
  rw[h,this];rfl
 ·have:¬k=5:=by simp at h;omega
  refine Zap ?_
  rw[Bool.eq_iff_iff];simp;omega
 rintro b4 m5 cO ⟨oz,_⟩
 obtain rfl:b4=decide (k=5\/k=6):=by simpa using oz
 have iy:=mLt gB cO
 refine ZaG (λxb=>?_) (λxb=>?_)
 ·refine ZaG (λhp=>?_) (λhp=>⟨trivial,stay m5 iy⟩)
  obtain⟨C,mt,sY,hC⟩:∃C:Nat,(C:Int)<=c/\C<=9/\IntKind.i64.wrap ((if(9:Int) < c then(9:Int)else c)+1)=((C+1:Nat):Int):=by
   by_cases h9:9 < c
   ·exact⟨9,by omega,by omega,by rw[if_pos h9];rfl⟩
   ·refine⟨c.toNat,by omega,by omega,?_⟩
    rw[if_neg h9,Zak (by omega) (by omega)];omega
  have ls:Int.tmod (u:Int) ((C+1:Nat):Int)=((u % (C+1):Nat):Int):=rfl
  have aC:u % (C+1) < C+1:=Nat.mod_lt _ (by omega)
  simp only[hC,ls]
  refine⟨by omega,λb6 gR=>?_⟩
  refine ZgX Pt.len Pt.one gR (⟨3,.empty,((u % (C+1):Nat):Int),E0⟩:Pt) (aB.mono iy) 96 (by omega) (by omega) (.inl trivial) λa8 c8 m8 eZ eQ=>⟨trivial,TmI.next aI fL (mLt hm iy) (mLt (Mem.le_add gR _) eZ) eQ (λx hx=>(aO x hx).mono iy) (ZgY (by omega) (by rw[ZaL];omega) ⟨by omega,by omega⟩) iw (.cap _ (by omega)) gx (λh=>absurd (show(3:Int)=1 from h) (by decide))⟩
 ·intro b6 gR
  have pJ:=Mem.le_add gR (⟨4,.empty,0,e⟩:Pt).cs
  refine ZgX Pt.len Pt.one gR (⟨4,.empty,0,e⟩:Pt) (aB.mono iy) 96 (by omega) (by omega) (.inl trivial) λa8 c8 m8 eZ eQ=>⟨trivial,TmI.next aI fL (mLt hm iy) (mLt pJ eZ) eQ (λx hx=>(aO x hx).mono iy) ⟨by show(0:Int)<=4/\(4:Int) < 256;omega,by show ByteArray.empty.size<=_;rw[ZaL];omega,⟨by show(-9223372036854775808:Int)<=0;omega,by show(0:Int)<=9223372036854775807;omega⟩,hr.mono' (mLt qV (mLt iy (mLt pJ eZ)))⟩ iw (.clc e he) gx (λh=>absurd (show(4:Int)=1 from h) (by decide))⟩
theorem ZBt(l:List T):∀u∈Rx.Zcg l,u.oneCell'=true:=by
 intro u hu
 simp only[Rx.Zcg,List.mem_flatten,List.mem_map]at hu
 obtain⟨_,⟨t,_,rfl⟩,h⟩:=hu
 simp only[T.cs,T.sl,List.mem_cons,List.not_mem_nil,or_false]at h
 rcases h with rfl|rfl|rfl|rfl|rfl|rfl|rfl|rfl <;> rfl
theorem ZlG(a:Option Addr)(c:Nat)(l:List T)(m:Mem)(h:rowRd m a (Rx.Zcg l))(hl:l.length<=1000000000000):CXT Tryz.prog 155 #[.slice a l.length c] m 8 (λv m' _=>∃a' c',v=.slice a' l.length c'/\rowRd m' a' (Rx.Zcg l)/\l.length<=c'/\(l.length=0\/∃b,a'=some ⟨b,0,none⟩/\m.free b)):=by
 apply Zbs
 have aH:=Zar l
 refine Zab (λha=>?_) (λha=>⟨⟨rfl,Int.le_refl _,by decide,by decide⟩,λb hf _=>⟨.inl rfl,[],Rx.Zcg l,rfl,aH,.inl rfl,h,ZBt l,by omega,by omega,λa' c' m' hm aB iM=>⟨rfl,?_⟩⟩⟩)
 ·obtain rfl:a=none:=by simpa using ha
  have h0:l=[]:=by
   rcases h with h|⟨_,_,h,_⟩
   ·rw[h]at aH;exact List.eq_nil_of_length_eq_zero (by simp at aH;omega)
   ·cases h
  subst h0
  exact⟨rfl,none,0,rfl,.inl rfl,Nat.le_refl _,.inl rfl⟩
 ·simp only[Nat.zero_add]at iM ⊢
  refine⟨a',c',rfl,aB,iM.1,?_⟩
  rcases(iM.old (λ_ _ e=>by cases e;rfl)).2 with h1|⟨b',h1,h2|h2⟩
  ·subst h1
   left
   rcases aB with h3|⟨_,_,h3,_⟩
   ·have h4:(Rx.Zcg l).length=0:=congrArg List.length h3
    omega
   ·cases h3
  ·right;rw[<-h2];exact⟨b,rfl,hf⟩
  ·exact .inr ⟨b',h1,h2⟩
theorem Zvm{m:Mem}{b:Nat}{ts r:List T}{x t:T}(h:rowRd m (some ⟨b,0,none⟩) (Rx.Zcg (ts++x::r))):rowRd (m.upd b (0+ts.length*8) t.cs) (some ⟨b,0,none⟩) (Rx.Zcg (ts++t::r)):=by
 rcases h with h|⟨b',o',ha,h⟩
 ·have hl:(Rx.Zcg (ts++x::r)).length=0:=by rw[h];rfl
  rw[Zar,zA1,List.length_cons]at hl
  omega
 cases ha
 have e:∀y:T,Rx.Zcg (ts++y::r)=Rx.Zcg ts++(y.cs++Rx.Zcg r):=λy=>by simp[Rx.Zcg]
 have h8:∀y:T,y.cs.length=8:=λ_=>rfl
 refine .inr ⟨b,0,rfl,λj v hj=>?_⟩
 rw[e]at hj
 unfold Mem.upd;try dsimp only
 rw[Nat.zero_add,Nat.zero_add,h8]
 rcases Nat.lt_or_ge j (ts.length*8)with aC|bL
 ·rw[if_neg (by omega)]
  rw[zA5 (by rw[Zar];exact aC)]at hj
  have:=h j v (by rw[e,zA5 (by rw[Zar];exact aC)];exact hj)
  rwa [Nat.zero_add]at this
 ·rw[zA4 (by rw[Zar];exact bL),Zar]at hj
  rcases Nat.lt_or_ge j (ts.length*8+8)with aC|dX
  ·rw[if_pos ⟨rfl,bL,aC⟩]
   rw[zA5 (by rw[h8];omega)]at hj
   exact hj
  ·rw[if_neg (by omega)]
   rw[zA4 (by rw[h8];omega),h8]at hj
   have:=h j v (by
    rw[e,zA4 (by rw[Zar];exact bL),Zar,zA4 (by rw[h8];omega),h8];exact hj)
   rwa [Nat.zero_add]at this
theorem Zvn{m m':Mem}(h:m.le m'){b:Nat}(hf:m'.free b):m.free b:=λo=>by
 cases he:m b o with
 | none=>rfl
 | some v=>have:=h _ _ _ he;rw[hf o]at this;cases this
def NewT(m:Mem)(t:T):Prop:=∀x∈t.nodes,x.subs=[]\/∃b,x.a=some ⟨b,0,none⟩/\m.free b
theorem NewT.less{m m':Mem}{t:T}(hn:NewT m' t)(h:m.le m'):NewT m t:=λx hx=>(hn x hx).imp id λ⟨b,e,hf⟩=>⟨b,e,Zvn h hf⟩
theorem ZsQ{m:Mem}{k s0 s1 s2 s3 mn mx:Int}{a:Option Addr}{c:Nat}{l:List T}(h:l=[]\/∃b,a=some ⟨b,0,none⟩/\m.free b)(hl:∀x∈l,NewT m x):NewT m (.node k s0 s1 s2 s3 mn mx a c l):=by
 intro x hx
 simp only[T.nodes,List.mem_cons]at hx
 rcases hx with rfl|hx
 ·exact h
 ·have:∀l:List T,(∀x∈l,NewT m x)->∀x∈ZaI l,x.subs=[]\/∃b,x.a=some ⟨b,0,none⟩/\m.free b:=by
   intro l
   induction l with
   | nil=>intro _ x hx;simp[ZaI]at hx
   | cons y l ih=>
    intro h x hx
    simp only[ZaI,List.mem_append]at hx
    rcases hx with hx|hx
    ·exact h y (by simp) x hx
    ·exact ih (λz hz=>h z (by simp[hz])) x hx
  exact this l hl x hx
set_option maxHeartbeats 800000 in
theorem ZkK(t:T)(m:Mem)(hr:Rep m t)(hz:t.nodes.length<=10000):CX Tryz.prog 130 #[t.v] m [] (Zno λt'=>t'.er=t.er/\(t'.caps/\NewT m t')):=by
 have bE:szL t.subs<=10000:=by rw[Zi8]at hz;omega
 have eR:t.subs.length<=10000:=Nat.le_trans (ZnA _) bE
 apply Zlv
 intro b b1
 refine⟨_,ZlG t.a t.c t.subs m (ZdY hr.subs) (by omega),(λv _ _ ⟨a,c,e,_⟩=>by rw[e];rfl),?_⟩
 rintro a n c m1 aE ⟨a',c',hv,aB,gK,bB⟩
 simp only[Value.slice.injEq]at hv
 obtain⟨rfl,rfl,rfl⟩:=hv
 have aO:∀x∈t.subs,Rep m x:=Zi2 hr.subs
 refine⟨λxs css tvs m' q=>∃(k:Nat)(L:List T)(mb:Mem),k<=t.subs.length/\xs=[.int .i64 k]/\q=t.subs.length - k/\L.length=k/\L.map T.er=(t.subs.take k).map T.er/\m.le mb/\mb.le m'/\(t.subs.length=0\/∃b,a=some ⟨b,0,none⟩/\mb.free b)/\(∀x∈L,Rep mb x/\(x.caps/\NewT m x))/\(t.subs.length=0\/∃b,a=some ⟨b,0,none⟩/\m.free b)/\rowRd m' a (Rx.Zcg (L++t.subs.drop k)),⟨_,0,[],m,by omega,rfl,rfl,rfl,rfl,Mem.le_refl _,aE,bB,by simp,bB,aB⟩,?_⟩
 rintro z m2 q _ ⟨k,L,mb,hk,cK,hq,jh,mu,eS,iN,eI,kQ,bK,dH⟩
 obtain rfl:z=k:=by simpa using cK
 refine Zab (λaC=>?_) (λbL=>?_)
 ·have aI:k < t.subs.length:=by have:=zA6 aC;omega
  obtain⟨x,hx⟩:=Zaq aI
  have dJ:=aO x (zA2 hx)
  have li:x.nodes.length<=10000:=by
   obtain⟨h1,h2⟩:=zA0 hx
   have:=congrArg List.length (Zen hx)
   unfold szL at bE
   simp only[zA1]at this
   omega
  have ir:t.subs.drop k=x::t.subs.drop (k+1):=by
   rw[List.drop_eq_getElem_cons aI,(zA0 hx).2]
  rcases eI with eI|⟨bk,rfl,dV⟩
  ·omega
  obtain⟨b0,o0,j6,cG⟩:=Zdq dH (i:=k) (t:=x) (by rw[zA4 (by omega),jh,Nat.sub_self,ir];rfl)
  cases j6
  have hw:IntKind.i64.wrap ((k:Int)+1)=((k+1:Nat):Int):=by rw[Zak (by omega) (by omega)];rfl
  simp only[hw,zA8]
  have gn:CX Tryz.prog 130 #[x.v] m2 [] (ZoN mb m2 λt'=>t'.er=x.er/\(t'.caps/\NewT mb t')):=(ZkK x mb (Rep.mono eS x dJ) li).frame2 iN
  refine⟨bk,0,rfl,⟨by omega,by omega⟩,_,_,_,_,_,_,_,_,cG,λb3=>Zaa rfl ⟨λ_ _ _=>ZoN mb m2 λt'=>t'.er=x.er/\(t'.caps/\NewT mb t'),ZoN mb m2 λt'=>t'.er=x.er/\(t'.caps/\NewT mb t'),rfl,gn,Zc9,Zit λt' m0 m3 aQ h0 dQ cY hr' ht'=>⟨bk,0,rfl,⟨by omega,by omega⟩,λM fy fw=>⟨rfl,by omega,by trivial,by trivial,t.subs.length - (k+1),by omega,k+1,L++[t'],m0,by omega,rfl,rfl,by simp[jh],?_,mLt eS h0,?_,.inr ⟨bk,rfl,?_⟩,?_,bK,?_⟩⟩⟩⟩
  ·rw[List.map_append,mu,Zqf hx,List.map_append]
   simp[ht'.1]
  ·refine Mem.le_upd (mLt dQ fw) ?_ _ _
   intro o'
   have hc:m2 bk (0+k*8+0)=some (.int .u8 x.k):=cG 0 _ rfl
   rw[cY _ _ _ hc o'];exact dV o'
  ·intro o'
   have hc:m2 bk (0+k*8+0)=some (.int .u8 x.k):=cG 0 _ rfl
   rw[cY _ _ _ hc o'];exact dV o'
  ·intro y hy
   rcases List.mem_append.1 hy with hy|hy
   ·exact⟨Rep.mono h0 y (kQ y hy).1,(kQ y hy).2⟩
   ·simp at hy;subst hy;exact⟨hr',ht'.2.1,ht'.2.2.less eS⟩
  ·rw[ir]at dH
   have h5:=Zvm (t:=t') (dH.mono fy)
   rw[jh]at h5
   rw[List.append_assoc]
   exact h5
 ·have dF:k=t.subs.length:=by have:=of_decide_eq_false bL;omega
  subst dF
  rw[List.drop_length,List.append_nil]at dH
  rw[List.take_length]at mu
  have cN:=ZyU hr
  refine⟨m2,mLt eS iN,Mem.le_refl _,.node t.k t.s0 t.s1 t.s2 t.s3 t.mn t.mx a c L,?_,?_,?_⟩
  ·simp only[T.v,T.k,T.s0,T.s1,T.s2,T.s3,T.mn,T.mx,T.a,T.c,T.subs,jh]
  ·have:=ZtA dH (λx hx=>Rep.mono iN x (kQ x hx).1) (by omega)
   exact Zlf this.1 this.2 cN
  ·have:=ZwU (k:=t.k) (s0:=t.s0) (s1:=t.s1) (s2:=t.s2) (s3:=t.s3) (mn:=t.mn) (mx:=t.mx) (a:=a) (a':=t.a) (c:=c) (c':=t.c) mu
   refine⟨this.trans ?_,Zsg (by omega) λx hx=>(kQ x hx).2.1,ZsQ (bK.imp (λh=>List.eq_nil_of_length_eq_zero (by omega)) id) λx hx=>(kQ x hx).2.2⟩
   cases t;rfl
termination_by SizeOf.sizeOf t
decreasing_by exact Zr0 (zA2 hx)
mutual
theorem Zxz{m m':Mem}:∀(t:T),Rep m' t->NewT m t->Rep (nw m m') t
 | .node k s0 s1 s2 s3 mn mx a c l,hr,hn=>by
  have h0:=hn _ (by rw[Zcq];exact List.mem_cons_self)
  simp only[Rep]at hr ⊢
  refine⟨hr.1,?_,hr.2.2⟩
  rcases hr.2.1 with h|⟨b,o,ha,eT⟩
  ·exact .inl h
  rcases h0 with h|⟨b',hb',hf⟩
  ·exact .inl h
  ·have e:a=some ⟨b',0,none⟩:=hb'
   rw[ha]at e
   simp only[Option.some.injEq,Addr.mk.injEq,and_true]at e
   obtain⟨rfl,rfl⟩:=e
   exact .inr ⟨b,0,ha,Zq7 b hf 0 l eT λx hx y hy=>hn y (by
    rw[Zcq]
    refine List.mem_cons_of_mem _ ?_
    obtain⟨i,hi⟩:=List.getElem?_of_mem hx
    rw[show(T.node k s0 s1 s2 s3 mn mx a c l).subs=l from rfl,Zen hi]
    simp[hy])⟩
theorem Zq7{m m':Mem}(b:Nat)(hf:m.free b):∀(o:Nat)(l:List T),RepAt m' b o l->(∀x∈l,NewT m x)->RepAt (nw m m') b o l
 | _,[],_,_=>by simp only[RepAt]
 | o,t::l,hr,hn=>by
  simp only[RepAt]at hr ⊢
  exact⟨λj v hj=>by rw[Zv4 hf];exact hr.1 j v hj,Zxz t hr.2.1 (hn t (by simp)),Zq7 b hf (o+8) l hr.2.2 λx hx=>hn x (by simp[hx])⟩
end
def CpT(m:Mem)(t:T):Value->Mem->List (List Value)->Prop:=λv m' _=>∃t':T,v=t'.v/\t'.er=t.er/\Rep (nw m m') t'
theorem Zvo{m:Mem}{t:T}:∀(v:Value)(m':Mem) (css:List (List Value)),CpT m t v m' css->Shape.fits (.agg [.int .u8,.int .u64,.int .u64,.int .u64,.int .u64,.int .i64,.int .i64,.slice]) v=true:=λv _ _ ⟨t,e,_⟩=>by rw[e];rfl
theorem Zvp(t:T)(m:Mem)(hr:Rep m t)(hz:t.nodes.length<=10000):CX Tryz.prog 87 #[t.v] m [] (CpT m t):=by
 apply Zpy
 intro b m1 aE _ b1
 have hl:t.light=true:=by unfold T.light;exact decide_eq_true hz
 have h:=Zhr t m1 (hr.mono aE)
 rw[hl]at h
 refine Zah h λm2 aK=>Zn4 rfl (Zan (ZkK t m2 (hr.mono (mLt aE aK)) hz) Ze1 (Zpi λt' m3 aQ hr' ht'=>?_))
 exact⟨m3,mLt aE (mLt aK aQ),Mem.le_refl _,t',rfl,ht'.1,Zxz t' hr' (ht'.2.2.less (mLt aE aK))⟩
theorem Zof(a:Option Addr)(c:Nat)(l:List E)(m:Mem)(h:rowRd m a (l.map E.cs).flatten)(hl:l.length<=1000000000000):CXT Tryz.prog 156 #[.slice a l.length c] m 5 (λv m' _=>∃a' c',v=.slice a' l.length c'/\rowRd m' a' (l.map E.cs).flatten/\l.length<=c'/\(l.length=0\/∃b,a'=some ⟨b,0,none⟩/\m.free b)):=by
 apply Zbc
 have aH:(l.map E.cs).flatten.length=l.length*5:=ZaY E.len l
 refine Zab (λha=>?_) (λha=>⟨⟨rfl,Int.le_refl _,by decide,by decide⟩,λb hf _=>⟨.inl rfl,[],(l.map E.cs).flatten,rfl,aH,.inl rfl,h,?_,by omega,by omega,λa' c' m' hm aB iM=>⟨rfl,?_⟩⟩⟩)
 ·obtain rfl:a=none:=by simpa using ha
  have h0:l=[]:=by
   rcases h with h|⟨_,_,h,_⟩
   ·rw[h]at aH;exact List.eq_nil_of_length_eq_zero (by simp at aH;omega)
   ·cases h
  subst h0
  exact⟨rfl,none,0,rfl,.inl rfl,Nat.le_refl _,.inl rfl⟩
 ·intro u hu
  simp only[List.mem_flatten,List.mem_map]at hu
  obtain⟨_,⟨e,_,rfl⟩,hu⟩:=hu
  exact E.one e u hu
 ·simp only[Nat.zero_add]at iM ⊢
  refine⟨a',c',rfl,aB,iM.1,?_⟩
  rcases(iM.old (λ_ _ e=>by cases e;rfl)).2 with h1|⟨b',h1,h2|h2⟩
  ·subst h1
   left
   rcases aB with h3|⟨_,_,h3,_⟩
   ·have h4:(l.map E.cs).flatten.length=0:=congrArg List.length h3
    omega
   ·cases h3
  ·right;rw[<-h2];exact⟨b,rfl,hf⟩
  ·exact .inr ⟨b',h1,h2⟩
theorem ZsR{m:Mem}{b:Nat}{ts r:List E}{x t:E}(h:rowRd m (some ⟨b,0,none⟩) ((ts++x::r).map E.cs).flatten):rowRd (m.upd b (0+ts.length*5) t.cs) (some ⟨b,0,none⟩) ((ts++t::r).map E.cs).flatten:=by
 have hl:∀l:List E,(l.map E.cs).flatten.length=l.length*5:=ZaY E.len
 rcases h with h|⟨b',o',ha,h⟩
 ·have:=congrArg List.length h
  rw[hl,zA1,List.length_cons]at this
  simp at this
 cases ha
 have e:∀y:E,((ts++y::r).map E.cs).flatten=(ts.map E.cs).flatten++(y.cs++(r.map E.cs).flatten):=λy=>by simp
 refine .inr ⟨b,0,rfl,λj v hj=>?_⟩
 rw[e]at hj
 unfold Mem.upd;try dsimp only
 rw[Nat.zero_add,Nat.zero_add,E.len]
 rcases Nat.lt_or_ge j (ts.length*5)with aC|bL
 ·rw[if_neg (by omega)]
  rw[zA5 (by rw[hl];exact aC)]at hj
  have:=h j v (by rw[e,zA5 (by rw[hl];exact aC)];exact hj)
  rwa [Nat.zero_add]at this
 ·rw[zA4 (by rw[hl];exact bL),hl]at hj
  rcases Nat.lt_or_ge j (ts.length*5+5)with aC|dX
  ·rw[if_pos ⟨rfl,bL,aC⟩]
   rw[zA5 (by rw[E.len];omega)]at hj
   exact hj
  ·rw[if_neg (by omega)]
   rw[zA4 (by rw[E.len];omega),E.len]at hj
   have:=h j v (by
    rw[e,zA4 (by rw[hl];exact bL),hl,zA4 (by rw[E.len];omega),E.len];exact hj)
   rwa [Nat.zero_add]at this
def NewE(m:Mem)(t:E):Prop:=∀x∈t.nodes,x.subs=[]\/∃b,x.a=some ⟨b,0,none⟩/\m.free b
theorem NewE.less{m m':Mem}{t:E}(hn:NewE m' t)(h:m.le m'):NewE m t:=λx hx=>(hn x hx).imp id λ⟨b,e,hf⟩=>⟨b,e,Zbk h hf⟩
theorem Ziw{y x:E}{l:List E}(hx:x∈l)(hy:y∈x.nodes):y∈Zam l:=by
 obtain⟨i,hi⟩:=List.getElem?_of_mem hx
 rw[Zcd hi];simp[hy]
theorem ZsS{m:Mem}{k:Int}{x:Nat}{s:ByteArray}{g:Int}{a:Option Addr}{c:Nat}{l:List E}(h:l=[]\/∃b,a=some ⟨b,0,none⟩/\m.free b)(hl:∀x∈l,NewE m x):NewE m (.node k x s g a c l):=by
 intro x hx
 simp only[E.nodes,List.mem_cons]at hx
 rcases hx with rfl|hx
 ·exact h
 ·have:∀l:List E,(∀x∈l,NewE m x)->∀x∈Zam l,x.subs=[]\/∃b,x.a=some ⟨b,0,none⟩/\m.free b:=by
   intro l
   induction l with
   | nil=>intro _ x hx;simp[Zam]at hx
   | cons y l ih=>
    intro h x hx
    simp only[Zam,List.mem_append]at hx
    rcases hx with hx|hx
    ·exact h y (by simp) x hx
    ·exact ih (λz hz=>h z (by simp[hz])) x hx
  exact this l hl x hx
mutual
theorem Zt8{m m':Mem}:∀(t:E),RepE m' t->NewE m t->RepE (nw m m') t
 | .node k x s g a c l,hr,hn=>by
  have h0:=hn _ (by rw[Zbg];exact List.mem_cons_self)
  simp only[RepE]at hr ⊢
  refine⟨hr.1,?_,hr.2.2⟩
  rcases hr.2.1 with h|⟨b,o,ha,eT⟩
  ·exact .inl h
  rcases h0 with h|⟨b',hb',hf⟩
  ·exact .inl h
  ·have e:a=some ⟨b',0,none⟩:=hb'
   rw[ha]at e
   simp only[Option.some.injEq,Addr.mk.injEq,and_true]at e
   obtain⟨rfl,rfl⟩:=e
   exact .inr ⟨b,0,ha,Zog b hf 0 l eT λx hx y hy=>hn y (by
    rw[Zbg]
    exact List.mem_cons_of_mem _ (Ziw hx hy))⟩
theorem Zog{m m':Mem}(b:Nat)(hf:m.free b):∀(o:Nat)(l:List E),RepEAt m' b o l->(∀x∈l,NewE m x)->RepEAt (nw m m') b o l
 | _,[],_,_=>by simp only[RepEAt]
 | o,t::l,hr,hn=>by
  simp only[RepEAt]at hr ⊢
  exact⟨λj v hj=>by rw[Zv4 hf];exact hr.1 j v hj,Zt8 t hr.2.1 (hn t (by simp)),Zog b hf (o+5) l hr.2.2 λx hx=>hn x (by simp[hx])⟩
end
theorem ZgZ{m:Mem}{b:Nat}:∀(L:List E)(o:Nat),RepEAt m b o L->m.reads b o (L.map E.cs).flatten
 | [],o,_=>λj v hj=>by simp at hj
 | z::L,o,h=>λj v hj=>by
  simp only[RepEAt]at h
  rw[List.map_cons,List.flatten_cons]at hj
  rcases Nat.lt_or_ge j 5 with aC|bL
  ·rw[zA5 (by rw[E.len];exact aC)]at hj
   exact h.1 j v hj
  ·rw[zA4 (by rw[E.len];exact bL),E.len]at hj
   have:=ZgZ L (o+5) h.2.2 (j - 5) v hj
   rwa [show o+5+(j - 5)=o+j by omega]at this
theorem Zvq(e:E)(m:Mem):CX Tryz.prog 132 #[e.v] m [] (Ret e.v):=by
 apply ZhM
 intro b m1 aE _ b2
 exact Zaa rfl (Zaf aE rfl)
set_option maxHeartbeats 800000 in
theorem ZkL(t:E)(m:Mem)(hr:RepE m t)(hz:t.nodes.length<=10000):CX Tryz.prog 131 #[t.v,.func (.func 132) #[] #[]] m [] (ER λt'=>t'.er=t.er/\NewE m t'):=by
 have eR:t.subs.length<=10000:=by
  have:=Zd2 t.subs
  rw[Zbg,List.length_cons]at hz;omega
 have aO:∀x∈t.subs,RepE m x:=λx hx=>Zpk hr (by rw[Zbg];exact List.mem_cons_of_mem _ (Ziw hx (by rw[Zbg];simp)))
 have pK:rowRd m t.a (t.subs.map E.cs).flatten:=by
  rcases(Zeo hr).2 with h|⟨b,o,ha,eT⟩
  ·rw[h];exact .inl rfl
  ·exact .inr ⟨b,o,ha,ZgZ t.subs o eT⟩
 apply ZgP
 intro b b1
 refine⟨_,Zof t.a t.c t.subs m pK (by omega),(λv _ _ ⟨a,c,e,_⟩=>by rw[e];rfl),?_⟩
 rintro a n c m1 aE ⟨a',c',hv,aB,gK,bB⟩
 simp only[Value.slice.injEq]at hv
 obtain⟨rfl,rfl,rfl⟩:=hv
 refine⟨λxs css tvs m' q=>∃(k:Nat)(L:List E)(mb:Mem),k<=t.subs.length/\xs=[.int .i64 k]/\q=t.subs.length - k/\L.length=k/\L.map E.er=(t.subs.take k).map E.er/\m.le mb/\mb.le m'/\(t.subs.length=0\/∃b,a=some ⟨b,0,none⟩/\mb.free b)/\(∀x∈L,RepE mb x/\NewE m x)/\(t.subs.length=0\/∃b,a=some ⟨b,0,none⟩/\m.free b)/\rowRd m' a ((L++t.subs.drop k).map E.cs).flatten,⟨_,0,[],m,by omega,rfl,rfl,rfl,rfl,Mem.le_refl _,aE,bB,by simp,bB,aB⟩,?_⟩
 rintro z m2 q _ ⟨k,L,mb,hk,cK,hq,jh,mu,eS,iN,eI,kQ,bK,dH⟩
 obtain rfl:z=k:=by simpa using cK
 refine Zab (λaC=>?_) (λbL=>?_)
 ·have aI:k < t.subs.length:=by have:=zA6 aC;omega
  obtain⟨x,hx⟩:=Zaq aI
  have dJ:=aO x (zA2 hx)
  have li:x.nodes.length<=10000:=by
   have:=congrArg List.length (Zcd hx)
   rw[Zbg,List.length_cons]at hz
   simp only[zA1]at this
   omega
  have ir:t.subs.drop k=x::t.subs.drop (k+1):=by
   rw[List.drop_eq_getElem_cons aI,(zA0 hx).2]
  rcases eI with eI|⟨bk,rfl,dV⟩
  ·omega
  obtain⟨b0,o0,j6,cG⟩:=Zai E.len dH (k:=k) (t:=x) (by rw[zA4 (by omega),jh,Nat.sub_self,ir];rfl) (by omega)
  cases j6
  have hw:IntKind.i64.wrap ((k:Int)+1)=((k+1:Nat):Int):=by rw[Zak (by omega) (by omega)];rfl
  simp only[hw,zA8]
  have gn:CX Tryz.prog 131 #[x.v,.func (.func 132) #[] #[]] m2 [] (EF mb m2 λt'=>t'.er=x.er/\NewE mb t'):=(ZkL x mb (RepE.mono eS x dJ) li).frame2 iN
  refine⟨bk,0,rfl,⟨by omega,by omega⟩,_,_,_,_,_,cG,λb3=>Zaa rfl ⟨λ_ _ _=>EF mb m2 λt'=>t'.er=x.er/\NewE mb t',EF mb m2 λt'=>t'.er=x.er/\NewE mb t',rfl,gn,Zq5,ZAT λt' m0 m3 aQ h0 dQ cY hr' ht'=>⟨bk,0,rfl,⟨by omega,by omega⟩,λM fy fw=>Zaa rfl ⟨rfl,by omega,trivial,trivial,t.subs.length - (k+1),by omega,k+1,L++[t'],m0,by omega,rfl,rfl,by simp[jh],?_,mLt eS h0,?_,.inr ⟨bk,rfl,?_⟩,?_,bK,?_⟩⟩⟩⟩
  ·rw[List.map_append,mu,Zqf hx,List.map_append]
   simp[ht'.1]
  ·refine Mem.le_upd (mLt dQ fw) ?_ _ _
   intro o'
   have hc:m2 bk (0+k*5+0)=some (.int .u8 x.k):=cG 0 _ rfl
   rw[cY _ _ _ hc o'];exact dV o'
  ·intro o'
   have hc:m2 bk (0+k*5+0)=some (.int .u8 x.k):=cG 0 _ rfl
   rw[cY _ _ _ hc o'];exact dV o'
  ·intro y hy
   rcases List.mem_append.1 hy with hy|hy
   ·exact⟨RepE.mono h0 y (kQ y hy).1,(kQ y hy).2⟩
   ·simp at hy;subst hy;exact⟨hr',ht'.2.less eS⟩
  ·rw[ir]at dH
   have h5:=ZsR (t:=t') (dH.mono fy)
   rw[jh]at h5
   rw[List.append_assoc]
   exact h5
 ·have dF:k=t.subs.length:=by have:=of_decide_eq_false bL;omega
  subst dF
  rw[List.drop_length,List.append_nil]at dH
  rw[List.take_length]at mu
  have cN:=ZtD hr
  have hv:Value.agg #[.int .u8 t.k,.float .f64 t.x,.string t.s,.int .i64 t.g,.slice a t.subs.length c]=(E.node t.k t.x t.s t.g a c L).v:=by
   simp only[E.v,E.k,E.x,E.s,E.g,E.a,E.c,E.subs,jh]
  have gn:=Zvq (.node t.k t.x t.s t.g a c L) m2
  rw[<-hv]at gn
  refine⟨_,trivial,gn,(λv _ _ h=>by rw[h];rfl),?_⟩
  intro n5 v5 s5 g5 a5 k5 c5 m3 aQ fN
  simp only[Value.agg.injEq,Array.mk.injEq,List.cons.injEq,Value.int.injEq,Value.string.injEq,Value.slice.injEq,true_and,and_true]at fN
  obtain⟨rfl,rfl,rfl,rfl,rfl,rfl,rfl⟩:=fN
  refine Zaa rfl ⟨m3,mLt eS (mLt iN aQ),Mem.le_refl _,.node t.k t.x t.s t.g a5 c5 L,hv,?_,?_,?_⟩
  ·exact Zq6 (dH.mono aQ) (λx hx=>RepE.mono (mLt iN aQ) x (kQ x hx).1) (by omega) cN
  ·cases t
   simp only[E.er,E.k,E.x,E.s,E.g,E.subs,Zmc]at mu ⊢
   rw[mu]
  ·exact ZsS (bK.imp (λh=>List.eq_nil_of_length_eq_zero (by omega)) id) λx hx=>(kQ x hx).2
termination_by SizeOf.sizeOf t
decreasing_by exact ZgF (zA2 hx)
theorem ZAw(i:Nat):Int.tdiv (i:Int) 64=((i / 64:Nat):Int):=rfl
theorem ZzZ(i:Nat):Int.tmod (i:Int) 64=((i % 64:Nat):Int):=rfl
theorem ZAx{n:Int}(h1:0<=n)(h2:n < 256):IntKind.u8.wrap n=n:=by
 unfold IntKind.wrap
 simp only[IntKind.bits,IntKind.signed,Bool.false_and,Bool.false_eq_true,if_false]
 have e:(2:Int) ^ 8=256:=by decide
 rw[e];omega
theorem Zvr(t:T)(m:Mem)(hr:Rep m t):CX Tryz.prog 125 #[t.v] m [] (Zno (λu=>∃a c,u=ZbR 6 0 0 a c [t])):=by
 apply ZhU
 intro b m1 aE _ b1 b2 hf
 have bU:=Mem.le_add hf t.cs
 refine ZaH (mLt aE bU) ⟨ZbR 6 0 0 (some ⟨b2,0,none⟩) 1 [t],rfl,ZfD (Zqg ?_ (hr.mono (mLt aE bU))) (by omega) (by omega) (by omega),_,_,rfl⟩
 intro j v hj
 rw[Nat.zero_add,Mem.add_same];exact hj
theorem ZxA(t:T)(mn mx:Int)(h1 : -9223372036854775808<=mn/\mn<=9223372036854775807)(h2 : -9223372036854775808<=mx/\mx<=9223372036854775807)(m:Mem)(hr:Rep m t):CX Tryz.prog 126 #[t.v,.int .i64 mn,.int .i64 mx] m [] (Zno (λu=>∃a c,u=ZbR 5 mn mx a c [t])):=by
 apply ZlE
 intro b m1 aE _ b1 b2 hf
 have bU:=Mem.le_add hf t.cs
 refine ZaH (mLt aE bU) ⟨ZbR 5 mn mx (some ⟨b2,0,none⟩) 1 [t],rfl,ZfD (Zqg ?_ (hr.mono (mLt aE bU))) (by omega) h1 h2,_,_,rfl⟩
 intro j v hj
 rw[Nat.zero_add,Mem.add_same];exact hj
def Zd8(s:ByteArray):List Nat:=s.data.toList.map λb=>b.toNat
theorem ZpD(s:ByteArray):(Zd8 s).length=s.size:=by unfold Zd8;rw[List.length_map,Array.length_toList];rfl
theorem ZsT(s:ByteArray):∀c∈Zd8 s,c < 256:=by
 intro c hc
 unfold Zd8 at hc
 obtain⟨b,_,rfl⟩:=List.mem_map.1 hc
 exact b.toBitVec.isLt
theorem Zvs{s:ByteArray}{k c:Nat}(h:(Zd8 s)[k]?=some c):ZvR s k=(c:Int):=by
 unfold Zd8 at h
 rw[List.getElem?_map]at h
 obtain⟨b,hb,rfl⟩:=Option.map_eq_some_iff.1 h
 unfold ZvR
 rw[List.getD_eq_getElem?_getD,hb];rfl
theorem Zoh(s:ByteArray)(hs:(Zd8 s).length<=100000)(m:Mem):CX Tryz.prog 122 #[.string s] m [] (Zno (λt=>t=Zi3 (Zd8 s))):=by
 apply ZhV
 intro b b1
 have aH:=ZpD s
 refine⟨λxs css tvs m' q=>∃k:Nat,k<=s.size/\xs=[.int .i64 k]/\css=[ZtC ((Zd8 s).take k)]/\q=s.size - k,⟨_,0,by omega,rfl,rfl,rfl⟩,?_⟩
 rintro n cs m1 q aE ⟨k,hk,hn,bN,hq⟩
 obtain rfl:n=k:=by simpa using hn
 obtain rfl:cs=ZtC ((Zd8 s).take k):=by simpa using bN
 refine Zab (λaC=>?_) (λbL=>?_)
 ·have aI:k < s.size:=by have:=zA6 aC;omega
  obtain⟨c,hc⟩:=Zaq (l:=Zd8 s) (k:=k) (by omega)
  have pL:=ZsT s c (zA2 hc)
  have hw:IntKind.i64.wrap ((k:Int)+1)=((k+1:Nat):Int):=by rw[Zak (by omega) (by omega)];rfl
  have sW:IntKind.u8.wrap (Int.tdiv (c:Int) 64)=((c / 64:Nat):Int):=by rw[ZAw];exact ZAx (by omega) (by omega)
  have hr:IntKind.u64.wrap (1*2 ^ min (Int.toNat (Int.tmod (c:Int) 64)) 64)=((2 ^ (c % 64):Nat):Int):=by
   rw[ZzZ,zA8,Nat.min_eq_left (by omega),Int.one_mul]
   have:=ZzJ (2 ^ (c % 64)) (by
    have:2 ^ (c % 64) < 2 ^ 64:=Nat.pow_lt_pow_right (by omega) (by omega)
    exact this)
   rw[<-this];push_cast;rfl
  have h2:(2:Nat) ^ (c % 64) < 18446744073709551616:=by
   have:(2:Nat) ^ (c % 64) < 2 ^ 64:=Nat.pow_lt_pow_right (by omega) (by omega)
   exact this
  have hj:c / 64 < 4:=by omega
  simp only[hw,zA8,Zvs hc,sW,hr,Nat.zero_add,Nat.mul_one]
  refine⟨⟨by omega,by omega⟩,by omega,⟨by omega,by omega⟩,Zal (Zr4 _ hj) ⟨⟨by omega,by omega⟩,by omega,by rw[ZzZ];omega,Zaa rfl ⟨⟨by omega,by omega⟩,Zaa (by rw[Nat.ble_eq];show c / 64+1<=4;omega) ⟨by trivial,s.size - (k+1),by omega,k+1,by omega,rfl,?_,rfl⟩⟩⟩⟩
  simp only[RowKit.intOf]
  rw[ZuH _ _ (ZtB _ _) h2,Zpj _ rfl hj,Zqf hc]
 ·have:k=s.size:=by have:=of_decide_eq_false bL;omega
  subst this
  rw[<-aH,List.take_length]
  exact Zaa rfl (Zaa rfl (Zaf aE ⟨Zi3 (Zd8 s),rfl,Znp _ m,rfl⟩))
theorem ZpE(n:Nat)(hn:n < 256)(m:Mem):CX Tryz.prog 123 #[.int .u8 n] m [] (λv _ _=>∃s,v=.string s/\Zd8 s=Zdb n):=by
 apply Zf2
 intro b hf
 have ht:Int.tmod (n:Int) 12=((n % 12:Nat):Int):=rfl
 simp only[ht,zA8,Nat.mul_one]
 refine⟨by omega,⟨by omega,by omega⟩,?_⟩
 have h:n % 12=0\/n % 12=1\/n % 12=2\/n % 12=3\/n % 12=4\/n % 12=5\/n % 12=6\/n % 12=7\/n % 12=8\/n % 12=9\/n % 12=10\/n % 12=11:=by omega
 unfold Zdb
 rcases h with e|e|e|e|e|e|e|e|e|e|e|e <;>
 ·rw[e]
  refine Zal rfl ?_
  exact⟨_,Mem.le_add hf _,Mem.le_refl _,_,rfl,rfl⟩
theorem Zev(k:Int)(t:T):Za0 k t=if t.k=k then t.subs else if k=3/\t.k=1 then[]else[t]:=rfl
theorem Zdz(l:List T):∀u∈Rx.Zcg l,u.oneCell'=true:=by
 intro u hu
 simp only[Rx.Zcg,List.mem_flatten,List.mem_map]at hu
 obtain⟨_,⟨t,_,rfl⟩,h⟩:=hu
 simp only[T.cs,List.mem_cons,List.not_mem_nil,or_false,T.sl]at h
 rcases h with rfl|rfl|rfl|rfl|rfl|rfl|rfl|rfl <;> rfl
theorem Zmo(k:Int)(t u:T)(hk:k=3\/k=4)(m:Mem)(hr:Rep m t)(hu:Rep m u)(ht:(Za0 k t).length<=10000)(xc:(Za0 k u).length<=10000):CX Tryz.prog 124 #[.int .u8 k,t.v,u.v] m [] (Zno (λr=>∃a c,r=Ze2 k a c (Za0 k t++Za0 k u))):=by
 apply ZhW
 intro b m1 aE _ b1 m2 aK _ b2 b3 gA
 have jS:=mLt aE aK
 have fY:m.le (m2.add b3 (t.cs++u.cs)):=mLt jS (Mem.le_add gA _)
 refine⟨λxs css tvs m' q=>∃(i:Nat)(l:List T)(a:Option Addr)(c:Nat),i<=2/\xs=[.slice a l.length c,.int .i64 i]/\tvs=[.slice a l.length c]/\l=(([t,u].take i).map (Za0 k)).flatten/\rowRd m' a (Rx.Zcg l)/\q=2 - i,⟨2,0,[],none,0,by omega,rfl,rfl,rfl,.inl rfl,rfl⟩,?_⟩
 rintro a n c z a1 n1 c1 m3 q aQ ⟨i,l,a',c',hi,cK,cH,hl,aB,hq⟩
 simp only[List.cons.injEq,Value.slice.injEq,Value.int.injEq,true_and,and_true]at cK cH
 obtain⟨⟨rfl,rfl,rfl⟩,rfl⟩:=cK
 obtain⟨rfl,rfl,rfl⟩:=cH
 have gS:=mLt fY aQ
 have gx:l.length<=20000:=by
  rw[hl]
  have:i=0\/i=1\/i=2:=by omega
  rcases this with rfl|rfl|rfl <;> simp <;> omega
 refine Zab (λaC=>?_) (λbL=>?_)
 ·have h2:i=0\/i=1:=by have:=zA6 aC;omega
  rcases h2 with rfl|rfl
  ·
   refine⟨⟨by omega,by omega⟩,Zaa rfl λb4=>Zaa rfl (Zal (v:=.int .u8 t.k) rfl (Zaa rfl (Zab (λdF=>Zal (v:=t.sl) rfl (Zaa rfl ?_)) (λdF=>?_))))⟩
   ·have fQ:t.k=k:=by simpa[RowKit.intOf]using dF
    have hj:Za0 k t=t.subs:=by rw[Zev,if_pos fQ]
    have aH:=ht
    rw[hj]at aH
    refine⟨.inl rfl,Rx.Zcg l,Rx.Zcg t.subs,Zar _,Zar _,aB,(ZdY (hr.subs)).mono gS,Zdz _,?_,?_,λa2 c2 m4 bZ dE=>⟨by trivial,1,by omega,1,l++t.subs,a2,c2,by omega,?_,?_,?_,?_,?_⟩⟩
    ·simp only[T.sl,slN];omega
    ·simp only[T.sl,slN];omega
    ·rw[zA1];rfl
    ·rw[zA1];rfl
    ·rw[hl,<-hj];simp
    ·rw[ZaS];exact dE
    ·omega
   ·have fQ:¬t.k=k:=by simpa[RowKit.intOf]using dF
    refine⟨k == 3&&t.k == 1,Zab (λh=>Zal (v:=.int .u8 t.k) rfl (Zaa rfl ⟨by trivial,by trivial,?_⟩)) (λh=>⟨by trivial,by trivial,?_⟩),Zab (λh=>⟨by trivial,1,by omega,1,l,_,_,by omega,rfl,rfl,?_,aB,by omega⟩) (λh=>Zaa rfl λb6 gR=>?_)⟩
    ·rw[h];rfl
    ·rw[h];rfl
    ·have:k=3/\t.k=1:=by simpa using h
     have hj:Za0 k t=[]:=by rw[Zev,if_neg fQ,if_pos this]
     rw[hl];simp[hj]
    ·have:¬(k=3/\t.k=1):=by simpa using h
     have hj:Za0 k t=[t]:=by rw[Zev,if_neg fQ,if_neg this]
     have fX:=Mem.le_add gR t.cs
     refine⟨.inl rfl,Rx.Zcg l,t.cs,Zar _,rfl,aB.mono fX,.inr ⟨b6,0,rfl,λj v hj=>by rw[Nat.zero_add,Mem.add_same];exact hj⟩,by rw[<-Zbh];exact Zdz _,by omega,by omega,λa2 c2 m4 bZ dE=>⟨by trivial,1,by omega,1,l++[t],a2,c2,by omega,?_,?_,?_,?_,?_⟩⟩
     ·rw[zA1];rfl
     ·rw[zA1];rfl
     ·rw[hl];simp[hj]
     ·rw[ZaS,Zbh];exact dE
     ·omega
  ·
   refine⟨⟨by omega,by omega⟩,Zaa rfl λb4=>Zaa rfl (Zal (v:=.int .u8 u.k) rfl (Zaa rfl (Zab (λdF=>Zal (v:=u.sl) rfl (Zaa rfl ?_)) (λdF=>?_))))⟩
   ·have fQ:u.k=k:=by simpa[RowKit.intOf]using dF
    have hj:Za0 k u=u.subs:=by rw[Zev,if_pos fQ]
    have aH:=xc
    rw[hj]at aH
    refine⟨.inl rfl,Rx.Zcg l,Rx.Zcg u.subs,Zar _,Zar _,aB,(ZdY (hu.subs)).mono gS,Zdz _,?_,?_,λa2 c2 m4 bZ dE=>⟨by trivial,0,by omega,2,l++u.subs,a2,c2,by omega,?_,?_,?_,?_,?_⟩⟩
    ·simp only[T.sl,slN];omega
    ·simp only[T.sl,slN];omega
    ·rw[zA1];rfl
    ·rw[zA1];rfl
    ·rw[hl,<-hj];simp
    ·rw[ZaS];exact dE
    ·omega
   ·have fQ:¬u.k=k:=by simpa[RowKit.intOf]using dF
    refine⟨k == 3&&u.k == 1,Zab (λh=>Zal (v:=.int .u8 u.k) rfl (Zaa rfl ⟨by trivial,by trivial,?_⟩)) (λh=>⟨by trivial,by trivial,?_⟩),Zab (λh=>⟨by trivial,0,by omega,2,l,_,_,by omega,rfl,rfl,?_,aB,by omega⟩) (λh=>Zaa rfl λb6 gR=>?_)⟩
    ·rw[h];rfl
    ·rw[h];rfl
    ·have:k=3/\u.k=1:=by simpa using h
     have hj:Za0 k u=[]:=by rw[Zev,if_neg fQ,if_pos this]
     rw[hl];simp[hj]
    ·have:¬(k=3/\u.k=1):=by simpa using h
     have hj:Za0 k u=[u]:=by rw[Zev,if_neg fQ,if_neg this]
     have fX:=Mem.le_add gR u.cs
     refine⟨.inl rfl,Rx.Zcg l,u.cs,Zar _,rfl,aB.mono fX,.inr ⟨b6,0,rfl,λj v hj=>by rw[Nat.zero_add,Mem.add_same];exact hj⟩,by rw[<-Zbh];exact Zdz _,by omega,by omega,λa2 c2 m4 bZ dE=>⟨by trivial,0,by omega,2,l++[u],a2,c2,by omega,?_,?_,?_,?_,?_⟩⟩
     ·rw[zA1];rfl
     ·rw[zA1];rfl
     ·rw[hl];simp[hj]
     ·rw[ZaS,Zbh];exact dE
     ·omega
 ·have:i=2:=by have:=of_decide_eq_false bL;omega
  subst this
  have hl':Za0 k t++Za0 k u=l:=by rw[hl];simp
  rw[hl']
  have aO:∀x∈l,Rep m3 x:=by
   have key:∀t:T,Rep m t->∀x∈Za0 k t,Rep m3 x:=by
    intro t hr x hx
    rw[Zev]at hx
    split at hx
    ·exact Zi2 (hr.subs.mono gS) x hx
    ·split at hx
     ·simp at hx
     ·simp at hx;subst hx;exact hr.mono gS
   rw[<-hl']
   intro x hx
   rcases List.mem_append.1 hx with hx|hx
   ·exact key t hr x hx
   ·exact key u hu x hx
  refine Zab (λh0=>?_) (λh0=>Zab (λh1=>?_) (λh1=>?_))
  ·have:l=[]:=by simpa using h0
   subst this
   exact Zaf gS ⟨T1,rfl,ZwJ _,none,0,rfl⟩
  ·have sR:l.length=1:=by
    have:((l.length:Int) == 1)=true:=h1
    have:=zA6 this;omega
   obtain⟨x,rfl⟩:∃x,l=[x]:=by
    match l,sR with
    | [x],_=>exact⟨x,rfl⟩
   rcases aB with aB|⟨b6,o,ha,cG⟩
   ·simp[Rx.Zcg,T.cs]at aB
   ·rw[Zbh]at cG
    exact⟨b6,o,ha,⟨by omega,by simp⟩,_,_,_,_,_,_,_,_,cG,Zaa rfl (ZaH gS ⟨x,rfl,aO x (by simp),none,0,rfl⟩)⟩
  ·have xd:¬l.length=0:=λe=>by rw[e]at h0;simp at h0
   have ij:¬l.length=1:=λe=>by rw[e]at h1;simp at h1
   obtain⟨x,y,r,rfl⟩:∃x y r,l=x::y::r:=by
    match l,xd,ij with
    | [],h,_=>simp at h
    | [x],_,h=>simp at h
    | x::y::r,_,_=>exact⟨x,y,r,rfl⟩
   refine ZaH gS ⟨ZbR k 0 0 _ _ (x::y::r),rfl,ZfD (ZtA aB aO (by omega)) (by omega) (by omega) (by omega),_,_,rfl⟩
structure Sm (m:Mem)(a:Option Addr)(l:List (Nat×Nat×Nat)):Prop where
 len:l.length<=9223372036854775807
 byte:∀s∈l,s.1 < 256/\s.2.1 < 256/\s.2.2 < 256
 at':∀i s,l[i]?=some s->∃b o,a=some ⟨b,o,none⟩/\m.reads b (o+i*3) [.int .u8 s.1,.int .u8 s.2.1,.int .u8 s.2.2]
theorem Sm.mono{m m':Mem}{a l}(h:Sm m a l)(hm:m.le m'):Sm m' a l:=
 ⟨h.len,h.byte,λi s hi=>by obtain⟨b,o,h1,h2⟩:=h.at' i s hi;exact⟨b,o,h1,h2.mono hm⟩⟩
theorem Zoi(n:Nat):(([[97],[98],[97,98],[97],[98],[99],[97,98,99],[98,99],[10],[0,255],[97],[98]][n % 12]?).getD []:List Nat).length<=100000:=by
 have h:n % 12=0\/n % 12=1\/n % 12=2\/n % 12=3\/n % 12=4\/n % 12=5\/n % 12=6\/n % 12=7\/n % 12=8\/n % 12=9\/n % 12=10\/n % 12=11:=by omega
 rcases h with e|e|e|e|e|e|e|e|e|e|e|e <;> rw[e] <;> decide
theorem ZxB:∀L < 3,∀Mo < 4,((Mo < L\/Mo=0\/(L=1/\Mo=1))->Zr1 (L:Nat) (-1)=true/\ZyV (L:Nat) (-1)<=((max 1 L:Nat):Int))/\(¬(Mo < L\/Mo=0\/(L=1/\Mo=1))->Zr1 (L:Nat) (Mo:Nat)=true/\ZyV (L:Nat) (Mo:Nat)<=((max 1 (max L Mo):Nat):Int)):=by
 intro L hL Mo hM
 have h1:L=0\/L=1\/L=2:=by omega
 have h2:Mo=0\/Mo=1\/Mo=2\/Mo=3:=by omega
 rcases h1 with rfl|rfl|rfl <;> rcases h2 with rfl|rfl|rfl|rfl <;> exact⟨λ_=>by first|exact⟨by decide,by decide⟩|omega,λ_=>by first|exact⟨by decide,by decide⟩|omega⟩
theorem ZsU(l:List (Nat×Nat×Nat))(a:Option Addr)(c:Nat)(m:Mem)(hl:Sm m a l)(hc:l.length<=c):CX Tryz.prog 84 #[.slice a l.length c] m [] (Zno (λt=>t.check=0/\t.nodes.length<=26)):=by
 apply ZjD
 have aH:=hl.len
 intro b
 have hN:(if(25:Int) < (l.length:Int)then(25:Int)else(l.length:Int))=((min 25 l.length:Nat):Int):=by split <;> omega
 simp only[hN,zA8,Nat.sub_zero]
 generalize qT:min 25 l.length=N
 refine⟨⟨by omega,by omega⟩,λxs css tvs m' q=>∃(i:Nat)(ts:List T)(a:Option Addr)(c:Nat)(u g:Nat)(mb:Mem),i<=N/\xs=[.slice a ts.length c,.int .i64 u,.int .i64 g,.int .i64 i]/\tvs=[.slice a ts.length c]/\ts.length<=c/\m.le mb/\mb.le m'/\Apart mb a/\rowRd m' a (Rx.Zcg ts)/\(∀t∈ts,Rep mb t)/\J i ts u g/\q=N - i,⟨N,0,[],none,0,1,0,m,by omega,rfl,rfl,by simp,Mem.le_refl _,Mem.le_refl _,.inl rfl,.inl rfl,by simp,J.zero,by omega⟩,?_⟩
 rintro a1 n1 c1 z1 z2 z3 a2 n2 c2 m1 q _ ⟨i,ts,a',c',u,g,mb,hi,cK,cH,cS,eS,dD,dY,aB,aO,hJ,hq⟩
 simp only[List.cons.injEq,Value.slice.injEq,Value.int.injEq,true_and,and_true]at cK cH
 obtain⟨⟨rfl,rfl,rfl⟩,rfl,rfl,rfl⟩:=cK
 obtain⟨rfl,rfl,rfl⟩:=cH
 have hO:ts.length<=25:=by have:=hJ.sz;have:=ZnA ts;omega
 refine Zab (λaC=>?_) (λbL=>?_)
 ·have qU:i < N:=by have:=zA6 aC;omega
  have hi':i < l.length:=by omega
  obtain⟨s,hs⟩:=Zaq hi'
  obtain⟨bs,os,ha,cG⟩:=(hl.mono (mLt eS dD)).at' i s hs
  obtain⟨s1,s2,s3⟩:=s
  obtain⟨pF,js,lZ⟩:=hl.byte _ (zA2 hs)
  have hw:IntKind.i64.wrap ((i:Int)+1)=((i+1:Nat):Int):=by rw[Zak (by omega) (by omega)];rfl
  have nG:Int.tmod (RowKit.intOf (Value.int .u8 (s1:Nat))) 12=((s1 % 12:Nat):Int):=rfl
  simp only[hw,zA8]
  refine⟨bs,os,ha,⟨by omega,by omega⟩,_,_,_,cG,λb2=>Zaa rfl (Zaa rfl ⟨by omega,?_⟩)⟩
  simp only[nG]
  refine Zab (λh1=>?_) (λh1=>Zab (λh2=>?_) (λh2=>?_))
  ·refine Zan (ZpE s2 js m1) (λv _ _ ⟨s,e,_⟩=>by rw[e];rfl) ?_
   rintro str m2 aK ⟨s',hv,hb⟩
   cases hv
   refine Zan (Zoh str (by rw[hb];unfold Zdb;exact Zoi _) m2) Ze1 (Zpi λt m3 aQ hr ht b3 gA=>?_)
   rw[hb]at ht
   have fY:=mLt aK (mLt aQ (Mem.le_add gA t.cs))
   obtain⟨k1,k2,k3,k4⟩:=Zqp s2
   refine⟨.inl trivial,Rx.Zcg ts,t.cs,Zar _,rfl,aB.mono (fY),.inr ⟨b3,0,rfl,λj v hj=>by rw[Nat.zero_add,Mem.add_same];exact hj⟩,by rw[<-Zbh];exact Zdz _,by omega,by omega,λa4 c4 m4 bZ dE aR=>⟨by trivial,N - (i+1),by omega,i+1,ts++[t],a4,c4,u,g,mb,by omega,?_,?_,by have:=aR.1;rw[zA1];exact this,eS,mLt dD (mLt (fY) bZ),dY.tok (mLt dD (fY)) aR,?_,?_,?_,by omega⟩⟩
   ·rw[zA1];rfl
   ·rw[zA1];rfl
   ·rw[ZaS,Zbh];exact dE
   ·intro x hx
    rcases List.mem_append.1 hx with hx|hx
    ·exact aO x hx
    ·simp at hx;subst hx;exact(by rw[ht];exact Znp _ _)
   ·rw[ht];exact hJ.push k1 k2 k3 k4
  ·intro b3 gA
   have fY:=Mem.le_add gA T1.cs
   refine⟨.inl trivial,Rx.Zcg ts,T1.cs,Zar _,rfl,aB.mono (fY),.inr ⟨b3,0,rfl,λj v hj=>by rw[Nat.zero_add,Mem.add_same];exact hj⟩,by rw[<-Zbh];exact Zdz _,by omega,by omega,λa4 c4 m4 bZ dE aR=>⟨by trivial,N - (i+1),by omega,i+1,ts++[T1],a4,c4,u,g,mb,by omega,?_,?_,by have:=aR.1;rw[zA1];exact this,eS,mLt dD (mLt (fY) bZ),dY.tok (mLt dD (fY)) aR,?_,?_,?_,by omega⟩⟩
   ·rw[zA1];rfl
   ·rw[zA1];rfl
   ·rw[ZaS,Zbh];exact dE
   ·intro x hx
    rcases List.mem_append.1 hx with hx|hx
    ·exact aO x hx
    ·simp at hx;subst hx;exact ZwJ _
   ·exact hJ.push ZwL.1 ZwL.2.1 ZwL.2.2.1 ZwL.2.2.2
  ·refine⟨decide (s1 % 12 < 7)&&decide (1 < ts.length),Zab (λh3=>⟨by trivial,by trivial,?_⟩) (λh3=>⟨by trivial,by trivial,?_⟩),Zab (λh3=>?_) (λh3=>?_)⟩
   ·refine Zap ?_
    rw[Bool.eq_iff_iff];simp;have:=zA6 h3;omega
   ·refine Zap ?_
    rw[eq_comm,Bool.and_eq_false_iff];left;have:=of_decide_eq_false h3;exact decide_eq_false (by omega)
   ·skip
    obtain⟨r,x,y,rfl⟩:=ZzX (ts:=ts) (by simp at h3;omega)
    have fB:(r++[x,y]).length=r.length+2:=by simp
    have gv:IntKind.i64.wrap (((r++[x,y]).length:Int) - 2)=(r.length:Int):=by rw[fB,Zak (by omega) (by omega)];omega
    have gM:IntKind.i64.wrap (((r++[x,y]).length:Int) - 1)=((r.length+1:Nat):Int):=by rw[fB,Zak (by omega) (by omega)];omega
    simp only[gv,gM,zA8,Nat.sub_zero]
    obtain⟨bb,iJ,fW,o',u',hu'⟩:=dY.base aB (by simp)
    obtain⟨bx,ox,iK,ie⟩:=Zdq aB (i:=r.length) (t:=x) (by simp)
    obtain⟨by',oy,pH,pI⟩:=Zdq aB (i:=r.length+1) (t:=y) (by simp)
    have sZ:(Za0 3 x).length<=10000:=by
     have:=hJ.sz
     rw[ZaE,show szL [x,y]=szL ([x]++[y]) from rfl,ZaE,Zbb,Zbb]at this
     have:=Zd1 (k:=3) (t:=x)
     omega
    have s4:(Za0 3 y).length<=10000:=by
     have:=hJ.sz
     rw[ZaE,show szL [x,y]=szL ([x]++[y]) from rfl,ZaE,Zbb,Zbb]at this
     have:=Zd1 (k:=3) (t:=y)
     omega
    refine⟨λ_ _ _=>ZoN mb m1 (λr=>∃a c,r=Ze2 3 a c (Za0 3 x++Za0 3 y)),⟨by omega,by omega⟩,⟨by omega,by omega⟩,bx,ox,iK,⟨by omega,by omega⟩,_,_,_,_,_,_,_,_,ie,by',oy,pH,⟨by omega,by omega⟩,_,_,_,_,_,_,_,_,pI,ZoN mb m1 (λr=>∃a c,r=Ze2 3 a c (Za0 3 x++Za0 3 y)),rfl,(Zmo 3 x y (by omega) mb (aO x (by simp)) (aO y (by simp)) sZ s4).frame2 dD,Zc9,Zit λt m0 m3 aQ h0 gI bK fC ht b6 gR=>?_⟩
    obtain⟨at',ct,ht⟩:=ht
    have fX:=Mem.le_add gR t.cs
    have eP:Apart m0 _:=.inr ⟨bb,iJ,λo=>by rw[bK bb o' u' hu' o];exact fW o⟩
    refine⟨.inr (.inr (by omega)),Rx.Zcg r,t.cs,Zar _,rfl,((ZqZ aB).mono aQ).mono fX,.inr ⟨b6,0,rfl,λj v hj=>by rw[Nat.zero_add,Mem.add_same];exact hj⟩,by rw[<-Zbh];exact Zdz _,by omega,by omega,λa4 c4 m4 bZ dE aR M gm fy fw gJ=>⟨by trivial,N - (i+1),by omega,i+1,r++[t],a4,c4,u,g,m0,by omega,?_,?_,by have:=aR.1;rw[zA1];exact this,mLt eS h0,mLt gI fy,eP.tok (mLt gI fX) aR,?_,?_,?_,by omega⟩⟩
    ·rw[zA1];rfl
    ·rw[zA1];rfl
    ·rw[ZaS,Zbh];exact dE.mono gJ
    ·intro z hz
     rcases List.mem_append.1 hz with hz|hz
     ·exact(aO z (by simp[hz])).mono h0
     ·simp at hz;subst hz;exact fC
    ·rw[ht];exact hJ.join (by omega) (by omega) _ _
   ·refine⟨decide (s1 % 12 < 9)&&decide (1 < ts.length),Zab (λh4=>⟨by trivial,by trivial,?_⟩) (λh4=>⟨by trivial,by trivial,?_⟩),Zab (λh4=>?_) (λh4=>?_)⟩
    ·refine Zap ?_
     rw[Bool.eq_iff_iff];simp;have:=zA6 h4;omega
    ·refine Zap ?_
     rw[eq_comm,Bool.and_eq_false_iff];left;have:=of_decide_eq_false h4;exact decide_eq_false (by omega)
    ·skip
     obtain⟨r,x,y,rfl⟩:=ZzX (ts:=ts) (by simp at h4;omega)
     have fB:(r++[x,y]).length=r.length+2:=by simp
     have gv:IntKind.i64.wrap (((r++[x,y]).length:Int) - 2)=(r.length:Int):=by rw[fB,Zak (by omega) (by omega)];omega
     have gM:IntKind.i64.wrap (((r++[x,y]).length:Int) - 1)=((r.length+1:Nat):Int):=by rw[fB,Zak (by omega) (by omega)];omega
     simp only[gv,gM,zA8,Nat.sub_zero]
     obtain⟨bb,iJ,fW,o',u',hu'⟩:=dY.base aB (by simp)
     obtain⟨bx,ox,iK,ie⟩:=Zdq aB (i:=r.length) (t:=x) (by simp)
     obtain⟨by',oy,pH,pI⟩:=Zdq aB (i:=r.length+1) (t:=y) (by simp)
     have sZ:(Za0 4 x).length<=10000:=by
      have:=hJ.sz
      rw[ZaE,show szL [x,y]=szL ([x]++[y]) from rfl,ZaE,Zbb,Zbb]at this
      have:=Zd1 (k:=4) (t:=x)
      omega
     have s4:(Za0 4 y).length<=10000:=by
      have:=hJ.sz
      rw[ZaE,show szL [x,y]=szL ([x]++[y]) from rfl,ZaE,Zbb,Zbb]at this
      have:=Zd1 (k:=4) (t:=y)
      omega
     refine⟨λ_ _ _=>ZoN mb m1 (λr=>∃a c,r=Ze2 4 a c (Za0 4 x++Za0 4 y)),⟨by omega,by omega⟩,⟨by omega,by omega⟩,bx,ox,iK,⟨by omega,by omega⟩,_,_,_,_,_,_,_,_,ie,by',oy,pH,⟨by omega,by omega⟩,_,_,_,_,_,_,_,_,pI,ZoN mb m1 (λr=>∃a c,r=Ze2 4 a c (Za0 4 x++Za0 4 y)),rfl,(Zmo 4 x y (by omega) mb (aO x (by simp)) (aO y (by simp)) sZ s4).frame2 dD,Zc9,Zit λt m0 m3 aQ h0 gI bK fC ht b6 gR=>?_⟩
     obtain⟨at',ct,ht⟩:=ht
     have fX:=Mem.le_add gR t.cs
     have eP:Apart m0 _:=.inr ⟨bb,iJ,λo=>by rw[bK bb o' u' hu' o];exact fW o⟩
     refine⟨.inr (.inr (by omega)),Rx.Zcg r,t.cs,Zar _,rfl,((ZqZ aB).mono aQ).mono fX,.inr ⟨b6,0,rfl,λj v hj=>by rw[Nat.zero_add,Mem.add_same];exact hj⟩,by rw[<-Zbh];exact Zdz _,by omega,by omega,λa4 c4 m4 bZ dE aR M gm fy fw gJ=>⟨by trivial,N - (i+1),by omega,i+1,r++[t],a4,c4,u,g,m0,by omega,?_,?_,by have:=aR.1;rw[zA1];exact this,mLt eS h0,mLt gI fy,eP.tok (mLt gI fX) aR,?_,?_,?_,by omega⟩⟩
     ·rw[zA1];rfl
     ·rw[zA1];rfl
     ·rw[ZaS,Zbh];exact dE.mono gJ
     ·intro z hz
      rcases List.mem_append.1 hz with hz|hz
      ·exact(aO z (by simp[hz])).mono h0
      ·simp at hz;subst hz;exact fC
     ·rw[ht];exact hJ.join (by omega) (by omega) _ _
    ·refine⟨decide (s1 % 12=9)&&(decide (0 < ts.length)&&decide (g < 9)),Zab (λh5=>Zab (λh6=>⟨by trivial,by trivial,?_⟩) (λh6=>⟨by trivial,by trivial,?_⟩)) (λh5=>⟨by trivial,by trivial,?_⟩),Zab (λh5=>?_) (λh5=>?_)⟩
     ·refine Zap ?_
      have e1:=zA6 h6
      have e2:s1 % 12=9:=by have:=h5;simp at this;omega
      rw[decide_eq_true e2,decide_eq_true (show 0 < ts.length by omega),Bool.true_and,Bool.true_and,Bool.eq_iff_iff];simp;omega
     ·refine Zap ?_
      have e1:=of_decide_eq_false h6
      rw[decide_eq_false (show ¬0 < ts.length by omega)];simp
     ·refine Zap ?_
      have e2:¬s1 % 12=9:=by have:=h5;simp at this;omega
      rw[decide_eq_false e2];rfl
     ·
      have xe:g < 9:=by simp at h5;omega
      skip
      obtain⟨r,x,rfl⟩:=ZzY (ts:=ts) (by simp at h5;omega)
      have fB:(r++[x]).length=r.length+1:=by simp
      have gM:IntKind.i64.wrap (((r++[x]).length:Int) - 1)=(r.length:Int):=by rw[fB,Zak (by omega) (by omega)];omega
      obtain⟨bb,iJ,fW,o',u',hu'⟩:=dY.base aB (by simp)
      subst iJ
      obtain⟨bx,ox,iK,ie⟩:=Zdq aB (i:=r.length) (t:=x) (by simp)
      cases iK
      have s6:IntKind.i64.wrap ((g:Int)+1)=((g+1:Nat):Int):=by rw[Zak (by omega) (by omega)];rfl
      simp only[gM,s6,zA8]
      refine⟨_,_,rfl,⟨by omega,by omega⟩,_,_,_,_,_,_,_,_,ie,Zan ((Zvr x mb (aO x (by simp))).frame2 dD) (Zc9 (mb:=mb) (M0:=m1)) (Zit λt m0 m3 aQ h0 gI bK fC ht=>?_)⟩
      obtain⟨at',ct,ht⟩:=ht
      have eP:m0.free bb:=λo=>by rw[bK bb o' u' hu' o];exact fW o
      refine⟨bb,0,rfl,⟨by omega,by omega⟩,rfl,by omega,by trivial,N - (i+1),by omega,i+1,r++[t],_,_,u,g+1,m0,by omega,?_,?_,by rw[zA1];rw[fB]at cS;exact cS,mLt eS h0,Mem.le_upd gI eP _ _,.inr ⟨bb,rfl,eP⟩,Zq0 (aB.mono aQ),?_,?_,by omega⟩
      ·rw[fB,zA1];rfl
      ·rw[fB,zA1];rfl
      ·intro z hz
       rcases List.mem_append.1 hz with hz|hz
       ·exact(aO z (by simp[hz])).mono h0
       ·simp at hz;subst hz;exact fC
      ·rw[ht];exact hJ.group xe _ _
     ·by_cases h0:0 < ts.length
      ·skip
       obtain⟨r,x,rfl⟩:=ZzY (ts:=ts) (by exact h0)
       have fB:(r++[x]).length=r.length+1:=by simp
       have gM:IntKind.i64.wrap (((r++[x]).length:Int) - 1)=(r.length:Int):=by rw[fB,Zak (by omega) (by omega)];omega
       obtain⟨bb,iJ,fW,o',u',hu'⟩:=dY.base aB (by simp)
       subst iJ
       obtain⟨bx,ox,iK,ie⟩:=Zdq aB (i:=r.length) (t:=x) (by simp)
       cases iK
       have xf:IntKind.i64.wrap (Int.tmod (RowKit.intOf (Value.int .u8 (s2:Nat))) 3)=((s2 % 3:Nat):Int):=by
        rw[show Int.tmod (RowKit.intOf (Value.int .u8 (s2:Nat))) 3=((s2 % 3:Nat):Int) from rfl,Zak (by omega) (by omega)]
       have xg:IntKind.i64.wrap (Int.tmod (RowKit.intOf (Value.int .u8 (s3:Nat))) 4)=((s3 % 4:Nat):Int):=by
        rw[show Int.tmod (RowKit.intOf (Value.int .u8 (s3:Nat))) 4=((s3 % 4:Nat):Int) from rfl,Zak (by omega) (by omega)]
       simp only[gM,xf,xg,zA8]
       have qW:s2 % 3 < 3:=by omega
       have gJ:s3 % 4 < 4:=by omega
       generalize s2 % 3=L at *
       generalize s3 % 4=Mo at *
       refine⟨decide (9 < s1 % 12)&&!(x.k == 1),Zab (λh6=>Zab (λh7=>⟨_,_,rfl,⟨by omega,by omega⟩,.int .u8 x.k,ie 0 _ rfl,Zaa rfl ⟨by trivial,by trivial,?_⟩⟩) (λh7=>absurd h7 (by simp))) (λh6=>⟨by trivial,by trivial,?_⟩),Zab (λh6=>Zaa rfl ⟨by omega,Zaa rfl ⟨by omega,?_⟩⟩) (λh6=>⟨by trivial,N - (i+1),by omega,i+1,r++[x],_,_,u,g,mb,by omega,rfl,rfl,cS,eS,dD,dY,aB,aO,hJ.skip,by omega⟩)⟩
       ·refine Zap ?_
        have:=zA6 h6
        rw[decide_eq_true (show 9 < s1 % 12 by omega),Bool.true_and];rfl
       ·refine Zap ?_
        have:=of_decide_eq_false h6
        rw[decide_eq_false (show ¬9 < s1 % 12 by omega)];rfl
       ·have jo:x.k≠1:=by
         rw[zA7]at h6
         simpa using h6.2
        obtain⟨tab1,tab2⟩:=ZxB L qW Mo gJ
        refine⟨decide (Mo < L\/Mo=0\/(L=1/\Mo=1)),Zab (λg1=>⟨by trivial,by trivial,Zap ?_⟩) (λg1=>Zab (λg2=>⟨by trivial,by trivial,Zap ?_⟩) (λg2=>Zab (λg3=>⟨by trivial,by trivial,Zap ?_⟩) (λg3=>⟨by trivial,by trivial,Zap ?_⟩))),Zab (λg4=>?_) (λg4=>?_)⟩
        ·have:=zA6 g1
         exact(decide_eq_true (by omega)).symm
        ·have:Mo=0:=by simp at g2;omega
         exact(decide_eq_true (by omega)).symm
        ·have e1:=of_decide_eq_false g1
         have e2:¬Mo=0:=by simp at g2;omega
         have e3:L=1:=by simp at g3;omega
         rw[Bool.eq_iff_iff];simp;omega
        ·have e1:=of_decide_eq_false g1
         have e2:¬Mo=0:=by simp at g2;omega
         have e3:¬L=1:=by simp at g3;omega
         exact(decide_eq_false (by omega)).symm
        ·
         have hA:(if(1:Int) > (if(-1:Int) > (L:Int)then(-1:Int)else(L:Int))then(1:Int)else(if(-1:Int) > (L:Int)then(-1:Int)else(L:Int)))=((max 1 L:Nat):Int):=by
          split <;> split <;> omega
         obtain⟨tb,tp⟩:=tab1 (zA6 g4)
         have nB:u*max 1 L<=48:=by have:=Nat.mul_le_mul hJ.u16 (show max 1 L<=3 by omega);omega
         have s7:IntKind.i64.wrap ((u:Int)*((max 1 L:Nat):Int))=((u*max 1 L:Nat):Int):=by rw[<-Int.natCast_mul];exact Zak (by omega) (by omega)
         simp only[hA,s7]
         refine Zab (λg5=>?_) (λg5=>⟨by trivial,N - (i+1),by omega,i+1,r++[x],_,_,u,g,mb,by omega,rfl,rfl,cS,eS,dD,dY,aB,aO,hJ.skip,by omega⟩)
         have nH:u*max 1 L<=16:=by have:=zA6 g5;omega
         refine⟨_,_,rfl,⟨by omega,by omega⟩,_,_,_,_,_,_,_,_,ie,Zan ((ZxA x (L:Nat) (-1:Int) ⟨by omega,by omega⟩ ⟨by omega,by omega⟩ mb (aO x (by simp))).frame2 dD) (Zc9 (mb:=mb) (M0:=m1)) (Zit λt m0 m3 aQ h0 gI bK fC ht=>?_)⟩
         obtain⟨at',ct,ht⟩:=ht
         have eP:m0.free bb:=λo=>by rw[bK bb o' u' hu' o];exact fW o
         refine⟨bb,0,rfl,⟨by omega,by omega⟩,rfl,by omega,by trivial,N - (i+1),by omega,i+1,r++[t],_,_,u*max 1 L,g,m0,by omega,?_,?_,by rw[zA1];rw[fB]at cS;exact cS,mLt eS h0,Mem.le_upd gI eP _ _,.inr ⟨bb,rfl,eP⟩,Zq0 (aB.mono aQ),?_,?_,by omega⟩
         ·rw[fB,zA1];rfl
         ·rw[fB,zA1];rfl
         ·intro z hz
          rcases List.mem_append.1 hz with hz|hz
          ·exact(aO z (by simp[hz])).mono h0
          ·simp at hz;subst hz;exact fC
         ·rw[ht];exact hJ.rep jo tb tp (by omega) nH _ _
        ·
         have hA:(if(1:Int) > (if((Mo:Int)) > (L:Int)then((Mo:Int))else(L:Int))then(1:Int)else(if((Mo:Int)) > (L:Int)then((Mo:Int))else(L:Int)))=((max 1 (max L Mo):Nat):Int):=by
          split <;> split <;> omega
         obtain⟨tb,tp⟩:=tab2 (of_decide_eq_false g4)
         have nB:u*max 1 (max L Mo)<=48:=by have:=Nat.mul_le_mul hJ.u16 (show max 1 (max L Mo)<=3 by omega);omega
         have s7:IntKind.i64.wrap ((u:Int)*((max 1 (max L Mo):Nat):Int))=((u*max 1 (max L Mo):Nat):Int):=by rw[<-Int.natCast_mul];exact Zak (by omega) (by omega)
         simp only[hA,s7]
         refine Zab (λg5=>?_) (λg5=>⟨by trivial,N - (i+1),by omega,i+1,r++[x],_,_,u,g,mb,by omega,rfl,rfl,cS,eS,dD,dY,aB,aO,hJ.skip,by omega⟩)
         have nH:u*max 1 (max L Mo)<=16:=by have:=zA6 g5;omega
         refine⟨_,_,rfl,⟨by omega,by omega⟩,_,_,_,_,_,_,_,_,ie,Zan ((ZxA x (L:Nat) ((Mo:Int)) ⟨by omega,by omega⟩ ⟨by omega,by omega⟩ mb (aO x (by simp))).frame2 dD) (Zc9 (mb:=mb) (M0:=m1)) (Zit λt m0 m3 aQ h0 gI bK fC ht=>?_)⟩
         obtain⟨at',ct,ht⟩:=ht
         have eP:m0.free bb:=λo=>by rw[bK bb o' u' hu' o];exact fW o
         refine⟨bb,0,rfl,⟨by omega,by omega⟩,rfl,by omega,by trivial,N - (i+1),by omega,i+1,r++[t],_,_,u*max 1 (max L Mo),g,m0,by omega,?_,?_,by rw[zA1];rw[fB]at cS;exact cS,mLt eS h0,Mem.le_upd gI eP _ _,.inr ⟨bb,rfl,eP⟩,Zq0 (aB.mono aQ),?_,?_,by omega⟩
         ·rw[fB,zA1];rfl
         ·rw[fB,zA1];rfl
         ·intro z hz
          rcases List.mem_append.1 hz with hz|hz
          ·exact(aO z (by simp[hz])).mono h0
          ·simp at hz;subst hz;exact fC
         ·rw[ht];exact hJ.rep jo tb tp (by omega) nH _ _
      ·refine⟨false,Zab (λh6=>Zab (λh7=>absurd (zA6 h7) (by omega)) (λh7=>⟨by trivial,by trivial,rfl⟩)) (λh6=>⟨by trivial,by trivial,rfl⟩),Zn4 rfl ⟨by trivial,N - (i+1),by omega,i+1,ts,_,_,u,g,mb,by omega,rfl,rfl,cS,eS,dD,dY,aB,aO,hJ.skip,by omega⟩⟩
 ·have qU:i=N:=by have:=of_decide_eq_false bL;omega
  have aE:=mLt eS dD
  refine Zab (λh0=>?_) (λh0=>?_)
  ·have s8:(Zd8 ⟨#[97]⟩)=Zdb 0:=by rfl
   refine Zan (Zoh ⟨#[97]⟩ (by decide) m1) Ze1 (Zpi λt m2 aK hr ht=>ZaH (mLt aE aK) ⟨t,rfl,hr,?_⟩)
   rw[s8]at ht
   obtain⟨k1,k2,k3,k4⟩:=Zqp 0
   rw[<-ht]at k1 k2 k3 k4
   exact(F26.leaf ⟨k1,by simp,by simp[szL,ZaI,k2],by simp[ZjY];omega,by simp[grL,ZaI,k4]⟩ k2).done
  ·obtain⟨t0,rest,rfl⟩:∃t r,ts=t::r:=by cases ts with
    | nil=>simp at h0
    | cons t r=>exact⟨t,r,rfl⟩
   have hF:=F26.start hJ (by omega)
   obtain⟨bb,iJ,fW,o',u',hu'⟩:=dY.base aB (by simp)
   subst iJ
   obtain⟨bx,ox,iK,ie⟩:=Zdq aB (i:=0) (t:=t0) rfl
   cases iK
   rw[List.length_cons]at hO cS
   refine⟨_,_,rfl,⟨by omega,by simp⟩,_,_,_,_,_,_,_,_,ie,λb2=>Zaa rfl ⟨⟨by omega,by rw[List.length_cons];omega⟩,?_⟩⟩
   refine⟨λxs css tvs m' q=>∃(k:Nat)(t:T),k<=rest.length/\xs=[.int .i64 k]/\css=[t.cs]/\m1.le m'/\Rep m' t/\F26 t (rest.drop k)/\q=rest.length - k,⟨rest.length,0,t0,by omega,rfl,rfl,Mem.le_refl _,(aO t0 (by simp)).mono dD,hF,by omega⟩,?_⟩
   rintro z cs m2 q2 _ ⟨k,t,hk,hz,bN,aK,fC,kP,lP⟩
   obtain rfl:z=k:=by simpa using hz
   obtain rfl:cs=t.cs:=by simpa using bN
   have lq:((t0::rest).length - Int.toNat 1)=rest.length:=by simp
   simp only[lq]
   refine Zab (λaC=>?_) (λdX=>Zaa rfl (ZaH (mLt aE aK) ⟨t,rfl,fC,by rw[show k=rest.length by have:=of_decide_eq_false dX;omega,List.drop_length]at kP;exact kP.done⟩))
   have aI:k < rest.length:=by have:=zA6 aC;omega
   obtain⟨x,hx⟩:=Zaq aI
   obtain⟨b3,o3,fu,kM⟩:=Zdq (aB.mono aK) (i:=k+1) (t:=x) (by simpa using hx)
   cases fu
   have fK:IntKind.i64.wrap ((k:Int)+1)=((k+1:Nat):Int):=by rw[Zak (by omega) (by omega)];rfl
   simp only[fK,zA8]
   rw[Zqe hx]at kP
   have bE:=kP.f.sz
   rw[Zeq]at bE
   have uP:=Zd1 (k:=4) (t:=t)
   have uN:=Zd1 (k:=4) (t:=x)
   have ig:Za6 (some (⟨bb,0,none⟩:Addr)) (Int.toNat 1) c2 8=some ⟨bb,0+8,none⟩:=by
    unfold Za6
    have:Nat.beq c2 1=false:=by
     cases hb:Nat.beq c2 1 with
     | false=>rfl
     | true=>have:=Nat.eq_of_beq_eq_true hb;omega
    show(bif Nat.beq c2 1 then _ else some (Addr.add _ (1*8)))=_
    rw[this,ZbJ];rfl
   refine⟨_,_,ig,⟨by omega,by omega⟩,_,_,_,_,_,_,_,_,by rw[show 0+8+k*8=0+(k+1)*8 by omega];exact kM,λb4=>Zaa rfl (Zan (Zmo 4 t x (.inr rfl) m2 fC ((aO x (by simp[zA2 hx])).mono (mLt dD aK)) (by omega) (by omega)) Ze1 (Zpi λt' m3 aQ hr' ht'=>⟨by trivial,by trivial,rest.length - (k+1),by omega,k+1,t',by omega,rfl,rfl,mLt aK aQ,hr',?_,by omega⟩))⟩
   obtain⟨a3,c3,ht'⟩:=ht'
   rw[ht'];exact kP.step _ _
end Go.Proofs.YtpjepnkiiojgfaaGreat