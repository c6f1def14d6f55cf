/- Part of the proof: functions of the program. No condition. -/
import Derived.Test.YtdopppmkbkkmiaaGreatDoorPVEN
import Derived.Test.YtdopppmkbkkmiaaGreatDoorPC25MA
import Derived.Test.YtdopppmkbkkmiaaGreatDoorPVEX
import Derived.Test.YtdopppmkbkkmiaaGreatDoorMr
set_option linter.unusedVariables false
set_option linter.unusedSimpArgs false
set_option linter.unusedSectionVars false
namespace Go.Proofs.YtdopppmkbkkmiaaGreatDoor
open Go Go.Eng Go.Rx Go.Proofs Go.RowKit
set_option maxRecDepth 100000
theorem ZiA(m:Mem):CX Tryz.prog 33 #[] m [] (ZA2 Zhn):=by
 apply Zgz
 intro b hf
 exact ZaD (Mem.le_add hf _) ⟨_,_,rfl,ZcT⟩
theorem Zog(m:Mem):CX Tryz.prog 34 #[] m [] (ZA2 ZdP):=by
 apply ZiY
 intro b hf
 exact ZaD (Mem.le_add hf _) ⟨_,_,rfl,ZcT⟩
theorem Zqd(m:Mem):CX Tryz.prog 35 #[] m [] (ZA2 Zm2):=by
 apply ZiZ
 intro b hf
 exact ZaD (Mem.le_add hf _) ⟨_,_,rfl,ZcT⟩
theorem Zmr{m:Mem}{b:Nat}:∀{L:List E} {o:Nat},m.reads b o (L.map E.cs).flatten->(∀z∈L,RepE m z)->RepEAt m b o L
 | [],o,_,_=>by simp only[RepEAt]
 | z::L,o,h,hz=>by
  rw[List.map_cons,List.flatten_cons]at h
  simp only[RepEAt]
  refine⟨λi v hi=>h i v (by rw[zA5 (zA0 hi).1];exact hi),hz z (by simp),Zmr (λi v hi=>?_) (λy hy=>hz y (by simp[hy]))⟩
  rw[Nat.add_assoc]
  refine h (5+i) v ?_
  rw[zA4 (by rw[E.len];omega),E.len,Nat.add_sub_cancel_left];exact hi
theorem Ztr{m:Mem}{k:Int}{x:Nat}{s:ByteArray}{g:Int}{a:Option Addr}{c:Nat}{L:List E}(h:rowRd m a (L.map E.cs).flatten)(hz:∀z∈L,RepE m z)(hl:L.length<=1000000000000000)(ho:OkE k s g):RepE m (.node k x s g a c L):=by
 simp only[RepE]
 refine⟨hl,?_,ho⟩
 rcases h with h|⟨b,o,ha,h⟩
 ·refine .inl ?_
  have:=congrArg List.length h
  rw[ZaH E.len]at this
  exact List.eq_nil_of_length_eq_zero (by simp at this;omega)
 ·exact .inr ⟨b,o,ha,Zmr h hz⟩
theorem Zms(e:E)(c:Int)(m:Mem)(hr:RepE m e)(cD:∀x∈e.nodes,okN 9 x)(hl:e.nodes.length<=1000):CX Tryz.prog 89 #[e.v,.int .i64 c] m [] (ER (BoE c e)):=by
 apply ZgA
 intro b b1
 refine⟨decide (e.k=10)&&decide (e.g > c),Zab (λh=>⟨rfl,Zag ?_⟩) (λh=>⟨rfl,Zag ?_⟩),Zab (λh=>?_) (λh=>?_)⟩
 ·have:e.k=10:=by simpa using h
  rw[decide_eq_true this,Bool.true_and]
 ·have:¬e.k=10:=by simpa using h
  rw[decide_eq_false this,Bool.false_and]
 ·rw[zA7,decide_eq_true_iff,decide_eq_true_iff]at h
  exact ZaD (Mem.le_refl _) ⟨ZAX ⟨#[121]⟩,rfl,ZeC (by omega) (by decide) (by omega),ZzG (by simp[Zhn]) h.1⟩
 have hk:¬(e.k=10/\e.g > c):=by
  rintro⟨h1,h2⟩
  rw[decide_eq_true h1,decide_eq_true h2]at h;cases h
 have dM:e.subs.length<=1000:=by
  have:=Zey e.subs
  rw[ZbD,List.length_cons]at hl;omega
 refine⟨λxs css tvs m' q=>∃(ts:List E)(a:Option Addr)(d:Nat),ts.length<=e.subs.length/\xs=[.int .i64 ts.length]/\css=[[.int .u8 e.k,.float .f64 e.x,.string e.s,.int .i64 e.g,.slice a ts.length d]]/\tvs=[.slice a ts.length d]/\rowRd m' a (ts.map E.cs).flatten/\(∀t∈ts,RepE m' t)/\(∀(i:Nat)(x y:E),e.subs[i]?=some x->ts[i]?=some y->BoE c x y)/\q=e.subs.length - ts.length,⟨_,[],none,0,by simp,rfl,rfl,rfl,.inl rfl,by simp,by simp,rfl⟩,?_⟩
 rintro n cs a n1 d m1 q aB ⟨ts,a',d',kK,hx,cF,dF,aC,aZ,rZ,hq⟩
 simp only[List.cons.injEq,Value.slice.injEq,Value.int.injEq,true_and,and_true]at hx cF dF
 obtain⟨rfl,rfl,rfl⟩:=dF
 subst hx cF
 refine Zax (λaH=>?_) (λbL=>?_)
 ·have aS:ts.length < e.subs.length:=by omega
  obtain⟨x,hx⟩:=ZaM aS
  obtain⟨qK,h0|⟨b3,o3,gH,eN⟩⟩:=ZeU hr
  ·rw[h0]at aS;simp at aS
  obtain⟨dJ,dS⟩:=(eN.mono' aB).get hx
  have nN:=zA2 hx
  have bJ:=Zl8 nN
  have ss:∀z∈x.nodes,z∈Zao e.subs:=λz hz=>by rw[ZcD hx];exact List.mem_append_right _ (List.mem_append_left _ hz)
  have jh:x.nodes.length<=1000:=by
   rw[ZbD,List.length_cons,ZcD hx,zA1,zA1]at hl;omega
  have hw:IntKind.i64.wrap ((ts.length:Int)+1)=((ts.length+1:Nat):Int):=by rw[Zam (by omega) (by omega)];rfl
  refine⟨b3,o3,gH,⟨by omega,aH⟩,_,_,_,_,_,dJ,λb4=>Zaa rfl ⟨λ_ _ _=>ER (BoE c x),Zap rfl ⟨_,rfl,Zms x c m1 dS (λz hz=>cD z (by rw[ZbD];exact List.mem_cons_of_mem _ (ss z hz))) jh,Zgm,ZAZ λt m2 aO gV ht b5 jY=>Zaa rfl ?_⟩⟩⟩
  refine Zgl E.len E.one jY t (aC.mono aO) 64 (by omega) (by omega) (.inl rfl) λa5 c5 m5 cE bZ=>Zaa rfl λM _ ib iD jM=>⟨rfl,e.subs.length - (ts.length+1),by omega,ts++[t],a5,c5,by rw[zA1];exact aS,by rw[hw,zA1];rfl,by rw[zA1];rfl,by rw[zA1];rfl,bZ.mono jM,?_,?_,by rw[zA1];rfl⟩
  ·intro z hz
   rcases List.mem_append.1 hz with hz|hz
   ·exact(aZ z hz).mono' (mLt aO ib)
   ·rw[List.mem_singleton]at hz;subst hz;exact gV.mono' ib
  ·intro i x' y' hx' hy'
   rcases Nat.lt_or_ge i ts.length with h|h
   ·rw[zA5 h]at hy'
    exact rZ i x' y' hx' hy'
   ·have hi:=(zA0 hy').1
    rw[zA1,List.length_singleton]at hi
    obtain rfl:i=ts.length:=by omega
    rw[hx]at hx'
    simp at hy'
    cases hx';subst hy';exact ht
 ·have aP:ts.length=e.subs.length:=by omega
  have ho:=ZsK hr
  refine Zaa rfl (ZaD aB ⟨.node e.k e.x e.s e.g a d ts,rfl,Ztr aC aZ (by omega) ho,?_⟩)
  have:=Zxa (c:=c) (x:=e.x) (s:=e.s) (a:=e.a) (a':=a) (d:=e.c) (d':=d) (l:=e.subs) (r:=ts) (k:=e.k) (g:=e.g) (by cases e;exact cD _ (by simp[E.nodes,E.k,E.x,E.s,E.g,E.a,E.c,E.subs])) hk aP.symm rZ
  cases e;exact this
termination_by SizeOf.sizeOf e
theorem Zmt(t:T)(m:Mem)(hr:Rep m t)(hl:t.nodes.length<=10000):CX Tryz.prog 59 #[t.v] m [] (Ret (.int .i64 (t.gr:Nat))):=by
 apply ZhJ
 intro b m1 aB _
 have dM:t.subs.length<=10000:=by
  have h1:=Zky t
  have:=Zps t.subs
  omega
 have vX:∀i,grL (t.subs.take i)<=10000:=λi=>by
  have h1:grL (t.subs.take i)<=szL (t.subs.take i):=List.countP_le_length
  have h2:szL t.subs=szL (t.subs.take i)+szL (t.subs.drop i):=by rw[<-ZaG,List.take_append_drop]
  have h3:=Zky t
  omega
 refine Zab (λh=>?_) (λh=>?_)
 all_goals
  refine⟨λxs _ _ m' q=>∃i:Nat,i<=t.subs.length/\xs=[.int .i64 (((if isG t=true then 1 else 0)+grL (t.subs.take i):Nat):Int),.int .i64 i]/\q=t.subs.length - i,⟨_,0,by omega,by unfold isG;rw[h];rfl,rfl⟩,?_⟩
  rintro n n1 m2 q aO ⟨i,hi,hx,rfl⟩
  simp only[List.cons.injEq,Value.int.injEq,true_and,and_true]at hx
  obtain⟨rfl,rfl⟩:=hx
  refine Zax (λaH=>?_) (λbL=>Zac (mLt aB aO) ?_)
  ·have aS:i < t.subs.length:=by omega
   obtain⟨x,hx⟩:=ZaM aS
   have nN:=zA2 hx
   have bJ:=Zrv nN
   have jh:x.nodes.length<=10000:=by
    have h1:=Zky t
    have h2:szL t.subs=szL (t.subs.take i)+szL (t.subs.drop i):=by rw[<-ZaG,List.take_append_drop]
    rw[ZsH hx,ZeW]at h2;omega
   have xI:grL (t.subs.take (i+1))=grL (t.subs.take i)+x.gr:=by
    rw[List.take_add_one,hx,ZbA];show _+grL [x]=_;rw[Zdh]
   have hb:=vX i
   have hb':=vX (i+1)
   obtain⟨b3,o3,gH,dJ⟩:=ZdX ((Zev hr.subs).mono (mLt aB aO)) hx
   refine⟨b3,o3,gH,⟨by omega,aH⟩,_,_,_,_,_,_,_,_,dJ,λb4=>Zaa rfl (ZaB (Zmt x m2 ((Zkt hr.subs x nN).mono (mLt aB aO)) jh) λm3 aQ=>⟨rfl,t.subs.length - (i+1),by omega,i+1,by omega,?_,rfl⟩)⟩
   rw[xI,Zam (by split <;> omega) (by split <;> omega),Zam (by omega) (by omega)]
   simp;omega
  ·have:i=t.subs.length:=by omega
   subst this
   rw[List.take_length]
   show Value.int .i64 _=Value.int .i64 _
   rw[ZyP t]
termination_by SizeOf.sizeOf t
structure BytU (m:Mem)(a:Option Addr)(l:List Nat):Prop where
 lt:∀n∈l,n < 256
 row:rowRd m a (l.map λn:Nat=>[Value.int .u8 n]).flatten
theorem BytU.mono{m m':Mem}{a l}(h:BytU m a l)(hm:m.le m'):BytU m' a l:=⟨h.lt,h.row.mono hm⟩
theorem BytU.get{m:Mem}{a l}(h:BytU m a l){i:Nat}{n:Nat}(hi:l[i]?=some n):n < 256/\∃b o,a=some ⟨b,o,none⟩/\m b (o+i*1)=some (.int .u8 n):=by
 obtain⟨b,o,ha,h1⟩:=Zan (cs:=λn:Nat=>[Value.int .u8 n]) (n:=1) (λ_=>rfl) h.row hi (by omega)
 exact⟨h.lt n (zA2 hi),b,o,ha,h1 0 _ rfl⟩
theorem Pt.one(p:Pt):∀u∈p.cs,u.oneCell'=true:=by
 intro u hu
 simp only[Pt.cs,List.mem_cons,List.not_mem_nil,or_false]at hu
 rcases hu with rfl|rfl|rfl|rfl|rfl|rfl|rfl|rfl <;> rfl
def TmR(c:Int):Value->Mem->List (List Value)->Prop:=λv m' _=>∃(l:List Pt)(a:Option Addr)(d:Nat),v=.slice a l.length d/\rowRd m' a (l.map Pt.cs).flatten/\(∀p∈l,RepP m' p)/\MkT c l
theorem Zwy{c:Int}:∀(v:Value)(m':Mem) (css:List (List Value)),TmR c v m' css->Shape.fits .slice v=true:=λv _ _ ⟨_,_,_,h,_⟩=>by rw[h];rfl
def TmI(c:Int)(N:Nat)(m:Mem):List Value->List (List Value)->List Value->Mem->Nat->Prop:=λxs _ tvs m' q=>∃(L:List Pt)(a:Option Addr)(d i:Nat),xs=[.slice a L.length d,.int .i64 i]/\tvs=[.slice a L.length d]/\i<=N/\L.length<=i/\m.le m'/\rowRd m' a (L.map Pt.cs).flatten/\(∀p∈L,RepP m' p)/\(∀p∈L,MkP c p)/\ZC3 L/\q=N - i
theorem Zu5{L:List Pt}{p:Pt}(h:ZC3 L)(hp:p.k=1->∀x,L[L.length - 1]?=some x->0 < L.length->x.k≠1):ZC3 (L++[p]):=by
 intro i x y hx hy h1 h2
 rcases Nat.lt_or_ge (i+1) L.length with hi|hi
 ·rw[zA5 (by omega)]at hx
  rw[zA5 hi]at hy
  exact h i x y hx hy h1 h2
 ·have jq:=(zA0 hy).1
  rw[zA1,List.length_singleton]at jq
  have e:i+1=L.length:=by omega
  rw[zA5 (by omega)]at hx
  rw[e]at hy
  simp at hy;subst hy
  exact hp h2 x (by rw[<-e,Nat.add_sub_cancel];exact hx) (by omega) h1
theorem TmI.next{c:Int}{N:Nat}{m m' M:Mem}{L:List Pt}{i:Nat}{p:Pt}{a:Option Addr}{d:Nat}(hi:i < N)(hL:L.length<=i)(h0:m.le m')(hM:m'.le M)(aC:rowRd M a ((L++[p]).map Pt.cs).flatten)(hr:∀x∈L,RepP m' x)(hp:RepP M p)(hk:∀x∈L,MkP c x)(xJ:MkP c p)(hl:ZC3 L)(sx:p.k=1->∀x,L[L.length - 1]?=some x->0 < L.length->x.k≠1):
  ∃n',n' < N - i/\TmI c N m [.slice a (L.length+1) d,.int .i64 ((i+1:Nat):Int)] [] [.slice a (L.length+1) d] M n':=by
 refine⟨N - (i+1),by omega,L++[p],a,d,i+1,by rw[zA1];rfl,by rw[zA1];rfl,by omega,by rw[zA1,List.length_singleton];omega,mLt h0 hM,aC,?_,?_,Zu5 hl sx,rfl⟩
 ·intro x hx
  rcases List.mem_append.1 hx with hx|hx
  ·exact(hr x hx).mono hM
  ·rw[List.mem_singleton]at hx;subst hx;exact hp
 ·intro x hx
  rcases List.mem_append.1 hx with hx|hx
  ·exact hk x hx
  ·rw[List.mem_singleton]at hx;subst hx;exact xJ
theorem ZhN{m:Mem}{k:Int}{s:ByteArray}{g:Int}(hk:0<=k/\k < 256)(hs:s.size<=1000000000000000)(hg:I64 g):RepP m ⟨k,s,g,E0⟩:=⟨hk,hs,hg,ZqV m⟩
theorem Zla:∀s∈ZdP,s.size<=16:=by decide +kernel
theorem ZEm:∀j < 5,∃s:ByteArray,[Value.string ⟨#[97]⟩,.string ⟨#[45]⟩,.string ⟨#[97,98,32]⟩,.string ⟨#[0,255]⟩,.string ⟨#[49,50]⟩][j*1]?=some (.string s)/\0 < s.size/\s.size<=512:=by
 intro j hj
 have:j=0\/j=1\/j=2\/j=3\/j=4:=by omega
 rcases this with rfl|rfl|rfl|rfl|rfl <;> exact⟨_,rfl,by decide,by decide⟩
set_option maxHeartbeats 2000000 in
theorem ZjS(l:List Nat)(a:Option Addr)(d:Nat)(e:E)(c:Int)(m:Mem)(hb:BytU m a l)(hd:l.length<=d)(hl:l.length<=1000000000000000)(hr:RepE m e)(he:MkE c 20 e)(hc : -1<=c/\c<=10000):
  CX Tryz.prog 91 #[.slice a l.length d,e.v,.int .i64 c] m [] (TmR c):=by
 apply ZfI
 intro b m1 aB _
 have hN:(if(5:Int) < (l.length:Int)then(5:Int)else(l.length:Int))=((min 5 l.length:Nat):Int):=by split <;> omega
 simp only[hN,zA8,Nat.sub_zero]
 generalize su:min 5 l.length=N
 refine⟨⟨by omega,by omega⟩,TmI c N m1,⟨N,[],none,0,0,rfl,rfl,by omega,by simp,Mem.le_refl _,.inl rfl,by simp,by simp,λi p q h=>by simp at h,by omega⟩,?_⟩
 rintro a1 n1 c1 z1 a2 n2 c2 m2 q aO ⟨L,a',c',i,hx,dF,sw,ie,hm,aC,aZ,jo,ip,rfl⟩
 simp only[List.cons.injEq,Value.slice.injEq,Value.int.injEq,true_and,and_true]at hx dF
 obtain⟨⟨rfl,rfl,rfl⟩,rfl⟩:=hx
 obtain⟨rfl,rfl,rfl⟩:=dF
 have hw:IntKind.i64.wrap ((i:Int)+1)=((i+1:Nat):Int):=by rw[Zam (by omega) (by omega)];rfl
 have xK:IntKind.i64.wrap ((L.length:Int) - 1)=(L.length:Int) - 1:=Zam (by omega) (by omega)
 have pS:=mLt aB aO
 refine Zax (λaH=>?_) (λbL=>ZaD pS ⟨L,a2,c2,rfl,aC,aZ,by omega,jo,ip⟩)
 have aS:i < N:=by omega
 obtain⟨n,hn⟩:=ZaM (l:=l) (k:=i) (by omega)
 obtain⟨ku,bs,os,ha,hv⟩:=(hb.mono pS).get hn
 have ug:Int.tmod (n:Int) 8=((n % 8:Nat):Int):=rfl
 have uh:IntKind.i64.wrap (Int.tdiv (IntKind.i64.wrap (n:Int)) 8)=((n / 8:Nat):Int):=by
  rw[Zam (n:=(n:Int)) (by omega) (by omega),show Int.tdiv (n:Int) 8=((n / 8:Nat):Int) from rfl,Zam (by omega) (by omega)]
 simp only[hw,xK,zA8]
 refine⟨bs,os,ha,⟨by omega,aH⟩,_,hv,_,rfl,by omega,by omega,?_⟩
 simp only[ug,uh]
 have xM:n / 8 < 32:=by omega
 generalize n % 8=k
 generalize n / 8=u at xM
 have stay:∀M:Mem,m2.le M->∃n',n' < N - i/\TmI c N m1 [.slice a2 L.length c2,.int .i64 ((i+1:Nat):Int)] [] [.slice a2 L.length c2] M n':=λM hM=>⟨N - (i+1),by omega,L,a2,c2,i+1,rfl,rfl,by omega,by omega,mLt hm hM,aC.mono hM,λp hp=>(aZ p hp).mono hM,jo,ip,rfl⟩
 refine⟨λxs _ _ m'=>xs=[.bool (decide (k=0\/k=1))]/\m2.le m',Zab (λh=>⟨trivial,trivial,?_,Mem.le_refl _⟩) (λh=>⟨trivial,trivial,?_,Mem.le_refl _⟩),?_⟩
 ·have:k=0:=by simp at h;omega
  rw[h,this];rfl
 ·have:¬k=0:=by simp at h;omega
  refine Zag ?_
  rw[Bool.eq_iff_iff];simp;omega
 rintro b2 m3 aQ ⟨eH,_⟩
 obtain rfl:b2=decide (k=0\/k=1):=by simpa using eH
 have cO:=mLt pS aQ
 refine Zax (λjn=>?_) (λjn=>?_)
 ·refine⟨decide (L.length=0)||!(match L[L.length - 1]? with
   | some x=>x.k == 1
   | none=>false),Zax (λh=>⟨trivial,trivial,Zag ?_⟩) (λh=>?_),Zab (λhB=>?_) (λ_=>⟨trivial,stay m3 aQ⟩)⟩
  ·rw[decide_eq_true (show L.length=0 by omega)];rfl
  ·obtain⟨x,hx⟩:=ZaM (l:=L) (k:=L.length - 1) (by omega)
   obtain⟨b4,o4,mK,cC⟩:=Zan Pt.len (aC.mono aQ) hx (by omega)
   have xN:Int.toNat ((L.length:Int) - 1)=L.length - 1:=by omega
   refine⟨b4,o4,mK,⟨by omega,by omega⟩,.int .u8 x.k,by rw[xN];exact cC 0 _ rfl,_,rfl,trivial,trivial,Zag ?_⟩
   rw[decide_eq_false (show ¬L.length=0 by omega),hx,Bool.false_or]
  ·have vY:Int.tmod (u:Int) 5=((u % 5:Nat):Int):=rfl
   have h5:u % 5 < 5:=Nat.mod_lt _ (by omega)
   intro b4 gU
   obtain⟨s,hs,lb,xO⟩:=ZEm (u % 5) h5
   refine⟨by omega,by rw[vY];exact⟨by omega,by omega⟩,Zap (by rw[vY,zA8];exact hs) ⟨s,rfl,λb5 jY=>?_⟩⟩
   have pT:=mLt aQ (Mem.le_add gU [Value.string ⟨#[97]⟩,.string ⟨#[45]⟩,.string ⟨#[97,98,32]⟩,.string ⟨#[0,255]⟩,.string ⟨#[49,50]⟩])
   refine Zgl Pt.len Pt.one jY (⟨1,s,0,E0⟩:Pt) (aC.mono pT) 96 (by omega) (by omega) (.inl trivial) λa8 c8 m8 iS fC=>⟨trivial,TmI.next aS ie (mLt hm pT) (mLt (Mem.le_add jY _) iS) fC (λx hx=>(aZ x hx).mono pT) (ZhN (by omega) (by omega) ⟨by omega,by omega⟩) jo (.lit s ⟨lb,xO⟩) ip (λ_ x hx zu nu=>?_)⟩
   rw[hx,decide_eq_false (show ¬L.length=0 by omega)]at hB
   simp[nu]at hB
 refine⟨λxs _ _ m'=>xs=[.bool (decide (k=2\/k=3))]/\m3.le m',Zab (λh=>⟨trivial,trivial,?_,Mem.le_refl _⟩) (λh=>⟨trivial,trivial,?_,Mem.le_refl _⟩),?_⟩
 ·have:k=2:=by simp at h;omega
  rw[h,this];rfl
 ·have:¬k=2:=by simp at h;omega
  refine Zag ?_
  rw[Bool.eq_iff_iff];simp;omega
 rintro b3 m4 bN ⟨eI,_⟩
 obtain rfl:b3=decide (k=2\/k=3):=by simpa using eI
 have kN:=mLt aQ bN
 refine Zax (λxP=>?_) (λxP=>?_)
 ·refine Zaj (Zog m4) ZdJ ?_
  rintro a5 n5 c5 m5 cE ⟨a',c',iT,fO⟩
  simp only[Value.slice.injEq]at iT
  obtain⟨rfl,rfl,rfl⟩:=iT
  have h2:u % 2 < 2:=Nat.mod_lt _ (by omega)
  obtain⟨s,hs⟩:=ZaM (l:=ZdP) (k:=u % 2) h2
  have kO:=zA2 hs
  obtain⟨b6,o6,jA,cC⟩:=ZcS fO hs
  have bJ:s.size<=1000000000000000:=by have:=Zla s kO;omega
  have hu:Int.tmod (u:Int) 2=((u % 2:Nat):Int):=rfl
  have jN:=mLt kN cE
  refine⟨by omega,b6,o6,jA,by rw[hu];exact⟨by omega,by show((u % 2:Nat):Int) < (2:Nat);omega⟩,_,by rw[hu,zA8];exact cC,s,rfl,λb7 nO=>?_⟩
  refine Zgl Pt.len Pt.one nO (⟨2,s,0,E0⟩:Pt) (aC.mono jN) 96 (by omega) (by omega) (.inl trivial) λa8 c8 m8 iS fC=>⟨trivial,TmI.next aS ie (mLt hm jN) (mLt (Mem.le_add nO _) iS) fC (λx hx=>(aZ x hx).mono jN) (ZhN (by omega) bJ ⟨by omega,by omega⟩) jo (.var s (.inr kO)) ip (λh=>absurd (show(2:Int)=1 from h) (by decide))⟩
 refine Zab (λh4=>?_) (λh4=>?_)
 ·refine Zaj (ZiA m4) ZdJ ?_
  rintro a5 n5 c5 m5 cE ⟨a',c',iT,fO⟩
  simp only[Value.slice.injEq]at iT
  obtain⟨rfl,rfl,rfl⟩:=iT
  have h2:u % 4 < 4:=Nat.mod_lt _ (by omega)
  obtain⟨s,hs⟩:=ZaM (l:=Zhn) (k:=u % 4) h2
  have kO:=zA2 hs
  obtain⟨b6,o6,jA,cC⟩:=ZcS fO hs
  have bJ:s.size<=1000000000000000:=by have:=Zk9 s kO;omega
  have hu:Int.tmod (u:Int) 4=((u % 4:Nat):Int):=rfl
  have jN:=mLt kN cE
  refine⟨by omega,b6,o6,jA,by rw[hu];exact⟨by omega,by show((u % 4:Nat):Int) < (4:Nat);omega⟩,_,by rw[hu,zA8];exact cC,s,rfl,λb7 nO=>?_⟩
  refine Zgl Pt.len Pt.one nO (⟨2,s,0,E0⟩:Pt) (aC.mono jN) 96 (by omega) (by omega) (.inl trivial) λa8 c8 m8 iS fC=>⟨trivial,TmI.next aS ie (mLt hm jN) (mLt (Mem.le_add nO _) iS) fC (λx hx=>(aZ x hx).mono jN) (ZhN (by omega) bJ ⟨by omega,by omega⟩) jo (.var s (.inl kO)) ip (λh=>absurd (show(2:Int)=1 from h) (by decide))⟩
 refine⟨λxs _ _ m'=>xs=[.bool (decide (k=5\/k=6))]/\m4.le m',Zab (λh=>⟨trivial,trivial,?_,Mem.le_refl _⟩) (λh=>⟨trivial,trivial,?_,Mem.le_refl _⟩),?_⟩
 ·have:k=5:=by simp at h;omega
  rw[h,this];rfl
 ·have:¬k=5:=by simp at h;omega
  refine Zag ?_
  rw[Bool.eq_iff_iff];simp;omega
 rintro b4 m5 cE ⟨nC,_⟩
 obtain rfl:b4=decide (k=5\/k=6):=by simpa using nC
 have jN:=mLt kN cE
 refine Zax (λxQ=>?_) (λxQ=>?_)
 ·refine Zax (λhp=>?_) (λhp=>⟨trivial,stay m5 jN⟩)
  obtain⟨C,nP,ml,hC⟩:∃C:Nat,(C:Int)<=c/\C<=9/\IntKind.i64.wrap ((if(9:Int) < c then(9:Int)else c)+1)=((C+1:Nat):Int):=by
   by_cases h9:9 < c
   ·exact⟨9,by omega,by omega,by rw[if_pos h9];rfl⟩
   ·refine⟨c.toNat,by omega,by omega,?_⟩
    rw[if_neg h9,Zam (by omega) (by omega)];omega
  have mM:Int.tmod (u:Int) ((C+1:Nat):Int)=((u % (C+1):Nat):Int):=rfl
  have aH:u % (C+1) < C+1:=Nat.mod_lt _ (by omega)
  simp only[hC,mM]
  refine⟨by omega,λb6 je=>?_⟩
  refine Zgl Pt.len Pt.one je (⟨3,.empty,((u % (C+1):Nat):Int),E0⟩:Pt) (aC.mono jN) 96 (by omega) (by omega) (.inl trivial) λa8 c8 m8 iS fC=>⟨trivial,TmI.next aS ie (mLt hm jN) (mLt (Mem.le_add je _) iS) fC (λx hx=>(aZ x hx).mono jN) (ZhN (by omega) (by rw[Zar];omega) ⟨by omega,by omega⟩) jo (.cap _ (by omega)) ip (λh=>absurd (show(3:Int)=1 from h) (by decide))⟩
 ·intro b6 je
  have qP:=Mem.le_add je (⟨4,.empty,0,e⟩:Pt).cs
  refine Zgl Pt.len Pt.one je (⟨4,.empty,0,e⟩:Pt) (aC.mono jN) 96 (by omega) (by omega) (.inl trivial) λa8 c8 m8 iS fC=>⟨trivial,TmI.next aS ie (mLt hm jN) (mLt qP iS) fC (λx hx=>(aZ x hx).mono jN) ⟨by show(0:Int)<=4/\(4:Int) < 256;omega,by show ByteArray.empty.size<=_;rw[Zar];omega,⟨by show(-9223372036854775808:Int)<=0;omega,by show(0:Int)<=9223372036854775807;omega⟩,hr.mono' (mLt pS (mLt jN (mLt qP iS)))⟩ jo (.clc e he) ip (λh=>absurd (show(4:Int)=1 from h) (by decide))⟩
theorem ZEn(l:List T):∀u∈Rx.ZcG l,u.oneCell'=true:=by
 intro u hu
 simp only[Rx.ZcG,List.mem_flatten,List.mem_map]at hu
 obtain⟨_,⟨t,_,rfl⟩,h⟩:=hu
 simp only[T.cs,T.sl,List.mem_cons,List.not_mem_nil,or_false]at h
 rcases h with rfl|rfl|rfl|rfl|rfl|rfl|rfl|rfl <;> rfl
theorem ZnB(a:Option Addr)(c:Nat)(l:List T)(m:Mem)(h:rowRd m a (Rx.ZcG l))(hl:l.length<=1000000000000):CXT Tryz.prog 115 #[.slice a l.length c] m 8 (λv m' _=>∃a' c',v=.slice a' l.length c'/\rowRd m' a' (Rx.ZcG l)/\l.length<=c'/\(l.length=0\/∃b,a'=some ⟨b,0,none⟩/\m.free b)):=by
 apply ZbN
 have aP:=Zaq l
 refine Zab (λha=>?_) (λha=>⟨⟨rfl,Int.le_refl _,by decide,by decide⟩,λb hf _=>⟨.inl rfl,[],Rx.ZcG l,rfl,aP,.inl rfl,h,ZEn l,by omega,by omega,λa' c' m' hm aC jO=>⟨rfl,?_⟩⟩⟩)
 ·obtain rfl:a=none:=by simpa using ha
  have h0:l=[]:=by
   rcases h with h|⟨_,_,h,_⟩
   ·rw[h]at aP;exact List.eq_nil_of_length_eq_zero (by simp at aP;omega)
   ·cases h
  subst h0
  exact⟨rfl,none,0,rfl,.inl rfl,Nat.le_refl _,.inl rfl⟩
 ·simp only[Nat.zero_add]at jO ⊢
  refine⟨a',c',rfl,aC,jO.1,?_⟩
  rcases(jO.old (λ_ _ e=>by cases e;rfl)).2 with h1|⟨b',h1,h2|h2⟩
  ·subst h1
   left
   rcases aC with h3|⟨_,_,h3,_⟩
   ·have h4:(Rx.ZcG l).length=0:=congrArg List.length h3
    omega
   ·cases h3
  ·right;rw[<-h2];exact⟨b,rfl,hf⟩
  ·exact .inr ⟨b',h1,h2⟩
theorem ZxR{m:Mem}{b:Nat}{ts r:List T}{x t:T}(h:rowRd m (some ⟨b,0,none⟩) (Rx.ZcG (ts++x::r))):rowRd (m.upd b (0+ts.length*8) t.cs) (some ⟨b,0,none⟩) (Rx.ZcG (ts++t::r)):=by
 rcases h with h|⟨b',o',ha,h⟩
 ·have hl:(Rx.ZcG (ts++x::r)).length=0:=by rw[h];rfl
  rw[Zaq,zA1,List.length_cons]at hl
  omega
 cases ha
 have e:∀y:T,Rx.ZcG (ts++y::r)=Rx.ZcG ts++(y.cs++Rx.ZcG r):=λy=>by simp[Rx.ZcG]
 have h8:∀y:T,y.cs.length=8:=λ_=>rfl
 refine .inr ⟨b,0,rfl,λj v hj=>?_⟩
 rw[e]at hj
 unfold Mem.upd;try dsimp only
 rw[Nat.zero_add,Nat.zero_add,h8]
 rcases Nat.lt_or_ge j (ts.length*8)with aH|bL
 ·rw[if_neg (by omega)]
  rw[zA5 (by rw[Zaq];exact aH)]at hj
  have:=h j v (by rw[e,zA5 (by rw[Zaq];exact aH)];exact hj)
  rwa [Nat.zero_add]at this
 ·rw[zA4 (by rw[Zaq];exact bL),Zaq]at hj
  rcases Nat.lt_or_ge j (ts.length*8+8)with aH|dV
  ·rw[if_pos ⟨rfl,bL,aH⟩]
   rw[zA5 (by rw[h8];omega)]at hj
   exact hj
  ·rw[if_neg (by omega)]
   rw[zA4 (by rw[h8];omega),h8]at hj
   have:=h j v (by
    rw[e,zA4 (by rw[Zaq];exact bL),Zaq,zA4 (by rw[h8];omega),h8];exact hj)
   rwa [Nat.zero_add]at this
theorem ZxS{m m':Mem}(h:m.le m'){b:Nat}(hf:m'.free b):m.free b:=λo=>by
 cases he:m b o with
 | none=>rfl
 | some v=>have:=h _ _ _ he;rw[hf o]at this;cases this
def NewT(m:Mem)(t:T):Prop:=∀x∈t.nodes,x.subs=[]\/∃b,x.a=some ⟨b,0,none⟩/\m.free b
theorem NewT.less{m m':Mem}{t:T}(hn:NewT m' t)(h:m.le m'):NewT m t:=λx hx=>(hn x hx).imp id λ⟨b,e,hf⟩=>⟨b,e,ZxS h hf⟩
theorem Zu6{m:Mem}{k s0 s1 s2 s3 mn mx:Int}{a:Option Addr}{c:Nat}{l:List T}(h:l=[]\/∃b,a=some ⟨b,0,none⟩/\m.free b)(hl:∀x∈l,NewT m x):NewT m (.node k s0 s1 s2 s3 mn mx a c l):=by
 intro x hx
 simp only[T.nodes,List.mem_cons]at hx
 rcases hx with rfl|hx
 ·exact h
 ·have:∀l:List T,(∀x∈l,NewT m x)->∀x∈Zaz l,x.subs=[]\/∃b,x.a=some ⟨b,0,none⟩/\m.free b:=by
   intro l
   induction l with
   | nil=>intro _ x hx;simp[Zaz]at hx
   | cons y l ih=>
    intro h x hx
    simp only[Zaz,List.mem_append]at hx
    rcases hx with hx|hx
    ·exact h y (by simp) x hx
    ·exact ih (λz hz=>h z (by simp[hz])) x hx
  exact this l hl x hx
set_option maxHeartbeats 800000 in
theorem Zmu(t:T)(m:Mem)(hr:Rep m t)(hz:t.nodes.length<=10000):CX Tryz.prog 94 #[t.v] m [] (Zpi λt'=>t'.er=t.er/\(t'.caps/\NewT m t')):=by
 have bJ:szL t.subs<=10000:=by rw[Zky]at hz;omega
 have eR:t.subs.length<=10000:=Nat.le_trans (Zps _) bJ
 apply Znq
 intro b b1
 refine⟨_,ZnB t.a t.c t.subs m (Zev hr.subs) (by omega),(λv _ _ ⟨a,c,e,_⟩=>by rw[e];rfl),?_⟩
 rintro a n c m1 aB ⟨a',c',hv,aC,iU,bH⟩
 simp only[Value.slice.injEq]at hv
 obtain⟨rfl,rfl,rfl⟩:=hv
 have aZ:∀x∈t.subs,Rep m x:=Zkt hr.subs
 refine⟨λxs css tvs m' q=>∃(k:Nat)(L:List T)(mb:Mem),k<=t.subs.length/\xs=[.int .i64 k]/\q=t.subs.length - k/\L.length=k/\L.map T.er=(t.subs.take k).map T.er/\m.le mb/\mb.le m'/\(t.subs.length=0\/∃b,a=some ⟨b,0,none⟩/\mb.free b)/\(∀x∈L,Rep mb x/\(x.caps/\NewT m x))/\(t.subs.length=0\/∃b,a=some ⟨b,0,none⟩/\m.free b)/\rowRd m' a (Rx.ZcG (L++t.subs.drop k)),⟨_,0,[],m,by omega,rfl,rfl,rfl,rfl,Mem.le_refl _,aB,bH,by simp,bH,aC⟩,?_⟩
 rintro z m2 q _ ⟨k,L,mb,hk,cN,hq,kw,nQ,fJ,jZ,eO,mo,cA,dD⟩
 obtain rfl:z=k:=by simpa using cN
 refine Zab (λaH=>?_) (λbL=>?_)
 ·have aS:k < t.subs.length:=by have:=zA6 aH;omega
  obtain⟨x,hx⟩:=ZaM aS
  have dJ:=aZ x (zA2 hx)
  have mF:x.nodes.length<=10000:=by
   obtain⟨h1,h2⟩:=zA0 hx
   have:=congrArg List.length (ZdM hx)
   unfold szL at bJ
   simp only[zA1]at this
   omega
  have jB:t.subs.drop k=x::t.subs.drop (k+1):=by
   rw[List.drop_eq_getElem_cons aS,(zA0 hx).2]
  rcases eO with eO|⟨bk,rfl,dQ⟩
  ·omega
  obtain⟨b0,o0,j0,cC⟩:=ZdX dD (i:=k) (t:=x) (by rw[zA4 (by omega),kw,Nat.sub_self,jB];rfl)
  cases j0
  have hw:IntKind.i64.wrap ((k:Int)+1)=((k+1:Nat):Int):=by rw[Zam (by omega) (by omega)];rfl
  simp only[hw,zA8]
  have gL:CX Tryz.prog 94 #[x.v] m2 [] (ZqX mb m2 λt'=>t'.er=x.er/\(t'.caps/\NewT mb t')):=(Zmu x mb (Rep.mono fJ x dJ) mF).frame2 jZ
  refine⟨bk,0,rfl,⟨by omega,by omega⟩,_,_,_,_,_,_,_,_,cC,λb3=>Zaa rfl ⟨λ_ _ _=>ZqX mb m2 λt'=>t'.er=x.er/\(t'.caps/\NewT mb t'),ZqX mb m2 λt'=>t'.er=x.er/\(t'.caps/\NewT mb t'),rfl,gL,ZdG,ZjQ λt' m0 m3 aQ h0 cO dK hr' ht'=>⟨bk,0,rfl,⟨by omega,by omega⟩,λM ib iD=>⟨rfl,by omega,by trivial,by trivial,t.subs.length - (k+1),by omega,k+1,L++[t'],m0,by omega,rfl,rfl,by simp[kw],?_,mLt fJ h0,?_,.inr ⟨bk,rfl,?_⟩,?_,cA,?_⟩⟩⟩⟩
  ·rw[List.map_append,nQ,ZsI hx,List.map_append]
   simp[ht'.1]
  ·refine Mem.le_upd (mLt cO iD) ?_ _ _
   intro o'
   have hc:m2 bk (0+k*8+0)=some (.int .u8 x.k):=cC 0 _ rfl
   rw[dK _ _ _ hc o'];exact dQ o'
  ·intro o'
   have hc:m2 bk (0+k*8+0)=some (.int .u8 x.k):=cC 0 _ rfl
   rw[dK _ _ _ hc o'];exact dQ o'
  ·intro y hy
   rcases List.mem_append.1 hy with hy|hy
   ·exact⟨Rep.mono h0 y (mo y hy).1,(mo y hy).2⟩
   ·simp at hy;subst hy;exact⟨hr',ht'.2.1,ht'.2.2.less fJ⟩
  ·rw[jB]at dD
   have h5:=ZxR (t:=t') (dD.mono ib)
   rw[kw]at h5
   rw[List.append_assoc]
   exact h5
 ·have dI:k=t.subs.length:=by have:=of_decide_eq_false bL;omega
  subst dI
  rw[List.drop_length,List.append_nil]at dD
  rw[List.take_length]at nQ
  have cD:=ZBI hr
  refine⟨m2,mLt fJ jZ,Mem.le_refl _,.node t.k t.s0 t.s1 t.s2 t.s3 t.mn t.mx a c L,?_,?_,?_⟩
  ·simp only[T.v,T.k,T.s0,T.s1,T.s2,T.s3,T.mn,T.mx,T.a,T.c,T.subs,kw]
  ·have:=Zwa dD (λx hx=>Rep.mono jZ x (mo x hx).1) (by omega)
   exact ZBJ this.1 this.2 cD
  ·have:=ZzI (k:=t.k) (s0:=t.s0) (s1:=t.s1) (s2:=t.s2) (s3:=t.s3) (mn:=t.mn) (mx:=t.mx) (a:=a) (a':=t.a) (c:=c) (c':=t.c) nQ
   refine⟨this.trans ?_,ZuD (by omega) λx hx=>(mo x hx).2.1,Zu6 (cA.imp (λh=>List.eq_nil_of_length_eq_zero (by omega)) id) λx hx=>(mo x hx).2.2⟩
   cases t;rfl
termination_by SizeOf.sizeOf t
decreasing_by exact Zrv (zA2 hx)
mutual
theorem ZAl{m m':Mem}:∀(t:T),Rep m' t->NewT m t->Rep (nw m m') t
 | .node k s0 s1 s2 s3 mn mx a c l,hr,hn=>by
  have h0:=hn _ (by rw[ZcC];exact List.mem_cons_self)
  simp only[Rep]at hr ⊢
  refine⟨hr.1,?_,hr.2.2⟩
  rcases hr.2.1 with h|⟨b,o,ha,eN⟩
  ·exact .inl h
  rcases h0 with h|⟨b',hb',hf⟩
  ·exact .inl h
  ·have e:a=some ⟨b',0,none⟩:=hb'
   rw[ha]at e
   simp only[Option.some.injEq,Addr.mk.injEq,and_true]at e
   obtain⟨rfl,rfl⟩:=e
   exact .inr ⟨b,0,ha,Zts b hf 0 l eN λx hx y hy=>hn y (by
    rw[ZcC]
    refine List.mem_cons_of_mem _ ?_
    obtain⟨i,hi⟩:=List.getElem?_of_mem hx
    rw[show(T.node k s0 s1 s2 s3 mn mx a c l).subs=l from rfl,ZdM hi]
    simp[hy])⟩
theorem Zts{m m':Mem}(b:Nat)(hf:m.free b):∀(o:Nat)(l:List T),RepAt m' b o l->(∀x∈l,NewT m x)->RepAt (nw m m') b o l
 | _,[],_,_=>by simp only[RepAt]
 | o,t::l,hr,hn=>by
  simp only[RepAt]at hr ⊢
  exact⟨λj v hj=>by rw[ZyQ hf];exact hr.1 j v hj,ZAl t hr.2.1 (hn t (by simp)),Zts b hf (o+8) l hr.2.2 λx hx=>hn x (by simp[hx])⟩
end
def CpT(m:Mem)(t:T):Value->Mem->List (List Value)->Prop:=λv m' _=>∃t':T,v=t'.v/\t'.er=t.er/\Rep (nw m m') t'
theorem ZxT{m:Mem}{t:T}:∀(v:Value)(m':Mem) (css:List (List Value)),CpT m t v m' css->Shape.fits (.agg [.int .u8,.int .u64,.int .u64,.int .u64,.int .u64,.int .i64,.int .i64,.slice]) v=true:=λv _ _ ⟨t,e,_⟩=>by rw[e];rfl
theorem ZxU(t:T)(m:Mem)(hr:Rep m t)(hz:t.nodes.length<=10000):CX Tryz.prog 64 #[t.v] m [] (CpT m t):=by
 apply ZrS
 intro b m1 aB _ b1
 have hl:t.light=true:=by unfold T.light;exact decide_eq_true hz
 have h:=Zd5 t m1 (hr.mono aB)
 rw[hl]at h
 refine Zah h λm2 aO=>ZcF rfl (Zaj (Zmu t m2 (hr.mono (mLt aB aO)) hz) Zft (Zry λt' m3 aQ hr' ht'=>?_))
 exact⟨m3,mLt aB (mLt aO aQ),Mem.le_refl _,t',rfl,ht'.1,ZAl t' hr' (ht'.2.2.less (mLt aB aO))⟩
theorem Zqe(a:Option Addr)(c:Nat)(l:List E)(m:Mem)(h:rowRd m a (l.map E.cs).flatten)(hl:l.length<=1000000000000):CXT Tryz.prog 116 #[.slice a l.length c] m 5 (λv m' _=>∃a' c',v=.slice a' l.length c'/\rowRd m' a' (l.map E.cs).flatten/\l.length<=c'/\(l.length=0\/∃b,a'=some ⟨b,0,none⟩/\m.free b)):=by
 apply Zbo
 have aP:(l.map E.cs).flatten.length=l.length*5:=ZaH E.len l
 refine Zab (λha=>?_) (λha=>⟨⟨rfl,Int.le_refl _,by decide,by decide⟩,λb hf _=>⟨.inl rfl,[],(l.map E.cs).flatten,rfl,aP,.inl rfl,h,?_,by omega,by omega,λa' c' m' hm aC jO=>⟨rfl,?_⟩⟩⟩)
 ·obtain rfl:a=none:=by simpa using ha
  have h0:l=[]:=by
   rcases h with h|⟨_,_,h,_⟩
   ·rw[h]at aP;exact List.eq_nil_of_length_eq_zero (by simp at aP;omega)
   ·cases h
  subst h0
  exact⟨rfl,none,0,rfl,.inl rfl,Nat.le_refl _,.inl rfl⟩
 ·intro u hu
  simp only[List.mem_flatten,List.mem_map]at hu
  obtain⟨_,⟨e,_,rfl⟩,hu⟩:=hu
  exact E.one e u hu
 ·simp only[Nat.zero_add]at jO ⊢
  refine⟨a',c',rfl,aC,jO.1,?_⟩
  rcases(jO.old (λ_ _ e=>by cases e;rfl)).2 with h1|⟨b',h1,h2|h2⟩
  ·subst h1
   left
   rcases aC with h3|⟨_,_,h3,_⟩
   ·have h4:(l.map E.cs).flatten.length=0:=congrArg List.length h3
    omega
   ·cases h3
  ·right;rw[<-h2];exact⟨b,rfl,hf⟩
  ·exact .inr ⟨b',h1,h2⟩
theorem Zu7{m:Mem}{b:Nat}{ts r:List E}{x t:E}(h:rowRd m (some ⟨b,0,none⟩) ((ts++x::r).map E.cs).flatten):rowRd (m.upd b (0+ts.length*5) t.cs) (some ⟨b,0,none⟩) ((ts++t::r).map E.cs).flatten:=by
 have hl:∀l:List E,(l.map E.cs).flatten.length=l.length*5:=ZaH E.len
 rcases h with h|⟨b',o',ha,h⟩
 ·have:=congrArg List.length h
  rw[hl,zA1,List.length_cons]at this
  simp at this
 cases ha
 have e:∀y:E,((ts++y::r).map E.cs).flatten=(ts.map E.cs).flatten++(y.cs++(r.map E.cs).flatten):=λy=>by simp
 refine .inr ⟨b,0,rfl,λj v hj=>?_⟩
 rw[e]at hj
 unfold Mem.upd;try dsimp only
 rw[Nat.zero_add,Nat.zero_add,E.len]
 rcases Nat.lt_or_ge j (ts.length*5)with aH|bL
 ·rw[if_neg (by omega)]
  rw[zA5 (by rw[hl];exact aH)]at hj
  have:=h j v (by rw[e,zA5 (by rw[hl];exact aH)];exact hj)
  rwa [Nat.zero_add]at this
 ·rw[zA4 (by rw[hl];exact bL),hl]at hj
  rcases Nat.lt_or_ge j (ts.length*5+5)with aH|dV
  ·rw[if_pos ⟨rfl,bL,aH⟩]
   rw[zA5 (by rw[E.len];omega)]at hj
   exact hj
  ·rw[if_neg (by omega)]
   rw[zA4 (by rw[E.len];omega),E.len]at hj
   have:=h j v (by
    rw[e,zA4 (by rw[hl];exact bL),hl,zA4 (by rw[E.len];omega),E.len];exact hj)
   rwa [Nat.zero_add]at this
def NewE(m:Mem)(t:E):Prop:=∀x∈t.nodes,x.subs=[]\/∃b,x.a=some ⟨b,0,none⟩/\m.free b
theorem NewE.less{m m':Mem}{t:E}(hn:NewE m' t)(h:m.le m'):NewE m t:=λx hx=>(hn x hx).imp id λ⟨b,e,hf⟩=>⟨b,e,Zbd h hf⟩
theorem ZjT{y x:E}{l:List E}(hx:x∈l)(hy:y∈x.nodes):y∈Zao l:=by
 obtain⟨i,hi⟩:=List.getElem?_of_mem hx
 rw[ZcD hi];simp[hy]
theorem Zu8{m:Mem}{k:Int}{x:Nat}{s:ByteArray}{g:Int}{a:Option Addr}{c:Nat}{l:List E}(h:l=[]\/∃b,a=some ⟨b,0,none⟩/\m.free b)(hl:∀x∈l,NewE m x):NewE m (.node k x s g a c l):=by
 intro x hx
 simp only[E.nodes,List.mem_cons]at hx
 rcases hx with rfl|hx
 ·exact h
 ·have:∀l:List E,(∀x∈l,NewE m x)->∀x∈Zao l,x.subs=[]\/∃b,x.a=some ⟨b,0,none⟩/\m.free b:=by
   intro l
   induction l with
   | nil=>intro _ x hx;simp[Zao]at hx
   | cons y l ih=>
    intro h x hx
    simp only[Zao,List.mem_append]at hx
    rcases hx with hx|hx
    ·exact h y (by simp) x hx
    ·exact ih (λz hz=>h z (by simp[hz])) x hx
  exact this l hl x hx
mutual
theorem Zwz{m m':Mem}:∀(t:E),RepE m' t->NewE m t->RepE (nw m m') t
 | .node k x s g a c l,hr,hn=>by
  have h0:=hn _ (by rw[ZbD];exact List.mem_cons_self)
  simp only[RepE]at hr ⊢
  refine⟨hr.1,?_,hr.2.2⟩
  rcases hr.2.1 with h|⟨b,o,ha,eN⟩
  ·exact .inl h
  rcases h0 with h|⟨b',hb',hf⟩
  ·exact .inl h
  ·have e:a=some ⟨b',0,none⟩:=hb'
   rw[ha]at e
   simp only[Option.some.injEq,Addr.mk.injEq,and_true]at e
   obtain⟨rfl,rfl⟩:=e
   exact .inr ⟨b,0,ha,Zqf b hf 0 l eN λx hx y hy=>hn y (by
    rw[ZbD]
    exact List.mem_cons_of_mem _ (ZjT hx hy))⟩
theorem Zqf{m m':Mem}(b:Nat)(hf:m.free b):∀(o:Nat)(l:List E),RepEAt m' b o l->(∀x∈l,NewE m x)->RepEAt (nw m m') b o l
 | _,[],_,_=>by simp only[RepEAt]
 | o,t::l,hr,hn=>by
  simp only[RepEAt]at hr ⊢
  exact⟨λj v hj=>by rw[ZyQ hf];exact hr.1 j v hj,Zwz t hr.2.1 (hn t (by simp)),Zqf b hf (o+5) l hr.2.2 λx hx=>hn x (by simp[hx])⟩
end
theorem ZhO{m:Mem}{b:Nat}:∀(L:List E)(o:Nat),RepEAt m b o L->m.reads b o (L.map E.cs).flatten
 | [],o,_=>λj v hj=>by simp at hj
 | z::L,o,h=>λj v hj=>by
  simp only[RepEAt]at h
  rw[List.map_cons,List.flatten_cons]at hj
  rcases Nat.lt_or_ge j 5 with aH|bL
  ·rw[zA5 (by rw[E.len];exact aH)]at hj
   exact h.1 j v hj
  ·rw[zA4 (by rw[E.len];exact bL),E.len]at hj
   have:=ZhO L (o+5) h.2.2 (j - 5) v hj
   rwa [show o+5+(j - 5)=o+j by omega]at this
theorem ZxV(e:E)(m:Mem):CX Tryz.prog 96 #[e.v] m [] (Ret e.v):=by
 apply ZiW
 intro b m1 aB _ b2
 exact Zaa rfl (Zac aB rfl)
set_option maxHeartbeats 800000 in
theorem Zmv(t:E)(m:Mem)(hr:RepE m t)(hz:t.nodes.length<=10000):CX Tryz.prog 95 #[t.v,.func (.func 96) #[] #[]] m [] (ER λt'=>t'.er=t.er/\NewE m t'):=by
 have eR:t.subs.length<=10000:=by
  have:=Zey t.subs
  rw[ZbD,List.length_cons]at hz;omega
 have aZ:∀x∈t.subs,RepE m x:=λx hx=>Zmb hr (by rw[ZbD];exact List.mem_cons_of_mem _ (ZjT hx (by rw[ZbD];simp)))
 have qQ:rowRd m t.a (t.subs.map E.cs).flatten:=by
  rcases(ZeU hr).2 with h|⟨b,o,ha,eN⟩
  ·rw[h];exact .inl rfl
  ·exact .inr ⟨b,o,ha,ZhO t.subs o eN⟩
 apply ZhF
 intro b b1
 refine⟨_,Zqe t.a t.c t.subs m qQ (by omega),(λv _ _ ⟨a,c,e,_⟩=>by rw[e];rfl),?_⟩
 rintro a n c m1 aB ⟨a',c',hv,aC,iU,bH⟩
 simp only[Value.slice.injEq]at hv
 obtain⟨rfl,rfl,rfl⟩:=hv
 refine⟨λxs css tvs m' q=>∃(k:Nat)(L:List E)(mb:Mem),k<=t.subs.length/\xs=[.int .i64 k]/\q=t.subs.length - k/\L.length=k/\L.map E.er=(t.subs.take k).map E.er/\m.le mb/\mb.le m'/\(t.subs.length=0\/∃b,a=some ⟨b,0,none⟩/\mb.free b)/\(∀x∈L,RepE mb x/\NewE m x)/\(t.subs.length=0\/∃b,a=some ⟨b,0,none⟩/\m.free b)/\rowRd m' a ((L++t.subs.drop k).map E.cs).flatten,⟨_,0,[],m,by omega,rfl,rfl,rfl,rfl,Mem.le_refl _,aB,bH,by simp,bH,aC⟩,?_⟩
 rintro z m2 q _ ⟨k,L,mb,hk,cN,hq,kw,nQ,fJ,jZ,eO,mo,cA,dD⟩
 obtain rfl:z=k:=by simpa using cN
 refine Zab (λaH=>?_) (λbL=>?_)
 ·have aS:k < t.subs.length:=by have:=zA6 aH;omega
  obtain⟨x,hx⟩:=ZaM aS
  have dJ:=aZ x (zA2 hx)
  have mF:x.nodes.length<=10000:=by
   have:=congrArg List.length (ZcD hx)
   rw[ZbD,List.length_cons]at hz
   simp only[zA1]at this
   omega
  have jB:t.subs.drop k=x::t.subs.drop (k+1):=by
   rw[List.drop_eq_getElem_cons aS,(zA0 hx).2]
  rcases eO with eO|⟨bk,rfl,dQ⟩
  ·omega
  obtain⟨b0,o0,j0,cC⟩:=Zan E.len dD (k:=k) (t:=x) (by rw[zA4 (by omega),kw,Nat.sub_self,jB];rfl) (by omega)
  cases j0
  have hw:IntKind.i64.wrap ((k:Int)+1)=((k+1:Nat):Int):=by rw[Zam (by omega) (by omega)];rfl
  simp only[hw,zA8]
  have gL:CX Tryz.prog 95 #[x.v,.func (.func 96) #[] #[]] m2 [] (EF mb m2 λt'=>t'.er=x.er/\NewE mb t'):=(Zmv x mb (RepE.mono fJ x dJ) mF).frame2 jZ
  refine⟨bk,0,rfl,⟨by omega,by omega⟩,_,_,_,_,_,cC,λb3=>Zaa rfl ⟨λ_ _ _=>EF mb m2 λt'=>t'.er=x.er/\NewE mb t',EF mb m2 λt'=>t'.er=x.er/\NewE mb t',rfl,gL,Ztq,ZDW λt' m0 m3 aQ h0 cO dK hr' ht'=>⟨bk,0,rfl,⟨by omega,by omega⟩,λM ib iD=>Zaa rfl ⟨rfl,by omega,trivial,trivial,t.subs.length - (k+1),by omega,k+1,L++[t'],m0,by omega,rfl,rfl,by simp[kw],?_,mLt fJ h0,?_,.inr ⟨bk,rfl,?_⟩,?_,cA,?_⟩⟩⟩⟩
  ·rw[List.map_append,nQ,ZsI hx,List.map_append]
   simp[ht'.1]
  ·refine Mem.le_upd (mLt cO iD) ?_ _ _
   intro o'
   have hc:m2 bk (0+k*5+0)=some (.int .u8 x.k):=cC 0 _ rfl
   rw[dK _ _ _ hc o'];exact dQ o'
  ·intro o'
   have hc:m2 bk (0+k*5+0)=some (.int .u8 x.k):=cC 0 _ rfl
   rw[dK _ _ _ hc o'];exact dQ o'
  ·intro y hy
   rcases List.mem_append.1 hy with hy|hy
   ·exact⟨RepE.mono h0 y (mo y hy).1,(mo y hy).2⟩
   ·simp at hy;subst hy;exact⟨hr',ht'.2.less fJ⟩
  ·rw[jB]at dD
   have h5:=Zu7 (t:=t') (dD.mono ib)
   rw[kw]at h5
   rw[List.append_assoc]
   exact h5
 ·have dI:k=t.subs.length:=by have:=of_decide_eq_false bL;omega
  subst dI
  rw[List.drop_length,List.append_nil]at dD
  rw[List.take_length]at nQ
  have cD:=ZsK hr
  have hv:Value.agg #[.int .u8 t.k,.float .f64 t.x,.string t.s,.int .i64 t.g,.slice a t.subs.length c]=(E.node t.k t.x t.s t.g a c L).v:=by
   simp only[E.v,E.k,E.x,E.s,E.g,E.a,E.c,E.subs,kw]
  have gL:=ZxV (.node t.k t.x t.s t.g a c L) m2
  rw[<-hv]at gL
  refine⟨_,trivial,gL,(λv _ _ h=>by rw[h];rfl),?_⟩
  intro n5 v5 s5 g5 a5 k5 c5 m3 aQ iT
  simp only[Value.agg.injEq,Array.mk.injEq,List.cons.injEq,Value.int.injEq,Value.string.injEq,Value.slice.injEq,true_and,and_true]at iT
  obtain⟨rfl,rfl,rfl,rfl,rfl,rfl,rfl⟩:=iT
  refine Zaa rfl ⟨m3,mLt fJ (mLt jZ aQ),Mem.le_refl _,.node t.k t.x t.s t.g a5 c5 L,hv,?_,?_,?_⟩
  ·exact Ztr (dD.mono aQ) (λx hx=>RepE.mono (mLt jZ aQ) x (mo x hx).1) (by omega) cD
  ·cases t
   simp only[E.er,E.k,E.x,E.s,E.g,E.subs,Zoa]at nQ ⊢
   rw[nQ]
  ·exact Zu8 (cA.imp (λh=>List.eq_nil_of_length_eq_zero (by omega)) id) λx hx=>(mo x hx).2
termination_by SizeOf.sizeOf t
decreasing_by exact Zl8 (zA2 hx)
theorem ZDA(i:Nat):Int.tdiv (i:Int) 64=((i / 64:Nat):Int):=rfl
theorem ZCL(i:Nat):Int.tmod (i:Int) 64=((i % 64:Nat):Int):=rfl
theorem ZDB{n:Int}(h1:0<=n)(h2:n < 256):IntKind.u8.wrap n=n:=by
 unfold IntKind.wrap
 simp only[IntKind.bits,IntKind.signed,Bool.false_and,Bool.false_eq_true,if_false]
 have e:(2:Int) ^ 8=256:=by decide
 rw[e];omega
theorem ZxW(t:T)(m:Mem)(hr:Rep m t):CX Tryz.prog 87 #[t.v] m [] (Zpi (λu=>∃a c,u=ZbQ 6 0 0 a c [t])):=by
 apply Zi4
 intro b m1 aB _ b1 b2 hf
 have bG:=Mem.le_add hf t.cs
 refine ZaD (mLt aB bG) ⟨ZbQ 6 0 0 (some ⟨b2,0,none⟩) 1 [t],rfl,ZdD (Zn7 ?_ (hr.mono (mLt aB bG))) (by omega) (by omega) (by omega),_,_,rfl⟩
 intro j v hj
 rw[Nat.zero_add,Mem.add_same];exact hj
theorem ZAm(t:T)(mn mx:Int)(h1 : -9223372036854775808<=mn/\mn<=9223372036854775807)(h2 : -9223372036854775808<=mx/\mx<=9223372036854775807)(m:Mem)(hr:Rep m t):CX Tryz.prog 88 #[t.v,.int .i64 mn,.int .i64 mx] m [] (Zpi (λu=>∃a c,u=ZbQ 5 mn mx a c [t])):=by
 apply Znz
 intro b m1 aB _ b1 b2 hf
 have bG:=Mem.le_add hf t.cs
 refine ZaD (mLt aB bG) ⟨ZbQ 5 mn mx (some ⟨b2,0,none⟩) 1 [t],rfl,ZdD (Zn7 ?_ (hr.mono (mLt aB bG))) (by omega) h1 h2,_,_,rfl⟩
 intro j v hj
 rw[Nat.zero_add,Mem.add_same];exact hj
def ZeD(s:ByteArray):List Nat:=s.data.toList.map λb=>b.toNat
theorem ZrX(s:ByteArray):(ZeD s).length=s.size:=by unfold ZeD;rw[List.length_map,Array.length_toList];rfl
theorem Zu9(s:ByteArray):∀c∈ZeD s,c < 256:=by
 intro c hc
 unfold ZeD at hc
 obtain⟨b,_,rfl⟩:=List.mem_map.1 hc
 exact b.toBitVec.isLt
theorem ZxX{s:ByteArray}{k c:Nat}(h:(ZeD s)[k]?=some c):ZgW s k=(c:Int):=by
 unfold ZeD at h
 rw[List.getElem?_map]at h
 obtain⟨b,hb,rfl⟩:=Option.map_eq_some_iff.1 h
 unfold ZgW
 rw[List.getD_eq_getElem?_getD,hb];rfl
theorem Zqg(s:ByteArray)(hs:(ZeD s).length<=100000)(m:Mem):CX Tryz.prog 84 #[.string s] m [] (Zpi (λt=>t=Zku (ZeD s))):=by
 apply Zi5
 intro b b1
 have aP:=ZrX s
 refine⟨λxs css tvs m' q=>∃k:Nat,k<=s.size/\xs=[.int .i64 k]/\css=[Zwc ((ZeD s).take k)]/\q=s.size - k,⟨_,0,by omega,rfl,rfl,rfl⟩,?_⟩
 rintro n cs m1 q aB ⟨k,hk,hn,cF,hq⟩
 obtain rfl:n=k:=by simpa using hn
 obtain rfl:cs=Zwc ((ZeD s).take k):=by simpa using cF
 refine Zab (λaH=>?_) (λbL=>?_)
 ·have aS:k < s.size:=by have:=zA6 aH;omega
  obtain⟨c,hc⟩:=ZaM (l:=ZeD s) (k:=k) (by omega)
  have qR:=Zu9 s c (zA2 hc)
  have hw:IntKind.i64.wrap ((k:Int)+1)=((k+1:Nat):Int):=by rw[Zam (by omega) (by omega)];rfl
  have uh:IntKind.u8.wrap (Int.tdiv (c:Int) 64)=((c / 64:Nat):Int):=by rw[ZDA];exact ZDB (by omega) (by omega)
  have hr:IntKind.u64.wrap (1*2 ^ min (Int.toNat (Int.tmod (c:Int) 64)) 64)=((2 ^ (c % 64):Nat):Int):=by
   rw[ZCL,zA8,Nat.min_eq_left (by omega),Int.one_mul]
   have:=ZCv (2 ^ (c % 64)) (by
    have:2 ^ (c % 64) < 2 ^ 64:=Nat.pow_lt_pow_right (by omega) (by omega)
    exact this)
   rw[<-this];push_cast;rfl
  have h2:(2:Nat) ^ (c % 64) < 18446744073709551616:=by
   have:(2:Nat) ^ (c % 64) < 2 ^ 64:=Nat.pow_lt_pow_right (by omega) (by omega)
   exact this
  have hj:c / 64 < 4:=by omega
  simp only[hw,zA8,ZxX hc,uh,hr,Nat.zero_add,Nat.mul_one]
  refine⟨⟨by omega,by omega⟩,by omega,⟨by omega,by omega⟩,Zap (Zux _ hj) ⟨⟨by omega,by omega⟩,by omega,by rw[ZCL];omega,Zaa rfl ⟨⟨by omega,by omega⟩,Zaa (by rw[Nat.ble_eq];show c / 64+1<=4;omega) ⟨by trivial,s.size - (k+1),by omega,k+1,by omega,rfl,?_,rfl⟩⟩⟩⟩
  simp only[RowKit.intOf]
  rw[Zw6 _ _ (Zwb _ _) h2,Zrz _ rfl hj,ZsI hc]
 ·have:k=s.size:=by have:=of_decide_eq_false bL;omega
  subst this
  rw[<-aP,List.take_length]
  exact Zaa rfl (Zaa rfl (Zac aB ⟨Zku (ZeD s),rfl,Zpj _ m,rfl⟩))
theorem ZrY(n:Nat)(hn:n < 256)(m:Mem):CX Tryz.prog 85 #[.int .u8 n] m [] (λv _ _=>∃s,v=.string s/\ZeD s=ZdI n):=by
 apply ZgC
 intro b hf
 have ht:Int.tmod (n:Int) 12=((n % 12:Nat):Int):=rfl
 simp only[ht,zA8,Nat.mul_one]
 refine⟨by omega,⟨by omega,by omega⟩,?_⟩
 have h:n % 12=0\/n % 12=1\/n % 12=2\/n % 12=3\/n % 12=4\/n % 12=5\/n % 12=6\/n % 12=7\/n % 12=8\/n % 12=9\/n % 12=10\/n % 12=11:=by omega
 unfold ZdI
 rcases h with e|e|e|e|e|e|e|e|e|e|e|e <;>
 ·rw[e]
  refine Zap rfl ?_
  exact⟨_,Mem.le_add hf _,Mem.le_refl _,_,rfl,rfl⟩
theorem ZeY(k:Int)(t:T):Za0 k t=if t.k=k then t.subs else if k=3/\t.k=1 then[]else[t]:=rfl
theorem Zd6(l:List T):∀u∈Rx.ZcG l,u.oneCell'=true:=by
 intro u hu
 simp only[Rx.ZcG,List.mem_flatten,List.mem_map]at hu
 obtain⟨_,⟨t,_,rfl⟩,h⟩:=hu
 simp only[T.cs,List.mem_cons,List.not_mem_nil,or_false,T.sl]at h
 rcases h with rfl|rfl|rfl|rfl|rfl|rfl|rfl|rfl <;> rfl
theorem Zoh(k:Int)(t u:T)(hk:k=3\/k=4)(m:Mem)(hr:Rep m t)(hu:Rep m u)(ht:(Za0 k t).length<=10000)(xR:(Za0 k u).length<=10000):CX Tryz.prog 86 #[.int .u8 k,t.v,u.v] m [] (Zpi (λr=>∃a c,r=Zfz k a c (Za0 k t++Za0 k u))):=by
 apply Zi6
 intro b m1 aB _ b1 m2 aO _ b2 b3 ir
 have lp:=mLt aB aO
 have iw:m.le (m2.add b3 (t.cs++u.cs)):=mLt lp (Mem.le_add ir _)
 refine⟨λxs css tvs m' q=>∃(i:Nat)(l:List T)(a:Option Addr)(c:Nat),i<=2/\xs=[.slice a l.length c,.int .i64 i]/\tvs=[.slice a l.length c]/\l=(([t,u].take i).map (Za0 k)).flatten/\rowRd m' a (Rx.ZcG l)/\q=2 - i,⟨2,0,[],none,0,by omega,rfl,rfl,rfl,.inl rfl,rfl⟩,?_⟩
 rintro a n c z a1 n1 c1 m3 q aQ ⟨i,l,a',c',hi,cN,dF,hl,aC,hq⟩
 simp only[List.cons.injEq,Value.slice.injEq,Value.int.injEq,true_and,and_true]at cN dF
 obtain⟨⟨rfl,rfl,rfl⟩,rfl⟩:=cN
 obtain⟨rfl,rfl,rfl⟩:=dF
 have jf:=mLt iw aQ
 have ip:l.length<=20000:=by
  rw[hl]
  have:i=0\/i=1\/i=2:=by omega
  rcases this with rfl|rfl|rfl <;> simp <;> omega
 refine Zab (λaH=>?_) (λbL=>?_)
 ·have h2:i=0\/i=1:=by have:=zA6 aH;omega
  rcases h2 with rfl|rfl
  ·
   refine⟨⟨by omega,by omega⟩,Zaa rfl λb4=>Zaa rfl (Zap (v:=.int .u8 t.k) rfl (Zaa rfl (Zab (λdI=>Zap (v:=t.sl) rfl (Zaa rfl ?_)) (λdI=>?_))))⟩
   ·have ij:t.k=k:=by simpa[RowKit.intOf]using dI
    have hj:Za0 k t=t.subs:=by rw[ZeY,if_pos ij]
    have aP:=ht
    rw[hj]at aP
    refine⟨.inl rfl,Rx.ZcG l,Rx.ZcG t.subs,Zaq _,Zaq _,aC,(Zev (hr.subs)).mono jf,Zd6 _,?_,?_,λa2 c2 m4 bN cW=>⟨by trivial,1,by omega,1,l++t.subs,a2,c2,by omega,?_,?_,?_,?_,?_⟩⟩
    ·simp only[T.sl,slN];omega
    ·simp only[T.sl,slN];omega
    ·rw[zA1];rfl
    ·rw[zA1];rfl
    ·rw[hl,<-hj];simp
    ·rw[ZaK];exact cW
    ·omega
   ·have ij:¬t.k=k:=by simpa[RowKit.intOf]using dI
    refine⟨k == 3&&t.k == 1,Zab (λh=>Zap (v:=.int .u8 t.k) rfl (Zaa rfl ⟨by trivial,by trivial,?_⟩)) (λh=>⟨by trivial,by trivial,?_⟩),Zab (λh=>⟨by trivial,1,by omega,1,l,_,_,by omega,rfl,rfl,?_,aC,by omega⟩) (λh=>Zaa rfl λb6 je=>?_)⟩
    ·rw[h];rfl
    ·rw[h];rfl
    ·have:k=3/\t.k=1:=by simpa using h
     have hj:Za0 k t=[]:=by rw[ZeY,if_neg ij,if_pos this]
     rw[hl];simp[hj]
    ·have:¬(k=3/\t.k=1):=by simpa using h
     have hj:Za0 k t=[t]:=by rw[ZeY,if_neg ij,if_neg this]
     have iv:=Mem.le_add je t.cs
     refine⟨.inl rfl,Rx.ZcG l,t.cs,Zaq _,rfl,aC.mono iv,.inr ⟨b6,0,rfl,λj v hj=>by rw[Nat.zero_add,Mem.add_same];exact hj⟩,by rw[<-Zbt];exact Zd6 _,by omega,by omega,λa2 c2 m4 bN cW=>⟨by trivial,1,by omega,1,l++[t],a2,c2,by omega,?_,?_,?_,?_,?_⟩⟩
     ·rw[zA1];rfl
     ·rw[zA1];rfl
     ·rw[hl];simp[hj]
     ·rw[ZaK,Zbt];exact cW
     ·omega
  ·
   refine⟨⟨by omega,by omega⟩,Zaa rfl λb4=>Zaa rfl (Zap (v:=.int .u8 u.k) rfl (Zaa rfl (Zab (λdI=>Zap (v:=u.sl) rfl (Zaa rfl ?_)) (λdI=>?_))))⟩
   ·have ij:u.k=k:=by simpa[RowKit.intOf]using dI
    have hj:Za0 k u=u.subs:=by rw[ZeY,if_pos ij]
    have aP:=xR
    rw[hj]at aP
    refine⟨.inl rfl,Rx.ZcG l,Rx.ZcG u.subs,Zaq _,Zaq _,aC,(Zev (hu.subs)).mono jf,Zd6 _,?_,?_,λa2 c2 m4 bN cW=>⟨by trivial,0,by omega,2,l++u.subs,a2,c2,by omega,?_,?_,?_,?_,?_⟩⟩
    ·simp only[T.sl,slN];omega
    ·simp only[T.sl,slN];omega
    ·rw[zA1];rfl
    ·rw[zA1];rfl
    ·rw[hl,<-hj];simp
    ·rw[ZaK];exact cW
    ·omega
   ·have ij:¬u.k=k:=by simpa[RowKit.intOf]using dI
    refine⟨k == 3&&u.k == 1,Zab (λh=>Zap (v:=.int .u8 u.k) rfl (Zaa rfl ⟨by trivial,by trivial,?_⟩)) (λh=>⟨by trivial,by trivial,?_⟩),Zab (λh=>⟨by trivial,0,by omega,2,l,_,_,by omega,rfl,rfl,?_,aC,by omega⟩) (λh=>Zaa rfl λb6 je=>?_)⟩
    ·rw[h];rfl
    ·rw[h];rfl
    ·have:k=3/\u.k=1:=by simpa using h
     have hj:Za0 k u=[]:=by rw[ZeY,if_neg ij,if_pos this]
     rw[hl];simp[hj]
    ·have:¬(k=3/\u.k=1):=by simpa using h
     have hj:Za0 k u=[u]:=by rw[ZeY,if_neg ij,if_neg this]
     have iv:=Mem.le_add je u.cs
     refine⟨.inl rfl,Rx.ZcG l,u.cs,Zaq _,rfl,aC.mono iv,.inr ⟨b6,0,rfl,λj v hj=>by rw[Nat.zero_add,Mem.add_same];exact hj⟩,by rw[<-Zbt];exact Zd6 _,by omega,by omega,λa2 c2 m4 bN cW=>⟨by trivial,0,by omega,2,l++[u],a2,c2,by omega,?_,?_,?_,?_,?_⟩⟩
     ·rw[zA1];rfl
     ·rw[zA1];rfl
     ·rw[hl];simp[hj]
     ·rw[ZaK,Zbt];exact cW
     ·omega
 ·have:i=2:=by have:=of_decide_eq_false bL;omega
  subst this
  have hl':Za0 k t++Za0 k u=l:=by rw[hl];simp
  rw[hl']
  have aZ:∀x∈l,Rep m3 x:=by
   have key:∀t:T,Rep m t->∀x∈Za0 k t,Rep m3 x:=by
    intro t hr x hx
    rw[ZeY]at hx
    split at hx
    ·exact Zkt (hr.subs.mono jf) x hx
    ·split at hx
     ·simp at hx
     ·simp at hx;subst hx;exact hr.mono jf
   rw[<-hl']
   intro x hx
   rcases List.mem_append.1 hx with hx|hx
   ·exact key t hr x hx
   ·exact key u hu x hx
  refine Zab (λh0=>?_) (λh0=>Zab (λh1=>?_) (λh1=>?_))
  ·have:l=[]:=by simpa using h0
   subst this
   exact Zac jf ⟨T1,rfl,Zzu _,none,0,rfl⟩
  ·have sr:l.length=1:=by
    have:((l.length:Int) == 1)=true:=h1
    have:=zA6 this;omega
   obtain⟨x,rfl⟩:∃x,l=[x]:=by
    match l,sr with
    | [x],_=>exact⟨x,rfl⟩
   rcases aC with aC|⟨b6,o,ha,cC⟩
   ·simp[Rx.ZcG,T.cs]at aC
   ·rw[Zbt]at cC
    exact⟨b6,o,ha,⟨by omega,by simp⟩,_,_,_,_,_,_,_,_,cC,Zaa rfl (ZaD jf ⟨x,rfl,aZ x (by simp),none,0,rfl⟩)⟩
  ·have xS:¬l.length=0:=λe=>by rw[e]at h0;simp at h0
   have iP:¬l.length=1:=λe=>by rw[e]at h1;simp at h1
   obtain⟨x,y,r,rfl⟩:∃x y r,l=x::y::r:=by
    match l,xS,iP with
    | [],h,_=>simp at h
    | [x],_,h=>simp at h
    | x::y::r,_,_=>exact⟨x,y,r,rfl⟩
   refine ZaD jf ⟨ZbQ k 0 0 _ _ (x::y::r),rfl,ZdD (Zwa aC aZ (by omega)) (by omega) (by omega) (by omega),_,_,rfl⟩
structure Sm (m:Mem)(a:Option Addr)(l:List (Nat×Nat×Nat)):Prop where
 len:l.length<=9223372036854775807
 byte:∀s∈l,s.1 < 256/\s.2.1 < 256/\s.2.2 < 256
 at':∀i s,l[i]?=some s->∃b o,a=some ⟨b,o,none⟩/\m.reads b (o+i*3) [.int .u8 s.1,.int .u8 s.2.1,.int .u8 s.2.2]
theorem Sm.mono{m m':Mem}{a l}(h:Sm m a l)(hm:m.le m'):Sm m' a l:=
 ⟨h.len,h.byte,λi s hi=>by obtain⟨b,o,h1,h2⟩:=h.at' i s hi;exact⟨b,o,h1,h2.mono hm⟩⟩
theorem Zqh(n:Nat):(([[97],[98],[97,98],[97],[98],[99],[97,98,99],[98,99],[10],[0,255],[97],[98]][n % 12]?).getD []:List Nat).length<=100000:=by
 have h:n % 12=0\/n % 12=1\/n % 12=2\/n % 12=3\/n % 12=4\/n % 12=5\/n % 12=6\/n % 12=7\/n % 12=8\/n % 12=9\/n % 12=10\/n % 12=11:=by omega
 rcases h with e|e|e|e|e|e|e|e|e|e|e|e <;> rw[e] <;> decide
theorem ZAn:∀L < 3,∀Mo < 4,((Mo < L\/Mo=0\/(L=1/\Mo=1))->Zks (L:Nat) (-1)=true/\Zw5 (L:Nat) (-1)<=((max 1 L:Nat):Int))/\(¬(Mo < L\/Mo=0\/(L=1/\Mo=1))->Zks (L:Nat) (Mo:Nat)=true/\Zw5 (L:Nat) (Mo:Nat)<=((max 1 (max L Mo):Nat):Int)):=by
 intro L hL Mo hM
 have h1:L=0\/L=1\/L=2:=by omega
 have h2:Mo=0\/Mo=1\/Mo=2\/Mo=3:=by omega
 rcases h1 with rfl|rfl|rfl <;> rcases h2 with rfl|rfl|rfl|rfl <;> exact⟨λ_=>by first|exact⟨by decide,by decide⟩|omega,λ_=>by first|exact⟨by decide,by decide⟩|omega⟩
theorem Zva(l:List (Nat×Nat×Nat))(a:Option Addr)(c:Nat)(m:Mem)(hl:Sm m a l)(hc:l.length<=c):CX Tryz.prog 58 #[.slice a l.length c] m [] (Zpi (λt=>t.check=0/\t.nodes.length<=26)):=by
 apply Zk7
 have aP:=hl.len
 intro b
 have hN:(if(25:Int) < (l.length:Int)then(25:Int)else(l.length:Int))=((min 25 l.length:Nat):Int):=by split <;> omega
 simp only[hN,zA8,Nat.sub_zero]
 generalize su:min 25 l.length=N
 refine⟨⟨by omega,by omega⟩,λxs css tvs m' q=>∃(i:Nat)(ts:List T)(a:Option Addr)(c:Nat)(u g:Nat)(mb:Mem),i<=N/\xs=[.slice a ts.length c,.int .i64 u,.int .i64 g,.int .i64 i]/\tvs=[.slice a ts.length c]/\ts.length<=c/\m.le mb/\mb.le m'/\Apart mb a/\rowRd m' a (Rx.ZcG ts)/\(∀t∈ts,Rep mb t)/\J i ts u g/\q=N - i,⟨N,0,[],none,0,1,0,m,by omega,rfl,rfl,by simp,Mem.le_refl _,Mem.le_refl _,.inl rfl,.inl rfl,by simp,J.zero,by omega⟩,?_⟩
 rintro a1 n1 c1 z1 z2 z3 a2 n2 c2 m1 q _ ⟨i,ts,a',c',u,g,mb,hi,cN,dF,cL,fJ,cZ,dW,aC,aZ,hJ,hq⟩
 simp only[List.cons.injEq,Value.slice.injEq,Value.int.injEq,true_and,and_true]at cN dF
 obtain⟨⟨rfl,rfl,rfl⟩,rfl,rfl,rfl⟩:=cN
 obtain⟨rfl,rfl,rfl⟩:=dF
 have kK:ts.length<=25:=by have:=hJ.sz;have:=Zps ts;omega
 refine Zab (λaH=>?_) (λbL=>?_)
 ·have sw:i < N:=by have:=zA6 aH;omega
  have hi':i < l.length:=by omega
  obtain⟨s,hs⟩:=ZaM hi'
  obtain⟨bs,os,ha,cC⟩:=(hl.mono (mLt fJ cZ)).at' i s hs
  obtain⟨s1,s2,s3⟩:=s
  obtain⟨pq,kL,nB⟩:=hl.byte _ (zA2 hs)
  have hw:IntKind.i64.wrap ((i:Int)+1)=((i+1:Nat):Int):=by rw[Zam (by omega) (by omega)];rfl
  have pt:Int.tmod (RowKit.intOf (Value.int .u8 (s1:Nat))) 12=((s1 % 12:Nat):Int):=rfl
  simp only[hw,zA8]
  refine⟨bs,os,ha,⟨by omega,by omega⟩,_,_,_,cC,λb2=>Zaa rfl (Zaa rfl ⟨by omega,?_⟩)⟩
  simp only[pt]
  refine Zab (λh1=>?_) (λh1=>Zab (λh2=>?_) (λh2=>?_))
  ·refine Zaj (ZrY s2 kL m1) (λv _ _ ⟨s,e,_⟩=>by rw[e];rfl) ?_
   rintro str m2 aO ⟨s',hv,hb⟩
   cases hv
   refine Zaj (Zqg str (by rw[hb];unfold ZdI;exact Zqh _) m2) Zft (Zry λt m3 aQ hr ht b3 ir=>?_)
   rw[hb]at ht
   have iw:=mLt aO (mLt aQ (Mem.le_add ir t.cs))
   obtain⟨k1,k2,k3,k4⟩:=ZsQ s2
   refine⟨.inl trivial,Rx.ZcG ts,t.cs,Zaq _,rfl,aC.mono (iw),.inr ⟨b3,0,rfl,λj v hj=>by rw[Nat.zero_add,Mem.add_same];exact hj⟩,by rw[<-Zbt];exact Zd6 _,by omega,by omega,λa4 c4 m4 bN cW bB=>⟨by trivial,N - (i+1),by omega,i+1,ts++[t],a4,c4,u,g,mb,by omega,?_,?_,by have:=bB.1;rw[zA1];exact this,fJ,mLt cZ (mLt (iw) bN),dW.tok (mLt cZ (iw)) bB,?_,?_,?_,by omega⟩⟩
   ·rw[zA1];rfl
   ·rw[zA1];rfl
   ·rw[ZaK,Zbt];exact cW
   ·intro x hx
    rcases List.mem_append.1 hx with hx|hx
    ·exact aZ x hx
    ·simp at hx;subst hx;exact(by rw[ht];exact Zpj _ _)
   ·rw[ht];exact hJ.push k1 k2 k3 k4
  ·intro b3 ir
   have iw:=Mem.le_add ir T1.cs
   refine⟨.inl trivial,Rx.ZcG ts,T1.cs,Zaq _,rfl,aC.mono (iw),.inr ⟨b3,0,rfl,λj v hj=>by rw[Nat.zero_add,Mem.add_same];exact hj⟩,by rw[<-Zbt];exact Zd6 _,by omega,by omega,λa4 c4 m4 bN cW bB=>⟨by trivial,N - (i+1),by omega,i+1,ts++[T1],a4,c4,u,g,mb,by omega,?_,?_,by have:=bB.1;rw[zA1];exact this,fJ,mLt cZ (mLt (iw) bN),dW.tok (mLt cZ (iw)) bB,?_,?_,?_,by omega⟩⟩
   ·rw[zA1];rfl
   ·rw[zA1];rfl
   ·rw[ZaK,Zbt];exact cW
   ·intro x hx
    rcases List.mem_append.1 hx with hx|hx
    ·exact aZ x hx
    ·simp at hx;subst hx;exact Zzu _
   ·exact hJ.push Zzy.1 Zzy.2.1 Zzy.2.2.1 Zzy.2.2.2
  ·refine⟨decide (s1 % 12 < 7)&&decide (1 < ts.length),Zab (λh3=>⟨by trivial,by trivial,?_⟩) (λh3=>⟨by trivial,by trivial,?_⟩),Zab (λh3=>?_) (λh3=>?_)⟩
   ·refine Zag ?_
    rw[Bool.eq_iff_iff];simp;have:=zA6 h3;omega
   ·refine Zag ?_
    rw[eq_comm,Bool.and_eq_false_iff];left;have:=of_decide_eq_false h3;exact decide_eq_false (by omega)
   ·skip
    obtain⟨r,x,y,rfl⟩:=ZCJ (ts:=ts) (by simp at h3;omega)
    have gJ:(r++[x,y]).length=r.length+2:=by simp
    have iI:IntKind.i64.wrap (((r++[x,y]).length:Int) - 2)=(r.length:Int):=by rw[gJ,Zam (by omega) (by omega)];omega
    have iY:IntKind.i64.wrap (((r++[x,y]).length:Int) - 1)=((r.length+1:Nat):Int):=by rw[gJ,Zam (by omega) (by omega)];omega
    simp only[iI,iY,zA8,Nat.sub_zero]
    obtain⟨bb,jW,iu,o',u',hu'⟩:=dW.base aC (by simp)
    obtain⟨bx,ox,jX,jm⟩:=ZdX aC (i:=r.length) (t:=x) (by simp)
    obtain⟨by',oy,qN,qO⟩:=ZdX aC (i:=r.length+1) (t:=y) (by simp)
    have ui:(Za0 3 x).length<=10000:=by
     have:=hJ.sz
     rw[ZaG,show szL [x,y]=szL ([x]++[y]) from rfl,ZaG,Zbk,Zbk]at this
     have:=Zex (k:=3) (t:=x)
     omega
    have uj:(Za0 3 y).length<=10000:=by
     have:=hJ.sz
     rw[ZaG,show szL [x,y]=szL ([x]++[y]) from rfl,ZaG,Zbk,Zbk]at this
     have:=Zex (k:=3) (t:=y)
     omega
    refine⟨λ_ _ _=>ZqX mb m1 (λr=>∃a c,r=Zfz 3 a c (Za0 3 x++Za0 3 y)),⟨by omega,by omega⟩,⟨by omega,by omega⟩,bx,ox,jX,⟨by omega,by omega⟩,_,_,_,_,_,_,_,_,jm,by',oy,qN,⟨by omega,by omega⟩,_,_,_,_,_,_,_,_,qO,ZqX mb m1 (λr=>∃a c,r=Zfz 3 a c (Za0 3 x++Za0 3 y)),rfl,(Zoh 3 x y (by omega) mb (aZ x (by simp)) (aZ y (by simp)) ui uj).frame2 cZ,ZdG,ZjQ λt m0 m3 aQ h0 jn cA gV ht b6 je=>?_⟩
    obtain⟨at',ct,ht⟩:=ht
    have iv:=Mem.le_add je t.cs
    have fB:Apart m0 _:=.inr ⟨bb,jW,λo=>by rw[cA bb o' u' hu' o];exact iu o⟩
    refine⟨.inr (.inr (by omega)),Rx.ZcG r,t.cs,Zaq _,rfl,((Ztk aC).mono aQ).mono iv,.inr ⟨b6,0,rfl,λj v hj=>by rw[Nat.zero_add,Mem.add_same];exact hj⟩,by rw[<-Zbt];exact Zd6 _,by omega,by omega,λa4 c4 m4 bN cW bB M iy ib iD jM=>⟨by trivial,N - (i+1),by omega,i+1,r++[t],a4,c4,u,g,m0,by omega,?_,?_,by have:=bB.1;rw[zA1];exact this,mLt fJ h0,mLt jn ib,fB.tok (mLt jn iv) bB,?_,?_,?_,by omega⟩⟩
    ·rw[zA1];rfl
    ·rw[zA1];rfl
    ·rw[ZaK,Zbt];exact cW.mono jM
    ·intro z hz
     rcases List.mem_append.1 hz with hz|hz
     ·exact(aZ z (by simp[hz])).mono h0
     ·simp at hz;subst hz;exact gV
    ·rw[ht];exact hJ.join (by omega) (by omega) _ _
   ·refine⟨decide (s1 % 12 < 9)&&decide (1 < ts.length),Zab (λh4=>⟨by trivial,by trivial,?_⟩) (λh4=>⟨by trivial,by trivial,?_⟩),Zab (λh4=>?_) (λh4=>?_)⟩
    ·refine Zag ?_
     rw[Bool.eq_iff_iff];simp;have:=zA6 h4;omega
    ·refine Zag ?_
     rw[eq_comm,Bool.and_eq_false_iff];left;have:=of_decide_eq_false h4;exact decide_eq_false (by omega)
    ·skip
     obtain⟨r,x,y,rfl⟩:=ZCJ (ts:=ts) (by simp at h4;omega)
     have gJ:(r++[x,y]).length=r.length+2:=by simp
     have iI:IntKind.i64.wrap (((r++[x,y]).length:Int) - 2)=(r.length:Int):=by rw[gJ,Zam (by omega) (by omega)];omega
     have iY:IntKind.i64.wrap (((r++[x,y]).length:Int) - 1)=((r.length+1:Nat):Int):=by rw[gJ,Zam (by omega) (by omega)];omega
     simp only[iI,iY,zA8,Nat.sub_zero]
     obtain⟨bb,jW,iu,o',u',hu'⟩:=dW.base aC (by simp)
     obtain⟨bx,ox,jX,jm⟩:=ZdX aC (i:=r.length) (t:=x) (by simp)
     obtain⟨by',oy,qN,qO⟩:=ZdX aC (i:=r.length+1) (t:=y) (by simp)
     have ui:(Za0 4 x).length<=10000:=by
      have:=hJ.sz
      rw[ZaG,show szL [x,y]=szL ([x]++[y]) from rfl,ZaG,Zbk,Zbk]at this
      have:=Zex (k:=4) (t:=x)
      omega
     have uj:(Za0 4 y).length<=10000:=by
      have:=hJ.sz
      rw[ZaG,show szL [x,y]=szL ([x]++[y]) from rfl,ZaG,Zbk,Zbk]at this
      have:=Zex (k:=4) (t:=y)
      omega
     refine⟨λ_ _ _=>ZqX mb m1 (λr=>∃a c,r=Zfz 4 a c (Za0 4 x++Za0 4 y)),⟨by omega,by omega⟩,⟨by omega,by omega⟩,bx,ox,jX,⟨by omega,by omega⟩,_,_,_,_,_,_,_,_,jm,by',oy,qN,⟨by omega,by omega⟩,_,_,_,_,_,_,_,_,qO,ZqX mb m1 (λr=>∃a c,r=Zfz 4 a c (Za0 4 x++Za0 4 y)),rfl,(Zoh 4 x y (by omega) mb (aZ x (by simp)) (aZ y (by simp)) ui uj).frame2 cZ,ZdG,ZjQ λt m0 m3 aQ h0 jn cA gV ht b6 je=>?_⟩
     obtain⟨at',ct,ht⟩:=ht
     have iv:=Mem.le_add je t.cs
     have fB:Apart m0 _:=.inr ⟨bb,jW,λo=>by rw[cA bb o' u' hu' o];exact iu o⟩
     refine⟨.inr (.inr (by omega)),Rx.ZcG r,t.cs,Zaq _,rfl,((Ztk aC).mono aQ).mono iv,.inr ⟨b6,0,rfl,λj v hj=>by rw[Nat.zero_add,Mem.add_same];exact hj⟩,by rw[<-Zbt];exact Zd6 _,by omega,by omega,λa4 c4 m4 bN cW bB M iy ib iD jM=>⟨by trivial,N - (i+1),by omega,i+1,r++[t],a4,c4,u,g,m0,by omega,?_,?_,by have:=bB.1;rw[zA1];exact this,mLt fJ h0,mLt jn ib,fB.tok (mLt jn iv) bB,?_,?_,?_,by omega⟩⟩
     ·rw[zA1];rfl
     ·rw[zA1];rfl
     ·rw[ZaK,Zbt];exact cW.mono jM
     ·intro z hz
      rcases List.mem_append.1 hz with hz|hz
      ·exact(aZ z (by simp[hz])).mono h0
      ·simp at hz;subst hz;exact gV
     ·rw[ht];exact hJ.join (by omega) (by omega) _ _
    ·refine⟨decide (s1 % 12=9)&&(decide (0 < ts.length)&&decide (g < 9)),Zab (λh5=>Zab (λh6=>⟨by trivial,by trivial,?_⟩) (λh6=>⟨by trivial,by trivial,?_⟩)) (λh5=>⟨by trivial,by trivial,?_⟩),Zab (λh5=>?_) (λh5=>?_)⟩
     ·refine Zag ?_
      have e1:=zA6 h6
      have e2:s1 % 12=9:=by have:=h5;simp at this;omega
      rw[decide_eq_true e2,decide_eq_true (show 0 < ts.length by omega),Bool.true_and,Bool.true_and,Bool.eq_iff_iff];simp;omega
     ·refine Zag ?_
      have e1:=of_decide_eq_false h6
      rw[decide_eq_false (show ¬0 < ts.length by omega)];simp
     ·refine Zag ?_
      have e2:¬s1 % 12=9:=by have:=h5;simp at this;omega
      rw[decide_eq_false e2];rfl
     ·
      have xU:g < 9:=by simp at h5;omega
      skip
      obtain⟨r,x,rfl⟩:=ZCK (ts:=ts) (by simp at h5;omega)
      have gJ:(r++[x]).length=r.length+1:=by simp
      have iY:IntKind.i64.wrap (((r++[x]).length:Int) - 1)=(r.length:Int):=by rw[gJ,Zam (by omega) (by omega)];omega
      obtain⟨bb,jW,iu,o',u',hu'⟩:=dW.base aC (by simp)
      subst jW
      obtain⟨bx,ox,jX,jm⟩:=ZdX aC (i:=r.length) (t:=x) (by simp)
      cases jX
      have uk:IntKind.i64.wrap ((g:Int)+1)=((g+1:Nat):Int):=by rw[Zam (by omega) (by omega)];rfl
      simp only[iY,uk,zA8]
      refine⟨_,_,rfl,⟨by omega,by omega⟩,_,_,_,_,_,_,_,_,jm,Zaj ((ZxW x mb (aZ x (by simp))).frame2 cZ) (ZdG (mb:=mb) (M0:=m1)) (ZjQ λt m0 m3 aQ h0 jn cA gV ht=>?_)⟩
      obtain⟨at',ct,ht⟩:=ht
      have fB:m0.free bb:=λo=>by rw[cA bb o' u' hu' o];exact iu o
      refine⟨bb,0,rfl,⟨by omega,by omega⟩,rfl,by omega,by trivial,N - (i+1),by omega,i+1,r++[t],_,_,u,g+1,m0,by omega,?_,?_,by rw[zA1];rw[gJ]at cL;exact cL,mLt fJ h0,Mem.le_upd jn fB _ _,.inr ⟨bb,rfl,fB⟩,Ztl (aC.mono aQ),?_,?_,by omega⟩
      ·rw[gJ,zA1];rfl
      ·rw[gJ,zA1];rfl
      ·intro z hz
       rcases List.mem_append.1 hz with hz|hz
       ·exact(aZ z (by simp[hz])).mono h0
       ·simp at hz;subst hz;exact gV
      ·rw[ht];exact hJ.group xU _ _
     ·by_cases h0:0 < ts.length
      ·skip
       obtain⟨r,x,rfl⟩:=ZCK (ts:=ts) (by exact h0)
       have gJ:(r++[x]).length=r.length+1:=by simp
       have iY:IntKind.i64.wrap (((r++[x]).length:Int) - 1)=(r.length:Int):=by rw[gJ,Zam (by omega) (by omega)];omega
       obtain⟨bb,jW,iu,o',u',hu'⟩:=dW.base aC (by simp)
       subst jW
       obtain⟨bx,ox,jX,jm⟩:=ZdX aC (i:=r.length) (t:=x) (by simp)
       cases jX
       have xV:IntKind.i64.wrap (Int.tmod (RowKit.intOf (Value.int .u8 (s2:Nat))) 3)=((s2 % 3:Nat):Int):=by
        rw[show Int.tmod (RowKit.intOf (Value.int .u8 (s2:Nat))) 3=((s2 % 3:Nat):Int) from rfl,Zam (by omega) (by omega)]
       have xW:IntKind.i64.wrap (Int.tmod (RowKit.intOf (Value.int .u8 (s3:Nat))) 4)=((s3 % 4:Nat):Int):=by
        rw[show Int.tmod (RowKit.intOf (Value.int .u8 (s3:Nat))) 4=((s3 % 4:Nat):Int) from rfl,Zam (by omega) (by omega)]
       simp only[iY,xV,xW,zA8]
       have sy:s2 % 3 < 3:=by omega
       have jM:s3 % 4 < 4:=by omega
       generalize s2 % 3=L at *
       generalize s3 % 4=Mo at *
       refine⟨decide (9 < s1 % 12)&&!(x.k == 1),Zab (λh6=>Zab (λh7=>⟨_,_,rfl,⟨by omega,by omega⟩,.int .u8 x.k,jm 0 _ rfl,Zaa rfl ⟨by trivial,by trivial,?_⟩⟩) (λh7=>absurd h7 (by simp))) (λh6=>⟨by trivial,by trivial,?_⟩),Zab (λh6=>Zaa rfl ⟨by omega,Zaa rfl ⟨by omega,?_⟩⟩) (λh6=>⟨by trivial,N - (i+1),by omega,i+1,r++[x],_,_,u,g,mb,by omega,rfl,rfl,cL,fJ,cZ,dW,aC,aZ,hJ.skip,by omega⟩)⟩
       ·refine Zag ?_
        have:=zA6 h6
        rw[decide_eq_true (show 9 < s1 % 12 by omega),Bool.true_and];rfl
       ·refine Zag ?_
        have:=of_decide_eq_false h6
        rw[decide_eq_false (show ¬9 < s1 % 12 by omega)];rfl
       ·have iH:x.k≠1:=by
         rw[zA7]at h6
         simpa using h6.2
        obtain⟨tab1,tab2⟩:=ZAn L sy Mo jM
        refine⟨decide (Mo < L\/Mo=0\/(L=1/\Mo=1)),Zab (λg1=>⟨by trivial,by trivial,Zag ?_⟩) (λg1=>Zab (λg2=>⟨by trivial,by trivial,Zag ?_⟩) (λg2=>Zab (λg3=>⟨by trivial,by trivial,Zag ?_⟩) (λg3=>⟨by trivial,by trivial,Zag ?_⟩))),Zab (λg4=>?_) (λg4=>?_)⟩
        ·have:=zA6 g1
         exact(decide_eq_true (by omega)).symm
        ·have:Mo=0:=by simp at g2;omega
         exact(decide_eq_true (by omega)).symm
        ·have e1:=of_decide_eq_false g1
         have e2:¬Mo=0:=by simp at g2;omega
         have e3:L=1:=by simp at g3;omega
         rw[Bool.eq_iff_iff];simp;omega
        ·have e1:=of_decide_eq_false g1
         have e2:¬Mo=0:=by simp at g2;omega
         have e3:¬L=1:=by simp at g3;omega
         exact(decide_eq_false (by omega)).symm
        ·
         have hA:(if(1:Int) > (if(-1:Int) > (L:Int)then(-1:Int)else(L:Int))then(1:Int)else(if(-1:Int) > (L:Int)then(-1:Int)else(L:Int)))=((max 1 L:Nat):Int):=by
          split <;> split <;> omega
         obtain⟨tb,tp⟩:=tab1 (zA6 g4)
         have mJ:u*max 1 L<=48:=by have:=Nat.mul_le_mul hJ.u16 (show max 1 L<=3 by omega);omega
         have ul:IntKind.i64.wrap ((u:Int)*((max 1 L:Nat):Int))=((u*max 1 L:Nat):Int):=by rw[<-Int.natCast_mul];exact Zam (by omega) (by omega)
         simp only[hA,ul]
         refine Zab (λg5=>?_) (λg5=>⟨by trivial,N - (i+1),by omega,i+1,r++[x],_,_,u,g,mb,by omega,rfl,rfl,cL,fJ,cZ,dW,aC,aZ,hJ.skip,by omega⟩)
         have pw:u*max 1 L<=16:=by have:=zA6 g5;omega
         refine⟨_,_,rfl,⟨by omega,by omega⟩,_,_,_,_,_,_,_,_,jm,Zaj ((ZAm x (L:Nat) (-1:Int) ⟨by omega,by omega⟩ ⟨by omega,by omega⟩ mb (aZ x (by simp))).frame2 cZ) (ZdG (mb:=mb) (M0:=m1)) (ZjQ λt m0 m3 aQ h0 jn cA gV ht=>?_)⟩
         obtain⟨at',ct,ht⟩:=ht
         have fB:m0.free bb:=λo=>by rw[cA bb o' u' hu' o];exact iu o
         refine⟨bb,0,rfl,⟨by omega,by omega⟩,rfl,by omega,by trivial,N - (i+1),by omega,i+1,r++[t],_,_,u*max 1 L,g,m0,by omega,?_,?_,by rw[zA1];rw[gJ]at cL;exact cL,mLt fJ h0,Mem.le_upd jn fB _ _,.inr ⟨bb,rfl,fB⟩,Ztl (aC.mono aQ),?_,?_,by omega⟩
         ·rw[gJ,zA1];rfl
         ·rw[gJ,zA1];rfl
         ·intro z hz
          rcases List.mem_append.1 hz with hz|hz
          ·exact(aZ z (by simp[hz])).mono h0
          ·simp at hz;subst hz;exact gV
         ·rw[ht];exact hJ.rep iH tb tp (by omega) pw _ _
        ·
         have hA:(if(1:Int) > (if((Mo:Int)) > (L:Int)then((Mo:Int))else(L:Int))then(1:Int)else(if((Mo:Int)) > (L:Int)then((Mo:Int))else(L:Int)))=((max 1 (max L Mo):Nat):Int):=by
          split <;> split <;> omega
         obtain⟨tb,tp⟩:=tab2 (of_decide_eq_false g4)
         have mJ:u*max 1 (max L Mo)<=48:=by have:=Nat.mul_le_mul hJ.u16 (show max 1 (max L Mo)<=3 by omega);omega
         have ul:IntKind.i64.wrap ((u:Int)*((max 1 (max L Mo):Nat):Int))=((u*max 1 (max L Mo):Nat):Int):=by rw[<-Int.natCast_mul];exact Zam (by omega) (by omega)
         simp only[hA,ul]
         refine Zab (λg5=>?_) (λg5=>⟨by trivial,N - (i+1),by omega,i+1,r++[x],_,_,u,g,mb,by omega,rfl,rfl,cL,fJ,cZ,dW,aC,aZ,hJ.skip,by omega⟩)
         have pw:u*max 1 (max L Mo)<=16:=by have:=zA6 g5;omega
         refine⟨_,_,rfl,⟨by omega,by omega⟩,_,_,_,_,_,_,_,_,jm,Zaj ((ZAm x (L:Nat) ((Mo:Int)) ⟨by omega,by omega⟩ ⟨by omega,by omega⟩ mb (aZ x (by simp))).frame2 cZ) (ZdG (mb:=mb) (M0:=m1)) (ZjQ λt m0 m3 aQ h0 jn cA gV ht=>?_)⟩
         obtain⟨at',ct,ht⟩:=ht
         have fB:m0.free bb:=λo=>by rw[cA bb o' u' hu' o];exact iu o
         refine⟨bb,0,rfl,⟨by omega,by omega⟩,rfl,by omega,by trivial,N - (i+1),by omega,i+1,r++[t],_,_,u*max 1 (max L Mo),g,m0,by omega,?_,?_,by rw[zA1];rw[gJ]at cL;exact cL,mLt fJ h0,Mem.le_upd jn fB _ _,.inr ⟨bb,rfl,fB⟩,Ztl (aC.mono aQ),?_,?_,by omega⟩
         ·rw[gJ,zA1];rfl
         ·rw[gJ,zA1];rfl
         ·intro z hz
          rcases List.mem_append.1 hz with hz|hz
          ·exact(aZ z (by simp[hz])).mono h0
          ·simp at hz;subst hz;exact gV
         ·rw[ht];exact hJ.rep iH tb tp (by omega) pw _ _
      ·refine⟨false,Zab (λh6=>Zab (λh7=>absurd (zA6 h7) (by omega)) (λh7=>⟨by trivial,by trivial,rfl⟩)) (λh6=>⟨by trivial,by trivial,rfl⟩),ZcF rfl ⟨by trivial,N - (i+1),by omega,i+1,ts,_,_,u,g,mb,by omega,rfl,rfl,cL,fJ,cZ,dW,aC,aZ,hJ.skip,by omega⟩⟩
 ·have sw:i=N:=by have:=of_decide_eq_false bL;omega
  have aB:=mLt fJ cZ
  refine Zab (λh0=>?_) (λh0=>?_)
  ·have um:(ZeD ⟨#[97]⟩)=ZdI 0:=by rfl
   refine Zaj (Zqg ⟨#[97]⟩ (by decide) m1) Zft (Zry λt m2 aO hr ht=>ZaD (mLt aB aO) ⟨t,rfl,hr,?_⟩)
   rw[um]at ht
   obtain⟨k1,k2,k3,k4⟩:=ZsQ 0
   rw[<-ht]at k1 k2 k3 k4
   exact(F26.leaf ⟨k1,by simp,by simp[szL,Zaz,k2],by simp[ZeT];omega,by simp[grL,Zaz,k4]⟩ k2).done
  ·obtain⟨t0,rest,rfl⟩:∃t r,ts=t::r:=by cases ts with
    | nil=>simp at h0
    | cons t r=>exact⟨t,r,rfl⟩
   have hF:=F26.start hJ (by omega)
   obtain⟨bb,jW,iu,o',u',hu'⟩:=dW.base aC (by simp)
   subst jW
   obtain⟨bx,ox,jX,jm⟩:=ZdX aC (i:=0) (t:=t0) rfl
   cases jX
   rw[List.length_cons]at kK cL
   refine⟨_,_,rfl,⟨by omega,by simp⟩,_,_,_,_,_,_,_,_,jm,λb2=>Zaa rfl ⟨⟨by omega,by rw[List.length_cons];omega⟩,?_⟩⟩
   refine⟨λxs css tvs m' q=>∃(k:Nat)(t:T),k<=rest.length/\xs=[.int .i64 k]/\css=[t.cs]/\m1.le m'/\Rep m' t/\F26 t (rest.drop k)/\q=rest.length - k,⟨rest.length,0,t0,by omega,rfl,rfl,Mem.le_refl _,(aZ t0 (by simp)).mono cZ,hF,by omega⟩,?_⟩
   rintro z cs m2 q2 _ ⟨k,t,hk,hz,cF,aO,gV,mj,ng⟩
   obtain rfl:z=k:=by simpa using hz
   obtain rfl:cs=t.cs:=by simpa using cF
   have lG:((t0::rest).length - Int.toNat 1)=rest.length:=by simp
   simp only[lG]
   refine Zab (λaH=>?_) (λdV=>Zaa rfl (ZaD (mLt aB aO) ⟨t,rfl,gV,by rw[show k=rest.length by have:=of_decide_eq_false dV;omega,List.drop_length]at mj;exact mj.done⟩))
   have aS:k < rest.length:=by have:=zA6 aH;omega
   obtain⟨x,hx⟩:=ZaM aS
   obtain⟨b3,o3,gH,jJ⟩:=ZdX (aC.mono aO) (i:=k+1) (t:=x) (by simpa using hx)
   cases gH
   have ik:IntKind.i64.wrap ((k:Int)+1)=((k+1:Nat):Int):=by rw[Zam (by omega) (by omega)];rfl
   simp only[ik,zA8]
   rw[ZsH hx]at mj
   have bJ:=mj.f.sz
   rw[ZeW]at bJ
   have pQ:=Zex (k:=4) (t:=t)
   have vP:=Zex (k:=4) (t:=x)
   have jp:Za2 (some (⟨bb,0,none⟩:Addr)) (Int.toNat 1) c2 8=some ⟨bb,0+8,none⟩:=by
    unfold Za2
    have:Nat.beq c2 1=false:=by
     cases hb:Nat.beq c2 1 with
     | false=>rfl
     | true=>have:=Nat.eq_of_beq_eq_true hb;omega
    show(bif Nat.beq c2 1 then _ else some (Addr.add _ (1*8)))=_
    rw[this,Zca];rfl
   refine⟨_,_,jp,⟨by omega,by omega⟩,_,_,_,_,_,_,_,_,by rw[show 0+8+k*8=0+(k+1)*8 by omega];exact jJ,λb4=>Zaa rfl (Zaj (Zoh 4 t x (.inr rfl) m2 gV ((aZ x (by simp[zA2 hx])).mono (mLt cZ aO)) (by omega) (by omega)) Zft (Zry λt' m3 aQ hr' ht'=>⟨by trivial,by trivial,rest.length - (k+1),by omega,k+1,t',by omega,rfl,rfl,mLt aO aQ,hr',?_,by omega⟩))⟩
   obtain⟨a3,c3,ht'⟩:=ht'
   rw[ht'];exact mj.step _ _
end Go.Proofs.YtdopppmkbkkmiaaGreatDoor