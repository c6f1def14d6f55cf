/- Part of the proof: functions of the program. No condition. -/
import Derived.Test.YtpjepnkiiojgfaaGreatPVEN
import Derived.Test.YtpjepnkiiojgfaaGreatPC25MA
import Derived.Test.YtpjepnkiiojgfaaGreatPVM
import Derived.Test.YtpjepnkiiojgfaaGreatMr
set_option linter.unusedVariables false
set_option linter.unusedSimpArgs false
set_option linter.unusedSectionVars false
namespace Go.Proofs.YtpjepnkiiojgfaaGreat
open Go Go.Eng Go.Rx Go.Proofs Go.RowKit
set_option maxRecDepth 100000
theorem ZgZ(m:Mem):CX Tryz.prog 24 #[] m [] (ZwF ZdZ):=by
 apply Zdg
 intro b hf
 exact ZaH (Mem.le_add hf _) ⟨_,_,rfl,ZaU⟩
theorem ZlI(m:Mem):CX Tryz.prog 25 #[] m [] (ZwF ZbO):=by
 apply Zew
 intro b hf
 exact ZaH (Mem.le_add hf _) ⟨_,_,rfl,ZaU⟩
theorem Znq(m:Mem):CX Tryz.prog 35 #[] m [] (ZwF ZuT):=by
 apply Zhk
 intro b hf
 exact ZaH (Mem.le_add hf _) ⟨_,_,rfl,ZaU⟩
theorem Zj5{m:Mem}{b:Nat}:∀{L:List E} {o:Nat},m.reads b o (L.map E.cs).flatten->(∀z∈L,RepE m z)->RepEAt m b o L
 | [],o,_,_=>by simp only[RepEAt]
 | z::L,o,h,hz=>by
  rw[List.map_cons,List.flatten_cons]at h
  simp only[RepEAt]
  refine⟨λi v hi=>h i v (by rw[zA5 (zA0 hi).1];exact hi),hz z (by simp),Zj5 (λi v hi=>?_) (λy hy=>hz y (by simp[hy]))⟩
  rw[Nat.add_assoc]
  refine h (5+i) v ?_
  rw[zA4 (by rw[E.len];omega),E.len,Nat.add_sub_cancel_left];exact hi
theorem Zqa{m:Mem}{k:Int}{x:Nat}{s:ByteArray}{g:Int}{a:Option Addr}{c:Nat}{L:List E}(h:rowRd m a (L.map E.cs).flatten)(hz:∀z∈L,RepE m z)(hl:L.length<=1000000000000000)(ho:OkE k s g):RepE m (.node k x s g a c L):=by
 simp only[RepE]
 refine⟨hl,?_,ho⟩
 rcases h with h|⟨b,o,ha,h⟩
 ·refine .inl ?_
  have:=congrArg List.length h
  rw[ZaQ E.len]at this
  exact List.eq_nil_of_length_eq_zero (by simp at this;omega)
 ·exact .inr ⟨b,o,ha,Zj5 h hz⟩
theorem Zj6(e:E)(c:Int)(m:Mem)(hr:RepE m e)(cE:∀x∈e.nodes,okN 9 x)(hl:e.nodes.length<=1000):CX Tryz.prog 127 #[e.v,.int .i64 c] m [] (ER (BoE c e)):=by
 apply ZfF
 intro b b1
 refine⟨decide (e.k=10)&&decide (e.g > c),Zab (λh=>⟨rfl,Zao ?_⟩) (λh=>⟨rfl,Zao ?_⟩),Zab (λh=>?_) (λh=>?_)⟩
 ·have:e.k=10:=by simpa using h
  rw[decide_eq_true this,Bool.true_and]
 ·have:¬e.k=10:=by simpa using h
  rw[decide_eq_false this,Bool.false_and]
 ·rw[zA7,decide_eq_true_iff,decide_eq_true_iff]at h
  exact ZaH (Mem.le_refl _) ⟨ZwB ⟨#[121]⟩,rfl,ZdW (by omega) (by decide) (by omega),ZvE (by simp[ZdZ]) h.1⟩
 have hk:¬(e.k=10/\e.g > c):=by
  rintro⟨h1,h2⟩
  rw[decide_eq_true h1,decide_eq_true h2]at h;cases h
 have dx:e.subs.length<=1000:=by
  have:=ZdQ e.subs
  rw[Zbc,List.length_cons]at hl;omega
 refine⟨λxs css tvs m' q=>∃(ts:List E)(a:Option Addr)(d:Nat),ts.length<=e.subs.length/\xs=[.int .i64 ts.length]/\css=[[.int .u8 e.k,.float .f64 e.x,.string e.s,.int .i64 e.g,.slice a ts.length d]]/\tvs=[.slice a ts.length d]/\rowRd m' a (ts.map E.cs).flatten/\(∀t∈ts,RepE m' t)/\(∀(i:Nat)(x y:E),e.subs[i]?=some x->ts[i]?=some y->BoE c x y)/\q=e.subs.length - ts.length,⟨_,[],none,0,by simp,rfl,rfl,rfl,.inl rfl,by simp,by simp,rfl⟩,?_⟩
 rintro n cs a n1 d m1 q aG ⟨ts,a',d',gv,hx,bL,cG,aB,aM,jU,hq⟩
 simp only[List.cons.injEq,Value.slice.injEq,Value.int.injEq,true_and,and_true]at hx bL cG
 obtain⟨rfl,rfl,rfl⟩:=cG
 subst hx bL
 refine ZaE (λaC=>?_) (λbG=>?_)
 ·have aI:ts.length < e.subs.length:=by omega
  obtain⟨x,hx⟩:=Zat aI
  obtain⟨mG,h0|⟨b3,o3,eX,eu⟩⟩:=Zeb hr
  ·rw[h0]at aI;simp at aI
  obtain⟨cY,dF⟩:=(eu.mono' aG).get hx
  have ly:=zA2 hx
  have bE:=Zge ly
  have tR:∀z∈x.nodes,z∈Zal e.subs:=λz hz=>by rw[Zb5 hx];exact List.mem_append_right _ (List.mem_append_left _ hz)
  have iO:x.nodes.length<=1000:=by
   rw[Zbc,List.length_cons,Zb5 hx,zA1,zA1]at hl;omega
  have hw:IntKind.i64.wrap ((ts.length:Int)+1)=((ts.length+1:Nat):Int):=by rw[Zak (by omega) (by omega)];rfl
  refine⟨b3,o3,eX,⟨by omega,aC⟩,_,_,_,_,_,cY,λb4=>Zaa rfl ⟨λ_ _ _=>ER (BoE c x),Zaj rfl ⟨_,rfl,Zj6 x c m1 dF (λz hz=>cE z (by rw[Zbc];exact List.mem_cons_of_mem _ (tR z hz))) iO,Zfu,Zw4 λt m2 aJ fg ht b5 iT=>Zaa rfl ?_⟩⟩⟩
  refine Zgw E.len E.one iT t (aB.mono aJ) 64 (by omega) (by omega) (.inl rfl) λa5 c5 m5 cF bI=>Zaa rfl λM _ fe fx gQ=>⟨rfl,e.subs.length - (ts.length+1),by omega,ts++[t],a5,c5,by rw[zA1];exact aI,by rw[hw,zA1];rfl,by rw[zA1];rfl,by rw[zA1];rfl,bI.mono gQ,?_,?_,by rw[zA1];rfl⟩
  ·intro z hz
   rcases List.mem_append.1 hz with hz|hz
   ·exact(aM z hz).mono' (mLt aJ fe)
   ·rw[List.mem_singleton]at hz;subst hz;exact fg.mono' fe
  ·intro i x' y' hx' hy'
   rcases Nat.lt_or_ge i ts.length with h|h
   ·rw[zA5 h]at hy'
    exact jU i x' y' hx' hy'
   ·have hi:=(zA0 hy').1
    rw[zA1,List.length_singleton]at hi
    obtain rfl:i=ts.length:=by omega
    rw[hx]at hx'
    simp at hy'
    cases hx';subst hy';exact ht
 ·have aH:ts.length=e.subs.length:=by omega
  have ho:=Zsy hr
  refine Zaa rfl (ZaH aG ⟨.node e.k e.x e.s e.g a d ts,rfl,Zqa aB aM (by omega) ho,?_⟩)
  have:=Zty (c:=c) (x:=e.x) (s:=e.s) (a:=e.a) (a':=a) (d:=e.c) (d':=d) (l:=e.subs) (r:=ts) (k:=e.k) (g:=e.g) (by cases e;exact cE _ (by simp[E.nodes,E.k,E.x,E.s,E.g,E.a,E.c,E.subs])) hk aH.symm jU
  cases e;exact this
termination_by SizeOf.sizeOf e
theorem Zj7(t:T)(m:Mem)(hr:Rep m t)(hl:t.nodes.length<=10000):CX Tryz.prog 85 #[t.v] m [] (Ret (.int .i64 (t.gr:Nat))):=by
 apply Zgs
 intro b m1 aG _
 have dx:t.subs.length<=10000:=by
  have h1:=Zix t
  have:=ZmO t.subs
  omega
 have tS:∀i,grL (t.subs.take i)<=10000:=λi=>by
  have h1:grL (t.subs.take i)<=szL (t.subs.take i):=List.countP_le_length
  have h2:szL t.subs=szL (t.subs.take i)+szL (t.subs.drop i):=by rw[<-ZaB,List.take_append_drop]
  have h3:=Zix t
  omega
 refine Zab (λh=>?_) (λh=>?_)
 all_goals
  refine⟨λxs _ _ m' q=>∃i:Nat,i<=t.subs.length/\xs=[.int .i64 (((if isG t=true then 1 else 0)+grL (t.subs.take i):Nat):Int),.int .i64 i]/\q=t.subs.length - i,⟨_,0,by omega,by unfold isG;rw[h];rfl,rfl⟩,?_⟩
  rintro n n1 m2 q aJ ⟨i,hi,hx,rfl⟩
  simp only[List.cons.injEq,Value.int.injEq,true_and,and_true]at hx
  obtain⟨rfl,rfl⟩:=hx
  refine ZaE (λaC=>?_) (λbG=>Zaf (mLt aG aJ) ?_)
  ·have aI:i < t.subs.length:=by omega
   obtain⟨x,hx⟩:=Zat aI
   have ly:=zA2 hx
   have bE:=Zq4 ly
   have iO:x.nodes.length<=10000:=by
    have h1:=Zix t
    have h2:szL t.subs=szL (t.subs.take i)+szL (t.subs.drop i):=by rw[<-ZaB,List.take_append_drop]
    rw[Zpt hx,Zed]at h2;omega
   have vS:grL (t.subs.take (i+1))=grL (t.subs.take i)+x.gr:=by
    rw[List.take_add_one,hx,Zbg];show _+grL [x]=_;rw[ZcG]
   have hb:=tS i
   have hb':=tS (i+1)
   obtain⟨b3,o3,eX,cY⟩:=Zdf ((ZdM hr.subs).mono (mLt aG aJ)) hx
   refine⟨b3,o3,eX,⟨by omega,aC⟩,_,_,_,_,_,_,_,_,cY,λb4=>Zaa rfl (ZcD (Zj7 x m2 ((Zis hr.subs x ly).mono (mLt aG aJ)) iO) λm3 aQ=>⟨rfl,t.subs.length - (i+1),by omega,i+1,by omega,?_,rfl⟩)⟩
   rw[vS,Zak (by split <;> omega) (by split <;> omega),Zak (by omega) (by omega)]
   simp;omega
  ·have:i=t.subs.length:=by omega
   subst this
   rw[List.take_length]
   show Value.int .i64 _=Value.int .i64 _
   rw[ZuO t]
termination_by SizeOf.sizeOf t
structure BytU (m:Mem)(a:Option Addr)(l:List Nat):Prop where
 lt:∀n∈l,n < 256
 row:rowRd m a (l.map λn:Nat=>[Value.int .u8 n]).flatten
theorem BytU.mono{m m':Mem}{a l}(h:BytU m a l)(hm:m.le m'):BytU m' a l:=⟨h.lt,h.row.mono hm⟩
theorem BytU.get{m:Mem}{a l}(h:BytU m a l){i:Nat}{n:Nat}(hi:l[i]?=some n):n < 256/\∃b o,a=some ⟨b,o,none⟩/\m b (o+i*1)=some (.int .u8 n):=by
 obtain⟨b,o,ha,h1⟩:=Zam (cs:=λn:Nat=>[Value.int .u8 n]) (n:=1) (λ_=>rfl) h.row hi (by omega)
 exact⟨h.lt n (zA2 hi),b,o,ha,h1 0 _ rfl⟩
theorem Pt.one(p:Pt):∀u∈p.cs,u.oneCell'=true:=by
 intro u hu
 simp only[Pt.cs,List.mem_cons,List.not_mem_nil,or_false]at hu
 rcases hu with rfl|rfl|rfl|rfl|rfl|rfl|rfl|rfl <;> rfl
def TmR(c:Int):Value->Mem->List (List Value)->Prop:=λv m' _=>∃(l:List Pt)(a:Option Addr)(d:Nat),v=.slice a l.length d/\rowRd m' a (l.map Pt.cs).flatten/\(∀p∈l,RepP m' p)/\MkT c l
theorem ZsW{c:Int}:∀(v:Value)(m':Mem) (css:List (List Value)),TmR c v m' css->Shape.fits .slice v=true:=λv _ _ ⟨_,_,_,h,_⟩=>by rw[h];rfl
def TmI(c:Int)(N:Nat)(m:Mem):List Value->List (List Value)->List Value->Mem->Nat->Prop:=λxs _ tvs m' q=>∃(L:List Pt)(a:Option Addr)(d i:Nat),xs=[.slice a L.length d,.int .i64 i]/\tvs=[.slice a L.length d]/\i<=N/\L.length<=i/\m.le m'/\rowRd m' a (L.map Pt.cs).flatten/\(∀p∈L,RepP m' p)/\(∀p∈L,MkP c p)/\Zyw L/\q=N - i
theorem ZrK{L:List Pt}{p:Pt}(h:Zyw L)(hp:p.k=1->∀x,L[L.length - 1]?=some x->0 < L.length->x.k≠1):Zyw (L++[p]):=by
 intro i x y hx hy h1 h2
 rcases Nat.lt_or_ge (i+1) L.length with hi|hi
 ·rw[zA5 (by omega)]at hx
  rw[zA5 hi]at hy
  exact h i x y hx hy h1 h2
 ·have gM:=(zA0 hy).1
  rw[zA1,List.length_singleton]at gM
  have e:i+1=L.length:=by omega
  rw[zA5 (by omega)]at hx
  rw[e]at hy
  simp at hy;subst hy
  exact hp h2 x (by rw[<-e,Nat.add_sub_cancel];exact hx) (by omega) h1
theorem TmI.next{c:Int}{N:Nat}{m m' M:Mem}{L:List Pt}{i:Nat}{p:Pt}{a:Option Addr}{d:Nat}(hi:i < N)(hL:L.length<=i)(h0:m.le m')(hM:m'.le M)(aB:rowRd M a ((L++[p]).map Pt.cs).flatten)(hr:∀x∈L,RepP m' x)(hp:RepP M p)(hk:∀x∈L,MkP c x)(vT:MkP c p)(hl:Zyw L)(vU:p.k=1->∀x,L[L.length - 1]?=some x->0 < L.length->x.k≠1):
  ∃n',n' < N - i/\TmI c N m [.slice a (L.length+1) d,.int .i64 ((i+1:Nat):Int)] [] [.slice a (L.length+1) d] M n':=by
 refine⟨N - (i+1),by omega,L++[p],a,d,i+1,by rw[zA1];rfl,by rw[zA1];rfl,by omega,by rw[zA1,List.length_singleton];omega,mLt h0 hM,aB,?_,?_,ZrK hl vU,rfl⟩
 ·intro x hx
  rcases List.mem_append.1 hx with hx|hx
  ·exact(hr x hx).mono hM
  ·rw[List.mem_singleton]at hx;subst hx;exact hp
 ·intro x hx
  rcases List.mem_append.1 hx with hx|hx
  ·exact hk x hx
  ·rw[List.mem_singleton]at hx;subst hx;exact vT
theorem Zgx{m:Mem}{k:Int}{s:ByteArray}{g:Int}(hk:0<=k/\k < 256)(hs:s.size<=1000000000000000)(hg:I64 g):RepP m ⟨k,s,g,E0⟩:=⟨hk,hs,hg,ZwY m⟩
theorem Zi7:∀s∈ZbO,s.size<=16:=by decide +kernel
theorem ZzJ:∀j < 5,∃s:ByteArray,[Value.string ⟨#[97]⟩,.string ⟨#[45]⟩,.string ⟨#[97,98,32]⟩,.string ⟨#[0,255]⟩,.string ⟨#[49,50]⟩][j*1]?=some (.string s)/\0 < s.size/\s.size<=512:=by
 intro j hj
 have:j=0\/j=1\/j=2\/j=3\/j=4:=by omega
 rcases this with rfl|rfl|rfl|rfl|rfl <;> exact⟨_,rfl,by decide,by decide⟩
set_option maxHeartbeats 2000000 in
theorem ZhY(l:List Nat)(a:Option Addr)(d:Nat)(e:E)(c:Int)(m:Mem)(hb:BytU m a l)(hd:l.length<=d)(hl:l.length<=1000000000000000)(hr:RepE m e)(he:MkE c 20 e)(hc : -1<=c/\c<=10000):
  CX Tryz.prog 129 #[.slice a l.length d,e.v,.int .i64 c] m [] (TmR c):=by
 apply ZeW
 intro b m1 aG _
 have hN:(if(5:Int) < (l.length:Int)then(5:Int)else(l.length:Int))=((min 5 l.length:Nat):Int):=by split <;> omega
 simp only[hN,zA8,Nat.sub_zero]
 generalize p7:min 5 l.length=N
 refine⟨⟨by omega,by omega⟩,TmI c N m1,⟨N,[],none,0,0,rfl,rfl,by omega,by simp,Mem.le_refl _,.inl rfl,by simp,by simp,λi p q h=>by simp at h,by omega⟩,?_⟩
 rintro a1 n1 c1 z1 a2 n2 c2 m2 q aJ ⟨L,a',c',i,hx,cG,p8,ft,hm,aB,aM,gV,fS,rfl⟩
 simp only[List.cons.injEq,Value.slice.injEq,Value.int.injEq,true_and,and_true]at hx cG
 obtain⟨⟨rfl,rfl,rfl⟩,rfl⟩:=hx
 obtain⟨rfl,rfl,rfl⟩:=cG
 have hw:IntKind.i64.wrap ((i:Int)+1)=((i+1:Nat):Int):=by rw[Zak (by omega) (by omega)];rfl
 have vV:IntKind.i64.wrap ((L.length:Int) - 1)=(L.length:Int) - 1:=Zak (by omega) (by omega)
 have nu:=mLt aG aJ
 refine ZaE (λaC=>?_) (λbG=>ZaH nu ⟨L,a2,c2,rfl,aB,aM,by omega,gV,fS⟩)
 have aI:i < N:=by omega
 obtain⟨n,hn⟩:=Zat (l:=l) (k:=i) (by omega)
 obtain⟨iG,bs,os,ha,hv⟩:=(hb.mono nu).get hn
 have rQ:Int.tmod (n:Int) 8=((n % 8:Nat):Int):=rfl
 have rR:IntKind.i64.wrap (Int.tdiv (IntKind.i64.wrap (n:Int)) 8)=((n / 8:Nat):Int):=by
  rw[Zak (n:=(n:Int)) (by omega) (by omega),show Int.tdiv (n:Int) 8=((n / 8:Nat):Int) from rfl,Zak (by omega) (by omega)]
 simp only[hw,vV,zA8]
 refine⟨bs,os,ha,⟨by omega,aC⟩,_,hv,_,rfl,by omega,by omega,?_⟩
 simp only[rQ,rR]
 have vW:n / 8 < 32:=by omega
 generalize n % 8=k
 generalize n / 8=u at vW
 have stay:∀M:Mem,m2.le M->∃n',n' < N - i/\TmI c N m1 [.slice a2 L.length c2,.int .i64 ((i+1:Nat):Int)] [] [.slice a2 L.length c2] M n':=λM hM=>⟨N - (i+1),by omega,L,a2,c2,i+1,rfl,rfl,by omega,by omega,mLt hm hM,aB.mono hM,λp hp=>(aM p hp).mono hM,gV,fS,rfl⟩
 refine⟨λxs _ _ m'=>xs=[.bool (decide (k=0\/k=1))]/\m2.le m',Zab (λh=>⟨trivial,trivial,?_,Mem.le_refl _⟩) (λh=>⟨trivial,trivial,?_,Mem.le_refl _⟩),?_⟩
 ·have:k=0:=by simp at h;omega
  rw[h,this];rfl
 ·have:¬k=0:=by simp at h;omega
  refine Zao ?_
  rw[Bool.eq_iff_iff];simp;omega
 rintro b2 m3 aQ ⟨fJ,_⟩
 obtain rfl:b2=decide (k=0\/k=1):=by simpa using fJ
 have dH:=mLt nu aQ
 refine ZaE (λgJ=>?_) (λgJ=>?_)
 ·refine⟨decide (L.length=0)||!(match L[L.length - 1]? with
   | some x=>x.k == 1
   | none=>false),ZaE (λh=>⟨trivial,trivial,Zao ?_⟩) (λh=>?_),Zab (λhB=>?_) (λ_=>⟨trivial,stay m3 aQ⟩)⟩
  ·rw[decide_eq_true (show L.length=0 by omega)];rfl
  ·obtain⟨x,hx⟩:=Zat (l:=L) (k:=L.length - 1) (by omega)
   obtain⟨b4,o4,kA,cD⟩:=Zam Pt.len (aB.mono aQ) hx (by omega)
   have vX:Int.toNat ((L.length:Int) - 1)=L.length - 1:=by omega
   refine⟨b4,o4,kA,⟨by omega,by omega⟩,.int .u8 x.k,by rw[vX];exact cD 0 _ rfl,_,rfl,trivial,trivial,Zao ?_⟩
   rw[decide_eq_false (show ¬L.length=0 by omega),hx,Bool.false_or]
  ·have tT:Int.tmod (u:Int) 5=((u % 5:Nat):Int):=rfl
   have h5:u % 5 < 5:=Nat.mod_lt _ (by omega)
   intro b4 fw
   obtain⟨s,hs,jT,vY⟩:=ZzJ (u % 5) h5
   refine⟨by omega,by rw[tT];exact⟨by omega,by omega⟩,Zaj (by rw[tT,zA8];exact hs) ⟨s,rfl,λb5 iT=>?_⟩⟩
   have rS:=mLt aQ (Mem.le_add fw [Value.string ⟨#[97]⟩,.string ⟨#[45]⟩,.string ⟨#[97,98,32]⟩,.string ⟨#[0,255]⟩,.string ⟨#[49,50]⟩])
   refine Zgw Pt.len Pt.one iT (⟨1,s,0,E0⟩:Pt) (aB.mono rS) 96 (by omega) (by omega) (.inl trivial) λa8 c8 m8 eS eR=>⟨trivial,TmI.next aI ft (mLt hm rS) (mLt (Mem.le_add iT _) eS) eR (λx hx=>(aM x hx).mono rS) (Zgx (by omega) (by omega) ⟨by omega,by omega⟩) gV (.lit s ⟨jT,vY⟩) fS (λ_ x hx xq pU=>?_)⟩
   rw[hx,decide_eq_false (show ¬L.length=0 by omega)]at hB
   simp[pU]at hB
 refine⟨λxs _ _ m'=>xs=[.bool (decide (k=2\/k=3))]/\m3.le m',Zab (λh=>⟨trivial,trivial,?_,Mem.le_refl _⟩) (λh=>⟨trivial,trivial,?_,Mem.le_refl _⟩),?_⟩
 ·have:k=2:=by simp at h;omega
  rw[h,this];rfl
 ·have:¬k=2:=by simp at h;omega
  refine Zao ?_
  rw[Bool.eq_iff_iff];simp;omega
 rintro b3 m4 bZ ⟨fK,_⟩
 obtain rfl:b3=decide (k=2\/k=3):=by simpa using fK
 have gi:=mLt aQ bZ
 refine ZaE (λvZ=>?_) (λvZ=>?_)
 ·refine Zan (ZlI m4) Zc0 ?_
  rintro a5 n5 c5 m5 cF ⟨a',c',eY,eE⟩
  simp only[Value.slice.injEq]at eY
  obtain⟨rfl,rfl,rfl⟩:=eY
  have h2:u % 2 < 2:=Nat.mod_lt _ (by omega)
  obtain⟨s,hs⟩:=Zat (l:=ZbO) (k:=u % 2) h2
  have iU:=zA2 hs
  obtain⟨b6,o6,ij,cD⟩:=ZcK eE hs
  have bE:s.size<=1000000000000000:=by have:=Zi7 s iU;omega
  have hu:Int.tmod (u:Int) 2=((u % 2:Nat):Int):=rfl
  have gW:=mLt gi cF
  refine⟨by omega,b6,o6,ij,by rw[hu];exact⟨by omega,by show((u % 2:Nat):Int) < (2:Nat);omega⟩,_,by rw[hu,zA8];exact cD,s,rfl,λb7 lz=>?_⟩
  refine Zgw Pt.len Pt.one lz (⟨2,s,0,E0⟩:Pt) (aB.mono gW) 96 (by omega) (by omega) (.inl trivial) λa8 c8 m8 eS eR=>⟨trivial,TmI.next aI ft (mLt hm gW) (mLt (Mem.le_add lz _) eS) eR (λx hx=>(aM x hx).mono gW) (Zgx (by omega) bE ⟨by omega,by omega⟩) gV (.var s (.inr iU)) fS (λh=>absurd (show(2:Int)=1 from h) (by decide))⟩
 refine Zab (λh4=>?_) (λh4=>?_)
 ·refine Zan (ZgZ m4) Zc0 ?_
  rintro a5 n5 c5 m5 cF ⟨a',c',eY,eE⟩
  simp only[Value.slice.injEq]at eY
  obtain⟨rfl,rfl,rfl⟩:=eY
  have h2:u % 4 < 4:=Nat.mod_lt _ (by omega)
  obtain⟨s,hs⟩:=Zat (l:=ZdZ) (k:=u % 4) h2
  have iU:=zA2 hs
  obtain⟨b6,o6,ij,cD⟩:=ZcK eE hs
  have bE:s.size<=1000000000000000:=by have:=Zi6 s iU;omega
  have hu:Int.tmod (u:Int) 4=((u % 4:Nat):Int):=rfl
  have gW:=mLt gi cF
  refine⟨by omega,b6,o6,ij,by rw[hu];exact⟨by omega,by show((u % 4:Nat):Int) < (4:Nat);omega⟩,_,by rw[hu,zA8];exact cD,s,rfl,λb7 lz=>?_⟩
  refine Zgw Pt.len Pt.one lz (⟨2,s,0,E0⟩:Pt) (aB.mono gW) 96 (by omega) (by omega) (.inl trivial) λa8 c8 m8 eS eR=>⟨trivial,TmI.next aI ft (mLt hm gW) (mLt (Mem.le_add lz _) eS) eR (λx hx=>(aM x hx).mono gW) (Zgx (by omega) bE ⟨by omega,by omega⟩) gV (.var s (.inl iU)) fS (λh=>absurd (show(2:Int)=1 from h) (by decide))⟩
 refine⟨λxs _ _ m'=>xs=[.bool (decide (k=5\/k=6))]/\m4.le m',Zab (λh=>⟨trivial,trivial,?_,Mem.le_refl _⟩) (λh=>⟨trivial,trivial,?_,Mem.le_refl _⟩),?_⟩
 ·have:k=5:=by simp at h;omega
  rw[h,this];rfl
 ·have:¬k=5:=by simp at h;omega
  refine Zao ?_
  rw[Bool.eq_iff_iff];simp;omega
 rintro b4 m5 cF ⟨nr,_⟩
 obtain rfl:b4=decide (k=5\/k=6):=by simpa using nr
 have gW:=mLt gi cF
 refine ZaE (λv6=>?_) (λv6=>?_)
 ·refine ZaE (λhp=>?_) (λhp=>⟨trivial,stay m5 gW⟩)
  obtain⟨C,lB,rT,hC⟩:∃C:Nat,(C:Int)<=c/\C<=9/\IntKind.i64.wrap ((if(9:Int) < c then(9:Int)else c)+1)=((C+1:Nat):Int):=by
   by_cases h9:9 < c
   ·exact⟨9,by omega,by omega,by rw[if_pos h9];rfl⟩
   ·refine⟨c.toNat,by omega,by omega,?_⟩
    rw[if_neg h9,Zak (by omega) (by omega)];omega
  have kC:Int.tmod (u:Int) ((C+1:Nat):Int)=((u % (C+1):Nat):Int):=rfl
  have aC:u % (C+1) < C+1:=Nat.mod_lt _ (by omega)
  simp only[hC,kC]
  refine⟨by omega,λb6 gy=>?_⟩
  refine Zgw Pt.len Pt.one gy (⟨3,.empty,((u % (C+1):Nat):Int),E0⟩:Pt) (aB.mono gW) 96 (by omega) (by omega) (.inl trivial) λa8 c8 m8 eS eR=>⟨trivial,TmI.next aI ft (mLt hm gW) (mLt (Mem.le_add gy _) eS) eR (λx hx=>(aM x hx).mono gW) (Zgx (by omega) (by rw[ZaL];omega) ⟨by omega,by omega⟩) gV (.cap _ (by omega)) fS (λh=>absurd (show(3:Int)=1 from h) (by decide))⟩
 ·intro b6 gy
  have oM:=Mem.le_add gy (⟨4,.empty,0,e⟩:Pt).cs
  refine Zgw Pt.len Pt.one gy (⟨4,.empty,0,e⟩:Pt) (aB.mono gW) 96 (by omega) (by omega) (.inl trivial) λa8 c8 m8 eS eR=>⟨trivial,TmI.next aI ft (mLt hm gW) (mLt oM eS) eR (λx hx=>(aM x hx).mono gW) ⟨by show(0:Int)<=4/\(4:Int) < 256;omega,by show ByteArray.empty.size<=_;rw[ZaL];omega,⟨by show(-9223372036854775808:Int)<=0;omega,by show(0:Int)<=9223372036854775807;omega⟩,hr.mono' (mLt nu (mLt gW (mLt oM eS)))⟩ gV (.clc e he) fS (λh=>absurd (show(4:Int)=1 from h) (by decide))⟩
theorem ZzK(l:List T):∀u∈Rx.Zb7 l,u.oneCell'=true:=by
 intro u hu
 simp only[Rx.Zb7,List.mem_flatten,List.mem_map]at hu
 obtain⟨_,⟨t,_,rfl⟩,h⟩:=hu
 simp only[T.cs,T.sl,List.mem_cons,List.not_mem_nil,or_false]at h
 rcases h with rfl|rfl|rfl|rfl|rfl|rfl|rfl|rfl <;> rfl
theorem Zk6(a:Option Addr)(c:Nat)(l:List T)(m:Mem)(h:rowRd m a (Rx.Zb7 l))(hl:l.length<=1000000000000):CXT Tryz.prog 155 #[.slice a l.length c] m 8 (λv m' _=>∃a' c',v=.slice a' l.length c'/\rowRd m' a' (Rx.Zb7 l)/\l.length<=c'/\(l.length=0\/∃b,a'=some ⟨b,0,none⟩/\m.free b)):=by
 apply Zbm
 have aH:=Zaq l
 refine Zab (λha=>?_) (λha=>⟨⟨rfl,Int.le_refl _,by decide,by decide⟩,λb hf _=>⟨.inl rfl,[],Rx.Zb7 l,rfl,aH,.inl rfl,h,ZzK l,by omega,by omega,λa' c' m' hm aB iV=>⟨rfl,?_⟩⟩⟩)
 ·obtain rfl:a=none:=by simpa using ha
  have h0:l=[]:=by
   rcases h with h|⟨_,_,h,_⟩
   ·rw[h]at aH;exact List.eq_nil_of_length_eq_zero (by simp at aH;omega)
   ·cases h
  subst h0
  exact⟨rfl,none,0,rfl,.inl rfl,Nat.le_refl _,.inl rfl⟩
 ·simp only[Nat.zero_add]at iV ⊢
  refine⟨a',c',rfl,aB,iV.1,?_⟩
  rcases(iV.old (λ_ _ e=>by cases e;rfl)).2 with h1|⟨b',h1,h2|h2⟩
  ·subst h1
   left
   rcases aB with h3|⟨_,_,h3,_⟩
   ·have h4:(Rx.Zb7 l).length=0:=congrArg List.length h3
    omega
   ·cases h3
  ·right;rw[<-h2];exact⟨b,rfl,hf⟩
  ·exact .inr ⟨b',h1,h2⟩
theorem Zt9{m:Mem}{b:Nat}{ts r:List T}{x t:T}(h:rowRd m (some ⟨b,0,none⟩) (Rx.Zb7 (ts++x::r))):rowRd (m.upd b (0+ts.length*8) t.cs) (some ⟨b,0,none⟩) (Rx.Zb7 (ts++t::r)):=by
 rcases h with h|⟨b',o',ha,h⟩
 ·have hl:(Rx.Zb7 (ts++x::r)).length=0:=by rw[h];rfl
  rw[Zaq,zA1,List.length_cons]at hl
  omega
 cases ha
 have e:∀y:T,Rx.Zb7 (ts++y::r)=Rx.Zb7 ts++(y.cs++Rx.Zb7 r):=λy=>by simp[Rx.Zb7]
 have h8:∀y:T,y.cs.length=8:=λ_=>rfl
 refine .inr ⟨b,0,rfl,λj v hj=>?_⟩
 rw[e]at hj
 unfold Mem.upd;try dsimp only
 rw[Nat.zero_add,Nat.zero_add,h8]
 rcases Nat.lt_or_ge j (ts.length*8)with aC|bG
 ·rw[if_neg (by omega)]
  rw[zA5 (by rw[Zaq];exact aC)]at hj
  have:=h j v (by rw[e,zA5 (by rw[Zaq];exact aC)];exact hj)
  rwa [Nat.zero_add]at this
 ·rw[zA4 (by rw[Zaq];exact bG),Zaq]at hj
  rcases Nat.lt_or_ge j (ts.length*8+8)with aC|ee
  ·rw[if_pos ⟨rfl,bG,aC⟩]
   rw[zA5 (by rw[h8];omega)]at hj
   exact hj
  ·rw[if_neg (by omega)]
   rw[zA4 (by rw[h8];omega),h8]at hj
   have:=h j v (by
    rw[e,zA4 (by rw[Zaq];exact bG),Zaq,zA4 (by rw[h8];omega),h8];exact hj)
   rwa [Nat.zero_add]at this
theorem Zua{m m':Mem}(h:m.le m'){b:Nat}(hf:m'.free b):m.free b:=λo=>by
 cases he:m b o with
 | none=>rfl
 | some v=>have:=h _ _ _ he;rw[hf o]at this;cases this
def NewT(m:Mem)(t:T):Prop:=∀x∈t.nodes,x.subs=[]\/∃b,x.a=some ⟨b,0,none⟩/\m.free b
theorem NewT.less{m m':Mem}{t:T}(hn:NewT m' t)(h:m.le m'):NewT m t:=λx hx=>(hn x hx).imp id λ⟨b,e,hf⟩=>⟨b,e,Zua h hf⟩
theorem ZrL{m:Mem}{k s0 s1 s2 s3 mn mx:Int}{a:Option Addr}{c:Nat}{l:List T}(h:l=[]\/∃b,a=some ⟨b,0,none⟩/\m.free b)(hl:∀x∈l,NewT m x):NewT m (.node k s0 s1 s2 s3 mn mx a c l):=by
 intro x hx
 simp only[T.nodes,List.mem_cons]at hx
 rcases hx with rfl|hx
 ·exact h
 ·have:∀l:List T,(∀x∈l,NewT m x)->∀x∈ZaD l,x.subs=[]\/∃b,x.a=some ⟨b,0,none⟩/\m.free b:=by
   intro l
   induction l with
   | nil=>intro _ x hx;simp[ZaD]at hx
   | cons y l ih=>
    intro h x hx
    simp only[ZaD,List.mem_append]at hx
    rcases hx with hx|hx
    ·exact h y (by simp) x hx
    ·exact ih (λz hz=>h z (by simp[hz])) x hx
  exact this l hl x hx
set_option maxHeartbeats 800000 in
theorem Zj8(t:T)(m:Mem)(hr:Rep m t)(hz:t.nodes.length<=10000):CX Tryz.prog 130 #[t.v] m [] (ZmD λt'=>t'.er=t.er/\(t'.caps/\NewT m t')):=by
 have bE:szL t.subs<=10000:=by rw[Zix]at hz;omega
 have eG:t.subs.length<=10000:=Nat.le_trans (ZmO _) bE
 apply ZkV
 intro b b1
 refine⟨_,Zk6 t.a t.c t.subs m (ZdM hr.subs) (by omega),(λv _ _ ⟨a,c,e,_⟩=>by rw[e];rfl),?_⟩
 rintro a n c m1 aG ⟨a',c',hv,aB,gL,aU⟩
 simp only[Value.slice.injEq]at hv
 obtain⟨rfl,rfl,rfl⟩:=hv
 have aM:∀x∈t.subs,Rep m x:=Zis hr.subs
 refine⟨λxs css tvs m' q=>∃(k:Nat)(L:List T)(mb:Mem),k<=t.subs.length/\xs=[.int .i64 k]/\q=t.subs.length - k/\L.length=k/\L.map T.er=(t.subs.take k).map T.er/\m.le mb/\mb.le m'/\(t.subs.length=0\/∃b,a=some ⟨b,0,none⟩/\mb.free b)/\(∀x∈L,Rep mb x/\(x.caps/\NewT m x))/\(t.subs.length=0\/∃b,a=some ⟨b,0,none⟩/\m.free b)/\rowRd m' a (Rx.Zb7 (L++t.subs.drop k)),⟨_,0,[],m,by omega,rfl,rfl,rfl,rfl,Mem.le_refl _,aG,aU,by simp,aU,aB⟩,?_⟩
 rintro z m2 q _ ⟨k,L,mb,hk,cI,hq,iH,lC,ep,ik,ew,jX,bJ,dt⟩
 obtain rfl:z=k:=by simpa using cI
 refine Zab (λaC=>?_) (λbG=>?_)
 ·have aI:k < t.subs.length:=by have:=zA6 aC;omega
  obtain⟨x,hx⟩:=Zat aI
  have cY:=aM x (zA2 hx)
  have ko:x.nodes.length<=10000:=by
   obtain⟨h1,h2⟩:=zA0 hx
   have:=congrArg List.length (Zea hx)
   unfold szL at bE
   simp only[zA1]at this
   omega
  have gR:t.subs.drop k=x::t.subs.drop (k+1):=by
   rw[List.drop_eq_getElem_cons aI,(zA0 hx).2]
  rcases ew with ew|⟨bk,rfl,dB⟩
  ·omega
  obtain⟨b0,o0,mJ,cD⟩:=Zdf dt (i:=k) (t:=x) (by rw[zA4 (by omega),iH,Nat.sub_self,gR];rfl)
  cases mJ
  have hw:IntKind.i64.wrap ((k:Int)+1)=((k+1:Nat):Int):=by rw[Zak (by omega) (by omega)];rfl
  simp only[hw,zA8]
  have fM:CX Tryz.prog 130 #[x.v] m2 [] (Zn1 mb m2 λt'=>t'.er=x.er/\(t'.caps/\NewT mb t')):=(Zj8 x mb (Rep.mono ep x cY) ko).frame2 ik
  refine⟨bk,0,rfl,⟨by omega,by omega⟩,_,_,_,_,_,_,_,_,cD,λb3=>Zaa rfl ⟨λ_ _ _=>Zn1 mb m2 λt'=>t'.er=x.er/\(t'.caps/\NewT mb t'),Zn1 mb m2 λt'=>t'.er=x.er/\(t'.caps/\NewT mb t'),rfl,fM,ZcX,ZhW λt' m0 m3 aQ h0 dH dk hr' ht'=>⟨bk,0,rfl,⟨by omega,by omega⟩,λM fe fx=>⟨rfl,by omega,by trivial,by trivial,t.subs.length - (k+1),by omega,k+1,L++[t'],m0,by omega,rfl,rfl,by simp[iH],?_,mLt ep h0,?_,.inr ⟨bk,rfl,?_⟩,?_,bJ,?_⟩⟩⟩⟩
  ·rw[List.map_append,lC,Zeu hx,List.map_append]
   simp[ht'.1]
  ·refine Mem.le_upd (mLt dH fx) ?_ _ _
   intro o'
   have hc:m2 bk (0+k*8+0)=some (.int .u8 x.k):=cD 0 _ rfl
   rw[dk _ _ _ hc o'];exact dB o'
  ·intro o'
   have hc:m2 bk (0+k*8+0)=some (.int .u8 x.k):=cD 0 _ rfl
   rw[dk _ _ _ hc o'];exact dB o'
  ·intro y hy
   rcases List.mem_append.1 hy with hy|hy
   ·exact⟨Rep.mono h0 y (jX y hy).1,(jX y hy).2⟩
   ·simp at hy;subst hy;exact⟨hr',ht'.2.1,ht'.2.2.less ep⟩
  ·rw[gR]at dt
   have h5:=Zt9 (t:=t') (dt.mono fe)
   rw[iH]at h5
   rw[List.append_assoc]
   exact h5
 ·have dp:k=t.subs.length:=by have:=of_decide_eq_false bG;omega
  subst dp
  rw[List.drop_length,List.append_nil]at dt
  rw[List.take_length]at lC
  have cE:=Zxl hr
  refine⟨m2,mLt ep ik,Mem.le_refl _,.node t.k t.s0 t.s1 t.s2 t.s3 t.mn t.mx a c L,?_,?_,?_⟩
  ·simp only[T.v,T.k,T.s0,T.s1,T.s2,T.s3,T.mn,T.mx,T.a,T.c,T.subs,iH]
  ·have:=Zsv dt (λx hx=>Rep.mono ik x (jX x hx).1) (by omega)
   exact ZkC this.1 this.2 cE
  ·have:=ZvF (k:=t.k) (s0:=t.s0) (s1:=t.s1) (s2:=t.s2) (s3:=t.s3) (mn:=t.mn) (mx:=t.mx) (a:=a) (a':=t.a) (c:=c) (c':=t.c) lC
   refine⟨this.trans ?_,Zrj (by omega) λx hx=>(jX x hx).2.1,ZrL (bJ.imp (λh=>List.eq_nil_of_length_eq_zero (by omega)) id) λx hx=>(jX x hx).2.2⟩
   cases t;rfl
termination_by SizeOf.sizeOf t
decreasing_by exact Zq4 (zA2 hx)
mutual
theorem Zv1{m m':Mem}:∀(t:T),Rep m' t->NewT m t->Rep (nw m m') t
 | .node k s0 s1 s2 s3 mn mx a c l,hr,hn=>by
  have h0:=hn _ (by rw[Zci];exact List.mem_cons_self)
  simp only[Rep]at hr ⊢
  refine⟨hr.1,?_,hr.2.2⟩
  rcases hr.2.1 with h|⟨b,o,ha,eu⟩
  ·exact .inl h
  rcases h0 with h|⟨b',hb',hf⟩
  ·exact .inl h
  ·have e:a=some ⟨b',0,none⟩:=hb'
   rw[ha]at e
   simp only[Option.some.injEq,Addr.mk.injEq,and_true]at e
   obtain⟨rfl,rfl⟩:=e
   exact .inr ⟨b,0,ha,Zqb b hf 0 l eu λx hx y hy=>hn y (by
    rw[Zci]
    refine List.mem_cons_of_mem _ ?_
    obtain⟨i,hi⟩:=List.getElem?_of_mem hx
    rw[show(T.node k s0 s1 s2 s3 mn mx a c l).subs=l from rfl,Zea hi]
    simp[hy])⟩
theorem Zqb{m m':Mem}(b:Nat)(hf:m.free b):∀(o:Nat)(l:List T),RepAt m' b o l->(∀x∈l,NewT m x)->RepAt (nw m m') b o l
 | _,[],_,_=>by simp only[RepAt]
 | o,t::l,hr,hn=>by
  simp only[RepAt]at hr ⊢
  exact⟨λj v hj=>by rw[ZuP hf];exact hr.1 j v hj,Zv1 t hr.2.1 (hn t (by simp)),Zqb b hf (o+8) l hr.2.2 λx hx=>hn x (by simp[hx])⟩
end
def CpT(m:Mem)(t:T):Value->Mem->List (List Value)->Prop:=λv m' _=>∃t':T,v=t'.v/\t'.er=t.er/\Rep (nw m m') t'
theorem Zub{m:Mem}{t:T}:∀(v:Value)(m':Mem) (css:List (List Value)),CpT m t v m' css->Shape.fits (.agg [.int .u8,.int .u64,.int .u64,.int .u64,.int .u64,.int .i64,.int .i64,.slice]) v=true:=λv _ _ ⟨t,e,_⟩=>by rw[e];rfl
theorem Zuc(t:T)(m:Mem)(hr:Rep m t)(hz:t.nodes.length<=10000):CX Tryz.prog 87 #[t.v] m [] (CpT m t):=by
 apply ZoO
 intro b m1 aG _ b1
 have hl:t.light=true:=by unfold T.light;exact decide_eq_true hz
 have h:=ZgY t m1 (hr.mono aG)
 rw[hl]at h
 refine Zai h λm2 aJ=>Zp3 rfl (Zan (Zj8 t m2 (hr.mono (mLt aG aJ)) hz) ZeO (Zox λt' m3 aQ hr' ht'=>?_))
 exact⟨m3,mLt aG (mLt aJ aQ),Mem.le_refl _,t',rfl,ht'.1,Zv1 t' hr' (ht'.2.2.less (mLt aG aJ))⟩
theorem Znr(a:Option Addr)(c:Nat)(l:List E)(m:Mem)(h:rowRd m a (l.map E.cs).flatten)(hl:l.length<=1000000000000):CXT Tryz.prog 156 #[.slice a l.length c] m 5 (λv m' _=>∃a' c',v=.slice a' l.length c'/\rowRd m' a' (l.map E.cs).flatten/\l.length<=c'/\(l.length=0\/∃b,a'=some ⟨b,0,none⟩/\m.free b)):=by
 apply Za7
 have aH:(l.map E.cs).flatten.length=l.length*5:=ZaQ E.len l
 refine Zab (λha=>?_) (λha=>⟨⟨rfl,Int.le_refl _,by decide,by decide⟩,λb hf _=>⟨.inl rfl,[],(l.map E.cs).flatten,rfl,aH,.inl rfl,h,?_,by omega,by omega,λa' c' m' hm aB iV=>⟨rfl,?_⟩⟩⟩)
 ·obtain rfl:a=none:=by simpa using ha
  have h0:l=[]:=by
   rcases h with h|⟨_,_,h,_⟩
   ·rw[h]at aH;exact List.eq_nil_of_length_eq_zero (by simp at aH;omega)
   ·cases h
  subst h0
  exact⟨rfl,none,0,rfl,.inl rfl,Nat.le_refl _,.inl rfl⟩
 ·intro u hu
  simp only[List.mem_flatten,List.mem_map]at hu
  obtain⟨_,⟨e,_,rfl⟩,hu⟩:=hu
  exact E.one e u hu
 ·simp only[Nat.zero_add]at iV ⊢
  refine⟨a',c',rfl,aB,iV.1,?_⟩
  rcases(iV.old (λ_ _ e=>by cases e;rfl)).2 with h1|⟨b',h1,h2|h2⟩
  ·subst h1
   left
   rcases aB with h3|⟨_,_,h3,_⟩
   ·have h4:(l.map E.cs).flatten.length=0:=congrArg List.length h3
    omega
   ·cases h3
  ·right;rw[<-h2];exact⟨b,rfl,hf⟩
  ·exact .inr ⟨b',h1,h2⟩
theorem ZrM{m:Mem}{b:Nat}{ts r:List E}{x t:E}(h:rowRd m (some ⟨b,0,none⟩) ((ts++x::r).map E.cs).flatten):rowRd (m.upd b (0+ts.length*5) t.cs) (some ⟨b,0,none⟩) ((ts++t::r).map E.cs).flatten:=by
 have hl:∀l:List E,(l.map E.cs).flatten.length=l.length*5:=ZaQ E.len
 rcases h with h|⟨b',o',ha,h⟩
 ·have:=congrArg List.length h
  rw[hl,zA1,List.length_cons]at this
  simp at this
 cases ha
 have e:∀y:E,((ts++y::r).map E.cs).flatten=(ts.map E.cs).flatten++(y.cs++(r.map E.cs).flatten):=λy=>by simp
 refine .inr ⟨b,0,rfl,λj v hj=>?_⟩
 rw[e]at hj
 unfold Mem.upd;try dsimp only
 rw[Nat.zero_add,Nat.zero_add,E.len]
 rcases Nat.lt_or_ge j (ts.length*5)with aC|bG
 ·rw[if_neg (by omega)]
  rw[zA5 (by rw[hl];exact aC)]at hj
  have:=h j v (by rw[e,zA5 (by rw[hl];exact aC)];exact hj)
  rwa [Nat.zero_add]at this
 ·rw[zA4 (by rw[hl];exact bG),hl]at hj
  rcases Nat.lt_or_ge j (ts.length*5+5)with aC|ee
  ·rw[if_pos ⟨rfl,bG,aC⟩]
   rw[zA5 (by rw[E.len];omega)]at hj
   exact hj
  ·rw[if_neg (by omega)]
   rw[zA4 (by rw[E.len];omega),E.len]at hj
   have:=h j v (by
    rw[e,zA4 (by rw[hl];exact bG),hl,zA4 (by rw[E.len];omega),E.len];exact hj)
   rwa [Nat.zero_add]at this
def NewE(m:Mem)(t:E):Prop:=∀x∈t.nodes,x.subs=[]\/∃b,x.a=some ⟨b,0,none⟩/\m.free b
theorem NewE.less{m m':Mem}{t:E}(hn:NewE m' t)(h:m.le m'):NewE m t:=λx hx=>(hn x hx).imp id λ⟨b,e,hf⟩=>⟨b,e,ZbH h hf⟩
theorem ZhZ{y x:E}{l:List E}(hx:x∈l)(hy:y∈x.nodes):y∈Zal l:=by
 obtain⟨i,hi⟩:=List.getElem?_of_mem hx
 rw[Zb5 hi];simp[hy]
theorem ZrN{m:Mem}{k:Int}{x:Nat}{s:ByteArray}{g:Int}{a:Option Addr}{c:Nat}{l:List E}(h:l=[]\/∃b,a=some ⟨b,0,none⟩/\m.free b)(hl:∀x∈l,NewE m x):NewE m (.node k x s g a c l):=by
 intro x hx
 simp only[E.nodes,List.mem_cons]at hx
 rcases hx with rfl|hx
 ·exact h
 ·have:∀l:List E,(∀x∈l,NewE m x)->∀x∈Zal l,x.subs=[]\/∃b,x.a=some ⟨b,0,none⟩/\m.free b:=by
   intro l
   induction l with
   | nil=>intro _ x hx;simp[Zal]at hx
   | cons y l ih=>
    intro h x hx
    simp only[Zal,List.mem_append]at hx
    rcases hx with hx|hx
    ·exact h y (by simp) x hx
    ·exact ih (λz hz=>h z (by simp[hz])) x hx
  exact this l hl x hx
mutual
theorem ZsX{m m':Mem}:∀(t:E),RepE m' t->NewE m t->RepE (nw m m') t
 | .node k x s g a c l,hr,hn=>by
  have h0:=hn _ (by rw[Zbc];exact List.mem_cons_self)
  simp only[RepE]at hr ⊢
  refine⟨hr.1,?_,hr.2.2⟩
  rcases hr.2.1 with h|⟨b,o,ha,eu⟩
  ·exact .inl h
  rcases h0 with h|⟨b',hb',hf⟩
  ·exact .inl h
  ·have e:a=some ⟨b',0,none⟩:=hb'
   rw[ha]at e
   simp only[Option.some.injEq,Addr.mk.injEq,and_true]at e
   obtain⟨rfl,rfl⟩:=e
   exact .inr ⟨b,0,ha,Zns b hf 0 l eu λx hx y hy=>hn y (by
    rw[Zbc]
    exact List.mem_cons_of_mem _ (ZhZ hx hy))⟩
theorem Zns{m m':Mem}(b:Nat)(hf:m.free b):∀(o:Nat)(l:List E),RepEAt m' b o l->(∀x∈l,NewE m x)->RepEAt (nw m m') b o l
 | _,[],_,_=>by simp only[RepEAt]
 | o,t::l,hr,hn=>by
  simp only[RepEAt]at hr ⊢
  exact⟨λj v hj=>by rw[ZuP hf];exact hr.1 j v hj,ZsX t hr.2.1 (hn t (by simp)),Zns b hf (o+5) l hr.2.2 λx hx=>hn x (by simp[hx])⟩
end
theorem Zgy{m:Mem}{b:Nat}:∀(L:List E)(o:Nat),RepEAt m b o L->m.reads b o (L.map E.cs).flatten
 | [],o,_=>λj v hj=>by simp at hj
 | z::L,o,h=>λj v hj=>by
  simp only[RepEAt]at h
  rw[List.map_cons,List.flatten_cons]at hj
  rcases Nat.lt_or_ge j 5 with aC|bG
  ·rw[zA5 (by rw[E.len];exact aC)]at hj
   exact h.1 j v hj
  ·rw[zA4 (by rw[E.len];exact bG),E.len]at hj
   have:=Zgy L (o+5) h.2.2 (j - 5) v hj
   rwa [show o+5+(j - 5)=o+j by omega]at this
theorem Zud(e:E)(m:Mem):CX Tryz.prog 132 #[e.v] m [] (Ret e.v):=by
 apply Zhi
 intro b m1 aG _ b2
 exact Zaa rfl (Zaf aG rfl)
set_option maxHeartbeats 800000 in
theorem Zj9(t:E)(m:Mem)(hr:RepE m t)(hz:t.nodes.length<=10000):CX Tryz.prog 131 #[t.v,.func (.func 132) #[] #[]] m [] (ER λt'=>t'.er=t.er/\NewE m t'):=by
 have eG:t.subs.length<=10000:=by
  have:=ZdQ t.subs
  rw[Zbc,List.length_cons]at hz;omega
 have aM:∀x∈t.subs,RepE m x:=λx hx=>Zoz hr (by rw[Zbc];exact List.mem_cons_of_mem _ (ZhZ hx (by rw[Zbc];simp)))
 have oN:rowRd m t.a (t.subs.map E.cs).flatten:=by
  rcases(Zeb hr).2 with h|⟨b,o,ha,eu⟩
  ·rw[h];exact .inl rfl
  ·exact .inr ⟨b,o,ha,Zgy t.subs o eu⟩
 apply Zgo
 intro b b1
 refine⟨_,Znr t.a t.c t.subs m oN (by omega),(λv _ _ ⟨a,c,e,_⟩=>by rw[e];rfl),?_⟩
 rintro a n c m1 aG ⟨a',c',hv,aB,gL,aU⟩
 simp only[Value.slice.injEq]at hv
 obtain⟨rfl,rfl,rfl⟩:=hv
 refine⟨λxs css tvs m' q=>∃(k:Nat)(L:List E)(mb:Mem),k<=t.subs.length/\xs=[.int .i64 k]/\q=t.subs.length - k/\L.length=k/\L.map E.er=(t.subs.take k).map E.er/\m.le mb/\mb.le m'/\(t.subs.length=0\/∃b,a=some ⟨b,0,none⟩/\mb.free b)/\(∀x∈L,RepE mb x/\NewE m x)/\(t.subs.length=0\/∃b,a=some ⟨b,0,none⟩/\m.free b)/\rowRd m' a ((L++t.subs.drop k).map E.cs).flatten,⟨_,0,[],m,by omega,rfl,rfl,rfl,rfl,Mem.le_refl _,aG,aU,by simp,aU,aB⟩,?_⟩
 rintro z m2 q _ ⟨k,L,mb,hk,cI,hq,iH,lC,ep,ik,ew,jX,bJ,dt⟩
 obtain rfl:z=k:=by simpa using cI
 refine Zab (λaC=>?_) (λbG=>?_)
 ·have aI:k < t.subs.length:=by have:=zA6 aC;omega
  obtain⟨x,hx⟩:=Zat aI
  have cY:=aM x (zA2 hx)
  have ko:x.nodes.length<=10000:=by
   have:=congrArg List.length (Zb5 hx)
   rw[Zbc,List.length_cons]at hz
   simp only[zA1]at this
   omega
  have gR:t.subs.drop k=x::t.subs.drop (k+1):=by
   rw[List.drop_eq_getElem_cons aI,(zA0 hx).2]
  rcases ew with ew|⟨bk,rfl,dB⟩
  ·omega
  obtain⟨b0,o0,mJ,cD⟩:=Zam E.len dt (k:=k) (t:=x) (by rw[zA4 (by omega),iH,Nat.sub_self,gR];rfl) (by omega)
  cases mJ
  have hw:IntKind.i64.wrap ((k:Int)+1)=((k+1:Nat):Int):=by rw[Zak (by omega) (by omega)];rfl
  simp only[hw,zA8]
  have fM:CX Tryz.prog 131 #[x.v,.func (.func 132) #[] #[]] m2 [] (EF mb m2 λt'=>t'.er=x.er/\NewE mb t'):=(Zj9 x mb (RepE.mono ep x cY) ko).frame2 ik
  refine⟨bk,0,rfl,⟨by omega,by omega⟩,_,_,_,_,_,cD,λb3=>Zaa rfl ⟨λ_ _ _=>EF mb m2 λt'=>t'.er=x.er/\NewE mb t',EF mb m2 λt'=>t'.er=x.er/\NewE mb t',rfl,fM,Zp9,Zzf λt' m0 m3 aQ h0 dH dk hr' ht'=>⟨bk,0,rfl,⟨by omega,by omega⟩,λM fe fx=>Zaa rfl ⟨rfl,by omega,trivial,trivial,t.subs.length - (k+1),by omega,k+1,L++[t'],m0,by omega,rfl,rfl,by simp[iH],?_,mLt ep h0,?_,.inr ⟨bk,rfl,?_⟩,?_,bJ,?_⟩⟩⟩⟩
  ·rw[List.map_append,lC,Zeu hx,List.map_append]
   simp[ht'.1]
  ·refine Mem.le_upd (mLt dH fx) ?_ _ _
   intro o'
   have hc:m2 bk (0+k*5+0)=some (.int .u8 x.k):=cD 0 _ rfl
   rw[dk _ _ _ hc o'];exact dB o'
  ·intro o'
   have hc:m2 bk (0+k*5+0)=some (.int .u8 x.k):=cD 0 _ rfl
   rw[dk _ _ _ hc o'];exact dB o'
  ·intro y hy
   rcases List.mem_append.1 hy with hy|hy
   ·exact⟨RepE.mono h0 y (jX y hy).1,(jX y hy).2⟩
   ·simp at hy;subst hy;exact⟨hr',ht'.2.less ep⟩
  ·rw[gR]at dt
   have h5:=ZrM (t:=t') (dt.mono fe)
   rw[iH]at h5
   rw[List.append_assoc]
   exact h5
 ·have dp:k=t.subs.length:=by have:=of_decide_eq_false bG;omega
  subst dp
  rw[List.drop_length,List.append_nil]at dt
  rw[List.take_length]at lC
  have cE:=Zsy hr
  have hv:Value.agg #[.int .u8 t.k,.float .f64 t.x,.string t.s,.int .i64 t.g,.slice a t.subs.length c]=(E.node t.k t.x t.s t.g a c L).v:=by
   simp only[E.v,E.k,E.x,E.s,E.g,E.a,E.c,E.subs,iH]
  have fM:=Zud (.node t.k t.x t.s t.g a c L) m2
  rw[<-hv]at fM
  refine⟨_,trivial,fM,(λv _ _ h=>by rw[h];rfl),?_⟩
  intro n5 v5 s5 g5 a5 k5 c5 m3 aQ eY
  simp only[Value.agg.injEq,Array.mk.injEq,List.cons.injEq,Value.int.injEq,Value.string.injEq,Value.slice.injEq,true_and,and_true]at eY
  obtain⟨rfl,rfl,rfl,rfl,rfl,rfl,rfl⟩:=eY
  refine Zaa rfl ⟨m3,mLt ep (mLt ik aQ),Mem.le_refl _,.node t.k t.x t.s t.g a5 c5 L,hv,?_,?_,?_⟩
  ·exact Zqa (dt.mono aQ) (λx hx=>RepE.mono (mLt ik aQ) x (jX x hx).1) (by omega) cE
  ·cases t
   simp only[E.er,E.k,E.x,E.s,E.g,E.subs,ZlB]at lC ⊢
   rw[lC]
  ·exact ZrN (bJ.imp (λh=>List.eq_nil_of_length_eq_zero (by omega)) id) λx hx=>(jX x hx).2
termination_by SizeOf.sizeOf t
decreasing_by exact Zge (zA2 hx)
theorem ZyR(i:Nat):Int.tdiv (i:Int) 64=((i / 64:Nat):Int):=rfl
theorem Zym(i:Nat):Int.tmod (i:Int) 64=((i % 64:Nat):Int):=rfl
theorem ZyS{n:Int}(h1:0<=n)(h2:n < 256):IntKind.u8.wrap n=n:=by
 unfold IntKind.wrap
 simp only[IntKind.bits,IntKind.signed,Bool.false_and,Bool.false_eq_true,if_false]
 have e:(2:Int) ^ 8=256:=by decide
 rw[e];omega
theorem Zue(t:T)(m:Mem)(hr:Rep m t):CX Tryz.prog 125 #[t.v] m [] (ZmD (λu=>∃a c,u=ZbM 6 0 0 a c [t])):=by
 apply Zhp
 intro b m1 aG _ b1 b2 hf
 have bU:=Mem.le_add hf t.cs
 refine ZaH (mLt aG bU) ⟨ZbM 6 0 0 (some ⟨b2,0,none⟩) 1 [t],rfl,Zfn (Zpu ?_ (hr.mono (mLt aG bU))) (by omega) (by omega) (by omega),_,_,rfl⟩
 intro j v hj
 rw[Nat.zero_add,Mem.add_same];exact hj
theorem Zv2(t:T)(mn mx:Int)(h1 : -9223372036854775808<=mn/\mn<=9223372036854775807)(h2 : -9223372036854775808<=mx/\mx<=9223372036854775807)(m:Mem)(hr:Rep m t):CX Tryz.prog 126 #[t.v,.int .i64 mn,.int .i64 mx] m [] (ZmD (λu=>∃a c,u=ZbM 5 mn mx a c [t])):=by
 apply Zk4
 intro b m1 aG _ b1 b2 hf
 have bU:=Mem.le_add hf t.cs
 refine ZaH (mLt aG bU) ⟨ZbM 5 mn mx (some ⟨b2,0,none⟩) 1 [t],rfl,Zfn (Zpu ?_ (hr.mono (mLt aG bU))) (by omega) h1 h2,_,_,rfl⟩
 intro j v hj
 rw[Nat.zero_add,Mem.add_same];exact hj
def ZdX(s:ByteArray):List Nat:=s.data.toList.map λb=>b.toNat
theorem ZoT(s:ByteArray):(ZdX s).length=s.size:=by unfold ZdX;rw[List.length_map,Array.length_toList];rfl
theorem ZrO(s:ByteArray):∀c∈ZdX s,c < 256:=by
 intro c hc
 unfold ZdX at hc
 obtain⟨b,_,rfl⟩:=List.mem_map.1 hc
 exact b.toBitVec.isLt
theorem Zuf{s:ByteArray}{k c:Nat}(h:(ZdX s)[k]?=some c):ZuC s k=(c:Int):=by
 unfold ZdX at h
 rw[List.getElem?_map]at h
 obtain⟨b,hb,rfl⟩:=Option.map_eq_some_iff.1 h
 unfold ZuC
 rw[List.getD_eq_getElem?_getD,hb];rfl
theorem Znt(s:ByteArray)(hs:(ZdX s).length<=100000)(m:Mem):CX Tryz.prog 122 #[.string s] m [] (ZmD (λt=>t=Zit (ZdX s))):=by
 apply Zhq
 intro b b1
 have aH:=ZoT s
 refine⟨λxs css tvs m' q=>∃k:Nat,k<=s.size/\xs=[.int .i64 k]/\css=[Zsx ((ZdX s).take k)]/\q=s.size - k,⟨_,0,by omega,rfl,rfl,rfl⟩,?_⟩
 rintro n cs m1 q aG ⟨k,hk,hn,bL,hq⟩
 obtain rfl:n=k:=by simpa using hn
 obtain rfl:cs=Zsx ((ZdX s).take k):=by simpa using bL
 refine Zab (λaC=>?_) (λbG=>?_)
 ·have aI:k < s.size:=by have:=zA6 aC;omega
  obtain⟨c,hc⟩:=Zat (l:=ZdX s) (k:=k) (by omega)
  have oO:=ZrO s c (zA2 hc)
  have hw:IntKind.i64.wrap ((k:Int)+1)=((k+1:Nat):Int):=by rw[Zak (by omega) (by omega)];rfl
  have rR:IntKind.u8.wrap (Int.tdiv (c:Int) 64)=((c / 64:Nat):Int):=by rw[ZyR];exact ZyS (by omega) (by omega)
  have hr:IntKind.u64.wrap (1*2 ^ min (Int.toNat (Int.tmod (c:Int) 64)) 64)=((2 ^ (c % 64):Nat):Int):=by
   rw[Zym,zA8,Nat.min_eq_left (by omega),Int.one_mul]
   have:=Zx6 (2 ^ (c % 64)) (by
    have:2 ^ (c % 64) < 2 ^ 64:=Nat.pow_lt_pow_right (by omega) (by omega)
    exact this)
   rw[<-this];push_cast;rfl
  have h2:(2:Nat) ^ (c % 64) < 18446744073709551616:=by
   have:(2:Nat) ^ (c % 64) < 2 ^ 64:=Nat.pow_lt_pow_right (by omega) (by omega)
   exact this
  have hj:c / 64 < 4:=by omega
  simp only[hw,zA8,Zuf hc,rR,hr,Nat.zero_add,Nat.mul_one]
  refine⟨⟨by omega,by omega⟩,by omega,⟨by omega,by omega⟩,Zaj (Zq8 _ hj) ⟨⟨by omega,by omega⟩,by omega,by rw[Zym];omega,Zaa rfl ⟨⟨by omega,by omega⟩,Zaa (by rw[Nat.ble_eq];show c / 64+1<=4;omega) ⟨by trivial,s.size - (k+1),by omega,k+1,by omega,rfl,?_,rfl⟩⟩⟩⟩
  simp only[RowKit.intOf]
  rw[Ztt _ _ (Zsw _ _) h2,Zoy _ rfl hj,Zeu hc]
 ·have:k=s.size:=by have:=of_decide_eq_false bG;omega
  subst this
  rw[<-aH,List.take_length]
  exact Zaa rfl (Zaa rfl (Zaf aG ⟨Zit (ZdX s),rfl,ZmE _ m,rfl⟩))
theorem ZoU(n:Nat)(hn:n < 256)(m:Mem):CX Tryz.prog 123 #[.int .u8 n] m [] (λv _ _=>∃s,v=.string s/\ZdX s=ZcZ n):=by
 apply ZfH
 intro b hf
 have ht:Int.tmod (n:Int) 12=((n % 12:Nat):Int):=rfl
 simp only[ht,zA8,Nat.mul_one]
 refine⟨by omega,⟨by omega,by omega⟩,?_⟩
 have h:n % 12=0\/n % 12=1\/n % 12=2\/n % 12=3\/n % 12=4\/n % 12=5\/n % 12=6\/n % 12=7\/n % 12=8\/n % 12=9\/n % 12=10\/n % 12=11:=by omega
 unfold ZcZ
 rcases h with e|e|e|e|e|e|e|e|e|e|e|e <;>
 ·rw[e]
  refine Zaj rfl ?_
  exact⟨_,Mem.le_add hf _,Mem.le_refl _,_,rfl,rfl⟩
theorem Zei(k:Int)(t:T):ZaV k t=if t.k=k then t.subs else if k=3/\t.k=1 then[]else[t]:=rfl
theorem Zdn(l:List T):∀u∈Rx.Zb7 l,u.oneCell'=true:=by
 intro u hu
 simp only[Rx.Zb7,List.mem_flatten,List.mem_map]at hu
 obtain⟨_,⟨t,_,rfl⟩,h⟩:=hu
 simp only[T.cs,List.mem_cons,List.not_mem_nil,or_false,T.sl]at h
 rcases h with rfl|rfl|rfl|rfl|rfl|rfl|rfl|rfl <;> rfl
theorem ZlJ(k:Int)(t u:T)(hk:k=3\/k=4)(m:Mem)(hr:Rep m t)(hu:Rep m u)(ht:(ZaV k t).length<=10000)(v7:(ZaV k u).length<=10000):CX Tryz.prog 124 #[.int .u8 k,t.v,u.v] m [] (ZmD (λr=>∃a c,r=ZeP k a c (ZaV k t++ZaV k u))):=by
 apply Zhr
 intro b m1 aG _ b1 m2 aJ _ b2 b3 fu
 have jo:=mLt aG aJ
 have fH:m.le (m2.add b3 (t.cs++u.cs)):=mLt jo (Mem.le_add fu _)
 refine⟨λxs css tvs m' q=>∃(i:Nat)(l:List T)(a:Option Addr)(c:Nat),i<=2/\xs=[.slice a l.length c,.int .i64 i]/\tvs=[.slice a l.length c]/\l=(([t,u].take i).map (ZaV k)).flatten/\rowRd m' a (Rx.Zb7 l)/\q=2 - i,⟨2,0,[],none,0,by omega,rfl,rfl,rfl,.inl rfl,rfl⟩,?_⟩
 rintro a n c z a1 n1 c1 m3 q aQ ⟨i,l,a',c',hi,cI,cG,hl,aB,hq⟩
 simp only[List.cons.injEq,Value.slice.injEq,Value.int.injEq,true_and,and_true]at cI cG
 obtain⟨⟨rfl,rfl,rfl⟩,rfl⟩:=cI
 obtain⟨rfl,rfl,rfl⟩:=cG
 have gz:=mLt fH aQ
 have fS:l.length<=20000:=by
  rw[hl]
  have:i=0\/i=1\/i=2:=by omega
  rcases this with rfl|rfl|rfl <;> simp <;> omega
 refine Zab (λaC=>?_) (λbG=>?_)
 ·have h2:i=0\/i=1:=by have:=zA6 aC;omega
  rcases h2 with rfl|rfl
  ·
   refine⟨⟨by omega,by omega⟩,Zaa rfl λb4=>Zaa rfl (Zaj (v:=.int .u8 t.k) rfl (Zaa rfl (Zab (λdp=>Zaj (v:=t.sl) rfl (Zaa rfl ?_)) (λdp=>?_))))⟩
   ·have fC:t.k=k:=by simpa[RowKit.intOf]using dp
    have hj:ZaV k t=t.subs:=by rw[Zei,if_pos fC]
    have aH:=ht
    rw[hj]at aH
    refine⟨.inl rfl,Rx.Zb7 l,Rx.Zb7 t.subs,Zaq _,Zaq _,aB,(ZdM (hr.subs)).mono gz,Zdn _,?_,?_,λa2 c2 m4 bZ cU=>⟨by trivial,1,by omega,1,l++t.subs,a2,c2,by omega,?_,?_,?_,?_,?_⟩⟩
    ·simp only[T.sl,slN];omega
    ·simp only[T.sl,slN];omega
    ·rw[zA1];rfl
    ·rw[zA1];rfl
    ·rw[hl,<-hj];simp
    ·rw[ZaK];exact cU
    ·omega
   ·have fC:¬t.k=k:=by simpa[RowKit.intOf]using dp
    refine⟨k == 3&&t.k == 1,Zab (λh=>Zaj (v:=.int .u8 t.k) rfl (Zaa rfl ⟨by trivial,by trivial,?_⟩)) (λh=>⟨by trivial,by trivial,?_⟩),Zab (λh=>⟨by trivial,1,by omega,1,l,_,_,by omega,rfl,rfl,?_,aB,by omega⟩) (λh=>Zaa rfl λb6 gy=>?_)⟩
    ·rw[h];rfl
    ·rw[h];rfl
    ·have:k=3/\t.k=1:=by simpa using h
     have hj:ZaV k t=[]:=by rw[Zei,if_neg fC,if_pos this]
     rw[hl];simp[hj]
    ·have:¬(k=3/\t.k=1):=by simpa using h
     have hj:ZaV k t=[t]:=by rw[Zei,if_neg fC,if_neg this]
     have fG:=Mem.le_add gy t.cs
     refine⟨.inl rfl,Rx.Zb7 l,t.cs,Zaq _,rfl,aB.mono fG,.inr ⟨b6,0,rfl,λj v hj=>by rw[Nat.zero_add,Mem.add_same];exact hj⟩,by rw[<-Zbd];exact Zdn _,by omega,by omega,λa2 c2 m4 bZ cU=>⟨by trivial,1,by omega,1,l++[t],a2,c2,by omega,?_,?_,?_,?_,?_⟩⟩
     ·rw[zA1];rfl
     ·rw[zA1];rfl
     ·rw[hl];simp[hj]
     ·rw[ZaK,Zbd];exact cU
     ·omega
  ·
   refine⟨⟨by omega,by omega⟩,Zaa rfl λb4=>Zaa rfl (Zaj (v:=.int .u8 u.k) rfl (Zaa rfl (Zab (λdp=>Zaj (v:=u.sl) rfl (Zaa rfl ?_)) (λdp=>?_))))⟩
   ·have fC:u.k=k:=by simpa[RowKit.intOf]using dp
    have hj:ZaV k u=u.subs:=by rw[Zei,if_pos fC]
    have aH:=v7
    rw[hj]at aH
    refine⟨.inl rfl,Rx.Zb7 l,Rx.Zb7 u.subs,Zaq _,Zaq _,aB,(ZdM (hu.subs)).mono gz,Zdn _,?_,?_,λa2 c2 m4 bZ cU=>⟨by trivial,0,by omega,2,l++u.subs,a2,c2,by omega,?_,?_,?_,?_,?_⟩⟩
    ·simp only[T.sl,slN];omega
    ·simp only[T.sl,slN];omega
    ·rw[zA1];rfl
    ·rw[zA1];rfl
    ·rw[hl,<-hj];simp
    ·rw[ZaK];exact cU
    ·omega
   ·have fC:¬u.k=k:=by simpa[RowKit.intOf]using dp
    refine⟨k == 3&&u.k == 1,Zab (λh=>Zaj (v:=.int .u8 u.k) rfl (Zaa rfl ⟨by trivial,by trivial,?_⟩)) (λh=>⟨by trivial,by trivial,?_⟩),Zab (λh=>⟨by trivial,0,by omega,2,l,_,_,by omega,rfl,rfl,?_,aB,by omega⟩) (λh=>Zaa rfl λb6 gy=>?_)⟩
    ·rw[h];rfl
    ·rw[h];rfl
    ·have:k=3/\u.k=1:=by simpa using h
     have hj:ZaV k u=[]:=by rw[Zei,if_neg fC,if_pos this]
     rw[hl];simp[hj]
    ·have:¬(k=3/\u.k=1):=by simpa using h
     have hj:ZaV k u=[u]:=by rw[Zei,if_neg fC,if_neg this]
     have fG:=Mem.le_add gy u.cs
     refine⟨.inl rfl,Rx.Zb7 l,u.cs,Zaq _,rfl,aB.mono fG,.inr ⟨b6,0,rfl,λj v hj=>by rw[Nat.zero_add,Mem.add_same];exact hj⟩,by rw[<-Zbd];exact Zdn _,by omega,by omega,λa2 c2 m4 bZ cU=>⟨by trivial,0,by omega,2,l++[u],a2,c2,by omega,?_,?_,?_,?_,?_⟩⟩
     ·rw[zA1];rfl
     ·rw[zA1];rfl
     ·rw[hl];simp[hj]
     ·rw[ZaK,Zbd];exact cU
     ·omega
 ·have:i=2:=by have:=of_decide_eq_false bG;omega
  subst this
  have hl':ZaV k t++ZaV k u=l:=by rw[hl];simp
  rw[hl']
  have aM:∀x∈l,Rep m3 x:=by
   have key:∀t:T,Rep m t->∀x∈ZaV k t,Rep m3 x:=by
    intro t hr x hx
    rw[Zei]at hx
    split at hx
    ·exact Zis (hr.subs.mono gz) x hx
    ·split at hx
     ·simp at hx
     ·simp at hx;subst hx;exact hr.mono gz
   rw[<-hl']
   intro x hx
   rcases List.mem_append.1 hx with hx|hx
   ·exact key t hr x hx
   ·exact key u hu x hx
  refine Zab (λh0=>?_) (λh0=>Zab (λh1=>?_) (λh1=>?_))
  ·have:l=[]:=by simpa using h0
   subst this
   exact Zaf gz ⟨T1,rfl,Zvu _,none,0,rfl⟩
  ·have rM:l.length=1:=by
    have:((l.length:Int) == 1)=true:=h1
    have:=zA6 this;omega
   obtain⟨x,rfl⟩:∃x,l=[x]:=by
    match l,rM with
    | [x],_=>exact⟨x,rfl⟩
   rcases aB with aB|⟨b6,o,ha,cD⟩
   ·simp[Rx.Zb7,T.cs]at aB
   ·rw[Zbd]at cD
    exact⟨b6,o,ha,⟨by omega,by simp⟩,_,_,_,_,_,_,_,_,cD,Zaa rfl (ZaH gz ⟨x,rfl,aM x (by simp),none,0,rfl⟩)⟩
  ·have v8:¬l.length=0:=λe=>by rw[e]at h0;simp at h0
   have iz:¬l.length=1:=λe=>by rw[e]at h1;simp at h1
   obtain⟨x,y,r,rfl⟩:∃x y r,l=x::y::r:=by
    match l,v8,iz with
    | [],h,_=>simp at h
    | [x],_,h=>simp at h
    | x::y::r,_,_=>exact⟨x,y,r,rfl⟩
   refine ZaH gz ⟨ZbM k 0 0 _ _ (x::y::r),rfl,Zfn (Zsv aB aM (by omega)) (by omega) (by omega) (by omega),_,_,rfl⟩
structure Sm (m:Mem)(a:Option Addr)(l:List (Nat×Nat×Nat)):Prop where
 len:l.length<=9223372036854775807
 byte:∀s∈l,s.1 < 256/\s.2.1 < 256/\s.2.2 < 256
 at':∀i s,l[i]?=some s->∃b o,a=some ⟨b,o,none⟩/\m.reads b (o+i*3) [.int .u8 s.1,.int .u8 s.2.1,.int .u8 s.2.2]
theorem Sm.mono{m m':Mem}{a l}(h:Sm m a l)(hm:m.le m'):Sm m' a l:=
 ⟨h.len,h.byte,λi s hi=>by obtain⟨b,o,h1,h2⟩:=h.at' i s hi;exact⟨b,o,h1,h2.mono hm⟩⟩
theorem Znu(n:Nat):(([[97],[98],[97,98],[97],[98],[99],[97,98,99],[98,99],[10],[0,255],[97],[98]][n % 12]?).getD []:List Nat).length<=100000:=by
 have h:n % 12=0\/n % 12=1\/n % 12=2\/n % 12=3\/n % 12=4\/n % 12=5\/n % 12=6\/n % 12=7\/n % 12=8\/n % 12=9\/n % 12=10\/n % 12=11:=by omega
 rcases h with e|e|e|e|e|e|e|e|e|e|e|e <;> rw[e] <;> decide
theorem Zv3:∀L < 3,∀Mo < 4,((Mo < L\/Mo=0\/(L=1/\Mo=1))->Zq5 (L:Nat) (-1)=true/\Zxm (L:Nat) (-1)<=((max 1 L:Nat):Int))/\(¬(Mo < L\/Mo=0\/(L=1/\Mo=1))->Zq5 (L:Nat) (Mo:Nat)=true/\Zxm (L:Nat) (Mo:Nat)<=((max 1 (max L Mo):Nat):Int)):=by
 intro L hL Mo hM
 have h1:L=0\/L=1\/L=2:=by omega
 have h2:Mo=0\/Mo=1\/Mo=2\/Mo=3:=by omega
 rcases h1 with rfl|rfl|rfl <;> rcases h2 with rfl|rfl|rfl|rfl <;> exact⟨λ_=>by first|exact⟨by decide,by decide⟩|omega,λ_=>by first|exact⟨by decide,by decide⟩|omega⟩
theorem ZrP(l:List (Nat×Nat×Nat))(a:Option Addr)(c:Nat)(m:Mem)(hl:Sm m a l)(hc:l.length<=c):CX Tryz.prog 84 #[.slice a l.length c] m [] (ZmD (λt=>t.check=0/\t.nodes.length<=26)):=by
 apply Zi4
 have aH:=hl.len
 intro b
 have hN:(if(25:Int) < (l.length:Int)then(25:Int)else(l.length:Int))=((min 25 l.length:Nat):Int):=by split <;> omega
 simp only[hN,zA8,Nat.sub_zero]
 generalize p7:min 25 l.length=N
 refine⟨⟨by omega,by omega⟩,λxs css tvs m' q=>∃(i:Nat)(ts:List T)(a:Option Addr)(c:Nat)(u g:Nat)(mb:Mem),i<=N/\xs=[.slice a ts.length c,.int .i64 u,.int .i64 g,.int .i64 i]/\tvs=[.slice a ts.length c]/\ts.length<=c/\m.le mb/\mb.le m'/\Apart mb a/\rowRd m' a (Rx.Zb7 ts)/\(∀t∈ts,Rep mb t)/\J i ts u g/\q=N - i,⟨N,0,[],none,0,1,0,m,by omega,rfl,rfl,by simp,Mem.le_refl _,Mem.le_refl _,.inl rfl,.inl rfl,by simp,J.zero,by omega⟩,?_⟩
 rintro a1 n1 c1 z1 z2 z3 a2 n2 c2 m1 q _ ⟨i,ts,a',c',u,g,mb,hi,cI,cG,cO,ep,cT,dG,aB,aM,hJ,hq⟩
 simp only[List.cons.injEq,Value.slice.injEq,Value.int.injEq,true_and,and_true]at cI cG
 obtain⟨⟨rfl,rfl,rfl⟩,rfl,rfl,rfl⟩:=cI
 obtain⟨rfl,rfl,rfl⟩:=cG
 have gv:ts.length<=25:=by have:=hJ.sz;have:=ZmO ts;omega
 refine Zab (λaC=>?_) (λbG=>?_)
 ·have p8:i < N:=by have:=zA6 aC;omega
  have hi':i < l.length:=by omega
  obtain⟨s,hs⟩:=Zat hi'
  obtain⟨bs,os,ha,cD⟩:=(hl.mono (mLt ep cT)).at' i s hs
  obtain⟨s1,s2,s3⟩:=s
  obtain⟨oI,iS,ln⟩:=hl.byte _ (zA2 hs)
  have hw:IntKind.i64.wrap ((i:Int)+1)=((i+1:Nat):Int):=by rw[Zak (by omega) (by omega)];rfl
  have mI:Int.tmod (RowKit.intOf (Value.int .u8 (s1:Nat))) 12=((s1 % 12:Nat):Int):=rfl
  simp only[hw,zA8]
  refine⟨bs,os,ha,⟨by omega,by omega⟩,_,_,_,cD,λb2=>Zaa rfl (Zaa rfl ⟨by omega,?_⟩)⟩
  simp only[mI]
  refine Zab (λh1=>?_) (λh1=>Zab (λh2=>?_) (λh2=>?_))
  ·refine Zan (ZoU s2 iS m1) (λv _ _ ⟨s,e,_⟩=>by rw[e];rfl) ?_
   rintro str m2 aJ ⟨s',hv,hb⟩
   cases hv
   refine Zan (Znt str (by rw[hb];unfold ZcZ;exact Znu _) m2) ZeO (Zox λt m3 aQ hr ht b3 fu=>?_)
   rw[hb]at ht
   have fH:=mLt aJ (mLt aQ (Mem.le_add fu t.cs))
   obtain⟨k1,k2,k3,k4⟩:=ZpC s2
   refine⟨.inl trivial,Rx.Zb7 ts,t.cs,Zaq _,rfl,aB.mono (fH),.inr ⟨b3,0,rfl,λj v hj=>by rw[Nat.zero_add,Mem.add_same];exact hj⟩,by rw[<-Zbd];exact Zdn _,by omega,by omega,λa4 c4 m4 bZ cU aN=>⟨by trivial,N - (i+1),by omega,i+1,ts++[t],a4,c4,u,g,mb,by omega,?_,?_,by have:=aN.1;rw[zA1];exact this,ep,mLt cT (mLt (fH) bZ),dG.tok (mLt cT (fH)) aN,?_,?_,?_,by omega⟩⟩
   ·rw[zA1];rfl
   ·rw[zA1];rfl
   ·rw[ZaK,Zbd];exact cU
   ·intro x hx
    rcases List.mem_append.1 hx with hx|hx
    ·exact aM x hx
    ·simp at hx;subst hx;exact(by rw[ht];exact ZmE _ _)
   ·rw[ht];exact hJ.push k1 k2 k3 k4
  ·intro b3 fu
   have fH:=Mem.le_add fu T1.cs
   refine⟨.inl trivial,Rx.Zb7 ts,T1.cs,Zaq _,rfl,aB.mono (fH),.inr ⟨b3,0,rfl,λj v hj=>by rw[Nat.zero_add,Mem.add_same];exact hj⟩,by rw[<-Zbd];exact Zdn _,by omega,by omega,λa4 c4 m4 bZ cU aN=>⟨by trivial,N - (i+1),by omega,i+1,ts++[T1],a4,c4,u,g,mb,by omega,?_,?_,by have:=aN.1;rw[zA1];exact this,ep,mLt cT (mLt (fH) bZ),dG.tok (mLt cT (fH)) aN,?_,?_,?_,by omega⟩⟩
   ·rw[zA1];rfl
   ·rw[zA1];rfl
   ·rw[ZaK,Zbd];exact cU
   ·intro x hx
    rcases List.mem_append.1 hx with hx|hx
    ·exact aM x hx
    ·simp at hx;subst hx;exact Zvu _
   ·exact hJ.push Zvx.1 Zvx.2.1 Zvx.2.2.1 Zvx.2.2.2
  ·refine⟨decide (s1 % 12 < 7)&&decide (1 < ts.length),Zab (λh3=>⟨by trivial,by trivial,?_⟩) (λh3=>⟨by trivial,by trivial,?_⟩),Zab (λh3=>?_) (λh3=>?_)⟩
   ·refine Zao ?_
    rw[Bool.eq_iff_iff];simp;have:=zA6 h3;omega
   ·refine Zao ?_
    rw[eq_comm,Bool.and_eq_false_iff];left;have:=of_decide_eq_false h3;exact decide_eq_false (by omega)
   ·skip
    obtain⟨r,x,y,rfl⟩:=Zyk (ts:=ts) (by simp at h3;omega)
    have ff:(r++[x,y]).length=r.length+2:=by simp
    have fl:IntKind.i64.wrap (((r++[x,y]).length:Int) - 2)=(r.length:Int):=by rw[ff,Zak (by omega) (by omega)];omega
    have fQ:IntKind.i64.wrap (((r++[x,y]).length:Int) - 1)=((r.length+1:Nat):Int):=by rw[ff,Zak (by omega) (by omega)];omega
    simp only[fl,fQ,zA8,Nat.sub_zero]
    obtain⟨bb,ig,fL,o',u',hu'⟩:=dG.base aB (by simp)
    obtain⟨bx,ox,ii,gI⟩:=Zdf aB (i:=r.length) (t:=x) (by simp)
    obtain⟨by',oy,oK,oL⟩:=Zdf aB (i:=r.length+1) (t:=y) (by simp)
    have rU:(ZaV 3 x).length<=10000:=by
     have:=hJ.sz
     rw[ZaB,show szL [x,y]=szL ([x]++[y]) from rfl,ZaB,Za6,Za6]at this
     have:=ZdP (k:=3) (t:=x)
     omega
    have rV:(ZaV 3 y).length<=10000:=by
     have:=hJ.sz
     rw[ZaB,show szL [x,y]=szL ([x]++[y]) from rfl,ZaB,Za6,Za6]at this
     have:=ZdP (k:=3) (t:=y)
     omega
    refine⟨λ_ _ _=>Zn1 mb m1 (λr=>∃a c,r=ZeP 3 a c (ZaV 3 x++ZaV 3 y)),⟨by omega,by omega⟩,⟨by omega,by omega⟩,bx,ox,ii,⟨by omega,by omega⟩,_,_,_,_,_,_,_,_,gI,by',oy,oK,⟨by omega,by omega⟩,_,_,_,_,_,_,_,_,oL,Zn1 mb m1 (λr=>∃a c,r=ZeP 3 a c (ZaV 3 x++ZaV 3 y)),rfl,(ZlJ 3 x y (by omega) mb (aM x (by simp)) (aM y (by simp)) rU rV).frame2 cT,ZcX,ZhW λt m0 m3 aQ h0 gJ bJ fg ht b6 gy=>?_⟩
    obtain⟨at',ct,ht⟩:=ht
    have fG:=Mem.le_add gy t.cs
    have eb:Apart m0 _:=.inr ⟨bb,ig,λo=>by rw[bJ bb o' u' hu' o];exact fL o⟩
    refine⟨.inr (.inr (by omega)),Rx.Zb7 r,t.cs,Zaq _,rfl,((Zp4 aB).mono aQ).mono fG,.inr ⟨b6,0,rfl,λj v hj=>by rw[Nat.zero_add,Mem.add_same];exact hj⟩,by rw[<-Zbd];exact Zdn _,by omega,by omega,λa4 c4 m4 bZ cU aN M iI fe fx gQ=>⟨by trivial,N - (i+1),by omega,i+1,r++[t],a4,c4,u,g,m0,by omega,?_,?_,by have:=aN.1;rw[zA1];exact this,mLt ep h0,mLt gJ fe,eb.tok (mLt gJ fG) aN,?_,?_,?_,by omega⟩⟩
    ·rw[zA1];rfl
    ·rw[zA1];rfl
    ·rw[ZaK,Zbd];exact cU.mono gQ
    ·intro z hz
     rcases List.mem_append.1 hz with hz|hz
     ·exact(aM z (by simp[hz])).mono h0
     ·simp at hz;subst hz;exact fg
    ·rw[ht];exact hJ.join (by omega) (by omega) _ _
   ·refine⟨decide (s1 % 12 < 9)&&decide (1 < ts.length),Zab (λh4=>⟨by trivial,by trivial,?_⟩) (λh4=>⟨by trivial,by trivial,?_⟩),Zab (λh4=>?_) (λh4=>?_)⟩
    ·refine Zao ?_
     rw[Bool.eq_iff_iff];simp;have:=zA6 h4;omega
    ·refine Zao ?_
     rw[eq_comm,Bool.and_eq_false_iff];left;have:=of_decide_eq_false h4;exact decide_eq_false (by omega)
    ·skip
     obtain⟨r,x,y,rfl⟩:=Zyk (ts:=ts) (by simp at h4;omega)
     have ff:(r++[x,y]).length=r.length+2:=by simp
     have fl:IntKind.i64.wrap (((r++[x,y]).length:Int) - 2)=(r.length:Int):=by rw[ff,Zak (by omega) (by omega)];omega
     have fQ:IntKind.i64.wrap (((r++[x,y]).length:Int) - 1)=((r.length+1:Nat):Int):=by rw[ff,Zak (by omega) (by omega)];omega
     simp only[fl,fQ,zA8,Nat.sub_zero]
     obtain⟨bb,ig,fL,o',u',hu'⟩:=dG.base aB (by simp)
     obtain⟨bx,ox,ii,gI⟩:=Zdf aB (i:=r.length) (t:=x) (by simp)
     obtain⟨by',oy,oK,oL⟩:=Zdf aB (i:=r.length+1) (t:=y) (by simp)
     have rU:(ZaV 4 x).length<=10000:=by
      have:=hJ.sz
      rw[ZaB,show szL [x,y]=szL ([x]++[y]) from rfl,ZaB,Za6,Za6]at this
      have:=ZdP (k:=4) (t:=x)
      omega
     have rV:(ZaV 4 y).length<=10000:=by
      have:=hJ.sz
      rw[ZaB,show szL [x,y]=szL ([x]++[y]) from rfl,ZaB,Za6,Za6]at this
      have:=ZdP (k:=4) (t:=y)
      omega
     refine⟨λ_ _ _=>Zn1 mb m1 (λr=>∃a c,r=ZeP 4 a c (ZaV 4 x++ZaV 4 y)),⟨by omega,by omega⟩,⟨by omega,by omega⟩,bx,ox,ii,⟨by omega,by omega⟩,_,_,_,_,_,_,_,_,gI,by',oy,oK,⟨by omega,by omega⟩,_,_,_,_,_,_,_,_,oL,Zn1 mb m1 (λr=>∃a c,r=ZeP 4 a c (ZaV 4 x++ZaV 4 y)),rfl,(ZlJ 4 x y (by omega) mb (aM x (by simp)) (aM y (by simp)) rU rV).frame2 cT,ZcX,ZhW λt m0 m3 aQ h0 gJ bJ fg ht b6 gy=>?_⟩
     obtain⟨at',ct,ht⟩:=ht
     have fG:=Mem.le_add gy t.cs
     have eb:Apart m0 _:=.inr ⟨bb,ig,λo=>by rw[bJ bb o' u' hu' o];exact fL o⟩
     refine⟨.inr (.inr (by omega)),Rx.Zb7 r,t.cs,Zaq _,rfl,((Zp4 aB).mono aQ).mono fG,.inr ⟨b6,0,rfl,λj v hj=>by rw[Nat.zero_add,Mem.add_same];exact hj⟩,by rw[<-Zbd];exact Zdn _,by omega,by omega,λa4 c4 m4 bZ cU aN M iI fe fx gQ=>⟨by trivial,N - (i+1),by omega,i+1,r++[t],a4,c4,u,g,m0,by omega,?_,?_,by have:=aN.1;rw[zA1];exact this,mLt ep h0,mLt gJ fe,eb.tok (mLt gJ fG) aN,?_,?_,?_,by omega⟩⟩
     ·rw[zA1];rfl
     ·rw[zA1];rfl
     ·rw[ZaK,Zbd];exact cU.mono gQ
     ·intro z hz
      rcases List.mem_append.1 hz with hz|hz
      ·exact(aM z (by simp[hz])).mono h0
      ·simp at hz;subst hz;exact fg
     ·rw[ht];exact hJ.join (by omega) (by omega) _ _
    ·refine⟨decide (s1 % 12=9)&&(decide (0 < ts.length)&&decide (g < 9)),Zab (λh5=>Zab (λh6=>⟨by trivial,by trivial,?_⟩) (λh6=>⟨by trivial,by trivial,?_⟩)) (λh5=>⟨by trivial,by trivial,?_⟩),Zab (λh5=>?_) (λh5=>?_)⟩
     ·refine Zao ?_
      have e1:=zA6 h6
      have e2:s1 % 12=9:=by have:=h5;simp at this;omega
      rw[decide_eq_true e2,decide_eq_true (show 0 < ts.length by omega),Bool.true_and,Bool.true_and,Bool.eq_iff_iff];simp;omega
     ·refine Zao ?_
      have e1:=of_decide_eq_false h6
      rw[decide_eq_false (show ¬0 < ts.length by omega)];simp
     ·refine Zao ?_
      have e2:¬s1 % 12=9:=by have:=h5;simp at this;omega
      rw[decide_eq_false e2];rfl
     ·
      have wb:g < 9:=by simp at h5;omega
      skip
      obtain⟨r,x,rfl⟩:=Zyl (ts:=ts) (by simp at h5;omega)
      have ff:(r++[x]).length=r.length+1:=by simp
      have fQ:IntKind.i64.wrap (((r++[x]).length:Int) - 1)=(r.length:Int):=by rw[ff,Zak (by omega) (by omega)];omega
      obtain⟨bb,ig,fL,o',u',hu'⟩:=dG.base aB (by simp)
      subst ig
      obtain⟨bx,ox,ii,gI⟩:=Zdf aB (i:=r.length) (t:=x) (by simp)
      cases ii
      have rW:IntKind.i64.wrap ((g:Int)+1)=((g+1:Nat):Int):=by rw[Zak (by omega) (by omega)];rfl
      simp only[fQ,rW,zA8]
      refine⟨_,_,rfl,⟨by omega,by omega⟩,_,_,_,_,_,_,_,_,gI,Zan ((Zue x mb (aM x (by simp))).frame2 cT) (ZcX (mb:=mb) (M0:=m1)) (ZhW λt m0 m3 aQ h0 gJ bJ fg ht=>?_)⟩
      obtain⟨at',ct,ht⟩:=ht
      have eb:m0.free bb:=λo=>by rw[bJ bb o' u' hu' o];exact fL o
      refine⟨bb,0,rfl,⟨by omega,by omega⟩,rfl,by omega,by trivial,N - (i+1),by omega,i+1,r++[t],_,_,u,g+1,m0,by omega,?_,?_,by rw[zA1];rw[ff]at cO;exact cO,mLt ep h0,Mem.le_upd gJ eb _ _,.inr ⟨bb,rfl,eb⟩,Zp5 (aB.mono aQ),?_,?_,by omega⟩
      ·rw[ff,zA1];rfl
      ·rw[ff,zA1];rfl
      ·intro z hz
       rcases List.mem_append.1 hz with hz|hz
       ·exact(aM z (by simp[hz])).mono h0
       ·simp at hz;subst hz;exact fg
      ·rw[ht];exact hJ.group wb _ _
     ·by_cases h0:0 < ts.length
      ·skip
       obtain⟨r,x,rfl⟩:=Zyl (ts:=ts) (by exact h0)
       have ff:(r++[x]).length=r.length+1:=by simp
       have fQ:IntKind.i64.wrap (((r++[x]).length:Int) - 1)=(r.length:Int):=by rw[ff,Zak (by omega) (by omega)];omega
       obtain⟨bb,ig,fL,o',u',hu'⟩:=dG.base aB (by simp)
       subst ig
       obtain⟨bx,ox,ii,gI⟩:=Zdf aB (i:=r.length) (t:=x) (by simp)
       cases ii
       have wd:IntKind.i64.wrap (Int.tmod (RowKit.intOf (Value.int .u8 (s2:Nat))) 3)=((s2 % 3:Nat):Int):=by
        rw[show Int.tmod (RowKit.intOf (Value.int .u8 (s2:Nat))) 3=((s2 % 3:Nat):Int) from rfl,Zak (by omega) (by omega)]
       have we:IntKind.i64.wrap (Int.tmod (RowKit.intOf (Value.int .u8 (s3:Nat))) 4)=((s3 % 4:Nat):Int):=by
        rw[show Int.tmod (RowKit.intOf (Value.int .u8 (s3:Nat))) 4=((s3 % 4:Nat):Int) from rfl,Zak (by omega) (by omega)]
       simp only[fQ,wd,we,zA8]
       have p9:s2 % 3 < 3:=by omega
       have gQ:s3 % 4 < 4:=by omega
       generalize s2 % 3=L at *
       generalize s3 % 4=Mo at *
       refine⟨decide (9 < s1 % 12)&&!(x.k == 1),Zab (λh6=>Zab (λh7=>⟨_,_,rfl,⟨by omega,by omega⟩,.int .u8 x.k,gI 0 _ rfl,Zaa rfl ⟨by trivial,by trivial,?_⟩⟩) (λh7=>absurd h7 (by simp))) (λh6=>⟨by trivial,by trivial,?_⟩),Zab (λh6=>Zaa rfl ⟨by omega,Zaa rfl ⟨by omega,?_⟩⟩) (λh6=>⟨by trivial,N - (i+1),by omega,i+1,r++[x],_,_,u,g,mb,by omega,rfl,rfl,cO,ep,cT,dG,aB,aM,hJ.skip,by omega⟩)⟩
       ·refine Zao ?_
        have:=zA6 h6
        rw[decide_eq_true (show 9 < s1 % 12 by omega),Bool.true_and];rfl
       ·refine Zao ?_
        have:=of_decide_eq_false h6
        rw[decide_eq_false (show ¬9 < s1 % 12 by omega)];rfl
       ·have iP:x.k≠1:=by
         rw[zA7]at h6
         simpa using h6.2
        obtain⟨tab1,tab2⟩:=Zv3 L p9 Mo gQ
        refine⟨decide (Mo < L\/Mo=0\/(L=1/\Mo=1)),Zab (λg1=>⟨by trivial,by trivial,Zao ?_⟩) (λg1=>Zab (λg2=>⟨by trivial,by trivial,Zao ?_⟩) (λg2=>Zab (λg3=>⟨by trivial,by trivial,Zao ?_⟩) (λg3=>⟨by trivial,by trivial,Zao ?_⟩))),Zab (λg4=>?_) (λg4=>?_)⟩
        ·have:=zA6 g1
         exact(decide_eq_true (by omega)).symm
        ·have:Mo=0:=by simp at g2;omega
         exact(decide_eq_true (by omega)).symm
        ·have e1:=of_decide_eq_false g1
         have e2:¬Mo=0:=by simp at g2;omega
         have e3:L=1:=by simp at g3;omega
         rw[Bool.eq_iff_iff];simp;omega
        ·have e1:=of_decide_eq_false g1
         have e2:¬Mo=0:=by simp at g2;omega
         have e3:¬L=1:=by simp at g3;omega
         exact(decide_eq_false (by omega)).symm
        ·
         have hA:(if(1:Int) > (if(-1:Int) > (L:Int)then(-1:Int)else(L:Int))then(1:Int)else(if(-1:Int) > (L:Int)then(-1:Int)else(L:Int)))=((max 1 L:Nat):Int):=by
          split <;> split <;> omega
         obtain⟨tb,tp⟩:=tab1 (zA6 g4)
         have mF:u*max 1 L<=48:=by have:=Nat.mul_le_mul hJ.u16 (show max 1 L<=3 by omega);omega
         have rX:IntKind.i64.wrap ((u:Int)*((max 1 L:Nat):Int))=((u*max 1 L:Nat):Int):=by rw[<-Int.natCast_mul];exact Zak (by omega) (by omega)
         simp only[hA,rX]
         refine Zab (λg5=>?_) (λg5=>⟨by trivial,N - (i+1),by omega,i+1,r++[x],_,_,u,g,mb,by omega,rfl,rfl,cO,ep,cT,dG,aB,aM,hJ.skip,by omega⟩)
         have mK:u*max 1 L<=16:=by have:=zA6 g5;omega
         refine⟨_,_,rfl,⟨by omega,by omega⟩,_,_,_,_,_,_,_,_,gI,Zan ((Zv2 x (L:Nat) (-1:Int) ⟨by omega,by omega⟩ ⟨by omega,by omega⟩ mb (aM x (by simp))).frame2 cT) (ZcX (mb:=mb) (M0:=m1)) (ZhW λt m0 m3 aQ h0 gJ bJ fg ht=>?_)⟩
         obtain⟨at',ct,ht⟩:=ht
         have eb:m0.free bb:=λo=>by rw[bJ bb o' u' hu' o];exact fL o
         refine⟨bb,0,rfl,⟨by omega,by omega⟩,rfl,by omega,by trivial,N - (i+1),by omega,i+1,r++[t],_,_,u*max 1 L,g,m0,by omega,?_,?_,by rw[zA1];rw[ff]at cO;exact cO,mLt ep h0,Mem.le_upd gJ eb _ _,.inr ⟨bb,rfl,eb⟩,Zp5 (aB.mono aQ),?_,?_,by omega⟩
         ·rw[ff,zA1];rfl
         ·rw[ff,zA1];rfl
         ·intro z hz
          rcases List.mem_append.1 hz with hz|hz
          ·exact(aM z (by simp[hz])).mono h0
          ·simp at hz;subst hz;exact fg
         ·rw[ht];exact hJ.rep iP tb tp (by omega) mK _ _
        ·
         have hA:(if(1:Int) > (if((Mo:Int)) > (L:Int)then((Mo:Int))else(L:Int))then(1:Int)else(if((Mo:Int)) > (L:Int)then((Mo:Int))else(L:Int)))=((max 1 (max L Mo):Nat):Int):=by
          split <;> split <;> omega
         obtain⟨tb,tp⟩:=tab2 (of_decide_eq_false g4)
         have mF:u*max 1 (max L Mo)<=48:=by have:=Nat.mul_le_mul hJ.u16 (show max 1 (max L Mo)<=3 by omega);omega
         have rX:IntKind.i64.wrap ((u:Int)*((max 1 (max L Mo):Nat):Int))=((u*max 1 (max L Mo):Nat):Int):=by rw[<-Int.natCast_mul];exact Zak (by omega) (by omega)
         simp only[hA,rX]
         refine Zab (λg5=>?_) (λg5=>⟨by trivial,N - (i+1),by omega,i+1,r++[x],_,_,u,g,mb,by omega,rfl,rfl,cO,ep,cT,dG,aB,aM,hJ.skip,by omega⟩)
         have mK:u*max 1 (max L Mo)<=16:=by have:=zA6 g5;omega
         refine⟨_,_,rfl,⟨by omega,by omega⟩,_,_,_,_,_,_,_,_,gI,Zan ((Zv2 x (L:Nat) ((Mo:Int)) ⟨by omega,by omega⟩ ⟨by omega,by omega⟩ mb (aM x (by simp))).frame2 cT) (ZcX (mb:=mb) (M0:=m1)) (ZhW λt m0 m3 aQ h0 gJ bJ fg ht=>?_)⟩
         obtain⟨at',ct,ht⟩:=ht
         have eb:m0.free bb:=λo=>by rw[bJ bb o' u' hu' o];exact fL o
         refine⟨bb,0,rfl,⟨by omega,by omega⟩,rfl,by omega,by trivial,N - (i+1),by omega,i+1,r++[t],_,_,u*max 1 (max L Mo),g,m0,by omega,?_,?_,by rw[zA1];rw[ff]at cO;exact cO,mLt ep h0,Mem.le_upd gJ eb _ _,.inr ⟨bb,rfl,eb⟩,Zp5 (aB.mono aQ),?_,?_,by omega⟩
         ·rw[ff,zA1];rfl
         ·rw[ff,zA1];rfl
         ·intro z hz
          rcases List.mem_append.1 hz with hz|hz
          ·exact(aM z (by simp[hz])).mono h0
          ·simp at hz;subst hz;exact fg
         ·rw[ht];exact hJ.rep iP tb tp (by omega) mK _ _
      ·refine⟨false,Zab (λh6=>Zab (λh7=>absurd (zA6 h7) (by omega)) (λh7=>⟨by trivial,by trivial,rfl⟩)) (λh6=>⟨by trivial,by trivial,rfl⟩),Zp3 rfl ⟨by trivial,N - (i+1),by omega,i+1,ts,_,_,u,g,mb,by omega,rfl,rfl,cO,ep,cT,dG,aB,aM,hJ.skip,by omega⟩⟩
 ·have p8:i=N:=by have:=of_decide_eq_false bG;omega
  have aG:=mLt ep cT
  refine Zab (λh0=>?_) (λh0=>?_)
  ·have rY:(ZdX ⟨#[97]⟩)=ZcZ 0:=by rfl
   refine Zan (Znt ⟨#[97]⟩ (by decide) m1) ZeO (Zox λt m2 aJ hr ht=>ZaH (mLt aG aJ) ⟨t,rfl,hr,?_⟩)
   rw[rY]at ht
   obtain⟨k1,k2,k3,k4⟩:=ZpC 0
   rw[<-ht]at k1 k2 k3 k4
   exact(F26.leaf ⟨k1,by simp,by simp[szL,ZaD,k2],by simp[Zjm];omega,by simp[grL,ZaD,k4]⟩ k2).done
  ·obtain⟨t0,rest,rfl⟩:∃t r,ts=t::r:=by cases ts with
    | nil=>simp at h0
    | cons t r=>exact⟨t,r,rfl⟩
   have hF:=F26.start hJ (by omega)
   obtain⟨bb,ig,fL,o',u',hu'⟩:=dG.base aB (by simp)
   subst ig
   obtain⟨bx,ox,ii,gI⟩:=Zdf aB (i:=0) (t:=t0) rfl
   cases ii
   rw[List.length_cons]at gv cO
   refine⟨_,_,rfl,⟨by omega,by simp⟩,_,_,_,_,_,_,_,_,gI,λb2=>Zaa rfl ⟨⟨by omega,by rw[List.length_cons];omega⟩,?_⟩⟩
   refine⟨λxs css tvs m' q=>∃(k:Nat)(t:T),k<=rest.length/\xs=[.int .i64 k]/\css=[t.cs]/\m1.le m'/\Rep m' t/\F26 t (rest.drop k)/\q=rest.length - k,⟨rest.length,0,t0,by omega,rfl,rfl,Mem.le_refl _,(aM t0 (by simp)).mono cT,hF,by omega⟩,?_⟩
   rintro z cs m2 q2 _ ⟨k,t,hk,hz,bL,aJ,fg,jW,nP⟩
   obtain rfl:z=k:=by simpa using hz
   obtain rfl:cs=t.cs:=by simpa using bL
   have kz:((t0::rest).length - Int.toNat 1)=rest.length:=by simp
   simp only[kz]
   refine Zab (λaC=>?_) (λee=>Zaa rfl (ZaH (mLt aG aJ) ⟨t,rfl,fg,by rw[show k=rest.length by have:=of_decide_eq_false ee;omega,List.drop_length]at jW;exact jW.done⟩))
   have aI:k < rest.length:=by have:=zA6 aC;omega
   obtain⟨x,hx⟩:=Zat aI
   obtain⟨b3,o3,eX,jV⟩:=Zdf (aB.mono aJ) (i:=k+1) (t:=x) (by simpa using hx)
   cases eX
   have gt:IntKind.i64.wrap ((k:Int)+1)=((k+1:Nat):Int):=by rw[Zak (by omega) (by omega)];rfl
   simp only[gt,zA8]
   rw[Zpt hx]at jW
   have bE:=jW.f.sz
   rw[Zed]at bE
   have tL:=ZdP (k:=4) (t:=t)
   have tH:=ZdP (k:=4) (t:=x)
   have gK:ZaZ (some (⟨bb,0,none⟩:Addr)) (Int.toNat 1) c2 8=some ⟨bb,0+8,none⟩:=by
    unfold ZaZ
    have:Nat.beq c2 1=false:=by
     cases hb:Nat.beq c2 1 with
     | false=>rfl
     | true=>have:=Nat.eq_of_beq_eq_true hb;omega
    show(bif Nat.beq c2 1 then _ else some (Addr.add _ (1*8)))=_
    rw[this,ZbD];rfl
   refine⟨_,_,gK,⟨by omega,by omega⟩,_,_,_,_,_,_,_,_,by rw[show 0+8+k*8=0+(k+1)*8 by omega];exact jV,λb4=>Zaa rfl (Zan (ZlJ 4 t x (.inr rfl) m2 fg ((aM x (by simp[zA2 hx])).mono (mLt cT aJ)) (by omega) (by omega)) ZeO (Zox λt' m3 aQ hr' ht'=>⟨by trivial,by trivial,rest.length - (k+1),by omega,k+1,t',by omega,rfl,rfl,mLt aJ aQ,hr',?_,by omega⟩))⟩
   obtain⟨a3,c3,ht'⟩:=ht'
   rw[ht'];exact jW.step _ _
end Go.Proofs.YtpjepnkiiojgfaaGreat