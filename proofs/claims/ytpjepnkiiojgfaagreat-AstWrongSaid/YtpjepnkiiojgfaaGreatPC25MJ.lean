/- Part of the proof: functions of the program. No condition. -/
import Derived.Test.YtpjepnkiiojgfaaGreatPVEN
import Derived.Test.YtpjepnkiiojgfaaGreatPC25MA
import Derived.Test.YtpjepnkiiojgfaaGreatPVM
import Derived.Test.YtpjepnkiiojgfaaGreatMr
set_option linter.unusedVariables false
set_option linter.unusedSimpArgs false
set_option linter.unusedSectionVars false
namespace Go.Proofs.YtpjepnkiiojgfaaGreat
open Go Go.Eng Go.Rx Go.Proofs Go.RowKit
set_option maxRecDepth 100000
theorem Zgt(m:Mem):CX Tryz.prog 24 #[] m [] (ZuZ Zhn):=by
 apply Zfc
 intro b hf
 exact ZaA (Mem.le_add hf _) ⟨_,_,rfl,ZaN⟩
theorem ZkV(m:Mem):CX Tryz.prog 25 #[] m [] (ZuZ ZdK):=by
 apply ZgN
 intro b hf
 exact ZaA (Mem.le_add hf _) ⟨_,_,rfl,ZaN⟩
theorem Zmp(m:Mem):CX Tryz.prog 35 #[] m [] (ZuZ Zta):=by
 apply ZgO
 intro b hf
 exact ZaA (Mem.le_add hf _) ⟨_,_,rfl,ZaN⟩
theorem Zjo{m:Mem}{b:Nat}:∀{L:List E} {o:Nat},m.reads b o (L.map E.cs).flatten->(∀z∈L,RepE m z)->RepEAt m b o L
 | [],o,_,_=>by simp only[RepEAt]
 | z::L,o,h,hz=>by
  rw[List.map_cons,List.flatten_cons]at h
  simp only[RepEAt]
  refine⟨λi v hi=>h i v (by rw[zA5 (zA0 hi).1];exact hi),hz z (by simp),Zjo (λi v hi=>?_) (λy hy=>hz y (by simp[hy]))⟩
  rw[Nat.add_assoc]
  refine h (5+i) v ?_
  rw[zA4 (by rw[E.len];omega),E.len,Nat.add_sub_cancel_left];exact hi
theorem ZoV{m:Mem}{k:Int}{x:Nat}{s:ByteArray}{g:Int}{a:Option Addr}{c:Nat}{L:List E}(h:rowRd m a (L.map E.cs).flatten)(hz:∀z∈L,RepE m z)(hl:L.length<=1000000000000000)(ho:OkE k s g):RepE m (.node k x s g a c L):=by
 simp only[RepE]
 refine⟨hl,?_,ho⟩
 rcases h with h|⟨b,o,ha,h⟩
 ·refine .inl ?_
  have:=congrArg List.length h
  rw[ZaQ E.len]at this
  exact List.eq_nil_of_length_eq_zero (by simp at this;omega)
 ·exact .inr ⟨b,o,ha,Zjo h hz⟩
theorem Zjp(e:E)(c:Int)(m:Mem)(hr:RepE m e)(bX:∀x∈e.nodes,okN 9 x)(hl:e.nodes.length<=1000):CX Tryz.prog 127 #[e.v,.int .i64 c] m [] (ER (BoE c e)):=by
 apply Zfd
 intro b b1
 refine⟨decide (e.k=10)&&decide (e.g > c),Zab (λh=>⟨rfl,ZaB ?_⟩) (λh=>⟨rfl,ZaB ?_⟩),Zab (λh=>?_) (λh=>?_)⟩
 ·have:e.k=10:=by simpa using h
  rw[decide_eq_true this,Bool.true_and]
 ·have:¬e.k=10:=by simpa using h
  rw[decide_eq_false this,Bool.false_and]
 ·rw[zA7,decide_eq_true_iff,decide_eq_true_iff]at h
  exact ZaA (Mem.le_refl _) ⟨ZuV ⟨#[121]⟩,rfl,ZdF (by omega) (by decide) (by omega),Zt3 (by simp[Zhn]) h.1⟩
 have hk:¬(e.k=10/\e.g > c):=by
  rintro⟨h1,h2⟩
  rw[decide_eq_true h1,decide_eq_true h2]at h;cases h
 have cU:e.subs.length<=1000:=by
  have:=ZdA e.subs
  rw[Za2,List.length_cons]at hl;omega
 refine⟨λxs css tvs m' q=>∃(ts:List E)(a:Option Addr)(d:Nat),ts.length<=e.subs.length/\xs=[.int .i64 ts.length]/\css=[[.int .u8 e.k,.float .f64 e.x,.string e.s,.int .i64 e.g,.slice a ts.length d]]/\tvs=[.slice a ts.length d]/\rowRd m' a (ts.map E.cs).flatten/\(∀t∈ts,RepE m' t)/\(∀(i:Nat)(x y:E),e.subs[i]?=some x->ts[i]?=some y->BoE c x y)/\q=e.subs.length - ts.length,⟨_,[],none,0,by simp,rfl,rfl,rfl,.inl rfl,by simp,by simp,rfl⟩,?_⟩
 rintro n cs a n1 d m1 q aF ⟨ts,a',d',fQ,hx,bC,bQ,aB,aJ,oZ,hq⟩
 simp only[List.cons.injEq,Value.slice.injEq,Value.int.injEq,true_and,and_true]at hx bC bQ
 obtain⟨rfl,rfl,rfl⟩:=bQ
 subst hx bC
 refine Zaz (λaC=>?_) (λbE=>?_)
 ·have aP:ts.length < e.subs.length:=by omega
  obtain⟨x,hx⟩:=Zav aP
  obtain⟨lT,h0|⟨b3,o3,eE,dY⟩⟩:=Zgq hr
  ·rw[h0]at aP;simp at aP
  obtain⟨cL,dz⟩:=(dY.mono' aF).get hx
  have kK:=zA2 hx
  have bB:=Zhl kK
  have s4:∀z∈x.nodes,z∈Zaj e.subs:=λz hz=>by rw[ZbX hx];exact List.mem_append_right _ (List.mem_append_left _ hz)
  have hO:x.nodes.length<=1000:=by
   rw[Za2,List.length_cons,ZbX hx,zA1,zA1]at hl;omega
  have hw:IntKind.i64.wrap ((ts.length:Int)+1)=((ts.length+1:Nat):Int):=by rw[Zak (by omega) (by omega)];rfl
  refine⟨b3,o3,eE,⟨by omega,aC⟩,_,_,_,_,_,cL,λb4=>Zaa rfl ⟨λ_ _ _=>ER (BoE c x),Zaf rfl ⟨_,rfl,Zjp x c m1 dz (λz hz=>bX z (by rw[Za2];exact List.mem_cons_of_mem _ (s4 z hz))) hO,Ze4,Zvo λt m2 aO eJ ht b5 ie=>Zaa rfl ?_⟩⟩⟩
  refine Zf3 E.len E.one ie t (aB.mono aO) 64 (by omega) (by omega) (.inl rfl) λa5 c5 m5 bW bG=>Zaa rfl λM _ dO eu gj=>⟨rfl,e.subs.length - (ts.length+1),by omega,ts++[t],a5,c5,by rw[zA1];exact aP,by rw[hw,zA1];rfl,by rw[zA1];rfl,by rw[zA1];rfl,bG.mono gj,?_,?_,by rw[zA1];rfl⟩
  ·intro z hz
   rcases List.mem_append.1 hz with hz|hz
   ·exact(aJ z hz).mono' (mLt aO dO)
   ·rw[List.mem_singleton]at hz;subst hz;exact eJ.mono' dO
  ·intro i x' y' hx' hy'
   rcases Nat.lt_or_ge i ts.length with h|h
   ·rw[zA5 h]at hy'
    exact oZ i x' y' hx' hy'
   ·have hi:=(zA0 hy').1
    rw[zA1,List.length_singleton]at hi
    obtain rfl:i=ts.length:=by omega
    rw[hx]at hx'
    simp at hy'
    cases hx';subst hy';exact ht
 ·have aD:ts.length=e.subs.length:=by omega
  have ho:=Zq9 hr
  refine Zaa rfl (ZaA aF ⟨.node e.k e.x e.s e.g a d ts,rfl,ZoV aB aJ (by omega) ho,?_⟩)
  have:=Zsb (c:=c) (x:=e.x) (s:=e.s) (a:=e.a) (a':=a) (d:=e.c) (d':=d) (l:=e.subs) (r:=ts) (k:=e.k) (g:=e.g) (by cases e;exact bX _ (by simp[E.nodes,E.k,E.x,E.s,E.g,E.a,E.c,E.subs])) hk aD.symm oZ
  cases e;exact this
termination_by SizeOf.sizeOf e
theorem Zjq(t:T)(m:Mem)(hr:Rep m t)(hl:t.nodes.length<=10000):CX Tryz.prog 85 #[t.v] m [] (Ret (.int .i64 (t.gr:Nat))):=by
 apply ZfZ
 intro b m1 aF _
 have cU:t.subs.length<=10000:=by
  have h1:=Zh1 t
  have:=ZlY t.subs
  omega
 have s6:∀i,grL (t.subs.take i)<=10000:=λi=>by
  have h1:grL (t.subs.take i)<=szL (t.subs.take i):=List.countP_le_length
  have h2:szL t.subs=szL (t.subs.take i)+szL (t.subs.drop i):=by rw[<-Zax,List.take_append_drop]
  have h3:=Zh1 t
  omega
 refine Zab (λh=>?_) (λh=>?_)
 all_goals
  refine⟨λxs _ _ m' q=>∃i:Nat,i<=t.subs.length/\xs=[.int .i64 (((if isG t=true then 1 else 0)+grL (t.subs.take i):Nat):Int),.int .i64 i]/\q=t.subs.length - i,⟨_,0,by omega,by unfold isG;rw[h];rfl,rfl⟩,?_⟩
  rintro n n1 m2 q aO ⟨i,hi,hx,rfl⟩
  simp only[List.cons.injEq,Value.int.injEq,true_and,and_true]at hx
  obtain⟨rfl,rfl⟩:=hx
  refine Zaz (λaC=>?_) (λbE=>Zai (mLt aF aO) ?_)
  ·have aP:i < t.subs.length:=by omega
   obtain⟨x,hx⟩:=Zav aP
   have kK:=zA2 hx
   have bB:=Zr3 kK
   have hO:x.nodes.length<=10000:=by
    have h1:=Zh1 t
    have h2:szL t.subs=szL (t.subs.take i)+szL (t.subs.drop i):=by rw[<-Zax,List.take_append_drop]
    rw[Zoo hx,ZdX]at h2;omega
   have uX:grL (t.subs.take (i+1))=grL (t.subs.take i)+x.gr:=by
    rw[List.take_add_one,hx,Za8];show _+grL [x]=_;rw[Zcv]
   have hb:=s6 i
   have hb':=s6 (i+1)
   obtain⟨b3,o3,eE,cL⟩:=ZcY ((Zdw hr.subs).mono (mLt aF aO)) hx
   refine⟨b3,o3,eE,⟨by omega,aC⟩,_,_,_,_,_,_,_,_,cL,λb4=>Zaa rfl (ZbW (Zjq x m2 ((ZhW hr.subs x kK).mono (mLt aF aO)) hO) λm3 aV=>⟨rfl,t.subs.length - (i+1),by omega,i+1,by omega,?_,rfl⟩)⟩
   rw[uX,Zak (by split <;> omega) (by split <;> omega),Zak (by omega) (by omega)]
   simp;omega
  ·have:i=t.subs.length:=by omega
   subst this
   rw[List.take_length]
   show Value.int .i64 _=Value.int .i64 _
   rw[Zs9 t]
termination_by SizeOf.sizeOf t
structure BytU (m:Mem)(a:Option Addr)(l:List Nat):Prop where
 lt:∀n∈l,n < 256
 row:rowRd m a (l.map λn:Nat=>[Value.int .u8 n]).flatten
theorem BytU.mono{m m':Mem}{a l}(h:BytU m a l)(hm:m.le m'):BytU m' a l:=⟨h.lt,h.row.mono hm⟩
theorem BytU.get{m:Mem}{a l}(h:BytU m a l){i:Nat}{n:Nat}(hi:l[i]?=some n):n < 256/\∃b o,a=some ⟨b,o,none⟩/\m b (o+i*1)=some (.int .u8 n):=by
 obtain⟨b,o,ha,h1⟩:=Zal (cs:=λn:Nat=>[Value.int .u8 n]) (n:=1) (λ_=>rfl) h.row hi (by omega)
 exact⟨h.lt n (zA2 hi),b,o,ha,h1 0 _ rfl⟩
theorem Pt.one(p:Pt):∀u∈p.cs,u.oneCell'=true:=by
 intro u hu
 simp only[Pt.cs,List.mem_cons,List.not_mem_nil,or_false]at hu
 rcases hu with rfl|rfl|rfl|rfl|rfl|rfl|rfl|rfl <;> rfl
def TmR(c:Int):Value->Mem->List (List Value)->Prop:=λv m' _=>∃(l:List Pt)(a:Option Addr)(d:Nat),v=.slice a l.length d/\rowRd m' a (l.map Pt.cs).flatten/\(∀p∈l,RepP m' p)/\MkT c l
theorem Zrv{c:Int}:∀(v:Value)(m':Mem) (css:List (List Value)),TmR c v m' css->Shape.fits .slice v=true:=λv _ _ ⟨_,_,_,h,_⟩=>by rw[h];rfl
def TmI(c:Int)(N:Nat)(m:Mem):List Value->List (List Value)->List Value->Mem->Nat->Prop:=λxs _ tvs m' q=>∃(L:List Pt)(a:Option Addr)(d i:Nat),xs=[.slice a L.length d,.int .i64 i]/\tvs=[.slice a L.length d]/\i<=N/\L.length<=i/\m.le m'/\rowRd m' a (L.map Pt.cs).flatten/\(∀p∈L,RepP m' p)/\(∀p∈L,MkP c p)/\ZwT L/\q=N - i
theorem Zqn{L:List Pt}{p:Pt}(h:ZwT L)(hp:p.k=1->∀x,L[L.length - 1]?=some x->0 < L.length->x.k≠1):ZwT (L++[p]):=by
 intro i x y hx hy h1 h2
 rcases Nat.lt_or_ge (i+1) L.length with hi|hi
 ·rw[zA5 (by omega)]at hx
  rw[zA5 hi]at hy
  exact h i x y hx hy h1 h2
 ·have fY:=(zA0 hy).1
  rw[zA1,List.length_singleton]at fY
  have e:i+1=L.length:=by omega
  rw[zA5 (by omega)]at hx
  rw[e]at hy
  simp at hy;subst hy
  exact hp h2 x (by rw[<-e,Nat.add_sub_cancel];exact hx) (by omega) h1
theorem TmI.next{c:Int}{N:Nat}{m m' M:Mem}{L:List Pt}{i:Nat}{p:Pt}{a:Option Addr}{d:Nat}(hi:i < N)(hL:L.length<=i)(h0:m.le m')(hM:m'.le M)(aB:rowRd M a ((L++[p]).map Pt.cs).flatten)(hr:∀x∈L,RepP m' x)(hp:RepP M p)(hk:∀x∈L,MkP c x)(uY:MkP c p)(hl:ZwT L)(uZ:p.k=1->∀x,L[L.length - 1]?=some x->0 < L.length->x.k≠1):
  ∃n',n' < N - i/\TmI c N m [.slice a (L.length+1) d,.int .i64 ((i+1:Nat):Int)] [] [.slice a (L.length+1) d] M n':=by
 refine⟨N - (i+1),by omega,L++[p],a,d,i+1,by rw[zA1];rfl,by rw[zA1];rfl,by omega,by rw[zA1,List.length_singleton];omega,mLt h0 hM,aB,?_,?_,Zqn hl uZ,rfl⟩
 ·intro x hx
  rcases List.mem_append.1 hx with hx|hx
  ·exact(hr x hx).mono hM
  ·rw[List.mem_singleton]at hx;subst hx;exact hp
 ·intro x hx
  rcases List.mem_append.1 hx with hx|hx
  ·exact hk x hx
  ·rw[List.mem_singleton]at hx;subst hx;exact uY
theorem Zf4{m:Mem}{k:Int}{s:ByteArray}{g:Int}(hk:0<=k/\k < 256)(hs:s.size<=1000000000000000)(hg:I64 g):RepP m ⟨k,s,g,E0⟩:=⟨hk,hs,hg,Zvi m⟩
theorem Ziv:∀s∈ZdK,s.size<=16:=by decide +kernel
theorem Zx2:∀j < 5,∃s:ByteArray,[Value.string ⟨#[97]⟩,.string ⟨#[45]⟩,.string ⟨#[97,98,32]⟩,.string ⟨#[0,255]⟩,.string ⟨#[49,50]⟩][j*1]?=some (.string s)/\0 < s.size/\s.size<=512:=by
 intro j hj
 have:j=0\/j=1\/j=2\/j=3\/j=4:=by omega
 rcases this with rfl|rfl|rfl|rfl|rfl <;> exact⟨_,rfl,by decide,by decide⟩
set_option maxHeartbeats 2000000 in
theorem Zhr(l:List Nat)(a:Option Addr)(d:Nat)(e:E)(c:Int)(m:Mem)(hb:BytU m a l)(hd:l.length<=d)(hl:l.length<=1000000000000000)(hr:RepE m e)(he:MkE c 20 e)(hc : -1<=c/\c<=10000):
  CX Tryz.prog 129 #[.slice a l.length d,e.v,.int .i64 c] m [] (TmR c):=by
 apply Zey
 intro b m1 aF _
 have hN:(if(5:Int) < (l.length:Int)then(5:Int)else(l.length:Int))=((min 5 l.length:Nat):Int):=by split <;> omega
 simp only[hN,zA8,Nat.sub_zero]
 generalize pz:min 5 l.length=N
 refine⟨⟨by omega,by omega⟩,TmI c N m1,⟨N,[],none,0,0,rfl,rfl,by omega,by simp,Mem.le_refl _,.inl rfl,by simp,by simp,λi p q h=>by simp at h,by omega⟩,?_⟩
 rintro a1 n1 c1 z1 a2 n2 c2 m2 q aO ⟨L,a',c',i,hx,bQ,pA,eH,hm,aB,aJ,fC,iI,rfl⟩
 simp only[List.cons.injEq,Value.slice.injEq,Value.int.injEq,true_and,and_true]at hx bQ
 obtain⟨⟨rfl,rfl,rfl⟩,rfl⟩:=hx
 obtain⟨rfl,rfl,rfl⟩:=bQ
 have hw:IntKind.i64.wrap ((i:Int)+1)=((i+1:Nat):Int):=by rw[Zak (by omega) (by omega)];rfl
 have u0:IntKind.i64.wrap ((L.length:Int) - 1)=(L.length:Int) - 1:=Zak (by omega) (by omega)
 have pB:=mLt aF aO
 refine Zaz (λaC=>?_) (λbE=>ZaA pB ⟨L,a2,c2,rfl,aB,aJ,by omega,fC,iI⟩)
 have aP:i < N:=by omega
 obtain⟨n,hn⟩:=Zav (l:=l) (k:=i) (by omega)
 obtain⟨gV,bs,os,ha,hv⟩:=(hb.mono pB).get hn
 have rj:Int.tmod (n:Int) 8=((n % 8:Nat):Int):=rfl
 have rk:IntKind.i64.wrap (Int.tdiv (IntKind.i64.wrap (n:Int)) 8)=((n / 8:Nat):Int):=by
  rw[Zak (n:=(n:Int)) (by omega) (by omega),show Int.tdiv (n:Int) 8=((n / 8:Nat):Int) from rfl,Zak (by omega) (by omega)]
 simp only[hw,u0,zA8]
 refine⟨bs,os,ha,⟨by omega,aC⟩,_,hv,_,rfl,by omega,by omega,?_⟩
 simp only[rj,rk]
 have u4:n / 8 < 32:=by omega
 generalize n % 8=k
 generalize n / 8=u at u4
 have stay:∀M:Mem,m2.le M->∃n',n' < N - i/\TmI c N m1 [.slice a2 L.length c2,.int .i64 ((i+1:Nat):Int)] [] [.slice a2 L.length c2] M n':=λM hM=>⟨N - (i+1),by omega,L,a2,c2,i+1,rfl,rfl,by omega,by omega,mLt hm hM,aB.mono hM,λp hp=>(aJ p hp).mono hM,fC,iI,rfl⟩
 refine⟨λxs _ _ m'=>xs=[.bool (decide (k=0\/k=1))]/\m2.le m',Zab (λh=>⟨trivial,trivial,?_,Mem.le_refl _⟩) (λh=>⟨trivial,trivial,?_,Mem.le_refl _⟩),?_⟩
 ·have:k=0:=by simp at h;omega
  rw[h,this];rfl
 ·have:¬k=0:=by simp at h;omega
  refine ZaB ?_
  rw[Bool.eq_iff_iff];simp;omega
 rintro b2 m3 aV ⟨e9,_⟩
 obtain rfl:b2=decide (k=0\/k=1):=by simpa using e9
 have cK:=mLt pB aV
 refine Zaz (λfV=>?_) (λfV=>?_)
 ·refine⟨decide (L.length=0)||!(match L[L.length - 1]? with
   | some x=>x.k == 1
   | none=>false),Zaz (λh=>⟨trivial,trivial,ZaB ?_⟩) (λh=>?_),Zab (λhB=>?_) (λ_=>⟨trivial,stay m3 aV⟩)⟩
  ·rw[decide_eq_true (show L.length=0 by omega)];rfl
  ·obtain⟨x,hx⟩:=Zav (l:=L) (k:=L.length - 1) (by omega)
   obtain⟨b4,o4,gu,bV⟩:=Zal Pt.len (aB.mono aV) hx (by omega)
   have u5:Int.toNat ((L.length:Int) - 1)=L.length - 1:=by omega
   refine⟨b4,o4,gu,⟨by omega,by omega⟩,.int .u8 x.k,by rw[u5];exact bV 0 _ rfl,_,rfl,trivial,trivial,ZaB ?_⟩
   rw[decide_eq_false (show ¬L.length=0 by omega),hx,Bool.false_or]
  ·have s7:Int.tmod (u:Int) 5=((u % 5:Nat):Int):=rfl
   have h5:u % 5 < 5:=Nat.mod_lt _ (by omega)
   intro b4 eP
   obtain⟨s,hs,jx,u6⟩:=Zx2 (u % 5) h5
   refine⟨by omega,by rw[s7];exact⟨by omega,by omega⟩,Zaf (by rw[s7,zA8];exact hs) ⟨s,rfl,λb5 ie=>?_⟩⟩
   have rm:=mLt aV (Mem.le_add eP [Value.string ⟨#[97]⟩,.string ⟨#[45]⟩,.string ⟨#[97,98,32]⟩,.string ⟨#[0,255]⟩,.string ⟨#[49,50]⟩])
   refine Zf3 Pt.len Pt.one ie (⟨1,s,0,E0⟩:Pt) (aB.mono rm) 96 (by omega) (by omega) (.inl trivial) λa8 c8 m8 dX df=>⟨trivial,TmI.next aP eH (mLt hm rm) (mLt (Mem.le_add ie _) dX) df (λx hx=>(aJ x hx).mono rm) (Zf4 (by omega) (by omega) ⟨by omega,by omega⟩) fC (.lit s ⟨jx,u6⟩) iI (λ_ x hx wz pp=>?_)⟩
   rw[hx,decide_eq_false (show ¬L.length=0 by omega)]at hB
   simp[pp]at hB
 refine⟨λxs _ _ m'=>xs=[.bool (decide (k=2\/k=3))]/\m3.le m',Zab (λh=>⟨trivial,trivial,?_,Mem.le_refl _⟩) (λh=>⟨trivial,trivial,?_,Mem.le_refl _⟩),?_⟩
 ·have:k=2:=by simp at h;omega
  rw[h,this];rfl
 ·have:¬k=2:=by simp at h;omega
  refine ZaB ?_
  rw[Bool.eq_iff_iff];simp;omega
 rintro b3 m4 bU ⟨fb,_⟩
 obtain rfl:b3=decide (k=2\/k=3):=by simpa using fb
 have gk:=mLt aV bU
 refine Zaz (λu9=>?_) (λu9=>?_)
 ·refine Zam (ZkV m4) ZcL ?_
  rintro a5 n5 c5 m5 bW ⟨a',c',eQ,dQ⟩
  simp only[Value.slice.injEq]at eQ
  obtain⟨rfl,rfl,rfl⟩:=eQ
  have h2:u % 2 < 2:=Nat.mod_lt _ (by omega)
  obtain⟨s,hs⟩:=Zav (l:=ZdK) (k:=u % 2) h2
  have ig:=zA2 hs
  obtain⟨b6,o6,fI,bV⟩:=Zcy dQ hs
  have bB:s.size<=1000000000000000:=by have:=Ziv s ig;omega
  have hu:Int.tmod (u:Int) 2=((u % 2:Nat):Int):=rfl
  have gv:=mLt gk bW
  refine⟨by omega,b6,o6,fI,by rw[hu];exact⟨by omega,by show((u % 2:Nat):Int) < (2:Nat);omega⟩,_,by rw[hu,zA8];exact bV,s,rfl,λb7 iq=>?_⟩
  refine Zf3 Pt.len Pt.one iq (⟨2,s,0,E0⟩:Pt) (aB.mono gv) 96 (by omega) (by omega) (.inl trivial) λa8 c8 m8 dX df=>⟨trivial,TmI.next aP eH (mLt hm gv) (mLt (Mem.le_add iq _) dX) df (λx hx=>(aJ x hx).mono gv) (Zf4 (by omega) bB ⟨by omega,by omega⟩) fC (.var s (.inr ig)) iI (λh=>absurd (show(2:Int)=1 from h) (by decide))⟩
 refine Zab (λh4=>?_) (λh4=>?_)
 ·refine Zam (Zgt m4) ZcL ?_
  rintro a5 n5 c5 m5 bW ⟨a',c',eQ,dQ⟩
  simp only[Value.slice.injEq]at eQ
  obtain⟨rfl,rfl,rfl⟩:=eQ
  have h2:u % 4 < 4:=Nat.mod_lt _ (by omega)
  obtain⟨s,hs⟩:=Zav (l:=Zhn) (k:=u % 4) h2
  have ig:=zA2 hs
  obtain⟨b6,o6,fI,bV⟩:=Zcy dQ hs
  have bB:s.size<=1000000000000000:=by have:=Ziu s ig;omega
  have hu:Int.tmod (u:Int) 4=((u % 4:Nat):Int):=rfl
  have gv:=mLt gk bW
  refine⟨by omega,b6,o6,fI,by rw[hu];exact⟨by omega,by show((u % 4:Nat):Int) < (4:Nat);omega⟩,_,by rw[hu,zA8];exact bV,s,rfl,λb7 iq=>?_⟩
  refine Zf3 Pt.len Pt.one iq (⟨2,s,0,E0⟩:Pt) (aB.mono gv) 96 (by omega) (by omega) (.inl trivial) λa8 c8 m8 dX df=>⟨trivial,TmI.next aP eH (mLt hm gv) (mLt (Mem.le_add iq _) dX) df (λx hx=>(aJ x hx).mono gv) (Zf4 (by omega) bB ⟨by omega,by omega⟩) fC (.var s (.inl ig)) iI (λh=>absurd (show(2:Int)=1 from h) (by decide))⟩
 refine⟨λxs _ _ m'=>xs=[.bool (decide (k=5\/k=6))]/\m4.le m',Zab (λh=>⟨trivial,trivial,?_,Mem.le_refl _⟩) (λh=>⟨trivial,trivial,?_,Mem.le_refl _⟩),?_⟩
 ·have:k=5:=by simp at h;omega
  rw[h,this];rfl
 ·have:¬k=5:=by simp at h;omega
  refine ZaB ?_
  rw[Bool.eq_iff_iff];simp;omega
 rintro b4 m5 bW ⟨mE,_⟩
 obtain rfl:b4=decide (k=5\/k=6):=by simpa using mE
 have gv:=mLt gk bW
 refine Zaz (λvb=>?_) (λvb=>?_)
 ·refine Zaz (λhp=>?_) (λhp=>⟨trivial,stay m5 gv⟩)
  obtain⟨C,kL,rp,hC⟩:∃C:Nat,(C:Int)<=c/\C<=9/\IntKind.i64.wrap ((if(9:Int) < c then(9:Int)else c)+1)=((C+1:Nat):Int):=by
   by_cases h9:9 < c
   ·exact⟨9,by omega,by omega,by rw[if_pos h9];rfl⟩
   ·refine⟨c.toNat,by omega,by omega,?_⟩
    rw[if_neg h9,Zak (by omega) (by omega)];omega
  have jU:Int.tmod (u:Int) ((C+1:Nat):Int)=((u % (C+1):Nat):Int):=rfl
  have aC:u % (C+1) < C+1:=Nat.mod_lt _ (by omega)
  simp only[hC,jU]
  refine⟨by omega,λb6 fB=>?_⟩
  refine Zf3 Pt.len Pt.one fB (⟨3,.empty,((u % (C+1):Nat):Int),E0⟩:Pt) (aB.mono gv) 96 (by omega) (by omega) (.inl trivial) λa8 c8 m8 dX df=>⟨trivial,TmI.next aP eH (mLt hm gv) (mLt (Mem.le_add fB _) dX) df (λx hx=>(aJ x hx).mono gv) (Zf4 (by omega) (by rw[ZaD];omega) ⟨by omega,by omega⟩) fC (.cap _ (by omega)) iI (λh=>absurd (show(3:Int)=1 from h) (by decide))⟩
 ·intro b6 fB
  have nS:=Mem.le_add fB (⟨4,.empty,0,e⟩:Pt).cs
  refine Zf3 Pt.len Pt.one fB (⟨4,.empty,0,e⟩:Pt) (aB.mono gv) 96 (by omega) (by omega) (.inl trivial) λa8 c8 m8 dX df=>⟨trivial,TmI.next aP eH (mLt hm gv) (mLt nS dX) df (λx hx=>(aJ x hx).mono gv) ⟨by show(0:Int)<=4/\(4:Int) < 256;omega,by show ByteArray.empty.size<=_;rw[ZaD];omega,⟨by show(-9223372036854775808:Int)<=0;omega,by show(0:Int)<=9223372036854775807;omega⟩,hr.mono' (mLt pB (mLt gv (mLt nS dX)))⟩ fC (.clc e he) iI (λh=>absurd (show(4:Int)=1 from h) (by decide))⟩
theorem Zx3(l:List T):∀u∈Rx.Zca l,u.oneCell'=true:=by
 intro u hu
 simp only[Rx.Zca,List.mem_flatten,List.mem_map]at hu
 obtain⟨_,⟨t,_,rfl⟩,h⟩:=hu
 simp only[T.cs,T.sl,List.mem_cons,List.not_mem_nil,or_false]at h
 rcases h with rfl|rfl|rfl|rfl|rfl|rfl|rfl|rfl <;> rfl
theorem Zkj(a:Option Addr)(c:Nat)(l:List T)(m:Mem)(h:rowRd m a (Rx.Zca l))(hl:l.length<=1000000000000):CXT Tryz.prog 155 #[.slice a l.length c] m 8 (λv m' _=>∃a' c',v=.slice a' l.length c'/\rowRd m' a' (Rx.Zca l)/\l.length<=c'/\(l.length=0\/∃b,a'=some ⟨b,0,none⟩/\m.free b)):=by
 apply Zbe
 have aD:=Zao l
 refine Zab (λha=>?_) (λha=>⟨⟨rfl,Int.le_refl _,by decide,by decide⟩,λb hf _=>⟨.inl rfl,[],Rx.Zca l,rfl,aD,.inl rfl,h,Zx3 l,by omega,by omega,λa' c' m' hm aB gl=>⟨rfl,?_⟩⟩⟩)
 ·obtain rfl:a=none:=by simpa using ha
  have h0:l=[]:=by
   rcases h with h|⟨_,_,h,_⟩
   ·rw[h]at aD;exact List.eq_nil_of_length_eq_zero (by simp at aD;omega)
   ·cases h
  subst h0
  exact⟨rfl,none,0,rfl,.inl rfl,Nat.le_refl _,.inl rfl⟩
 ·simp only[Nat.zero_add]at gl ⊢
  refine⟨a',c',rfl,aB,gl.1,?_⟩
  rcases(gl.old (λ_ _ e=>by cases e;rfl)).2 with h1|⟨b',h1,h2|h2⟩
  ·subst h1
   left
   rcases aB with h3|⟨_,_,h3,_⟩
   ·have h4:(Rx.Zca l).length=0:=congrArg List.length h3
    omega
   ·cases h3
  ·right;rw[<-h2];exact⟨b,rfl,hf⟩
  ·exact .inr ⟨b',h1,h2⟩
theorem Zsy{m:Mem}{b:Nat}{ts r:List T}{x t:T}(h:rowRd m (some ⟨b,0,none⟩) (Rx.Zca (ts++x::r))):rowRd (m.upd b (0+ts.length*8) t.cs) (some ⟨b,0,none⟩) (Rx.Zca (ts++t::r)):=by
 rcases h with h|⟨b',o',ha,h⟩
 ·have hl:(Rx.Zca (ts++x::r)).length=0:=by rw[h];rfl
  rw[Zao,zA1,List.length_cons]at hl
  omega
 cases ha
 have e:∀y:T,Rx.Zca (ts++y::r)=Rx.Zca ts++(y.cs++Rx.Zca r):=λy=>by simp[Rx.Zca]
 have h8:∀y:T,y.cs.length=8:=λ_=>rfl
 refine .inr ⟨b,0,rfl,λj v hj=>?_⟩
 rw[e]at hj
 unfold Mem.upd;try dsimp only
 rw[Nat.zero_add,Nat.zero_add,h8]
 rcases Nat.lt_or_ge j (ts.length*8)with aC|bE
 ·rw[if_neg (by omega)]
  rw[zA5 (by rw[Zao];exact aC)]at hj
  have:=h j v (by rw[e,zA5 (by rw[Zao];exact aC)];exact hj)
  rwa [Nat.zero_add]at this
 ·rw[zA4 (by rw[Zao];exact bE),Zao]at hj
  rcases Nat.lt_or_ge j (ts.length*8+8)with aC|dF
  ·rw[if_pos ⟨rfl,bE,aC⟩]
   rw[zA5 (by rw[h8];omega)]at hj
   exact hj
  ·rw[if_neg (by omega)]
   rw[zA4 (by rw[h8];omega),h8]at hj
   have:=h j v (by
    rw[e,zA4 (by rw[Zao];exact bE),Zao,zA4 (by rw[h8];omega),h8];exact hj)
   rwa [Nat.zero_add]at this
theorem Zsz{m m':Mem}(h:m.le m'){b:Nat}(hf:m'.free b):m.free b:=λo=>by
 cases he:m b o with
 | none=>rfl
 | some v=>have:=h _ _ _ he;rw[hf o]at this;cases this
def NewT(m:Mem)(t:T):Prop:=∀x∈t.nodes,x.subs=[]\/∃b,x.a=some ⟨b,0,none⟩/\m.free b
theorem NewT.less{m m':Mem}{t:T}(hn:NewT m' t)(h:m.le m'):NewT m t:=λx hx=>(hn x hx).imp id λ⟨b,e,hf⟩=>⟨b,e,Zsz h hf⟩
theorem Zqo{m:Mem}{k s0 s1 s2 s3 mn mx:Int}{a:Option Addr}{c:Nat}{l:List T}(h:l=[]\/∃b,a=some ⟨b,0,none⟩/\m.free b)(hl:∀x∈l,NewT m x):NewT m (.node k s0 s1 s2 s3 mn mx a c l):=by
 intro x hx
 simp only[T.nodes,List.mem_cons]at hx
 rcases hx with rfl|hx
 ·exact h
 ·have:∀l:List T,(∀x∈l,NewT m x)->∀x∈Zay l,x.subs=[]\/∃b,x.a=some ⟨b,0,none⟩/\m.free b:=by
   intro l
   induction l with
   | nil=>intro _ x hx;simp[Zay]at hx
   | cons y l ih=>
    intro h x hx
    simp only[Zay,List.mem_append]at hx
    rcases hx with hx|hx
    ·exact h y (by simp) x hx
    ·exact ih (λz hz=>h z (by simp[hz])) x hx
  exact this l hl x hx
set_option maxHeartbeats 800000 in
theorem Zjr(t:T)(m:Mem)(hr:Rep m t)(hz:t.nodes.length<=10000):CX Tryz.prog 130 #[t.v] m [] (ZlO λt'=>t'.er=t.er/\(t'.caps/\NewT m t')):=by
 have bB:szL t.subs<=10000:=by rw[Zh1]at hz;omega
 have dq:t.subs.length<=10000:=Nat.le_trans (ZlY _) bB
 apply Zj8
 intro b b1
 refine⟨_,Zkj t.a t.c t.subs m (Zdw hr.subs) (by omega),(λv _ _ ⟨a,c,e,_⟩=>by rw[e];rfl),?_⟩
 rintro a n c m1 aF ⟨a',c',hv,aB,fX,aY⟩
 simp only[Value.slice.injEq]at hv
 obtain⟨rfl,rfl,rfl⟩:=hv
 have aJ:∀x∈t.subs,Rep m x:=ZhW hr.subs
 refine⟨λxs css tvs m' q=>∃(k:Nat)(L:List T)(mb:Mem),k<=t.subs.length/\xs=[.int .i64 k]/\q=t.subs.length - k/\L.length=k/\L.map T.er=(t.subs.take k).map T.er/\m.le mb/\mb.le m'/\(t.subs.length=0\/∃b,a=some ⟨b,0,none⟩/\mb.free b)/\(∀x∈L,Rep mb x/\(x.caps/\NewT m x))/\(t.subs.length=0\/∃b,a=some ⟨b,0,none⟩/\m.free b)/\rowRd m' a (Rx.Zca (L++t.subs.drop k)),⟨_,0,[],m,by omega,rfl,rfl,rfl,rfl,Mem.le_refl _,aF,aY,by simp,aY,aB⟩,?_⟩
 rintro z m2 q _ ⟨k,L,mb,hk,cD,hq,gW,kM,dG,gG,dI,jB,bD,cR⟩
 obtain rfl:z=k:=by simpa using cD
 refine Zab (λaC=>?_) (λbE=>?_)
 ·have aP:k < t.subs.length:=by have:=zA6 aC;omega
  obtain⟨x,hx⟩:=Zav aP
  have cL:=aJ x (zA2 hx)
  have jO:x.nodes.length<=10000:=by
   obtain⟨h1,h2⟩:=zA0 hx
   have:=congrArg List.length (ZdV hx)
   unfold szL at bB
   simp only[zA1]at this
   omega
  have gm:t.subs.drop k=x::t.subs.drop (k+1):=by
   rw[List.drop_eq_getElem_cons aP,(zA0 hx).2]
  rcases dI with dI|⟨bk,rfl,cI⟩
  ·omega
  obtain⟨b0,o0,ma,bV⟩:=ZcY cR (i:=k) (t:=x) (by rw[zA4 (by omega),gW,Nat.sub_self,gm];rfl)
  cases ma
  have hw:IntKind.i64.wrap ((k:Int)+1)=((k+1:Nat):Int):=by rw[Zak (by omega) (by omega)];rfl
  simp only[hw,zA8]
  have fe:CX Tryz.prog 130 #[x.v] m2 [] (ZmY mb m2 λt'=>t'.er=x.er/\(t'.caps/\NewT mb t')):=(Zjr x mb (Rep.mono dG x cL) jO).frame2 gG
  refine⟨bk,0,rfl,⟨by omega,by omega⟩,_,_,_,_,_,_,_,_,bV,λb3=>Zaa rfl ⟨λ_ _ _=>ZmY mb m2 λt'=>t'.er=x.er/\(t'.caps/\NewT mb t'),ZmY mb m2 λt'=>t'.er=x.er/\(t'.caps/\NewT mb t'),rfl,fe,ZcH,Zhp λt' m0 m3 aV h0 cK dP hr' ht'=>⟨bk,0,rfl,⟨by omega,by omega⟩,λM dO eu=>⟨rfl,by omega,by trivial,by trivial,t.subs.length - (k+1),by omega,k+1,L++[t'],m0,by omega,rfl,rfl,by simp[gW],?_,mLt dG h0,?_,.inr ⟨bk,rfl,?_⟩,?_,bD,?_⟩⟩⟩⟩
  ·rw[List.map_append,kM,Zop hx,List.map_append]
   simp[ht'.1]
  ·refine Mem.le_upd (mLt cK eu) ?_ _ _
   intro o'
   have hc:m2 bk (0+k*8+0)=some (.int .u8 x.k):=bV 0 _ rfl
   rw[dP _ _ _ hc o'];exact cI o'
  ·intro o'
   have hc:m2 bk (0+k*8+0)=some (.int .u8 x.k):=bV 0 _ rfl
   rw[dP _ _ _ hc o'];exact cI o'
  ·intro y hy
   rcases List.mem_append.1 hy with hy|hy
   ·exact⟨Rep.mono h0 y (jB y hy).1,(jB y hy).2⟩
   ·simp at hy;subst hy;exact⟨hr',ht'.2.1,ht'.2.2.less dG⟩
  ·rw[gm]at cR
   have h5:=Zsy (t:=t') (cR.mono dO)
   rw[gW]at h5
   rw[List.append_assoc]
   exact h5
 ·have cS:k=t.subs.length:=by have:=of_decide_eq_false bE;omega
  subst cS
  rw[List.drop_length,List.append_nil]at cR
  rw[List.take_length]at kM
  have bX:=ZvE hr
  refine⟨m2,mLt dG gG,Mem.le_refl _,.node t.k t.s0 t.s1 t.s2 t.s3 t.mn t.mx a c L,?_,?_,?_⟩
  ·simp only[T.v,T.k,T.s0,T.s1,T.s2,T.s3,T.mn,T.mx,T.a,T.c,T.subs,gW]
  ·have:=Zq6 cR (λx hx=>Rep.mono gG x (jB x hx).1) (by omega)
   exact ZjU this.1 this.2 bX
  ·have:=Zt4 (k:=t.k) (s0:=t.s0) (s1:=t.s1) (s2:=t.s2) (s3:=t.s3) (mn:=t.mn) (mx:=t.mx) (a:=a) (a':=t.a) (c:=c) (c':=t.c) kM
   refine⟨this.trans ?_,Zp2 (by omega) λx hx=>(jB x hx).2.1,Zqo (bD.imp (λh=>List.eq_nil_of_length_eq_zero (by omega)) id) λx hx=>(jB x hx).2.2⟩
   cases t;rfl
termination_by SizeOf.sizeOf t
decreasing_by exact Zr3 (zA2 hx)
mutual
theorem Zuo{m m':Mem}:∀(t:T),Rep m' t->NewT m t->Rep (nw m m') t
 | .node k s0 s1 s2 s3 mn mx a c l,hr,hn=>by
  have h0:=hn _ (by rw[Zb8];exact List.mem_cons_self)
  simp only[Rep]at hr ⊢
  refine⟨hr.1,?_,hr.2.2⟩
  rcases hr.2.1 with h|⟨b,o,ha,dY⟩
  ·exact .inl h
  rcases h0 with h|⟨b',hb',hf⟩
  ·exact .inl h
  ·have e:a=some ⟨b',0,none⟩:=hb'
   rw[ha]at e
   simp only[Option.some.injEq,Addr.mk.injEq,and_true]at e
   obtain⟨rfl,rfl⟩:=e
   exact .inr ⟨b,0,ha,ZoW b hf 0 l dY λx hx y hy=>hn y (by
    rw[Zb8]
    refine List.mem_cons_of_mem _ ?_
    obtain⟨i,hi⟩:=List.getElem?_of_mem hx
    rw[show(T.node k s0 s1 s2 s3 mn mx a c l).subs=l from rfl,ZdV hi]
    simp[hy])⟩
theorem ZoW{m m':Mem}(b:Nat)(hf:m.free b):∀(o:Nat)(l:List T),RepAt m' b o l->(∀x∈l,NewT m x)->RepAt (nw m m') b o l
 | _,[],_,_=>by simp only[RepAt]
 | o,t::l,hr,hn=>by
  simp only[RepAt]at hr ⊢
  exact⟨λj v hj=>by rw[Ztb hf];exact hr.1 j v hj,Zuo t hr.2.1 (hn t (by simp)),ZoW b hf (o+8) l hr.2.2 λx hx=>hn x (by simp[hx])⟩
end
def CpT(m:Mem)(t:T):Value->Mem->List (List Value)->Prop:=λv m' _=>∃t':T,v=t'.v/\t'.er=t.er/\Rep (nw m m') t'
theorem ZsA{m:Mem}{t:T}:∀(v:Value)(m':Mem) (css:List (List Value)),CpT m t v m' css->Shape.fits (.agg [.int .u8,.int .u64,.int .u64,.int .u64,.int .u64,.int .i64,.int .i64,.slice]) v=true:=λv _ _ ⟨t,e,_⟩=>by rw[e];rfl
theorem ZsB(t:T)(m:Mem)(hr:Rep m t)(hz:t.nodes.length<=10000):CX Tryz.prog 87 #[t.v] m [] (CpT m t):=by
 apply ZnG
 intro b m1 aF _ b1
 have hl:t.light=true:=by unfold T.light;exact decide_eq_true hz
 have h:=ZkU t m1 (hr.mono aF)
 rw[hl]at h
 refine Zan h λm2 aO=>ZdJ rfl (Zam (Zjr t m2 (hr.mono (mLt aF aO)) hz) Zeq (Znt λt' m3 aV hr' ht'=>?_))
 exact⟨m3,mLt aF (mLt aO aV),Mem.le_refl _,t',rfl,ht'.1,Zuo t' hr' (ht'.2.2.less (mLt aF aO))⟩
theorem Zmq(a:Option Addr)(c:Nat)(l:List E)(m:Mem)(h:rowRd m a (l.map E.cs).flatten)(hl:l.length<=1000000000000):CXT Tryz.prog 156 #[.slice a l.length c] m 5 (λv m' _=>∃a' c',v=.slice a' l.length c'/\rowRd m' a' (l.map E.cs).flatten/\l.length<=c'/\(l.length=0\/∃b,a'=some ⟨b,0,none⟩/\m.free b)):=by
 apply ZaX
 have aD:(l.map E.cs).flatten.length=l.length*5:=ZaQ E.len l
 refine Zab (λha=>?_) (λha=>⟨⟨rfl,Int.le_refl _,by decide,by decide⟩,λb hf _=>⟨.inl rfl,[],(l.map E.cs).flatten,rfl,aD,.inl rfl,h,?_,by omega,by omega,λa' c' m' hm aB gl=>⟨rfl,?_⟩⟩⟩)
 ·obtain rfl:a=none:=by simpa using ha
  have h0:l=[]:=by
   rcases h with h|⟨_,_,h,_⟩
   ·rw[h]at aD;exact List.eq_nil_of_length_eq_zero (by simp at aD;omega)
   ·cases h
  subst h0
  exact⟨rfl,none,0,rfl,.inl rfl,Nat.le_refl _,.inl rfl⟩
 ·intro u hu
  simp only[List.mem_flatten,List.mem_map]at hu
  obtain⟨_,⟨e,_,rfl⟩,hu⟩:=hu
  exact E.one e u hu
 ·simp only[Nat.zero_add]at gl ⊢
  refine⟨a',c',rfl,aB,gl.1,?_⟩
  rcases(gl.old (λ_ _ e=>by cases e;rfl)).2 with h1|⟨b',h1,h2|h2⟩
  ·subst h1
   left
   rcases aB with h3|⟨_,_,h3,_⟩
   ·have h4:(l.map E.cs).flatten.length=0:=congrArg List.length h3
    omega
   ·cases h3
  ·right;rw[<-h2];exact⟨b,rfl,hf⟩
  ·exact .inr ⟨b',h1,h2⟩
theorem Zqp{m:Mem}{b:Nat}{ts r:List E}{x t:E}(h:rowRd m (some ⟨b,0,none⟩) ((ts++x::r).map E.cs).flatten):rowRd (m.upd b (0+ts.length*5) t.cs) (some ⟨b,0,none⟩) ((ts++t::r).map E.cs).flatten:=by
 have hl:∀l:List E,(l.map E.cs).flatten.length=l.length*5:=ZaQ E.len
 rcases h with h|⟨b',o',ha,h⟩
 ·have:=congrArg List.length h
  rw[hl,zA1,List.length_cons]at this
  simp at this
 cases ha
 have e:∀y:E,((ts++y::r).map E.cs).flatten=(ts.map E.cs).flatten++(y.cs++(r.map E.cs).flatten):=λy=>by simp
 refine .inr ⟨b,0,rfl,λj v hj=>?_⟩
 rw[e]at hj
 unfold Mem.upd;try dsimp only
 rw[Nat.zero_add,Nat.zero_add,E.len]
 rcases Nat.lt_or_ge j (ts.length*5)with aC|bE
 ·rw[if_neg (by omega)]
  rw[zA5 (by rw[hl];exact aC)]at hj
  have:=h j v (by rw[e,zA5 (by rw[hl];exact aC)];exact hj)
  rwa [Nat.zero_add]at this
 ·rw[zA4 (by rw[hl];exact bE),hl]at hj
  rcases Nat.lt_or_ge j (ts.length*5+5)with aC|dF
  ·rw[if_pos ⟨rfl,bE,aC⟩]
   rw[zA5 (by rw[E.len];omega)]at hj
   exact hj
  ·rw[if_neg (by omega)]
   rw[zA4 (by rw[E.len];omega),E.len]at hj
   have:=h j v (by
    rw[e,zA4 (by rw[hl];exact bE),hl,zA4 (by rw[E.len];omega),E.len];exact hj)
   rwa [Nat.zero_add]at this
def NewE(m:Mem)(t:E):Prop:=∀x∈t.nodes,x.subs=[]\/∃b,x.a=some ⟨b,0,none⟩/\m.free b
theorem NewE.less{m m':Mem}{t:E}(hn:NewE m' t)(h:m.le m'):NewE m t:=λx hx=>(hn x hx).imp id λ⟨b,e,hf⟩=>⟨b,e,Zby h hf⟩
theorem Zhs{y x:E}{l:List E}(hx:x∈l)(hy:y∈x.nodes):y∈Zaj l:=by
 obtain⟨i,hi⟩:=List.getElem?_of_mem hx
 rw[ZbX hi];simp[hy]
theorem Zqq{m:Mem}{k:Int}{x:Nat}{s:ByteArray}{g:Int}{a:Option Addr}{c:Nat}{l:List E}(h:l=[]\/∃b,a=some ⟨b,0,none⟩/\m.free b)(hl:∀x∈l,NewE m x):NewE m (.node k x s g a c l):=by
 intro x hx
 simp only[E.nodes,List.mem_cons]at hx
 rcases hx with rfl|hx
 ·exact h
 ·have:∀l:List E,(∀x∈l,NewE m x)->∀x∈Zaj l,x.subs=[]\/∃b,x.a=some ⟨b,0,none⟩/\m.free b:=by
   intro l
   induction l with
   | nil=>intro _ x hx;simp[Zaj]at hx
   | cons y l ih=>
    intro h x hx
    simp only[Zaj,List.mem_append]at hx
    rcases hx with hx|hx
    ·exact h y (by simp) x hx
    ·exact ih (λz hz=>h z (by simp[hz])) x hx
  exact this l hl x hx
mutual
theorem Zrw{m m':Mem}:∀(t:E),RepE m' t->NewE m t->RepE (nw m m') t
 | .node k x s g a c l,hr,hn=>by
  have h0:=hn _ (by rw[Za2];exact List.mem_cons_self)
  simp only[RepE]at hr ⊢
  refine⟨hr.1,?_,hr.2.2⟩
  rcases hr.2.1 with h|⟨b,o,ha,dY⟩
  ·exact .inl h
  rcases h0 with h|⟨b',hb',hf⟩
  ·exact .inl h
  ·have e:a=some ⟨b',0,none⟩:=hb'
   rw[ha]at e
   simp only[Option.some.injEq,Addr.mk.injEq,and_true]at e
   obtain⟨rfl,rfl⟩:=e
   exact .inr ⟨b,0,ha,Zmr b hf 0 l dY λx hx y hy=>hn y (by
    rw[Za2]
    exact List.mem_cons_of_mem _ (Zhs hx hy))⟩
theorem Zmr{m m':Mem}(b:Nat)(hf:m.free b):∀(o:Nat)(l:List E),RepEAt m' b o l->(∀x∈l,NewE m x)->RepEAt (nw m m') b o l
 | _,[],_,_=>by simp only[RepEAt]
 | o,t::l,hr,hn=>by
  simp only[RepEAt]at hr ⊢
  exact⟨λj v hj=>by rw[Ztb hf];exact hr.1 j v hj,Zrw t hr.2.1 (hn t (by simp)),Zmr b hf (o+5) l hr.2.2 λx hx=>hn x (by simp[hx])⟩
end
theorem Zf5{m:Mem}{b:Nat}:∀(L:List E)(o:Nat),RepEAt m b o L->m.reads b o (L.map E.cs).flatten
 | [],o,_=>λj v hj=>by simp at hj
 | z::L,o,h=>λj v hj=>by
  simp only[RepEAt]at h
  rw[List.map_cons,List.flatten_cons]at hj
  rcases Nat.lt_or_ge j 5 with aC|bE
  ·rw[zA5 (by rw[E.len];exact aC)]at hj
   exact h.1 j v hj
  ·rw[zA4 (by rw[E.len];exact bE),E.len]at hj
   have:=Zf5 L (o+5) h.2.2 (j - 5) v hj
   rwa [show o+5+(j - 5)=o+j by omega]at this
theorem ZsC(e:E)(m:Mem):CX Tryz.prog 132 #[e.v] m [] (Ret e.v):=by
 apply ZgL
 intro b m1 aF _ b2
 exact Zaa rfl (Zai aF rfl)
set_option maxHeartbeats 800000 in
theorem Zjs(t:E)(m:Mem)(hr:RepE m t)(hz:t.nodes.length<=10000):CX Tryz.prog 131 #[t.v,.func (.func 132) #[] #[]] m [] (ER λt'=>t'.er=t.er/\NewE m t'):=by
 have dq:t.subs.length<=10000:=by
  have:=ZdA t.subs
  rw[Za2,List.length_cons]at hz;omega
 have aJ:∀x∈t.subs,RepE m x:=λx hx=>Znv hr (by rw[Za2];exact List.mem_cons_of_mem _ (Zhs hx (by rw[Za2];simp)))
 have nT:rowRd m t.a (t.subs.map E.cs).flatten:=by
  rcases(Zgq hr).2 with h|⟨b,o,ha,dY⟩
  ·rw[h];exact .inl rfl
  ·exact .inr ⟨b,o,ha,Zf5 t.subs o dY⟩
 apply ZfV
 intro b b1
 refine⟨_,Zmq t.a t.c t.subs m nT (by omega),(λv _ _ ⟨a,c,e,_⟩=>by rw[e];rfl),?_⟩
 rintro a n c m1 aF ⟨a',c',hv,aB,fX,aY⟩
 simp only[Value.slice.injEq]at hv
 obtain⟨rfl,rfl,rfl⟩:=hv
 refine⟨λxs css tvs m' q=>∃(k:Nat)(L:List E)(mb:Mem),k<=t.subs.length/\xs=[.int .i64 k]/\q=t.subs.length - k/\L.length=k/\L.map E.er=(t.subs.take k).map E.er/\m.le mb/\mb.le m'/\(t.subs.length=0\/∃b,a=some ⟨b,0,none⟩/\mb.free b)/\(∀x∈L,RepE mb x/\NewE m x)/\(t.subs.length=0\/∃b,a=some ⟨b,0,none⟩/\m.free b)/\rowRd m' a ((L++t.subs.drop k).map E.cs).flatten,⟨_,0,[],m,by omega,rfl,rfl,rfl,rfl,Mem.le_refl _,aF,aY,by simp,aY,aB⟩,?_⟩
 rintro z m2 q _ ⟨k,L,mb,hk,cD,hq,gW,kM,dG,gG,dI,jB,bD,cR⟩
 obtain rfl:z=k:=by simpa using cD
 refine Zab (λaC=>?_) (λbE=>?_)
 ·have aP:k < t.subs.length:=by have:=zA6 aC;omega
  obtain⟨x,hx⟩:=Zav aP
  have cL:=aJ x (zA2 hx)
  have jO:x.nodes.length<=10000:=by
   have:=congrArg List.length (ZbX hx)
   rw[Za2,List.length_cons]at hz
   simp only[zA1]at this
   omega
  have gm:t.subs.drop k=x::t.subs.drop (k+1):=by
   rw[List.drop_eq_getElem_cons aP,(zA0 hx).2]
  rcases dI with dI|⟨bk,rfl,cI⟩
  ·omega
  obtain⟨b0,o0,ma,bV⟩:=Zal E.len cR (k:=k) (t:=x) (by rw[zA4 (by omega),gW,Nat.sub_self,gm];rfl) (by omega)
  cases ma
  have hw:IntKind.i64.wrap ((k:Int)+1)=((k+1:Nat):Int):=by rw[Zak (by omega) (by omega)];rfl
  simp only[hw,zA8]
  have fe:CX Tryz.prog 131 #[x.v,.func (.func 132) #[] #[]] m2 [] (EF mb m2 λt'=>t'.er=x.er/\NewE mb t'):=(Zjs x mb (RepE.mono dG x cL) jO).frame2 gG
  refine⟨bk,0,rfl,⟨by omega,by omega⟩,_,_,_,_,_,bV,λb3=>Zaa rfl ⟨λ_ _ _=>EF mb m2 λt'=>t'.er=x.er/\NewE mb t',EF mb m2 λt'=>t'.er=x.er/\NewE mb t',rfl,fe,ZoU,ZxA λt' m0 m3 aV h0 cK dP hr' ht'=>⟨bk,0,rfl,⟨by omega,by omega⟩,λM dO eu=>Zaa rfl ⟨rfl,by omega,trivial,trivial,t.subs.length - (k+1),by omega,k+1,L++[t'],m0,by omega,rfl,rfl,by simp[gW],?_,mLt dG h0,?_,.inr ⟨bk,rfl,?_⟩,?_,bD,?_⟩⟩⟩⟩
  ·rw[List.map_append,kM,Zop hx,List.map_append]
   simp[ht'.1]
  ·refine Mem.le_upd (mLt cK eu) ?_ _ _
   intro o'
   have hc:m2 bk (0+k*5+0)=some (.int .u8 x.k):=bV 0 _ rfl
   rw[dP _ _ _ hc o'];exact cI o'
  ·intro o'
   have hc:m2 bk (0+k*5+0)=some (.int .u8 x.k):=bV 0 _ rfl
   rw[dP _ _ _ hc o'];exact cI o'
  ·intro y hy
   rcases List.mem_append.1 hy with hy|hy
   ·exact⟨RepE.mono h0 y (jB y hy).1,(jB y hy).2⟩
   ·simp at hy;subst hy;exact⟨hr',ht'.2.less dG⟩
  ·rw[gm]at cR
   have h5:=Zqp (t:=t') (cR.mono dO)
   rw[gW]at h5
   rw[List.append_assoc]
   exact h5
 ·have cS:k=t.subs.length:=by have:=of_decide_eq_false bE;omega
  subst cS
  rw[List.drop_length,List.append_nil]at cR
  rw[List.take_length]at kM
  have bX:=Zq9 hr
  have hv:Value.agg #[.int .u8 t.k,.float .f64 t.x,.string t.s,.int .i64 t.g,.slice a t.subs.length c]=(E.node t.k t.x t.s t.g a c L).v:=by
   simp only[E.v,E.k,E.x,E.s,E.g,E.a,E.c,E.subs,gW]
  have fe:=ZsC (.node t.k t.x t.s t.g a c L) m2
  rw[<-hv]at fe
  refine⟨_,trivial,fe,(λv _ _ h=>by rw[h];rfl),?_⟩
  intro n5 v5 s5 g5 a5 k5 c5 m3 aV eQ
  simp only[Value.agg.injEq,Array.mk.injEq,List.cons.injEq,Value.int.injEq,Value.string.injEq,Value.slice.injEq,true_and,and_true]at eQ
  obtain⟨rfl,rfl,rfl,rfl,rfl,rfl,rfl⟩:=eQ
  refine Zaa rfl ⟨m3,mLt dG (mLt gG aV),Mem.le_refl _,.node t.k t.x t.s t.g a5 c5 L,hv,?_,?_,?_⟩
  ·exact ZoV (cR.mono aV) (λx hx=>RepE.mono (mLt gG aV) x (jB x hx).1) (by omega) bX
  ·cases t
   simp only[E.er,E.k,E.x,E.s,E.g,E.subs,ZkO]at kM ⊢
   rw[kM]
  ·exact Zqq (bD.imp (λh=>List.eq_nil_of_length_eq_zero (by omega)) id) λx hx=>(jB x hx).2
termination_by SizeOf.sizeOf t
decreasing_by exact Zhl (zA2 hx)
theorem Zxc(i:Nat):Int.tdiv (i:Int) 64=((i / 64:Nat):Int):=rfl
theorem ZwH(i:Nat):Int.tmod (i:Int) 64=((i % 64:Nat):Int):=rfl
theorem Zxd{n:Int}(h1:0<=n)(h2:n < 256):IntKind.u8.wrap n=n:=by
 unfold IntKind.wrap
 simp only[IntKind.bits,IntKind.signed,Bool.false_and,Bool.false_eq_true,if_false]
 have e:(2:Int) ^ 8=256:=by decide
 rw[e];omega
theorem ZsD(t:T)(m:Mem)(hr:Rep m t):CX Tryz.prog 125 #[t.v] m [] (ZlO (λu=>∃a c,u=ZbD 6 0 0 a c [t])):=by
 apply ZgT
 intro b m1 aF _ b1 b2 hf
 have bH:=Mem.le_add hf t.cs
 refine ZaA (mLt aF bH) ⟨ZbD 6 0 0 (some ⟨b2,0,none⟩) 1 [t],rfl,ZeX (Zoq ?_ (hr.mono (mLt aF bH))) (by omega) (by omega) (by omega),_,_,rfl⟩
 intro j v hj
 rw[Nat.zero_add,Mem.add_same];exact hj
theorem Zup(t:T)(mn mx:Int)(h1 : -9223372036854775808<=mn/\mn<=9223372036854775807)(h2 : -9223372036854775808<=mx/\mx<=9223372036854775807)(m:Mem)(hr:Rep m t):CX Tryz.prog 126 #[t.v,.int .i64 mn,.int .i64 mx] m [] (ZlO (λu=>∃a c,u=ZbD 5 mn mx a c [t])):=by
 apply Zkh
 intro b m1 aF _ b1 b2 hf
 have bH:=Mem.le_add hf t.cs
 refine ZaA (mLt aF bH) ⟨ZbD 5 mn mx (some ⟨b2,0,none⟩) 1 [t],rfl,ZeX (Zoq ?_ (hr.mono (mLt aF bH))) (by omega) h1 h2,_,_,rfl⟩
 intro j v hj
 rw[Nat.zero_add,Mem.add_same];exact hj
def ZdG(s:ByteArray):List Nat:=s.data.toList.map λb=>b.toNat
theorem ZnL(s:ByteArray):(ZdG s).length=s.size:=by unfold ZdG;rw[List.length_map,Array.length_toList];rfl
theorem Zqr(s:ByteArray):∀c∈ZdG s,c < 256:=by
 intro c hc
 unfold ZdG at hc
 obtain⟨b,_,rfl⟩:=List.mem_map.1 hc
 exact b.toBitVec.isLt
theorem ZsE{s:ByteArray}{k c:Nat}(h:(ZdG s)[k]?=some c):ZsX s k=(c:Int):=by
 unfold ZdG at h
 rw[List.getElem?_map]at h
 obtain⟨b,hb,rfl⟩:=Option.map_eq_some_iff.1 h
 unfold ZsX
 rw[List.getD_eq_getElem?_getD,hb];rfl
theorem Zms(s:ByteArray)(hs:(ZdG s).length<=100000)(m:Mem):CX Tryz.prog 122 #[.string s] m [] (ZlO (λt=>t=ZhX (ZdG s))):=by
 apply ZgU
 intro b b1
 have aD:=ZnL s
 refine⟨λxs css tvs m' q=>∃k:Nat,k<=s.size/\xs=[.int .i64 k]/\css=[Zq8 ((ZdG s).take k)]/\q=s.size - k,⟨_,0,by omega,rfl,rfl,rfl⟩,?_⟩
 rintro n cs m1 q aF ⟨k,hk,hn,bC,hq⟩
 obtain rfl:n=k:=by simpa using hn
 obtain rfl:cs=Zq8 ((ZdG s).take k):=by simpa using bC
 refine Zab (λaC=>?_) (λbE=>?_)
 ·have aP:k < s.size:=by have:=zA6 aC;omega
  obtain⟨c,hc⟩:=Zav (l:=ZdG s) (k:=k) (by omega)
  have nU:=Zqr s c (zA2 hc)
  have hw:IntKind.i64.wrap ((k:Int)+1)=((k+1:Nat):Int):=by rw[Zak (by omega) (by omega)];rfl
  have rk:IntKind.u8.wrap (Int.tdiv (c:Int) 64)=((c / 64:Nat):Int):=by rw[Zxc];exact Zxd (by omega) (by omega)
  have hr:IntKind.u64.wrap (1*2 ^ min (Int.toNat (Int.tmod (c:Int) 64)) 64)=((2 ^ (c % 64):Nat):Int):=by
   rw[ZwH,zA8,Nat.min_eq_left (by omega),Int.one_mul]
   have:=Zwp (2 ^ (c % 64)) (by
    have:2 ^ (c % 64) < 2 ^ 64:=Nat.pow_lt_pow_right (by omega) (by omega)
    exact this)
   rw[<-this];push_cast;rfl
  have h2:(2:Nat) ^ (c % 64) < 18446744073709551616:=by
   have:(2:Nat) ^ (c % 64) < 2 ^ 64:=Nat.pow_lt_pow_right (by omega) (by omega)
   exact this
  have hj:c / 64 < 4:=by omega
  simp only[hw,zA8,ZsE hc,rk,hr,Nat.zero_add,Nat.mul_one]
  refine⟨⟨by omega,by omega⟩,by omega,⟨by omega,by omega⟩,Zaf (ZpS _ hj) ⟨⟨by omega,by omega⟩,by omega,by rw[ZwH];omega,Zaa rfl ⟨⟨by omega,by omega⟩,Zaa (by rw[Nat.ble_eq];show c / 64+1<=4;omega) ⟨by trivial,s.size - (k+1),by omega,k+1,by omega,rfl,?_,rfl⟩⟩⟩⟩
  simp only[RowKit.intOf]
  rw[Zr6 _ _ (Zq7 _ _) h2,Znu _ rfl hj,Zop hc]
 ·have:k=s.size:=by have:=of_decide_eq_false bE;omega
  subst this
  rw[<-aD,List.take_length]
  exact Zaa rfl (Zaa rfl (Zai aF ⟨ZhX (ZdG s),rfl,ZlP _ m,rfl⟩))
theorem ZnM(n:Nat)(hn:n < 256)(m:Mem):CX Tryz.prog 123 #[.int .u8 n] m [] (λv _ _=>∃s,v=.string s/\ZdG s=ZcK n):=by
 apply Zff
 intro b hf
 have ht:Int.tmod (n:Int) 12=((n % 12:Nat):Int):=rfl
 simp only[ht,zA8,Nat.mul_one]
 refine⟨by omega,⟨by omega,by omega⟩,?_⟩
 have h:n % 12=0\/n % 12=1\/n % 12=2\/n % 12=3\/n % 12=4\/n % 12=5\/n % 12=6\/n % 12=7\/n % 12=8\/n % 12=9\/n % 12=10\/n % 12=11:=by omega
 unfold ZcK
 rcases h with e|e|e|e|e|e|e|e|e|e|e|e <;>
 ·rw[e]
  refine Zaf rfl ?_
  exact⟨_,Mem.le_add hf _,Mem.le_refl _,_,rfl,rfl⟩
theorem Zd0(k:Int)(t:T):ZaL k t=if t.k=k then t.subs else if k=3/\t.k=1 then[]else[t]:=rfl
theorem Zc6(l:List T):∀u∈Rx.Zca l,u.oneCell'=true:=by
 intro u hu
 simp only[Rx.Zca,List.mem_flatten,List.mem_map]at hu
 obtain⟨_,⟨t,_,rfl⟩,h⟩:=hu
 simp only[T.cs,List.mem_cons,List.not_mem_nil,or_false,T.sl]at h
 rcases h with rfl|rfl|rfl|rfl|rfl|rfl|rfl|rfl <;> rfl
theorem ZkW(k:Int)(t u:T)(hk:k=3\/k=4)(m:Mem)(hr:Rep m t)(hu:Rep m u)(ht:(ZaL k t).length<=10000)(ve:(ZaL k u).length<=10000):CX Tryz.prog 124 #[.int .u8 k,t.v,u.v] m [] (ZlO (λr=>∃a c,r=Zer k a c (ZaL k t++ZaL k u))):=by
 apply ZgV
 intro b m1 aF _ b1 m2 aO _ b2 b3 ft
 have iK:=mLt aF aO
 have eY:m.le (m2.add b3 (t.cs++u.cs)):=mLt iK (Mem.le_add ft _)
 refine⟨λxs css tvs m' q=>∃(i:Nat)(l:List T)(a:Option Addr)(c:Nat),i<=2/\xs=[.slice a l.length c,.int .i64 i]/\tvs=[.slice a l.length c]/\l=(([t,u].take i).map (ZaL k)).flatten/\rowRd m' a (Rx.Zca l)/\q=2 - i,⟨2,0,[],none,0,by omega,rfl,rfl,rfl,.inl rfl,rfl⟩,?_⟩
 rintro a n c z a1 n1 c1 m3 q aV ⟨i,l,a',c',hi,cD,bQ,hl,aB,hq⟩
 simp only[List.cons.injEq,Value.slice.injEq,Value.int.injEq,true_and,and_true]at cD bQ
 obtain⟨⟨rfl,rfl,rfl⟩,rfl⟩:=cD
 obtain⟨rfl,rfl,rfl⟩:=bQ
 have fJ:=mLt eY aV
 have iI:l.length<=20000:=by
  rw[hl]
  have:i=0\/i=1\/i=2:=by omega
  rcases this with rfl|rfl|rfl <;> simp <;> omega
 refine Zab (λaC=>?_) (λbE=>?_)
 ·have h2:i=0\/i=1:=by have:=zA6 aC;omega
  rcases h2 with rfl|rfl
  ·
   refine⟨⟨by omega,by omega⟩,Zaa rfl λb4=>Zaa rfl (Zaf (v:=.int .u8 t.k) rfl (Zaa rfl (Zab (λcS=>Zaf (v:=t.sl) rfl (Zaa rfl ?_)) (λcS=>?_))))⟩
   ·have eT:t.k=k:=by simpa[RowKit.intOf]using cS
    have hj:ZaL k t=t.subs:=by rw[Zd0,if_pos eT]
    have aD:=ht
    rw[hj]at aD
    refine⟨.inl rfl,Rx.Zca l,Rx.Zca t.subs,Zao _,Zao _,aB,(Zdw (hr.subs)).mono fJ,Zc6 _,?_,?_,λa2 c2 m4 bU cG=>⟨by trivial,1,by omega,1,l++t.subs,a2,c2,by omega,?_,?_,?_,?_,?_⟩⟩
    ·simp only[T.sl,slN];omega
    ·simp only[T.sl,slN];omega
    ·rw[zA1];rfl
    ·rw[zA1];rfl
    ·rw[hl,<-hj];simp
    ·rw[ZaC];exact cG
    ·omega
   ·have eT:¬t.k=k:=by simpa[RowKit.intOf]using cS
    refine⟨k == 3&&t.k == 1,Zab (λh=>Zaf (v:=.int .u8 t.k) rfl (Zaa rfl ⟨by trivial,by trivial,?_⟩)) (λh=>⟨by trivial,by trivial,?_⟩),Zab (λh=>⟨by trivial,1,by omega,1,l,_,_,by omega,rfl,rfl,?_,aB,by omega⟩) (λh=>Zaa rfl λb6 fB=>?_)⟩
    ·rw[h];rfl
    ·rw[h];rfl
    ·have:k=3/\t.k=1:=by simpa using h
     have hj:ZaL k t=[]:=by rw[Zd0,if_neg eT,if_pos this]
     rw[hl];simp[hj]
    ·have:¬(k=3/\t.k=1):=by simpa using h
     have hj:ZaL k t=[t]:=by rw[Zd0,if_neg eT,if_neg this]
     have eX:=Mem.le_add fB t.cs
     refine⟨.inl rfl,Rx.Zca l,t.cs,Zao _,rfl,aB.mono eX,.inr ⟨b6,0,rfl,λj v hj=>by rw[Nat.zero_add,Mem.add_same];exact hj⟩,by rw[<-Za3];exact Zc6 _,by omega,by omega,λa2 c2 m4 bU cG=>⟨by trivial,1,by omega,1,l++[t],a2,c2,by omega,?_,?_,?_,?_,?_⟩⟩
     ·rw[zA1];rfl
     ·rw[zA1];rfl
     ·rw[hl];simp[hj]
     ·rw[ZaC,Za3];exact cG
     ·omega
  ·
   refine⟨⟨by omega,by omega⟩,Zaa rfl λb4=>Zaa rfl (Zaf (v:=.int .u8 u.k) rfl (Zaa rfl (Zab (λcS=>Zaf (v:=u.sl) rfl (Zaa rfl ?_)) (λcS=>?_))))⟩
   ·have eT:u.k=k:=by simpa[RowKit.intOf]using cS
    have hj:ZaL k u=u.subs:=by rw[Zd0,if_pos eT]
    have aD:=ve
    rw[hj]at aD
    refine⟨.inl rfl,Rx.Zca l,Rx.Zca u.subs,Zao _,Zao _,aB,(Zdw (hu.subs)).mono fJ,Zc6 _,?_,?_,λa2 c2 m4 bU cG=>⟨by trivial,0,by omega,2,l++u.subs,a2,c2,by omega,?_,?_,?_,?_,?_⟩⟩
    ·simp only[T.sl,slN];omega
    ·simp only[T.sl,slN];omega
    ·rw[zA1];rfl
    ·rw[zA1];rfl
    ·rw[hl,<-hj];simp
    ·rw[ZaC];exact cG
    ·omega
   ·have eT:¬u.k=k:=by simpa[RowKit.intOf]using cS
    refine⟨k == 3&&u.k == 1,Zab (λh=>Zaf (v:=.int .u8 u.k) rfl (Zaa rfl ⟨by trivial,by trivial,?_⟩)) (λh=>⟨by trivial,by trivial,?_⟩),Zab (λh=>⟨by trivial,0,by omega,2,l,_,_,by omega,rfl,rfl,?_,aB,by omega⟩) (λh=>Zaa rfl λb6 fB=>?_)⟩
    ·rw[h];rfl
    ·rw[h];rfl
    ·have:k=3/\u.k=1:=by simpa using h
     have hj:ZaL k u=[]:=by rw[Zd0,if_neg eT,if_pos this]
     rw[hl];simp[hj]
    ·have:¬(k=3/\u.k=1):=by simpa using h
     have hj:ZaL k u=[u]:=by rw[Zd0,if_neg eT,if_neg this]
     have eX:=Mem.le_add fB u.cs
     refine⟨.inl rfl,Rx.Zca l,u.cs,Zao _,rfl,aB.mono eX,.inr ⟨b6,0,rfl,λj v hj=>by rw[Nat.zero_add,Mem.add_same];exact hj⟩,by rw[<-Za3];exact Zc6 _,by omega,by omega,λa2 c2 m4 bU cG=>⟨by trivial,0,by omega,2,l++[u],a2,c2,by omega,?_,?_,?_,?_,?_⟩⟩
     ·rw[zA1];rfl
     ·rw[zA1];rfl
     ·rw[hl];simp[hj]
     ·rw[ZaC,Za3];exact cG
     ·omega
 ·have:i=2:=by have:=of_decide_eq_false bE;omega
  subst this
  have hl':ZaL k t++ZaL k u=l:=by rw[hl];simp
  rw[hl']
  have aJ:∀x∈l,Rep m3 x:=by
   have key:∀t:T,Rep m t->∀x∈ZaL k t,Rep m3 x:=by
    intro t hr x hx
    rw[Zd0]at hx
    split at hx
    ·exact ZhW (hr.subs.mono fJ) x hx
    ·split at hx
     ·simp at hx
     ·simp at hx;subst hx;exact hr.mono fJ
   rw[<-hl']
   intro x hx
   rcases List.mem_append.1 hx with hx|hx
   ·exact key t hr x hx
   ·exact key u hu x hx
  refine Zab (λh0=>?_) (λh0=>Zab (λh1=>?_) (λh1=>?_))
  ·have:l=[]:=by simpa using h0
   subst this
   exact Zai fJ ⟨T1,rfl,ZtR _,none,0,rfl⟩
  ·have re:l.length=1:=by
    have:((l.length:Int) == 1)=true:=h1
    have:=zA6 this;omega
   obtain⟨x,rfl⟩:∃x,l=[x]:=by
    match l,re with
    | [x],_=>exact⟨x,rfl⟩
   rcases aB with aB|⟨b6,o,ha,bV⟩
   ·simp[Rx.Zca,T.cs]at aB
   ·rw[Za3]at bV
    exact⟨b6,o,ha,⟨by omega,by simp⟩,_,_,_,_,_,_,_,_,bV,Zaa rfl (ZaA fJ ⟨x,rfl,aJ x (by simp),none,0,rfl⟩)⟩
  ·have vg:¬l.length=0:=λe=>by rw[e]at h0;simp at h0
   have eV:¬l.length=1:=λe=>by rw[e]at h1;simp at h1
   obtain⟨x,y,r,rfl⟩:∃x y r,l=x::y::r:=by
    match l,vg,eV with
    | [],h,_=>simp at h
    | [x],_,h=>simp at h
    | x::y::r,_,_=>exact⟨x,y,r,rfl⟩
   refine ZaA fJ ⟨ZbD k 0 0 _ _ (x::y::r),rfl,ZeX (Zq6 aB aJ (by omega)) (by omega) (by omega) (by omega),_,_,rfl⟩
structure Sm (m:Mem)(a:Option Addr)(l:List (Nat×Nat×Nat)):Prop where
 len:l.length<=9223372036854775807
 byte:∀s∈l,s.1 < 256/\s.2.1 < 256/\s.2.2 < 256
 at':∀i s,l[i]?=some s->∃b o,a=some ⟨b,o,none⟩/\m.reads b (o+i*3) [.int .u8 s.1,.int .u8 s.2.1,.int .u8 s.2.2]
theorem Sm.mono{m m':Mem}{a l}(h:Sm m a l)(hm:m.le m'):Sm m' a l:=
 ⟨h.len,h.byte,λi s hi=>by obtain⟨b,o,h1,h2⟩:=h.at' i s hi;exact⟨b,o,h1,h2.mono hm⟩⟩
theorem Zmt(n:Nat):(([[97],[98],[97,98],[97],[98],[99],[97,98,99],[98,99],[10],[0,255],[97],[98]][n % 12]?).getD []:List Nat).length<=100000:=by
 have h:n % 12=0\/n % 12=1\/n % 12=2\/n % 12=3\/n % 12=4\/n % 12=5\/n % 12=6\/n % 12=7\/n % 12=8\/n % 12=9\/n % 12=10\/n % 12=11:=by omega
 rcases h with e|e|e|e|e|e|e|e|e|e|e|e <;> rw[e] <;> decide
theorem Zuq:∀L < 3,∀Mo < 4,((Mo < L\/Mo=0\/(L=1/\Mo=1))->ZpP (L:Nat) (-1)=true/\ZvF (L:Nat) (-1)<=((max 1 L:Nat):Int))/\(¬(Mo < L\/Mo=0\/(L=1/\Mo=1))->ZpP (L:Nat) (Mo:Nat)=true/\ZvF (L:Nat) (Mo:Nat)<=((max 1 (max L Mo):Nat):Int)):=by
 intro L hL Mo hM
 have h1:L=0\/L=1\/L=2:=by omega
 have h2:Mo=0\/Mo=1\/Mo=2\/Mo=3:=by omega
 rcases h1 with rfl|rfl|rfl <;> rcases h2 with rfl|rfl|rfl|rfl <;> exact⟨λ_=>by first|exact⟨by decide,by decide⟩|omega,λ_=>by first|exact⟨by decide,by decide⟩|omega⟩
theorem Zqs(l:List (Nat×Nat×Nat))(a:Option Addr)(c:Nat)(m:Mem)(hl:Sm m a l)(hc:l.length<=c):CX Tryz.prog 84 #[.slice a l.length c] m [] (ZlO (λt=>t.check=0/\t.nodes.length<=26)):=by
 apply Zis
 have aD:=hl.len
 intro b
 have hN:(if(25:Int) < (l.length:Int)then(25:Int)else(l.length:Int))=((min 25 l.length:Nat):Int):=by split <;> omega
 simp only[hN,zA8,Nat.sub_zero]
 generalize pz:min 25 l.length=N
 refine⟨⟨by omega,by omega⟩,λxs css tvs m' q=>∃(i:Nat)(ts:List T)(a:Option Addr)(c:Nat)(u g:Nat)(mb:Mem),i<=N/\xs=[.slice a ts.length c,.int .i64 u,.int .i64 g,.int .i64 i]/\tvs=[.slice a ts.length c]/\ts.length<=c/\m.le mb/\mb.le m'/\Apart mb a/\rowRd m' a (Rx.Zca ts)/\(∀t∈ts,Rep mb t)/\J i ts u g/\q=N - i,⟨N,0,[],none,0,1,0,m,by omega,rfl,rfl,by simp,Mem.le_refl _,Mem.le_refl _,.inl rfl,.inl rfl,by simp,J.zero,by omega⟩,?_⟩
 rintro a1 n1 c1 z1 z2 z3 a2 n2 c2 m1 q _ ⟨i,ts,a',c',u,g,mb,hi,cD,bQ,cu,dG,cE,cV,aB,aJ,hJ,hq⟩
 simp only[List.cons.injEq,Value.slice.injEq,Value.int.injEq,true_and,and_true]at cD bQ
 obtain⟨⟨rfl,rfl,rfl⟩,rfl,rfl,rfl⟩:=cD
 obtain⟨rfl,rfl,rfl⟩:=bQ
 have fQ:ts.length<=25:=by have:=hJ.sz;have:=ZlY ts;omega
 refine Zab (λaC=>?_) (λbE=>?_)
 ·have pA:i < N:=by have:=zA6 aC;omega
  have hi':i < l.length:=by omega
  obtain⟨s,hs⟩:=Zav hi'
  obtain⟨bs,os,ha,bV⟩:=(hl.mono (mLt dG cE)).at' i s hs
  obtain⟨s1,s2,s3⟩:=s
  obtain⟨nO,iH,kA⟩:=hl.byte _ (zA2 hs)
  have hw:IntKind.i64.wrap ((i:Int)+1)=((i+1:Nat):Int):=by rw[Zak (by omega) (by omega)];rfl
  have lZ:Int.tmod (RowKit.intOf (Value.int .u8 (s1:Nat))) 12=((s1 % 12:Nat):Int):=rfl
  simp only[hw,zA8]
  refine⟨bs,os,ha,⟨by omega,by omega⟩,_,_,_,bV,λb2=>Zaa rfl (Zaa rfl ⟨by omega,?_⟩)⟩
  simp only[lZ]
  refine Zab (λh1=>?_) (λh1=>Zab (λh2=>?_) (λh2=>?_))
  ·refine Zam (ZnM s2 iH m1) (λv _ _ ⟨s,e,_⟩=>by rw[e];rfl) ?_
   rintro str m2 aO ⟨s',hv,hb⟩
   cases hv
   refine Zam (Zms str (by rw[hb];unfold ZcK;exact Zmt _) m2) Zeq (Znt λt m3 aV hr ht b3 ft=>?_)
   rw[hb]at ht
   have eY:=mLt aO (mLt aV (Mem.le_add ft t.cs))
   obtain⟨k1,k2,k3,k4⟩:=Zox s2
   refine⟨.inl trivial,Rx.Zca ts,t.cs,Zao _,rfl,aB.mono (eY),.inr ⟨b3,0,rfl,λj v hj=>by rw[Nat.zero_add,Mem.add_same];exact hj⟩,by rw[<-Za3];exact Zc6 _,by omega,by omega,λa4 c4 m4 bU cG aN=>⟨by trivial,N - (i+1),by omega,i+1,ts++[t],a4,c4,u,g,mb,by omega,?_,?_,by have:=aN.1;rw[zA1];exact this,dG,mLt cE (mLt (eY) bU),cV.tok (mLt cE (eY)) aN,?_,?_,?_,by omega⟩⟩
   ·rw[zA1];rfl
   ·rw[zA1];rfl
   ·rw[ZaC,Za3];exact cG
   ·intro x hx
    rcases List.mem_append.1 hx with hx|hx
    ·exact aJ x hx
    ·simp at hx;subst hx;exact(by rw[ht];exact ZlP _ _)
   ·rw[ht];exact hJ.push k1 k2 k3 k4
  ·intro b3 ft
   have eY:=Mem.le_add ft T1.cs
   refine⟨.inl trivial,Rx.Zca ts,T1.cs,Zao _,rfl,aB.mono (eY),.inr ⟨b3,0,rfl,λj v hj=>by rw[Nat.zero_add,Mem.add_same];exact hj⟩,by rw[<-Za3];exact Zc6 _,by omega,by omega,λa4 c4 m4 bU cG aN=>⟨by trivial,N - (i+1),by omega,i+1,ts++[T1],a4,c4,u,g,mb,by omega,?_,?_,by have:=aN.1;rw[zA1];exact this,dG,mLt cE (mLt (eY) bU),cV.tok (mLt cE (eY)) aN,?_,?_,?_,by omega⟩⟩
   ·rw[zA1];rfl
   ·rw[zA1];rfl
   ·rw[ZaC,Za3];exact cG
   ·intro x hx
    rcases List.mem_append.1 hx with hx|hx
    ·exact aJ x hx
    ·simp at hx;subst hx;exact ZtR _
   ·exact hJ.push ZtW.1 ZtW.2.1 ZtW.2.2.1 ZtW.2.2.2
  ·refine⟨decide (s1 % 12 < 7)&&decide (1 < ts.length),Zab (λh3=>⟨by trivial,by trivial,?_⟩) (λh3=>⟨by trivial,by trivial,?_⟩),Zab (λh3=>?_) (λh3=>?_)⟩
   ·refine ZaB ?_
    rw[Bool.eq_iff_iff];simp;have:=zA6 h3;omega
   ·refine ZaB ?_
    rw[eq_comm,Bool.and_eq_false_iff];left;have:=of_decide_eq_false h3;exact decide_eq_false (by omega)
   ·skip
    obtain⟨r,x,y,rfl⟩:=ZwF (ts:=ts) (by simp at h3;omega)
    have eI:(r++[x,y]).length=r.length+2:=by simp
    have fE:IntKind.i64.wrap (((r++[x,y]).length:Int) - 2)=(r.length:Int):=by rw[eI,Zak (by omega) (by omega)];omega
    have fZ:IntKind.i64.wrap (((r++[x,y]).length:Int) - 1)=((r.length+1:Nat):Int):=by rw[eI,Zak (by omega) (by omega)];omega
    simp only[fE,fZ,zA8,Nat.sub_zero]
    obtain⟨bb,gE,fc,o',u',hu'⟩:=cV.base aB (by simp)
    obtain⟨bx,ox,gF,fU⟩:=ZcY aB (i:=r.length) (t:=x) (by simp)
    obtain⟨by',oy,nQ,nR⟩:=ZcY aB (i:=r.length+1) (t:=y) (by simp)
    have rq:(ZaL 3 x).length<=10000:=by
     have:=hJ.sz
     rw[Zax,show szL [x,y]=szL ([x]++[y]) from rfl,Zax,ZaW,ZaW]at this
     have:=Zdz (k:=3) (t:=x)
     omega
    have rr:(ZaL 3 y).length<=10000:=by
     have:=hJ.sz
     rw[Zax,show szL [x,y]=szL ([x]++[y]) from rfl,Zax,ZaW,ZaW]at this
     have:=Zdz (k:=3) (t:=y)
     omega
    refine⟨λ_ _ _=>ZmY mb m1 (λr=>∃a c,r=Zer 3 a c (ZaL 3 x++ZaL 3 y)),⟨by omega,by omega⟩,⟨by omega,by omega⟩,bx,ox,gF,⟨by omega,by omega⟩,_,_,_,_,_,_,_,_,fU,by',oy,nQ,⟨by omega,by omega⟩,_,_,_,_,_,_,_,_,nR,ZmY mb m1 (λr=>∃a c,r=Zer 3 a c (ZaL 3 x++ZaL 3 y)),rfl,(ZkW 3 x y (by omega) mb (aJ x (by simp)) (aJ y (by simp)) rq rr).frame2 cE,ZcH,Zhp λt m0 m3 aV h0 fV bD eJ ht b6 fB=>?_⟩
    obtain⟨at',ct,ht⟩:=ht
    have eX:=Mem.le_add fB t.cs
    have dE:Apart m0 _:=.inr ⟨bb,gE,λo=>by rw[bD bb o' u' hu' o];exact fc o⟩
    refine⟨.inr (.inr (by omega)),Rx.Zca r,t.cs,Zao _,rfl,((ZoR aB).mono aV).mono eX,.inr ⟨b6,0,rfl,λj v hj=>by rw[Nat.zero_add,Mem.add_same];exact hj⟩,by rw[<-Za3];exact Zc6 _,by omega,by omega,λa4 c4 m4 bU cG aN M eR dO eu gj=>⟨by trivial,N - (i+1),by omega,i+1,r++[t],a4,c4,u,g,m0,by omega,?_,?_,by have:=aN.1;rw[zA1];exact this,mLt dG h0,mLt fV dO,dE.tok (mLt fV eX) aN,?_,?_,?_,by omega⟩⟩
    ·rw[zA1];rfl
    ·rw[zA1];rfl
    ·rw[ZaC,Za3];exact cG.mono gj
    ·intro z hz
     rcases List.mem_append.1 hz with hz|hz
     ·exact(aJ z (by simp[hz])).mono h0
     ·simp at hz;subst hz;exact eJ
    ·rw[ht];exact hJ.join (by omega) (by omega) _ _
   ·refine⟨decide (s1 % 12 < 9)&&decide (1 < ts.length),Zab (λh4=>⟨by trivial,by trivial,?_⟩) (λh4=>⟨by trivial,by trivial,?_⟩),Zab (λh4=>?_) (λh4=>?_)⟩
    ·refine ZaB ?_
     rw[Bool.eq_iff_iff];simp;have:=zA6 h4;omega
    ·refine ZaB ?_
     rw[eq_comm,Bool.and_eq_false_iff];left;have:=of_decide_eq_false h4;exact decide_eq_false (by omega)
    ·skip
     obtain⟨r,x,y,rfl⟩:=ZwF (ts:=ts) (by simp at h4;omega)
     have eI:(r++[x,y]).length=r.length+2:=by simp
     have fE:IntKind.i64.wrap (((r++[x,y]).length:Int) - 2)=(r.length:Int):=by rw[eI,Zak (by omega) (by omega)];omega
     have fZ:IntKind.i64.wrap (((r++[x,y]).length:Int) - 1)=((r.length+1:Nat):Int):=by rw[eI,Zak (by omega) (by omega)];omega
     simp only[fE,fZ,zA8,Nat.sub_zero]
     obtain⟨bb,gE,fc,o',u',hu'⟩:=cV.base aB (by simp)
     obtain⟨bx,ox,gF,fU⟩:=ZcY aB (i:=r.length) (t:=x) (by simp)
     obtain⟨by',oy,nQ,nR⟩:=ZcY aB (i:=r.length+1) (t:=y) (by simp)
     have rq:(ZaL 4 x).length<=10000:=by
      have:=hJ.sz
      rw[Zax,show szL [x,y]=szL ([x]++[y]) from rfl,Zax,ZaW,ZaW]at this
      have:=Zdz (k:=4) (t:=x)
      omega
     have rr:(ZaL 4 y).length<=10000:=by
      have:=hJ.sz
      rw[Zax,show szL [x,y]=szL ([x]++[y]) from rfl,Zax,ZaW,ZaW]at this
      have:=Zdz (k:=4) (t:=y)
      omega
     refine⟨λ_ _ _=>ZmY mb m1 (λr=>∃a c,r=Zer 4 a c (ZaL 4 x++ZaL 4 y)),⟨by omega,by omega⟩,⟨by omega,by omega⟩,bx,ox,gF,⟨by omega,by omega⟩,_,_,_,_,_,_,_,_,fU,by',oy,nQ,⟨by omega,by omega⟩,_,_,_,_,_,_,_,_,nR,ZmY mb m1 (λr=>∃a c,r=Zer 4 a c (ZaL 4 x++ZaL 4 y)),rfl,(ZkW 4 x y (by omega) mb (aJ x (by simp)) (aJ y (by simp)) rq rr).frame2 cE,ZcH,Zhp λt m0 m3 aV h0 fV bD eJ ht b6 fB=>?_⟩
     obtain⟨at',ct,ht⟩:=ht
     have eX:=Mem.le_add fB t.cs
     have dE:Apart m0 _:=.inr ⟨bb,gE,λo=>by rw[bD bb o' u' hu' o];exact fc o⟩
     refine⟨.inr (.inr (by omega)),Rx.Zca r,t.cs,Zao _,rfl,((ZoR aB).mono aV).mono eX,.inr ⟨b6,0,rfl,λj v hj=>by rw[Nat.zero_add,Mem.add_same];exact hj⟩,by rw[<-Za3];exact Zc6 _,by omega,by omega,λa4 c4 m4 bU cG aN M eR dO eu gj=>⟨by trivial,N - (i+1),by omega,i+1,r++[t],a4,c4,u,g,m0,by omega,?_,?_,by have:=aN.1;rw[zA1];exact this,mLt dG h0,mLt fV dO,dE.tok (mLt fV eX) aN,?_,?_,?_,by omega⟩⟩
     ·rw[zA1];rfl
     ·rw[zA1];rfl
     ·rw[ZaC,Za3];exact cG.mono gj
     ·intro z hz
      rcases List.mem_append.1 hz with hz|hz
      ·exact(aJ z (by simp[hz])).mono h0
      ·simp at hz;subst hz;exact eJ
     ·rw[ht];exact hJ.join (by omega) (by omega) _ _
    ·refine⟨decide (s1 % 12=9)&&(decide (0 < ts.length)&&decide (g < 9)),Zab (λh5=>Zab (λh6=>⟨by trivial,by trivial,?_⟩) (λh6=>⟨by trivial,by trivial,?_⟩)) (λh5=>⟨by trivial,by trivial,?_⟩),Zab (λh5=>?_) (λh5=>?_)⟩
     ·refine ZaB ?_
      have e1:=zA6 h6
      have e2:s1 % 12=9:=by have:=h5;simp at this;omega
      rw[decide_eq_true e2,decide_eq_true (show 0 < ts.length by omega),Bool.true_and,Bool.true_and,Bool.eq_iff_iff];simp;omega
     ·refine ZaB ?_
      have e1:=of_decide_eq_false h6
      rw[decide_eq_false (show ¬0 < ts.length by omega)];simp
     ·refine ZaB ?_
      have e2:¬s1 % 12=9:=by have:=h5;simp at this;omega
      rw[decide_eq_false e2];rfl
     ·
      have vh:g < 9:=by simp at h5;omega
      skip
      obtain⟨r,x,rfl⟩:=ZwG (ts:=ts) (by simp at h5;omega)
      have eI:(r++[x]).length=r.length+1:=by simp
      have fZ:IntKind.i64.wrap (((r++[x]).length:Int) - 1)=(r.length:Int):=by rw[eI,Zak (by omega) (by omega)];omega
      obtain⟨bb,gE,fc,o',u',hu'⟩:=cV.base aB (by simp)
      subst gE
      obtain⟨bx,ox,gF,fU⟩:=ZcY aB (i:=r.length) (t:=x) (by simp)
      cases gF
      have ru:IntKind.i64.wrap ((g:Int)+1)=((g+1:Nat):Int):=by rw[Zak (by omega) (by omega)];rfl
      simp only[fZ,ru,zA8]
      refine⟨_,_,rfl,⟨by omega,by omega⟩,_,_,_,_,_,_,_,_,fU,Zam ((ZsD x mb (aJ x (by simp))).frame2 cE) (ZcH (mb:=mb) (M0:=m1)) (Zhp λt m0 m3 aV h0 fV bD eJ ht=>?_)⟩
      obtain⟨at',ct,ht⟩:=ht
      have dE:m0.free bb:=λo=>by rw[bD bb o' u' hu' o];exact fc o
      refine⟨bb,0,rfl,⟨by omega,by omega⟩,rfl,by omega,by trivial,N - (i+1),by omega,i+1,r++[t],_,_,u,g+1,m0,by omega,?_,?_,by rw[zA1];rw[eI]at cu;exact cu,mLt dG h0,Mem.le_upd fV dE _ _,.inr ⟨bb,rfl,dE⟩,ZoS (aB.mono aV),?_,?_,by omega⟩
      ·rw[eI,zA1];rfl
      ·rw[eI,zA1];rfl
      ·intro z hz
       rcases List.mem_append.1 hz with hz|hz
       ·exact(aJ z (by simp[hz])).mono h0
       ·simp at hz;subst hz;exact eJ
      ·rw[ht];exact hJ.group vh _ _
     ·by_cases h0:0 < ts.length
      ·skip
       obtain⟨r,x,rfl⟩:=ZwG (ts:=ts) (by exact h0)
       have eI:(r++[x]).length=r.length+1:=by simp
       have fZ:IntKind.i64.wrap (((r++[x]).length:Int) - 1)=(r.length:Int):=by rw[eI,Zak (by omega) (by omega)];omega
       obtain⟨bb,gE,fc,o',u',hu'⟩:=cV.base aB (by simp)
       subst gE
       obtain⟨bx,ox,gF,fU⟩:=ZcY aB (i:=r.length) (t:=x) (by simp)
       cases gF
       have vj:IntKind.i64.wrap (Int.tmod (RowKit.intOf (Value.int .u8 (s2:Nat))) 3)=((s2 % 3:Nat):Int):=by
        rw[show Int.tmod (RowKit.intOf (Value.int .u8 (s2:Nat))) 3=((s2 % 3:Nat):Int) from rfl,Zak (by omega) (by omega)]
       have i4:IntKind.i64.wrap (Int.tmod (RowKit.intOf (Value.int .u8 (s3:Nat))) 4)=((s3 % 4:Nat):Int):=by
        rw[show Int.tmod (RowKit.intOf (Value.int .u8 (s3:Nat))) 4=((s3 % 4:Nat):Int) from rfl,Zak (by omega) (by omega)]
       simp only[fZ,vj,i4,zA8]
       have pC:s2 % 3 < 3:=by omega
       have gj:s3 % 4 < 4:=by omega
       generalize s2 % 3=L at *
       generalize s3 % 4=Mo at *
       refine⟨decide (9 < s1 % 12)&&!(x.k == 1),Zab (λh6=>Zab (λh7=>⟨_,_,rfl,⟨by omega,by omega⟩,.int .u8 x.k,fU 0 _ rfl,Zaa rfl ⟨by trivial,by trivial,?_⟩⟩) (λh7=>absurd h7 (by simp))) (λh6=>⟨by trivial,by trivial,?_⟩),Zab (λh6=>Zaa rfl ⟨by omega,Zaa rfl ⟨by omega,?_⟩⟩) (λh6=>⟨by trivial,N - (i+1),by omega,i+1,r++[x],_,_,u,g,mb,by omega,rfl,rfl,cu,dG,cE,cV,aB,aJ,hJ.skip,by omega⟩)⟩
       ·refine ZaB ?_
        have:=zA6 h6
        rw[decide_eq_true (show 9 < s1 % 12 by omega),Bool.true_and];rfl
       ·refine ZaB ?_
        have:=of_decide_eq_false h6
        rw[decide_eq_false (show ¬9 < s1 % 12 by omega)];rfl
       ·have gy:x.k≠1:=by
         rw[zA7]at h6
         simpa using h6.2
        obtain⟨tab1,tab2⟩:=Zuq L pC Mo gj
        refine⟨decide (Mo < L\/Mo=0\/(L=1/\Mo=1)),Zab (λg1=>⟨by trivial,by trivial,ZaB ?_⟩) (λg1=>Zab (λg2=>⟨by trivial,by trivial,ZaB ?_⟩) (λg2=>Zab (λg3=>⟨by trivial,by trivial,ZaB ?_⟩) (λg3=>⟨by trivial,by trivial,ZaB ?_⟩))),Zab (λg4=>?_) (λg4=>?_)⟩
        ·have:=zA6 g1
         exact(decide_eq_true (by omega)).symm
        ·have:Mo=0:=by simp at g2;omega
         exact(decide_eq_true (by omega)).symm
        ·have e1:=of_decide_eq_false g1
         have e2:¬Mo=0:=by simp at g2;omega
         have e3:L=1:=by simp at g3;omega
         rw[Bool.eq_iff_iff];simp;omega
        ·have e1:=of_decide_eq_false g1
         have e2:¬Mo=0:=by simp at g2;omega
         have e3:¬L=1:=by simp at g3;omega
         exact(decide_eq_false (by omega)).symm
        ·
         have hA:(if(1:Int) > (if(-1:Int) > (L:Int)then(-1:Int)else(L:Int))then(1:Int)else(if(-1:Int) > (L:Int)then(-1:Int)else(L:Int)))=((max 1 L:Nat):Int):=by
          split <;> split <;> omega
         obtain⟨tb,tp⟩:=tab1 (zA6 g4)
         have lS:u*max 1 L<=48:=by have:=Nat.mul_le_mul hJ.u16 (show max 1 L<=3 by omega);omega
         have rv:IntKind.i64.wrap ((u:Int)*((max 1 L:Nat):Int))=((u*max 1 L:Nat):Int):=by rw[<-Int.natCast_mul];exact Zak (by omega) (by omega)
         simp only[hA,rv]
         refine Zab (λg5=>?_) (λg5=>⟨by trivial,N - (i+1),by omega,i+1,r++[x],_,_,u,g,mb,by omega,rfl,rfl,cu,dG,cE,cV,aB,aJ,hJ.skip,by omega⟩)
         have md:u*max 1 L<=16:=by have:=zA6 g5;omega
         refine⟨_,_,rfl,⟨by omega,by omega⟩,_,_,_,_,_,_,_,_,fU,Zam ((Zup x (L:Nat) (-1:Int) ⟨by omega,by omega⟩ ⟨by omega,by omega⟩ mb (aJ x (by simp))).frame2 cE) (ZcH (mb:=mb) (M0:=m1)) (Zhp λt m0 m3 aV h0 fV bD eJ ht=>?_)⟩
         obtain⟨at',ct,ht⟩:=ht
         have dE:m0.free bb:=λo=>by rw[bD bb o' u' hu' o];exact fc o
         refine⟨bb,0,rfl,⟨by omega,by omega⟩,rfl,by omega,by trivial,N - (i+1),by omega,i+1,r++[t],_,_,u*max 1 L,g,m0,by omega,?_,?_,by rw[zA1];rw[eI]at cu;exact cu,mLt dG h0,Mem.le_upd fV dE _ _,.inr ⟨bb,rfl,dE⟩,ZoS (aB.mono aV),?_,?_,by omega⟩
         ·rw[eI,zA1];rfl
         ·rw[eI,zA1];rfl
         ·intro z hz
          rcases List.mem_append.1 hz with hz|hz
          ·exact(aJ z (by simp[hz])).mono h0
          ·simp at hz;subst hz;exact eJ
         ·rw[ht];exact hJ.rep gy tb tp (by omega) md _ _
        ·
         have hA:(if(1:Int) > (if((Mo:Int)) > (L:Int)then((Mo:Int))else(L:Int))then(1:Int)else(if((Mo:Int)) > (L:Int)then((Mo:Int))else(L:Int)))=((max 1 (max L Mo):Nat):Int):=by
          split <;> split <;> omega
         obtain⟨tb,tp⟩:=tab2 (of_decide_eq_false g4)
         have lS:u*max 1 (max L Mo)<=48:=by have:=Nat.mul_le_mul hJ.u16 (show max 1 (max L Mo)<=3 by omega);omega
         have rv:IntKind.i64.wrap ((u:Int)*((max 1 (max L Mo):Nat):Int))=((u*max 1 (max L Mo):Nat):Int):=by rw[<-Int.natCast_mul];exact Zak (by omega) (by omega)
         simp only[hA,rv]
         refine Zab (λg5=>?_) (λg5=>⟨by trivial,N - (i+1),by omega,i+1,r++[x],_,_,u,g,mb,by omega,rfl,rfl,cu,dG,cE,cV,aB,aJ,hJ.skip,by omega⟩)
         have md:u*max 1 (max L Mo)<=16:=by have:=zA6 g5;omega
         refine⟨_,_,rfl,⟨by omega,by omega⟩,_,_,_,_,_,_,_,_,fU,Zam ((Zup x (L:Nat) ((Mo:Int)) ⟨by omega,by omega⟩ ⟨by omega,by omega⟩ mb (aJ x (by simp))).frame2 cE) (ZcH (mb:=mb) (M0:=m1)) (Zhp λt m0 m3 aV h0 fV bD eJ ht=>?_)⟩
         obtain⟨at',ct,ht⟩:=ht
         have dE:m0.free bb:=λo=>by rw[bD bb o' u' hu' o];exact fc o
         refine⟨bb,0,rfl,⟨by omega,by omega⟩,rfl,by omega,by trivial,N - (i+1),by omega,i+1,r++[t],_,_,u*max 1 (max L Mo),g,m0,by omega,?_,?_,by rw[zA1];rw[eI]at cu;exact cu,mLt dG h0,Mem.le_upd fV dE _ _,.inr ⟨bb,rfl,dE⟩,ZoS (aB.mono aV),?_,?_,by omega⟩
         ·rw[eI,zA1];rfl
         ·rw[eI,zA1];rfl
         ·intro z hz
          rcases List.mem_append.1 hz with hz|hz
          ·exact(aJ z (by simp[hz])).mono h0
          ·simp at hz;subst hz;exact eJ
         ·rw[ht];exact hJ.rep gy tb tp (by omega) md _ _
      ·refine⟨false,Zab (λh6=>Zab (λh7=>absurd (zA6 h7) (by omega)) (λh7=>⟨by trivial,by trivial,rfl⟩)) (λh6=>⟨by trivial,by trivial,rfl⟩),ZdJ rfl ⟨by trivial,N - (i+1),by omega,i+1,ts,_,_,u,g,mb,by omega,rfl,rfl,cu,dG,cE,cV,aB,aJ,hJ.skip,by omega⟩⟩
 ·have pA:i=N:=by have:=of_decide_eq_false bE;omega
  have aF:=mLt dG cE
  refine Zab (λh0=>?_) (λh0=>?_)
  ·have rx:(ZdG ⟨#[97]⟩)=ZcK 0:=by rfl
   refine Zam (Zms ⟨#[97]⟩ (by decide) m1) Zeq (Znt λt m2 aO hr ht=>ZaA (mLt aF aO) ⟨t,rfl,hr,?_⟩)
   rw[rx]at ht
   obtain⟨k1,k2,k3,k4⟩:=Zox 0
   rw[<-ht]at k1 k2 k3 k4
   exact(F26.leaf ⟨k1,by simp,by simp[szL,Zay,k2],by simp[ZiJ];omega,by simp[grL,Zay,k4]⟩ k2).done
  ·obtain⟨t0,rest,rfl⟩:∃t r,ts=t::r:=by cases ts with
    | nil=>simp at h0
    | cons t r=>exact⟨t,r,rfl⟩
   have hF:=F26.start hJ (by omega)
   obtain⟨bb,gE,fc,o',u',hu'⟩:=cV.base aB (by simp)
   subst gE
   obtain⟨bx,ox,gF,fU⟩:=ZcY aB (i:=0) (t:=t0) rfl
   cases gF
   rw[List.length_cons]at fQ cu
   refine⟨_,_,rfl,⟨by omega,by simp⟩,_,_,_,_,_,_,_,_,fU,λb2=>Zaa rfl ⟨⟨by omega,by rw[List.length_cons];omega⟩,?_⟩⟩
   refine⟨λxs css tvs m' q=>∃(k:Nat)(t:T),k<=rest.length/\xs=[.int .i64 k]/\css=[t.cs]/\m1.le m'/\Rep m' t/\F26 t (rest.drop k)/\q=rest.length - k,⟨rest.length,0,t0,by omega,rfl,rfl,Mem.le_refl _,(aJ t0 (by simp)).mono cE,hF,by omega⟩,?_⟩
   rintro z cs m2 q2 _ ⟨k,t,hk,hz,bC,aO,eJ,jA,mV⟩
   obtain rfl:z=k:=by simpa using hz
   obtain rfl:cs=t.cs:=by simpa using bC
   have jT:((t0::rest).length - Int.toNat 1)=rest.length:=by simp
   simp only[jT]
   refine Zab (λaC=>?_) (λdF=>Zaa rfl (ZaA (mLt aF aO) ⟨t,rfl,eJ,by rw[show k=rest.length by have:=of_decide_eq_false dF;omega,List.drop_length]at jA;exact jA.done⟩))
   have aP:k < rest.length:=by have:=zA6 aC;omega
   obtain⟨x,hx⟩:=Zav aP
   obtain⟨b3,o3,eE,jz⟩:=ZcY (aB.mono aO) (i:=k+1) (t:=x) (by simpa using hx)
   cases eE
   have fF:IntKind.i64.wrap ((k:Int)+1)=((k+1:Nat):Int):=by rw[Zak (by omega) (by omega)];rfl
   simp only[fF,zA8]
   rw[Zoo hx]at jA
   have bB:=jA.f.sz
   rw[ZdX]at bB
   have sU:=Zdz (k:=4) (t:=t)
   have sQ:=Zdz (k:=4) (t:=x)
   have fW:ZaT (some (⟨bb,0,none⟩:Addr)) (Int.toNat 1) c2 8=some ⟨bb,0+8,none⟩:=by
    unfold ZaT
    have:Nat.beq c2 1=false:=by
     cases hb:Nat.beq c2 1 with
     | false=>rfl
     | true=>have:=Nat.eq_of_beq_eq_true hb;omega
    show(bif Nat.beq c2 1 then _ else some (Addr.add _ (1*8)))=_
    rw[this,Zbu];rfl
   refine⟨_,_,fW,⟨by omega,by omega⟩,_,_,_,_,_,_,_,_,by rw[show 0+8+k*8=0+(k+1)*8 by omega];exact jz,λb4=>Zaa rfl (Zam (ZkW 4 t x (.inr rfl) m2 eJ ((aJ x (by simp[zA2 hx])).mono (mLt cE aO)) (by omega) (by omega)) Zeq (Znt λt' m3 aV hr' ht'=>⟨by trivial,by trivial,rest.length - (k+1),by omega,k+1,t',by omega,rfl,rfl,mLt aO aV,hr',?_,by omega⟩))⟩
   obtain⟨a3,c3,ht'⟩:=ht'
   rw[ht'];exact jA.step _ _
end Go.Proofs.YtpjepnkiiojgfaaGreat