/- Part of the proof: functions of the program. No condition. -/
import Derived.Test.YtojlhhphofhaoaaGreatDoorPVEN
import Derived.Test.YtojlhhphofhaoaaGreatDoorPC25MA
import Derived.Test.YtojlhhphofhaoaaGreatDoorPC25D
import Derived.Test.YtojlhhphofhaoaaGreatDoorMr
set_option linter.unusedVariables false
set_option linter.unusedSimpArgs false
set_option linter.unusedSectionVars false
namespace Go.Proofs.YtojlhhphofhaoaaGreatDoor
open Go Go.Eng Go.Rx Go.Proofs Go.RowKit
set_option maxRecDepth 100000
theorem Zic(m:Mem):CX Tryz.prog 32 #[] m [] (ZyS Zjy):=by
 apply Zgv
 intro b hf
 exact ZaJ (Mem.le_add hf _) ⟨_,_,rfl,ZbO⟩
theorem Zny(m:Mem):CX Tryz.prog 33 #[] m [] (ZyS ZeY):=by
 apply ZiT
 intro b hf
 exact ZaJ (Mem.le_add hf _) ⟨_,_,rfl,ZbO⟩
theorem Zpz(m:Mem):CX Tryz.prog 34 #[] m [] (ZyS Zw8):=by
 apply ZiU
 intro b hf
 exact ZaJ (Mem.le_add hf _) ⟨_,_,rfl,ZbO⟩
theorem ZlW{m:Mem}{b:Nat}:∀{L:List E} {o:Nat},m.reads b o (L.map E.cs).flatten->(∀z∈L,RepE m z)->RepEAt m b o L
 | [],o,_,_=>by simp only[RepEAt]
 | z::L,o,h,hz=>by
  rw[List.map_cons,List.flatten_cons]at h
  simp only[RepEAt]
  refine⟨λi v hi=>h i v (by rw[zA5 (zA0 hi).1];exact hi),hz z (by simp),ZlW (λi v hi=>?_) (λy hy=>hz y (by simp[hy]))⟩
  rw[Nat.add_assoc]
  refine h (5+i) v ?_
  rw[zA4 (by rw[E.len];omega),E.len,Nat.add_sub_cancel_left];exact hi
theorem Zsb{m:Mem}{k:Int}{x:Nat}{s:ByteArray}{g:Int}{a:Option Addr}{c:Nat}{L:List E}(h:rowRd m a (L.map E.cs).flatten)(hz:∀z∈L,RepE m z)(hl:L.length<=1000000000000000)(ho:OkE k s g):RepE m (.node k x s g a c L):=by
 simp only[RepE]
 refine⟨hl,?_,ho⟩
 rcases h with h|⟨b,o,ha,h⟩
 ·refine .inl ?_
  have:=congrArg List.length h
  rw[Za3 E.len]at this
  exact List.eq_nil_of_length_eq_zero (by simp at this;omega)
 ·exact .inr ⟨b,o,ha,ZlW h hz⟩
theorem ZlX(e:E)(c:Int)(m:Mem)(hr:RepE m e)(bY:∀x∈e.nodes,okN 9 x)(hl:e.nodes.length<=1000):CX Tryz.prog 104 #[e.v,.int .i64 c] m [] (ER (BoE c e)):=by
 apply Zgw
 intro b b1
 refine⟨decide (e.k=10)&&decide (e.g > c),Zab (λh=>⟨rfl,Zaf ?_⟩) (λh=>⟨rfl,Zaf ?_⟩),Zab (λh=>?_) (λh=>?_)⟩
 ·have:e.k=10:=by simpa using h
  rw[decide_eq_true this,Bool.true_and]
 ·have:¬e.k=10:=by simpa using h
  rw[decide_eq_false this,Bool.false_and]
 ·rw[zA7,decide_eq_true_iff,decide_eq_true_iff]at h
  exact ZaJ (Mem.le_refl _) ⟨ZyM ⟨#[121]⟩,rfl,Zep (by omega) (by decide) (by omega),ZxT (by simp[Zjy]) h.1⟩
 have hk:¬(e.k=10/\e.g > c):=by
  rintro⟨h1,h2⟩
  rw[decide_eq_true h1,decide_eq_true h2]at h;cases h
 have dG:e.subs.length<=1000:=by
  have:=Zej e.subs
  rw[Zbz,List.length_cons]at hl;omega
 refine⟨λxs css tvs m' q=>∃(ts:List E)(a:Option Addr)(d:Nat),ts.length<=e.subs.length/\xs=[.int .i64 ts.length]/\css=[[.int .u8 e.k,.float .f64 e.x,.string e.s,.int .i64 e.g,.slice a ts.length d]]/\tvs=[.slice a ts.length d]/\rowRd m' a (ts.map E.cs).flatten/\(∀t∈ts,RepE m' t)/\(∀(i:Nat)(x y:E),e.subs[i]?=some x->ts[i]?=some y->BoE c x y)/\q=e.subs.length - ts.length,⟨_,[],none,0,by simp,rfl,rfl,rfl,.inl rfl,by simp,by simp,rfl⟩,?_⟩
 rintro n cs a n1 d m1 q aB ⟨ts,a',d',jY,hx,cK,cY,aM,bB,pZ,hq⟩
 simp only[List.cons.injEq,Value.slice.injEq,Value.int.injEq,true_and,and_true]at hx cK cY
 obtain⟨rfl,rfl,rfl⟩:=cY
 subst hx cK
 refine Zau (λaO=>?_) (λbM=>?_)
 ·have aW:ts.length < e.subs.length:=by omega
  obtain⟨x,hx⟩:=ZaP aW
  obtain⟨oX,h0|⟨b3,o3,gq,fK⟩⟩:=ZeE hr
  ·rw[h0]at aW;simp at aW
  obtain⟨cS,dW⟩:=(fK.mono' aB).get hx
  have jR:=zA2 hx
  have bH:=ZlC jR
  have tO:∀z∈x.nodes,z∈Zao e.subs:=λz hz=>by rw[Zcz hx];exact List.mem_append_right _ (List.mem_append_left _ hz)
  have j5:x.nodes.length<=1000:=by
   rw[Zbz,List.length_cons,Zcz hx,zA1,zA1]at hl;omega
  have hw:IntKind.i64.wrap ((ts.length:Int)+1)=((ts.length+1:Nat):Int):=by rw[Zam (by omega) (by omega)];rfl
  refine⟨b3,o3,gq,⟨by omega,aO⟩,_,_,_,_,_,cS,λb4=>Zaa rfl ⟨λ_ _ _=>ER (BoE c x),Zap rfl ⟨_,rfl,ZlX x c m1 dW (λz hz=>bY z (by rw[Zbz];exact List.mem_cons_of_mem _ (tO z hz))) j5,Zf9,ZyQ λt m2 aN gx ht b5 jo=>Zaa rfl ?_⟩⟩⟩
  refine ZhM E.len E.one jo t (aM.mono aN) 64 (by omega) (by omega) (.inl rfl) λa5 c5 m5 cP cE=>Zaa rfl λM _ gD iq jr=>⟨rfl,e.subs.length - (ts.length+1),by omega,ts++[t],a5,c5,by rw[zA1];exact aW,by rw[hw,zA1];rfl,by rw[zA1];rfl,by rw[zA1];rfl,cE.mono jr,?_,?_,by rw[zA1];rfl⟩
  ·intro z hz
   rcases List.mem_append.1 hz with hz|hz
   ·exact(bB z hz).mono' (mLt aN gD)
   ·rw[List.mem_singleton]at hz;subst hz;exact gx.mono' gD
  ·intro i x' y' hx' hy'
   rcases Nat.lt_or_ge i ts.length with h|h
   ·rw[zA5 h]at hy'
    exact pZ i x' y' hx' hy'
   ·have hi:=(zA0 hy').1
    rw[zA1,List.length_singleton]at hi
    obtain rfl:i=ts.length:=by omega
    rw[hx]at hx'
    simp at hy'
    cases hx';subst hy';exact ht
 ·have aZ:ts.length=e.subs.length:=by omega
  have ho:=Zrx hr
  refine Zaa rfl (ZaJ aB ⟨.node e.k e.x e.s e.g a d ts,rfl,Zsb aM bB (by omega) ho,?_⟩)
  have:=ZvP (c:=c) (x:=e.x) (s:=e.s) (a:=e.a) (a':=a) (d:=e.c) (d':=d) (l:=e.subs) (r:=ts) (k:=e.k) (g:=e.g) (by cases e;exact bY _ (by simp[E.nodes,E.k,E.x,E.s,E.g,E.a,E.c,E.subs])) hk aZ.symm pZ
  cases e;exact this
termination_by SizeOf.sizeOf e
theorem ZlY(t:T)(m:Mem)(hr:Rep m t)(hl:t.nodes.length<=10000):CX Tryz.prog 66 #[t.v] m [] (Ret (.int .i64 (t.gr:Nat))):=by
 apply ZhI
 intro b m1 aB _
 have dG:t.subs.length<=10000:=by
  have h1:=Zj7 t
  have:=ZoA t.subs
  omega
 have t8:∀i,grL (t.subs.take i)<=10000:=λi=>by
  have h1:grL (t.subs.take i)<=szL (t.subs.take i):=List.countP_le_length
  have h2:szL t.subs=szL (t.subs.take i)+szL (t.subs.drop i):=by rw[<-ZaD,List.take_append_drop]
  have h3:=Zj7 t
  omega
 refine Zab (λh=>?_) (λh=>?_)
 all_goals
  refine⟨λxs _ _ m' q=>∃i:Nat,i<=t.subs.length/\xs=[.int .i64 (((if isG t=true then 1 else 0)+grL (t.subs.take i):Nat):Int),.int .i64 i]/\q=t.subs.length - i,⟨_,0,by omega,by unfold isG;rw[h];rfl,rfl⟩,?_⟩
  rintro n n1 m2 q aN ⟨i,hi,hx,rfl⟩
  simp only[List.cons.injEq,Value.int.injEq,true_and,and_true]at hx
  obtain⟨rfl,rfl⟩:=hx
  refine Zau (λaO=>?_) (λbM=>Zac (mLt aB aN) ?_)
  ·have aW:i < t.subs.length:=by omega
   obtain⟨x,hx⟩:=ZaP aW
   have jR:=zA2 hx
   have bH:=Zqv jR
   have j5:x.nodes.length<=10000:=by
    have h1:=Zj7 t
    have h2:szL t.subs=szL (t.subs.take i)+szL (t.subs.drop i):=by rw[<-ZaD,List.take_append_drop]
    rw[Zos hx,ZeG]at h2;omega
   have wg:grL (t.subs.take (i+1))=grL (t.subs.take i)+x.gr:=by
    rw[List.take_add_one,hx,Zbv];show _+grL [x]=_;rw[Zc4]
   have hb:=t8 i
   have hb':=t8 (i+1)
   obtain⟨b3,o3,gq,cS⟩:=ZdG ((Zeg hr.subs).mono (mLt aB aN)) hx
   refine⟨b3,o3,gq,⟨by omega,aO⟩,_,_,_,_,_,_,_,_,cS,λb4=>Zaa rfl (Zax (ZlY x m2 ((ZjZ hr.subs x jR).mono (mLt aB aN)) j5) λm3 aX=>⟨rfl,t.subs.length - (i+1),by omega,i+1,by omega,?_,rfl⟩)⟩
   rw[wg,Zam (by split <;> omega) (by split <;> omega),Zam (by omega) (by omega)]
   simp;omega
  ·have:i=t.subs.length:=by omega
   subst this
   rw[List.take_length]
   show Value.int .i64 _=Value.int .i64 _
   rw[Zw4 t]
termination_by SizeOf.sizeOf t
structure BytU (m:Mem)(a:Option Addr)(l:List Nat):Prop where
 lt:∀n∈l,n < 256
 row:rowRd m a (l.map λn:Nat=>[Value.int .u8 n]).flatten
theorem BytU.mono{m m':Mem}{a l}(h:BytU m a l)(hm:m.le m'):BytU m' a l:=⟨h.lt,h.row.mono hm⟩
theorem BytU.get{m:Mem}{a l}(h:BytU m a l){i:Nat}{n:Nat}(hi:l[i]?=some n):n < 256/\∃b o,a=some ⟨b,o,none⟩/\m b (o+i*1)=some (.int .u8 n):=by
 obtain⟨b,o,ha,h1⟩:=Zan (cs:=λn:Nat=>[Value.int .u8 n]) (n:=1) (λ_=>rfl) h.row hi (by omega)
 exact⟨h.lt n (zA2 hi),b,o,ha,h1 0 _ rfl⟩
theorem Pt.one(p:Pt):∀u∈p.cs,u.oneCell'=true:=by
 intro u hu
 simp only[Pt.cs,List.mem_cons,List.not_mem_nil,or_false]at hu
 rcases hu with rfl|rfl|rfl|rfl|rfl|rfl|rfl|rfl <;> rfl
def TmR(c:Int):Value->Mem->List (List Value)->Prop:=λv m' _=>∃(l:List Pt)(a:Option Addr)(d:Nat),v=.slice a l.length d/\rowRd m' a (l.map Pt.cs).flatten/\(∀p∈l,RepP m' p)/\MkT c l
theorem Zvh{c:Int}:∀(v:Value)(m':Mem) (css:List (List Value)),TmR c v m' css->Shape.fits .slice v=true:=λv _ _ ⟨_,_,_,h,_⟩=>by rw[h];rfl
def TmI(c:Int)(N:Nat)(m:Mem):List Value->List (List Value)->List Value->Mem->Nat->Prop:=λxs _ tvs m' q=>∃(L:List Pt)(a:Option Addr)(d i:Nat),xs=[.slice a L.length d,.int .i64 i]/\tvs=[.slice a L.length d]/\i<=N/\L.length<=i/\m.le m'/\rowRd m' a (L.map Pt.cs).flatten/\(∀p∈L,RepP m' p)/\(∀p∈L,MkP c p)/\ZAI L/\q=N - i
theorem Zt7{L:List Pt}{p:Pt}(h:ZAI L)(hp:p.k=1->∀x,L[L.length - 1]?=some x->0 < L.length->x.k≠1):ZAI (L++[p]):=by
 intro i x y hx hy h1 h2
 rcases Nat.lt_or_ge (i+1) L.length with hi|hi
 ·rw[zA5 (by omega)]at hx
  rw[zA5 hi]at hy
  exact h i x y hx hy h1 h2
 ·have iK:=(zA0 hy).1
  rw[zA1,List.length_singleton]at iK
  have e:i+1=L.length:=by omega
  rw[zA5 (by omega)]at hx
  rw[e]at hy
  simp at hy;subst hy
  exact hp h2 x (by rw[<-e,Nat.add_sub_cancel];exact hx) (by omega) h1
theorem TmI.next{c:Int}{N:Nat}{m m' M:Mem}{L:List Pt}{i:Nat}{p:Pt}{a:Option Addr}{d:Nat}(hi:i < N)(hL:L.length<=i)(h0:m.le m')(hM:m'.le M)(aM:rowRd M a ((L++[p]).map Pt.cs).flatten)(hr:∀x∈L,RepP m' x)(hp:RepP M p)(hk:∀x∈L,MkP c x)(wh:MkP c p)(hl:ZAI L)(wi:p.k=1->∀x,L[L.length - 1]?=some x->0 < L.length->x.k≠1):
  ∃n',n' < N - i/\TmI c N m [.slice a (L.length+1) d,.int .i64 ((i+1:Nat):Int)] [] [.slice a (L.length+1) d] M n':=by
 refine⟨N - (i+1),by omega,L++[p],a,d,i+1,by rw[zA1];rfl,by rw[zA1];rfl,by omega,by rw[zA1,List.length_singleton];omega,mLt h0 hM,aM,?_,?_,Zt7 hl wi,rfl⟩
 ·intro x hx
  rcases List.mem_append.1 hx with hx|hx
  ·exact(hr x hx).mono hM
  ·rw[List.mem_singleton]at hx;subst hx;exact hp
 ·intro x hx
  rcases List.mem_append.1 hx with hx|hx
  ·exact hk x hx
  ·rw[List.mem_singleton]at hx;subst hx;exact wh
theorem ZhN{m:Mem}{k:Int}{s:ByteArray}{g:Int}(hk:0<=k/\k < 256)(hs:s.size<=1000000000000000)(hg:I64 g):RepP m ⟨k,s,g,E0⟩:=⟨hk,hs,hg,Zw0 m⟩
theorem Zk2:∀s∈ZeY,s.size<=16:=by decide +kernel
theorem ZBL:∀j < 5,∃s:ByteArray,[Value.string ⟨#[97]⟩,.string ⟨#[45]⟩,.string ⟨#[97,98,32]⟩,.string ⟨#[0,255]⟩,.string ⟨#[49,50]⟩][j*1]?=some (.string s)/\0 < s.size/\s.size<=512:=by
 intro j hj
 have:j=0\/j=1\/j=2\/j=3\/j=4:=by omega
 rcases this with rfl|rfl|rfl|rfl|rfl <;> exact⟨_,rfl,by decide,by decide⟩
set_option maxHeartbeats 2000000 in
theorem Zjw(l:List Nat)(a:Option Addr)(d:Nat)(e:E)(c:Int)(m:Mem)(hb:BytU m a l)(hd:l.length<=d)(hl:l.length<=1000000000000000)(hr:RepE m e)(he:MkE c 20 e)(hc : -1<=c/\c<=10000):
  CX Tryz.prog 106 #[.slice a l.length d,e.v,.int .i64 c] m [] (TmR c):=by
 apply ZfC
 intro b m1 aB _
 have hN:(if(5:Int) < (l.length:Int)then(5:Int)else(l.length:Int))=((min 5 l.length:Nat):Int):=by split <;> omega
 simp only[hN,zA8,Nat.sub_zero]
 generalize qx:min 5 l.length=N
 refine⟨⟨by omega,by omega⟩,TmI c N m1,⟨N,[],none,0,0,rfl,rfl,by omega,by simp,Mem.le_refl _,.inl rfl,by simp,by simp,λi p q h=>by simp at h,by omega⟩,?_⟩
 rintro a1 n1 c1 z1 a2 n2 c2 m2 q aN ⟨L,a',c',i,hx,cY,qy,gE,hm,aM,bB,iA,ie,rfl⟩
 simp only[List.cons.injEq,Value.slice.injEq,Value.int.injEq,true_and,and_true]at hx cY
 obtain⟨⟨rfl,rfl,rfl⟩,rfl⟩:=hx
 obtain⟨rfl,rfl,rfl⟩:=cY
 have hw:IntKind.i64.wrap ((i:Int)+1)=((i+1:Nat):Int):=by rw[Zam (by omega) (by omega)];rfl
 have wj:IntKind.i64.wrap ((L.length:Int) - 1)=(L.length:Int) - 1:=Zam (by omega) (by omega)
 have qz:=mLt aB aN
 refine Zau (λaO=>?_) (λbM=>ZaJ qz ⟨L,a2,c2,rfl,aM,bB,by omega,iA,ie⟩)
 have aW:i < N:=by omega
 obtain⟨n,hn⟩:=ZaP (l:=l) (k:=i) (by omega)
 obtain⟨jF,bs,os,ha,hv⟩:=(hb.mono qz).get hn
 have sf:Int.tmod (n:Int) 8=((n % 8:Nat):Int):=rfl
 have sg:IntKind.i64.wrap (Int.tdiv (IntKind.i64.wrap (n:Int)) 8)=((n / 8:Nat):Int):=by
  rw[Zam (n:=(n:Int)) (by omega) (by omega),show Int.tdiv (n:Int) 8=((n / 8:Nat):Int) from rfl,Zam (by omega) (by omega)]
 simp only[hw,wj,zA8]
 refine⟨bs,os,ha,⟨by omega,aO⟩,_,hv,_,rfl,by omega,by omega,?_⟩
 simp only[sf,sg]
 have wk:n / 8 < 32:=by omega
 generalize n % 8=k
 generalize n / 8=u at wk
 have stay:∀M:Mem,m2.le M->∃n',n' < N - i/\TmI c N m1 [.slice a2 L.length c2,.int .i64 ((i+1:Nat):Int)] [] [.slice a2 L.length c2] M n':=λM hM=>⟨N - (i+1),by omega,L,a2,c2,i+1,rfl,rfl,by omega,by omega,mLt hm hM,aM.mono hM,λp hp=>(bB p hp).mono hM,iA,ie,rfl⟩
 refine⟨λxs _ _ m'=>xs=[.bool (decide (k=0\/k=1))]/\m2.le m',Zab (λh=>⟨trivial,trivial,?_,Mem.le_refl _⟩) (λh=>⟨trivial,trivial,?_,Mem.le_refl _⟩),?_⟩
 ·have:k=0:=by simp at h;omega
  rw[h,this];rfl
 ·have:¬k=0:=by simp at h;omega
  refine Zaf ?_
  rw[Bool.eq_iff_iff];simp;omega
 rintro b2 m3 aX ⟨eV,_⟩
 obtain rfl:b2=decide (k=0\/k=1):=by simpa using eV
 have cV:=mLt qz aX
 refine Zau (λiH=>?_) (λiH=>?_)
 ·refine⟨decide (L.length=0)||!(match L[L.length - 1]? with
   | some x=>x.k == 1
   | none=>false),Zau (λh=>⟨trivial,trivial,Zaf ?_⟩) (λh=>?_),Zab (λhB=>?_) (λ_=>⟨trivial,stay m3 aX⟩)⟩
  ·rw[decide_eq_true (show L.length=0 by omega)];rfl
  ·obtain⟨x,hx⟩:=ZaP (l:=L) (k:=L.length - 1) (by omega)
   obtain⟨b4,o4,nq,cC⟩:=Zan Pt.len (aM.mono aX) hx (by omega)
   have wl:Int.toNat ((L.length:Int) - 1)=L.length - 1:=by omega
   refine⟨b4,o4,nq,⟨by omega,by omega⟩,.int .u8 x.k,by rw[wl];exact cC 0 _ rfl,_,rfl,trivial,trivial,Zaf ?_⟩
   rw[decide_eq_false (show ¬L.length=0 by omega),hx,Bool.false_or]
  ·have t9:Int.tmod (u:Int) 5=((u % 5:Nat):Int):=rfl
   have h5:u % 5 < 5:=Nat.mod_lt _ (by omega)
   intro b4 iX
   obtain⟨s,hs,j7,wm⟩:=ZBL (u % 5) h5
   refine⟨by omega,by rw[t9];exact⟨by omega,by omega⟩,Zap (by rw[t9,zA8];exact hs) ⟨s,rfl,λb5 jo=>?_⟩⟩
   have nY:=mLt aX (Mem.le_add iX [Value.string ⟨#[97]⟩,.string ⟨#[45]⟩,.string ⟨#[97,98,32]⟩,.string ⟨#[0,255]⟩,.string ⟨#[49,50]⟩])
   refine ZhM Pt.len Pt.one jo (⟨1,s,0,E0⟩:Pt) (aM.mono nY) 96 (by omega) (by omega) (.inl trivial) λa8 c8 m8 gZ fG=>⟨trivial,TmI.next aW gE (mLt hm nY) (mLt (Mem.le_add jo _) gZ) fG (λx hx=>(bB x hx).mono nY) (ZhN (by omega) (by omega) ⟨by omega,by omega⟩) iA (.lit s ⟨j7,wm⟩) ie (λ_ x hx xM qj=>?_)⟩
   rw[hx,decide_eq_false (show ¬L.length=0 by omega)]at hB
   simp[qj]at hB
 refine⟨λxs _ _ m'=>xs=[.bool (decide (k=2\/k=3))]/\m3.le m',Zab (λh=>⟨trivial,trivial,?_,Mem.le_refl _⟩) (λh=>⟨trivial,trivial,?_,Mem.le_refl _⟩),?_⟩
 ·have:k=2:=by simp at h;omega
  rw[h,this];rfl
 ·have:¬k=2:=by simp at h;omega
  refine Zaf ?_
  rw[Bool.eq_iff_iff];simp;omega
 rintro b3 m4 bI ⟨eQ,_⟩
 obtain rfl:b3=decide (k=2\/k=3):=by simpa using eQ
 have jn:=mLt aX bI
 refine Zau (λwn=>?_) (λwn=>?_)
 ·refine Zai (Zny m4) Zdp ?_
  rintro a5 n5 c5 m5 cP ⟨a',c',hU,gp⟩
  simp only[Value.slice.injEq]at hU
  obtain⟨rfl,rfl,rfl⟩:=hU
  have h2:u % 2 < 2:=Nat.mod_lt _ (by omega)
  obtain⟨s,hs⟩:=ZaP (l:=ZeY) (k:=u % 2) h2
  have jU:=zA2 hs
  obtain⟨b6,o6,iS,cC⟩:=ZcJ gp hs
  have bH:s.size<=1000000000000000:=by have:=Zk2 s jU;omega
  have hu:Int.tmod (u:Int) 2=((u % 2:Nat):Int):=rfl
  have i9:=mLt jn cP
  refine⟨by omega,b6,o6,iS,by rw[hu];exact⟨by omega,by show((u % 2:Nat):Int) < (2:Nat);omega⟩,_,by rw[hu,zA8];exact cC,s,rfl,λb7 nA=>?_⟩
  refine ZhM Pt.len Pt.one nA (⟨2,s,0,E0⟩:Pt) (aM.mono i9) 96 (by omega) (by omega) (.inl trivial) λa8 c8 m8 gZ fG=>⟨trivial,TmI.next aW gE (mLt hm i9) (mLt (Mem.le_add nA _) gZ) fG (λx hx=>(bB x hx).mono i9) (ZhN (by omega) bH ⟨by omega,by omega⟩) iA (.var s (.inr jU)) ie (λh=>absurd (show(2:Int)=1 from h) (by decide))⟩
 refine Zab (λh4=>?_) (λh4=>?_)
 ·refine Zai (Zic m4) Zdp ?_
  rintro a5 n5 c5 m5 cP ⟨a',c',hU,gp⟩
  simp only[Value.slice.injEq]at hU
  obtain⟨rfl,rfl,rfl⟩:=hU
  have h2:u % 4 < 4:=Nat.mod_lt _ (by omega)
  obtain⟨s,hs⟩:=ZaP (l:=Zjy) (k:=u % 4) h2
  have jU:=zA2 hs
  obtain⟨b6,o6,iS,cC⟩:=ZcJ gp hs
  have bH:s.size<=1000000000000000:=by have:=Zk1 s jU;omega
  have hu:Int.tmod (u:Int) 4=((u % 4:Nat):Int):=rfl
  have i9:=mLt jn cP
  refine⟨by omega,b6,o6,iS,by rw[hu];exact⟨by omega,by show((u % 4:Nat):Int) < (4:Nat);omega⟩,_,by rw[hu,zA8];exact cC,s,rfl,λb7 nA=>?_⟩
  refine ZhM Pt.len Pt.one nA (⟨2,s,0,E0⟩:Pt) (aM.mono i9) 96 (by omega) (by omega) (.inl trivial) λa8 c8 m8 gZ fG=>⟨trivial,TmI.next aW gE (mLt hm i9) (mLt (Mem.le_add nA _) gZ) fG (λx hx=>(bB x hx).mono i9) (ZhN (by omega) bH ⟨by omega,by omega⟩) iA (.var s (.inl jU)) ie (λh=>absurd (show(2:Int)=1 from h) (by decide))⟩
 refine⟨λxs _ _ m'=>xs=[.bool (decide (k=5\/k=6))]/\m4.le m',Zab (λh=>⟨trivial,trivial,?_,Mem.le_refl _⟩) (λh=>⟨trivial,trivial,?_,Mem.le_refl _⟩),?_⟩
 ·have:k=5:=by simp at h;omega
  rw[h,this];rfl
 ·have:¬k=5:=by simp at h;omega
  refine Zaf ?_
  rw[Bool.eq_iff_iff];simp;omega
 rintro b4 m5 cP ⟨nV,_⟩
 obtain rfl:b4=decide (k=5\/k=6):=by simpa using nV
 have i9:=mLt jn cP
 refine Zau (λwo=>?_) (λwo=>?_)
 ·refine Zau (λhp=>?_) (λhp=>⟨trivial,stay m5 i9⟩)
  obtain⟨C,mj,rU,hC⟩:∃C:Nat,(C:Int)<=c/\C<=9/\IntKind.i64.wrap ((if(9:Int) < c then(9:Int)else c)+1)=((C+1:Nat):Int):=by
   by_cases h9:9 < c
   ·exact⟨9,by omega,by omega,by rw[if_pos h9];rfl⟩
   ·refine⟨c.toNat,by omega,by omega,?_⟩
    rw[if_neg h9,Zam (by omega) (by omega)];omega
  have lK:Int.tmod (u:Int) ((C+1:Nat):Int)=((u % (C+1):Nat):Int):=rfl
  have aO:u % (C+1) < C+1:=Nat.mod_lt _ (by omega)
  simp only[hC,lK]
  refine⟨by omega,λb6 iz=>?_⟩
  refine ZhM Pt.len Pt.one iz (⟨3,.empty,((u % (C+1):Nat):Int),E0⟩:Pt) (aM.mono i9) 96 (by omega) (by omega) (.inl trivial) λa8 c8 m8 gZ fG=>⟨trivial,TmI.next aW gE (mLt hm i9) (mLt (Mem.le_add iz _) gZ) fG (λx hx=>(bB x hx).mono i9) (ZhN (by omega) (by rw[ZaH];omega) ⟨by omega,by omega⟩) iA (.cap _ (by omega)) ie (λh=>absurd (show(3:Int)=1 from h) (by decide))⟩
 ·intro b6 iz
  have px:=Mem.le_add iz (⟨4,.empty,0,e⟩:Pt).cs
  refine ZhM Pt.len Pt.one iz (⟨4,.empty,0,e⟩:Pt) (aM.mono i9) 96 (by omega) (by omega) (.inl trivial) λa8 c8 m8 gZ fG=>⟨trivial,TmI.next aW gE (mLt hm i9) (mLt px gZ) fG (λx hx=>(bB x hx).mono i9) ⟨by show(0:Int)<=4/\(4:Int) < 256;omega,by show ByteArray.empty.size<=_;rw[ZaH];omega,⟨by show(-9223372036854775808:Int)<=0;omega,by show(0:Int)<=9223372036854775807;omega⟩,hr.mono' (mLt qz (mLt i9 (mLt px gZ)))⟩ iA (.clc e he) ie (λh=>absurd (show(4:Int)=1 from h) (by decide))⟩
theorem ZBf(i:Nat):Int.tdiv (i:Int) 64=((i / 64:Nat):Int):=rfl
theorem ZAz(i:Nat):Int.tmod (i:Int) 64=((i % 64:Nat):Int):=rfl
theorem ZBg{n:Int}(h1:0<=n)(h2:n < 256):IntKind.u8.wrap n=n:=by
 unfold IntKind.wrap
 simp only[IntKind.bits,IntKind.signed,Bool.false_and,Bool.false_eq_true,if_false]
 have e:(2:Int) ^ 8=256:=by decide
 rw[e];omega
theorem Zwy(t:T)(m:Mem)(hr:Rep m t):CX Tryz.prog 102 #[t.v] m [] (Zot (λu=>∃a c,u=Zb8 6 0 0 a c [t])):=by
 apply ZiZ
 intro b m1 aB _ b1 b2 hf
 have bJ:=Mem.le_add hf t.cs
 refine ZaJ (mLt aB bJ) ⟨Zb8 6 0 0 (some ⟨b2,0,none⟩) 1 [t],rfl,Zf1 (Zrv ?_ (hr.mono (mLt aB bJ))) (by omega) (by omega) (by omega),_,_,rfl⟩
 intro j v hj
 rw[Nat.zero_add,Mem.add_same];exact hj
theorem Zyk(t:T)(mn mx:Int)(h1 : -9223372036854775808<=mn/\mn<=9223372036854775807)(h2 : -9223372036854775808<=mx/\mx<=9223372036854775807)(m:Mem)(hr:Rep m t):CX Tryz.prog 103 #[t.v,.int .i64 mn,.int .i64 mx] m [] (Zot (λu=>∃a c,u=Zb8 5 mn mx a c [t])):=by
 apply Zm8
 intro b m1 aB _ b1 b2 hf
 have bJ:=Mem.le_add hf t.cs
 refine ZaJ (mLt aB bJ) ⟨Zb8 5 mn mx (some ⟨b2,0,none⟩) 1 [t],rfl,Zf1 (Zrv ?_ (hr.mono (mLt aB bJ))) (by omega) h1 h2,_,_,rfl⟩
 intro j v hj
 rw[Nat.zero_add,Mem.add_same];exact hj
def Zeq(s:ByteArray):List Nat:=s.data.toList.map λb=>b.toNat
theorem Zq1(s:ByteArray):(Zeq s).length=s.size:=by unfold Zeq;rw[List.length_map,Array.length_toList];rfl
theorem Zt8(s:ByteArray):∀c∈Zeq s,c < 256:=by
 intro c hc
 unfold Zeq at hc
 obtain⟨b,_,rfl⟩:=List.mem_map.1 hc
 exact b.toBitVec.isLt
theorem Zwz{s:ByteArray}{k c:Nat}(h:(Zeq s)[k]?=some c):ZgI s k=(c:Int):=by
 unfold Zeq at h
 rw[List.getElem?_map]at h
 obtain⟨b,hb,rfl⟩:=Option.map_eq_some_iff.1 h
 unfold ZgI
 rw[List.getD_eq_getElem?_getD,hb];rfl
theorem ZpA(s:ByteArray)(hs:(Zeq s).length<=100000)(m:Mem):CX Tryz.prog 99 #[.string s] m [] (Zot (λt=>t=Zj0 (Zeq s))):=by
 apply Zi0
 intro b b1
 have aZ:=Zq1 s
 refine⟨λxs css tvs m' q=>∃k:Nat,k<=s.size/\xs=[.int .i64 k]/\css=[ZuR ((Zeq s).take k)]/\q=s.size - k,⟨_,0,by omega,rfl,rfl,rfl⟩,?_⟩
 rintro n cs m1 q aB ⟨k,hk,hn,cK,hq⟩
 obtain rfl:n=k:=by simpa using hn
 obtain rfl:cs=ZuR ((Zeq s).take k):=by simpa using cK
 refine Zab (λaO=>?_) (λbM=>?_)
 ·have aW:k < s.size:=by have:=zA6 aO;omega
  obtain⟨c,hc⟩:=ZaP (l:=Zeq s) (k:=k) (by omega)
  have py:=Zt8 s c (zA2 hc)
  have hw:IntKind.i64.wrap ((k:Int)+1)=((k+1:Nat):Int):=by rw[Zam (by omega) (by omega)];rfl
  have sg:IntKind.u8.wrap (Int.tdiv (c:Int) 64)=((c / 64:Nat):Int):=by rw[ZBf];exact ZBg (by omega) (by omega)
  have hr:IntKind.u64.wrap (1*2 ^ min (Int.toNat (Int.tmod (c:Int) 64)) 64)=((2 ^ (c % 64):Nat):Int):=by
   rw[ZAz,zA8,Nat.min_eq_left (by omega),Int.one_mul]
   have:=ZAf (2 ^ (c % 64)) (by
    have:2 ^ (c % 64) < 2 ^ 64:=Nat.pow_lt_pow_right (by omega) (by omega)
    exact this)
   rw[<-this];push_cast;rfl
  have h2:(2:Nat) ^ (c % 64) < 18446744073709551616:=by
   have:(2:Nat) ^ (c % 64) < 2 ^ 64:=Nat.pow_lt_pow_right (by omega) (by omega)
   exact this
  have hj:c / 64 < 4:=by omega
  simp only[hw,zA8,Zwz hc,sg,hr,Nat.zero_add,Nat.mul_one]
  refine⟨⟨by omega,by omega⟩,by omega,⟨by omega,by omega⟩,Zap (Zs7 _ hj) ⟨⟨by omega,by omega⟩,by omega,by rw[ZAz];omega,Zaa rfl ⟨⟨by omega,by omega⟩,Zaa (by rw[Nat.ble_eq];show c / 64+1<=4;omega) ⟨by trivial,s.size - (k+1),by omega,k+1,by omega,rfl,?_,rfl⟩⟩⟩⟩
  simp only[intOf]
  rw[ZvM _ _ (ZuQ _ _) h2,Zqz _ rfl hj,Zru hc]
 ·have:k=s.size:=by have:=of_decide_eq_false bM;omega
  subst this
  rw[<-aZ,List.take_length]
  exact Zaa rfl (Zaa rfl (Zac aB ⟨Zj0 (Zeq s),rfl,Zou _ m,rfl⟩))
theorem Zq2(n:Nat)(hn:n < 256)(m:Mem):CX Tryz.prog 100 #[.int .u8 n] m [] (λv _ _=>∃s,v=.string s/\Zeq s=Zdo n):=by
 apply Zgy
 intro b hf
 have ht:Int.tmod (n:Int) 12=((n % 12:Nat):Int):=rfl
 simp only[ht,zA8,Nat.mul_one]
 refine⟨by omega,⟨by omega,by omega⟩,?_⟩
 have h:n % 12=0\/n % 12=1\/n % 12=2\/n % 12=3\/n % 12=4\/n % 12=5\/n % 12=6\/n % 12=7\/n % 12=8\/n % 12=9\/n % 12=10\/n % 12=11:=by omega
 unfold Zdo
 rcases h with e|e|e|e|e|e|e|e|e|e|e|e <;>
 ·rw[e]
  refine Zap rfl ?_
  exact⟨_,Mem.le_add hf _,Mem.le_refl _,_,rfl,rfl⟩
theorem ZeN(k:Int)(t:T):ZaW k t=if t.k=k then t.subs else if k=3/\t.k=1 then[]else[t]:=rfl
theorem ZdP(l:List T):∀u∈Rx.ZcL l,u.oneCell'=true:=by
 intro u hu
 simp only[Rx.ZcL,List.mem_flatten,List.mem_map]at hu
 obtain⟨_,⟨t,_,rfl⟩,h⟩:=hu
 simp only[T.cs,List.mem_cons,List.not_mem_nil,or_false,T.sl]at h
 rcases h with rfl|rfl|rfl|rfl|rfl|rfl|rfl|rfl <;> rfl
theorem Znz(k:Int)(t u:T)(hk:k=3\/k=4)(m:Mem)(hr:Rep m t)(hu:Rep m u)(ht:(ZaW k t).length<=10000)(wp:(ZaW k u).length<=10000):CX Tryz.prog 101 #[.int .u8 k,t.v,u.v] m [] (Zot (λr=>∃a c,r=Zfl k a c (ZaW k t++ZaW k u))):=by
 apply Zi1
 intro b m1 aB _ b1 m2 aN _ b2 b3 iQ
 have gL:=mLt aB aN
 have iB:m.le (m2.add b3 (t.cs++u.cs)):=mLt gL (Mem.le_add iQ _)
 refine⟨λxs css tvs m' q=>∃(i:Nat)(l:List T)(a:Option Addr)(c:Nat),i<=2/\xs=[.slice a l.length c,.int .i64 i]/\tvs=[.slice a l.length c]/\l=(([t,u].take i).map (ZaW k)).flatten/\rowRd m' a (Rx.ZcL l)/\q=2 - i,⟨2,0,[],none,0,by omega,rfl,rfl,rfl,.inl rfl,rfl⟩,?_⟩
 rintro a n c z a1 n1 c1 m3 q aX ⟨i,l,a',c',hi,cZ,cY,hl,aM,hq⟩
 simp only[List.cons.injEq,Value.slice.injEq,Value.int.injEq,true_and,and_true]at cZ cY
 obtain⟨⟨rfl,rfl,rfl⟩,rfl⟩:=cZ
 obtain⟨rfl,rfl,rfl⟩:=cY
 have js:=mLt iB aX
 have ie:l.length<=20000:=by
  rw[hl]
  have:i=0\/i=1\/i=2:=by omega
  rcases this with rfl|rfl|rfl <;> simp <;> omega
 refine Zab (λaO=>?_) (λbM=>?_)
 ·have h2:i=0\/i=1:=by have:=zA6 aO;omega
  rcases h2 with rfl|rfl
  ·
   refine⟨⟨by omega,by omega⟩,Zaa rfl λb4=>Zaa rfl (Zap (v:=.int .u8 t.k) rfl (Zaa rfl (Zab (λdJ=>Zap (v:=t.sl) rfl (Zaa rfl ?_)) (λdJ=>?_))))⟩
   ·have gH:t.k=k:=by simpa[RowKit.intOf]using dJ
    have hj:ZaW k t=t.subs:=by rw[ZeN,if_pos gH]
    have aZ:=ht
    rw[hj]at aZ
    refine⟨.inl rfl,Rx.ZcL l,Rx.ZcL t.subs,Zar _,Zar _,aM,(Zeg (hr.subs)).mono js,ZdP _,?_,?_,λa2 c2 m4 bI cW=>⟨by trivial,1,by omega,1,l++t.subs,a2,c2,by omega,?_,?_,?_,?_,?_⟩⟩
    ·simp only[T.sl,slN];omega
    ·simp only[T.sl,slN];omega
    ·rw[zA1];rfl
    ·rw[zA1];rfl
    ·rw[hl,<-hj];simp
    ·rw[ZaG];exact cW
    ·omega
   ·have gH:¬t.k=k:=by simpa[RowKit.intOf]using dJ
    refine⟨k == 3&&t.k == 1,Zab (λh=>Zap (v:=.int .u8 t.k) rfl (Zaa rfl ⟨by trivial,by trivial,?_⟩)) (λh=>⟨by trivial,by trivial,?_⟩),Zab (λh=>⟨by trivial,1,by omega,1,l,_,_,by omega,rfl,rfl,?_,aM,by omega⟩) (λh=>Zaa rfl λb6 iz=>?_)⟩
    ·rw[h];rfl
    ·rw[h];rfl
    ·have:k=3/\t.k=1:=by simpa using h
     have hj:ZaW k t=[]:=by rw[ZeN,if_neg gH,if_pos this]
     rw[hl];simp[hj]
    ·have:¬(k=3/\t.k=1):=by simpa using h
     have hj:ZaW k t=[t]:=by rw[ZeN,if_neg gH,if_neg this]
     have gT:=Mem.le_add iz t.cs
     refine⟨.inl rfl,Rx.ZcL l,t.cs,Zar _,rfl,aM.mono gT,.inr ⟨b6,0,rfl,λj v hj=>by rw[Nat.zero_add,Mem.add_same];exact hj⟩,by rw[<-Zbq];exact ZdP _,by omega,by omega,λa2 c2 m4 bI cW=>⟨by trivial,1,by omega,1,l++[t],a2,c2,by omega,?_,?_,?_,?_,?_⟩⟩
     ·rw[zA1];rfl
     ·rw[zA1];rfl
     ·rw[hl];simp[hj]
     ·rw[ZaG,Zbq];exact cW
     ·omega
  ·
   refine⟨⟨by omega,by omega⟩,Zaa rfl λb4=>Zaa rfl (Zap (v:=.int .u8 u.k) rfl (Zaa rfl (Zab (λdJ=>Zap (v:=u.sl) rfl (Zaa rfl ?_)) (λdJ=>?_))))⟩
   ·have gH:u.k=k:=by simpa[RowKit.intOf]using dJ
    have hj:ZaW k u=u.subs:=by rw[ZeN,if_pos gH]
    have aZ:=wp
    rw[hj]at aZ
    refine⟨.inl rfl,Rx.ZcL l,Rx.ZcL u.subs,Zar _,Zar _,aM,(Zeg (hu.subs)).mono js,ZdP _,?_,?_,λa2 c2 m4 bI cW=>⟨by trivial,0,by omega,2,l++u.subs,a2,c2,by omega,?_,?_,?_,?_,?_⟩⟩
    ·simp only[T.sl,slN];omega
    ·simp only[T.sl,slN];omega
    ·rw[zA1];rfl
    ·rw[zA1];rfl
    ·rw[hl,<-hj];simp
    ·rw[ZaG];exact cW
    ·omega
   ·have gH:¬u.k=k:=by simpa[RowKit.intOf]using dJ
    refine⟨k == 3&&u.k == 1,Zab (λh=>Zap (v:=.int .u8 u.k) rfl (Zaa rfl ⟨by trivial,by trivial,?_⟩)) (λh=>⟨by trivial,by trivial,?_⟩),Zab (λh=>⟨by trivial,0,by omega,2,l,_,_,by omega,rfl,rfl,?_,aM,by omega⟩) (λh=>Zaa rfl λb6 iz=>?_)⟩
    ·rw[h];rfl
    ·rw[h];rfl
    ·have:k=3/\u.k=1:=by simpa using h
     have hj:ZaW k u=[]:=by rw[ZeN,if_neg gH,if_pos this]
     rw[hl];simp[hj]
    ·have:¬(k=3/\u.k=1):=by simpa using h
     have hj:ZaW k u=[u]:=by rw[ZeN,if_neg gH,if_neg this]
     have gT:=Mem.le_add iz u.cs
     refine⟨.inl rfl,Rx.ZcL l,u.cs,Zar _,rfl,aM.mono gT,.inr ⟨b6,0,rfl,λj v hj=>by rw[Nat.zero_add,Mem.add_same];exact hj⟩,by rw[<-Zbq];exact ZdP _,by omega,by omega,λa2 c2 m4 bI cW=>⟨by trivial,0,by omega,2,l++[u],a2,c2,by omega,?_,?_,?_,?_,?_⟩⟩
     ·rw[zA1];rfl
     ·rw[zA1];rfl
     ·rw[hl];simp[hj]
     ·rw[ZaG,Zbq];exact cW
     ·omega
 ·have:i=2:=by have:=of_decide_eq_false bM;omega
  subst this
  have hl':ZaW k t++ZaW k u=l:=by rw[hl];simp
  rw[hl']
  have bB:∀x∈l,Rep m3 x:=by
   have key:∀t:T,Rep m t->∀x∈ZaW k t,Rep m3 x:=by
    intro t hr x hx
    rw[ZeN]at hx
    split at hx
    ·exact ZjZ (hr.subs.mono js) x hx
    ·split at hx
     ·simp at hx
     ·simp at hx;subst hx;exact hr.mono js
   rw[<-hl']
   intro x hx
   rcases List.mem_append.1 hx with hx|hx
   ·exact key t hr x hx
   ·exact key u hu x hx
  refine Zab (λh0=>?_) (λh0=>Zab (λh1=>?_) (λh1=>?_))
  ·have:l=[]:=by simpa using h0
   subst this
   exact Zac js ⟨T1,rfl,ZxH _,none,0,rfl⟩
  ·have qp:l.length=1:=by
    have:((l.length:Int) == 1)=true:=h1
    have:=zA6 this;omega
   obtain⟨x,rfl⟩:∃x,l=[x]:=by
    match l,qp with
    | [x],_=>exact⟨x,rfl⟩
   rcases aM with aM|⟨b6,o,ha,cC⟩
   ·simp[Rx.ZcL,T.cs]at aM
   ·rw[Zbq]at cC
    exact⟨b6,o,ha,⟨by omega,by simp⟩,_,_,_,_,_,_,_,_,cC,Zaa rfl (ZaJ js ⟨x,rfl,bB x (by simp),none,0,rfl⟩)⟩
  ·have wq:¬l.length=0:=λe=>by rw[e]at h0;simp at h0
   have j1:¬l.length=1:=λe=>by rw[e]at h1;simp at h1
   obtain⟨x,y,r,rfl⟩:∃x y r,l=x::y::r:=by
    match l,wq,j1 with
    | [],h,_=>simp at h
    | [x],_,h=>simp at h
    | x::y::r,_,_=>exact⟨x,y,r,rfl⟩
   refine ZaJ js ⟨Zb8 k 0 0 _ _ (x::y::r),rfl,Zf1 (ZuP aM bB (by omega)) (by omega) (by omega) (by omega),_,_,rfl⟩
structure Sm (m:Mem)(a:Option Addr)(l:List (Nat×Nat×Nat)):Prop where
 len:l.length<=9223372036854775807
 byte:∀s∈l,s.1 < 256/\s.2.1 < 256/\s.2.2 < 256
 at':∀i s,l[i]?=some s->∃b o,a=some ⟨b,o,none⟩/\m.reads b (o+i*3) [.int .u8 s.1,.int .u8 s.2.1,.int .u8 s.2.2]
theorem Sm.mono{m m':Mem}{a l}(h:Sm m a l)(hm:m.le m'):Sm m' a l:=
 ⟨h.len,h.byte,λi s hi=>by obtain⟨b,o,h1,h2⟩:=h.at' i s hi;exact⟨b,o,h1,h2.mono hm⟩⟩
theorem ZpB(n:Nat):(([[97],[98],[97,98],[97],[98],[99],[97,98,99],[98,99],[10],[0,255],[97],[98]][n % 12]?).getD []:List Nat).length<=100000:=by
 have h:n % 12=0\/n % 12=1\/n % 12=2\/n % 12=3\/n % 12=4\/n % 12=5\/n % 12=6\/n % 12=7\/n % 12=8\/n % 12=9\/n % 12=10\/n % 12=11:=by omega
 rcases h with e|e|e|e|e|e|e|e|e|e|e|e <;> rw[e] <;> decide
theorem Zyl:∀L < 3,∀Mo < 4,((Mo < L\/Mo=0\/(L=1/\Mo=1))->ZjY (L:Nat) (-1)=true/\ZvL (L:Nat) (-1)<=((max 1 L:Nat):Int))/\(¬(Mo < L\/Mo=0\/(L=1/\Mo=1))->ZjY (L:Nat) (Mo:Nat)=true/\ZvL (L:Nat) (Mo:Nat)<=((max 1 (max L Mo):Nat):Int)):=by
 intro L hL Mo hM
 have h1:L=0\/L=1\/L=2:=by omega
 have h2:Mo=0\/Mo=1\/Mo=2\/Mo=3:=by omega
 rcases h1 with rfl|rfl|rfl <;> rcases h2 with rfl|rfl|rfl|rfl <;> exact⟨λ_=>by first|exact⟨by decide,by decide⟩|omega,λ_=>by first|exact⟨by decide,by decide⟩|omega⟩
theorem Zt9(l:List (Nat×Nat×Nat))(a:Option Addr)(c:Nat)(m:Mem)(hl:Sm m a l)(hc:l.length<=c):CX Tryz.prog 65 #[.slice a l.length c] m [] (Zot (λt=>t.check=0/\t.nodes.length<=26)):=by
 apply ZkZ
 have aZ:=hl.len
 intro b
 have hN:(if(25:Int) < (l.length:Int)then(25:Int)else(l.length:Int))=((min 25 l.length:Nat):Int):=by split <;> omega
 simp only[hN,zA8,Nat.sub_zero]
 generalize qx:min 25 l.length=N
 refine⟨⟨by omega,by omega⟩,λxs css tvs m' q=>∃(i:Nat)(ts:List T)(a:Option Addr)(c:Nat)(u g:Nat)(mb:Mem),i<=N/\xs=[.slice a ts.length c,.int .i64 u,.int .i64 g,.int .i64 i]/\tvs=[.slice a ts.length c]/\ts.length<=c/\m.le mb/\mb.le m'/\Apart mb a/\rowRd m' a (Rx.ZcL ts)/\(∀t∈ts,Rep mb t)/\J i ts u g/\q=N - i,⟨N,0,[],none,0,1,0,m,by omega,rfl,rfl,by simp,Mem.le_refl _,Mem.le_refl _,.inl rfl,.inl rfl,by simp,J.zero,by omega⟩,?_⟩
 rintro a1 n1 c1 z1 z2 z3 a2 n2 c2 m1 q _ ⟨i,ts,a',c',u,g,mb,hi,cZ,cY,cQ,fH,cR,dY,aM,bB,hJ,hq⟩
 simp only[List.cons.injEq,Value.slice.injEq,Value.int.injEq,true_and,and_true]at cZ cY
 obtain⟨⟨rfl,rfl,rfl⟩,rfl,rfl,rfl⟩:=cZ
 obtain⟨rfl,rfl,rfl⟩:=cY
 have jY:ts.length<=25:=by have:=hJ.sz;have:=ZoA ts;omega
 refine Zab (λaO=>?_) (λbM=>?_)
 ·have qy:i < N:=by have:=zA6 aO;omega
  have hi':i < l.length:=by omega
  obtain⟨s,hs⟩:=ZaP hi'
  obtain⟨bs,os,ha,cC⟩:=(hl.mono (mLt fH cR)).at' i s hs
  obtain⟨s1,s2,s3⟩:=s
  obtain⟨pq,lx,md⟩:=hl.byte _ (zA2 hs)
  have hw:IntKind.i64.wrap ((i:Int)+1)=((i+1:Nat):Int):=by rw[Zam (by omega) (by omega)];rfl
  have nv:Int.tmod (intOf (Value.int .u8 (s1:Nat))) 12=((s1 % 12:Nat):Int):=rfl
  simp only[hw,zA8]
  refine⟨bs,os,ha,⟨by omega,by omega⟩,_,_,_,cC,λb2=>Zaa rfl (Zaa rfl ⟨by omega,?_⟩)⟩
  simp only[nv]
  refine Zab (λh1=>?_) (λh1=>Zab (λh2=>?_) (λh2=>?_))
  ·refine Zai (Zq2 s2 lx m1) (λv _ _ ⟨s,e,_⟩=>by rw[e];rfl) ?_
   rintro str m2 aN ⟨s',hv,hb⟩
   cases hv
   refine Zai (ZpA str (by rw[hb];unfold Zdo;exact ZpB _) m2) Zff (Zqy λt m3 aX hr ht b3 iQ=>?_)
   rw[hb]at ht
   have iB:=mLt aN (mLt aX (Mem.le_add iQ t.cs))
   obtain⟨k1,k2,k3,k4⟩:=ZrB s2
   refine⟨.inl trivial,Rx.ZcL ts,t.cs,Zar _,rfl,aM.mono (iB),.inr ⟨b3,0,rfl,λj v hj=>by rw[Nat.zero_add,Mem.add_same];exact hj⟩,by rw[<-Zbq];exact ZdP _,by omega,by omega,λa4 c4 m4 bI cW bD=>⟨by trivial,N - (i+1),by omega,i+1,ts++[t],a4,c4,u,g,mb,by omega,?_,?_,by have:=bD.1;rw[zA1];exact this,fH,mLt cR (mLt (iB) bI),dY.tok (mLt cR (iB)) bD,?_,?_,?_,by omega⟩⟩
   ·rw[zA1];rfl
   ·rw[zA1];rfl
   ·rw[ZaG,Zbq];exact cW
   ·intro x hx
    rcases List.mem_append.1 hx with hx|hx
    ·exact bB x hx
    ·simp at hx;subst hx;exact(by rw[ht];exact Zou _ _)
   ·rw[ht];exact hJ.push k1 k2 k3 k4
  ·intro b3 iQ
   have iB:=Mem.le_add iQ T1.cs
   refine⟨.inl trivial,Rx.ZcL ts,T1.cs,Zar _,rfl,aM.mono (iB),.inr ⟨b3,0,rfl,λj v hj=>by rw[Nat.zero_add,Mem.add_same];exact hj⟩,by rw[<-Zbq];exact ZdP _,by omega,by omega,λa4 c4 m4 bI cW bD=>⟨by trivial,N - (i+1),by omega,i+1,ts++[T1],a4,c4,u,g,mb,by omega,?_,?_,by have:=bD.1;rw[zA1];exact this,fH,mLt cR (mLt (iB) bI),dY.tok (mLt cR (iB)) bD,?_,?_,?_,by omega⟩⟩
   ·rw[zA1];rfl
   ·rw[zA1];rfl
   ·rw[ZaG,Zbq];exact cW
   ·intro x hx
    rcases List.mem_append.1 hx with hx|hx
    ·exact bB x hx
    ·simp at hx;subst hx;exact ZxH _
   ·exact hJ.push ZxL.1 ZxL.2.1 ZxL.2.2.1 ZxL.2.2.2
  ·refine⟨decide (s1 % 12 < 7)&&decide (1 < ts.length),Zab (λh3=>⟨by trivial,by trivial,?_⟩) (λh3=>⟨by trivial,by trivial,?_⟩),Zab (λh3=>?_) (λh3=>?_)⟩
   ·refine Zaf ?_
    rw[Bool.eq_iff_iff];simp;have:=zA6 h3;omega
   ·refine Zaf ?_
    rw[eq_comm,Bool.and_eq_false_iff];left;have:=of_decide_eq_false h3;exact decide_eq_false (by omega)
   ·skip
    obtain⟨r,x,y,rfl⟩:=ZAt (ts:=ts) (by simp at h3;omega)
    have gw:(r++[x,y]).length=r.length+2:=by simp
    have iv:IntKind.i64.wrap (((r++[x,y]).length:Int) - 2)=(r.length:Int):=by rw[gw,Zam (by omega) (by omega)];omega
    have iL:IntKind.i64.wrap (((r++[x,y]).length:Int) - 1)=((r.length+1:Nat):Int):=by rw[gw,Zam (by omega) (by omega)];omega
    simp only[iv,iL,zA8,Nat.sub_zero]
    obtain⟨bb,jp,iF,o',u',hu'⟩:=dY.base aM (by simp)
    obtain⟨bx,ox,jq,iG⟩:=ZdG aM (i:=r.length) (t:=x) (by simp)
    obtain⟨by',oy,pu,pw⟩:=ZdG aM (i:=r.length+1) (t:=y) (by simp)
    have si:(ZaW 3 x).length<=10000:=by
     have:=hJ.sz
     rw[ZaD,show szL [x,y]=szL ([x]++[y]) from rfl,ZaD,Zbf,Zbf]at this
     have:=Zei (k:=3) (t:=x)
     omega
    have sj:(ZaW 3 y).length<=10000:=by
     have:=hJ.sz
     rw[ZaD,show szL [x,y]=szL ([x]++[y]) from rfl,ZaD,Zbf,Zbf]at this
     have:=Zei (k:=3) (t:=y)
     omega
    refine⟨λ_ _ _=>ZpY mb m1 (λr=>∃a c,r=Zfl 3 a c (ZaW 3 x++ZaW 3 y)),⟨by omega,by omega⟩,⟨by omega,by omega⟩,bx,ox,jq,⟨by omega,by omega⟩,_,_,_,_,_,_,_,_,iG,by',oy,pu,⟨by omega,by omega⟩,_,_,_,_,_,_,_,_,pw,ZpY mb m1 (λr=>∃a c,r=Zfl 3 a c (ZaW 3 x++ZaW 3 y)),rfl,(Znz 3 x y (by omega) mb (bB x (by simp)) (bB y (by simp)) si sj).frame2 cR,Zdm,Zjt λt m0 m3 aX h0 iH cF gx ht b6 iz=>?_⟩
    obtain⟨at',ct,ht⟩:=ht
    have gT:=Mem.le_add iz t.cs
    have fF:Apart m0 _:=.inr ⟨bb,jp,λo=>by rw[cF bb o' u' hu' o];exact iF o⟩
    refine⟨.inr (.inr (by omega)),Rx.ZcL r,t.cs,Zar _,rfl,((Zr0 aM).mono aX).mono gT,.inr ⟨b6,0,rfl,λj v hj=>by rw[Nat.zero_add,Mem.add_same];exact hj⟩,by rw[<-Zbq];exact ZdP _,by omega,by omega,λa4 c4 m4 bI cW bD M i7 gD iq jr=>⟨by trivial,N - (i+1),by omega,i+1,r++[t],a4,c4,u,g,m0,by omega,?_,?_,by have:=bD.1;rw[zA1];exact this,mLt fH h0,mLt iH gD,fF.tok (mLt iH gT) bD,?_,?_,?_,by omega⟩⟩
    ·rw[zA1];rfl
    ·rw[zA1];rfl
    ·rw[ZaG,Zbq];exact cW.mono jr
    ·intro z hz
     rcases List.mem_append.1 hz with hz|hz
     ·exact(bB z (by simp[hz])).mono h0
     ·simp at hz;subst hz;exact gx
    ·rw[ht];exact hJ.join (by omega) (by omega) _ _
   ·refine⟨decide (s1 % 12 < 9)&&decide (1 < ts.length),Zab (λh4=>⟨by trivial,by trivial,?_⟩) (λh4=>⟨by trivial,by trivial,?_⟩),Zab (λh4=>?_) (λh4=>?_)⟩
    ·refine Zaf ?_
     rw[Bool.eq_iff_iff];simp;have:=zA6 h4;omega
    ·refine Zaf ?_
     rw[eq_comm,Bool.and_eq_false_iff];left;have:=of_decide_eq_false h4;exact decide_eq_false (by omega)
    ·skip
     obtain⟨r,x,y,rfl⟩:=ZAt (ts:=ts) (by simp at h4;omega)
     have gw:(r++[x,y]).length=r.length+2:=by simp
     have iv:IntKind.i64.wrap (((r++[x,y]).length:Int) - 2)=(r.length:Int):=by rw[gw,Zam (by omega) (by omega)];omega
     have iL:IntKind.i64.wrap (((r++[x,y]).length:Int) - 1)=((r.length+1:Nat):Int):=by rw[gw,Zam (by omega) (by omega)];omega
     simp only[iv,iL,zA8,Nat.sub_zero]
     obtain⟨bb,jp,iF,o',u',hu'⟩:=dY.base aM (by simp)
     obtain⟨bx,ox,jq,iG⟩:=ZdG aM (i:=r.length) (t:=x) (by simp)
     obtain⟨by',oy,pu,pw⟩:=ZdG aM (i:=r.length+1) (t:=y) (by simp)
     have si:(ZaW 4 x).length<=10000:=by
      have:=hJ.sz
      rw[ZaD,show szL [x,y]=szL ([x]++[y]) from rfl,ZaD,Zbf,Zbf]at this
      have:=Zei (k:=4) (t:=x)
      omega
     have sj:(ZaW 4 y).length<=10000:=by
      have:=hJ.sz
      rw[ZaD,show szL [x,y]=szL ([x]++[y]) from rfl,ZaD,Zbf,Zbf]at this
      have:=Zei (k:=4) (t:=y)
      omega
     refine⟨λ_ _ _=>ZpY mb m1 (λr=>∃a c,r=Zfl 4 a c (ZaW 4 x++ZaW 4 y)),⟨by omega,by omega⟩,⟨by omega,by omega⟩,bx,ox,jq,⟨by omega,by omega⟩,_,_,_,_,_,_,_,_,iG,by',oy,pu,⟨by omega,by omega⟩,_,_,_,_,_,_,_,_,pw,ZpY mb m1 (λr=>∃a c,r=Zfl 4 a c (ZaW 4 x++ZaW 4 y)),rfl,(Znz 4 x y (by omega) mb (bB x (by simp)) (bB y (by simp)) si sj).frame2 cR,Zdm,Zjt λt m0 m3 aX h0 iH cF gx ht b6 iz=>?_⟩
     obtain⟨at',ct,ht⟩:=ht
     have gT:=Mem.le_add iz t.cs
     have fF:Apart m0 _:=.inr ⟨bb,jp,λo=>by rw[cF bb o' u' hu' o];exact iF o⟩
     refine⟨.inr (.inr (by omega)),Rx.ZcL r,t.cs,Zar _,rfl,((Zr0 aM).mono aX).mono gT,.inr ⟨b6,0,rfl,λj v hj=>by rw[Nat.zero_add,Mem.add_same];exact hj⟩,by rw[<-Zbq];exact ZdP _,by omega,by omega,λa4 c4 m4 bI cW bD M i7 gD iq jr=>⟨by trivial,N - (i+1),by omega,i+1,r++[t],a4,c4,u,g,m0,by omega,?_,?_,by have:=bD.1;rw[zA1];exact this,mLt fH h0,mLt iH gD,fF.tok (mLt iH gT) bD,?_,?_,?_,by omega⟩⟩
     ·rw[zA1];rfl
     ·rw[zA1];rfl
     ·rw[ZaG,Zbq];exact cW.mono jr
     ·intro z hz
      rcases List.mem_append.1 hz with hz|hz
      ·exact(bB z (by simp[hz])).mono h0
      ·simp at hz;subst hz;exact gx
     ·rw[ht];exact hJ.join (by omega) (by omega) _ _
    ·refine⟨decide (s1 % 12=9)&&(decide (0 < ts.length)&&decide (g < 9)),Zab (λh5=>Zab (λh6=>⟨by trivial,by trivial,?_⟩) (λh6=>⟨by trivial,by trivial,?_⟩)) (λh5=>⟨by trivial,by trivial,?_⟩),Zab (λh5=>?_) (λh5=>?_)⟩
     ·refine Zaf ?_
      have e1:=zA6 h6
      have e2:s1 % 12=9:=by have:=h5;simp at this;omega
      rw[decide_eq_true e2,decide_eq_true (show 0 < ts.length by omega),Bool.true_and,Bool.true_and,Bool.eq_iff_iff];simp;omega
     ·refine Zaf ?_
      have e1:=of_decide_eq_false h6
      rw[decide_eq_false (show ¬0 < ts.length by omega)];simp
     ·refine Zaf ?_
      have e2:¬s1 % 12=9:=by have:=h5;simp at this;omega
      rw[decide_eq_false e2];rfl
     ·
      have wt:g < 9:=by simp at h5;omega
      skip
      obtain⟨r,x,rfl⟩:=ZAu (ts:=ts) (by simp at h5;omega)
      have gw:(r++[x]).length=r.length+1:=by simp
      have iL:IntKind.i64.wrap (((r++[x]).length:Int) - 1)=(r.length:Int):=by rw[gw,Zam (by omega) (by omega)];omega
      obtain⟨bb,jp,iF,o',u',hu'⟩:=dY.base aM (by simp)
      subst jp
      obtain⟨bx,ox,jq,iG⟩:=ZdG aM (i:=r.length) (t:=x) (by simp)
      cases jq
      have sk:IntKind.i64.wrap ((g:Int)+1)=((g+1:Nat):Int):=by rw[Zam (by omega) (by omega)];rfl
      simp only[iL,sk,zA8]
      refine⟨_,_,rfl,⟨by omega,by omega⟩,_,_,_,_,_,_,_,_,iG,Zai ((Zwy x mb (bB x (by simp))).frame2 cR) (Zdm (mb:=mb) (M0:=m1)) (Zjt λt m0 m3 aX h0 iH cF gx ht=>?_)⟩
      obtain⟨at',ct,ht⟩:=ht
      have fF:m0.free bb:=λo=>by rw[cF bb o' u' hu' o];exact iF o
      refine⟨bb,0,rfl,⟨by omega,by omega⟩,rfl,by omega,by trivial,N - (i+1),by omega,i+1,r++[t],_,_,u,g+1,m0,by omega,?_,?_,by rw[zA1];rw[gw]at cQ;exact cQ,mLt fH h0,Mem.le_upd iH fF _ _,.inr ⟨bb,rfl,fF⟩,Zr1 (aM.mono aX),?_,?_,by omega⟩
      ·rw[gw,zA1];rfl
      ·rw[gw,zA1];rfl
      ·intro z hz
       rcases List.mem_append.1 hz with hz|hz
       ·exact(bB z (by simp[hz])).mono h0
       ·simp at hz;subst hz;exact gx
      ·rw[ht];exact hJ.group wt _ _
     ·by_cases h0:0 < ts.length
      ·skip
       obtain⟨r,x,rfl⟩:=ZAu (ts:=ts) (by exact h0)
       have gw:(r++[x]).length=r.length+1:=by simp
       have iL:IntKind.i64.wrap (((r++[x]).length:Int) - 1)=(r.length:Int):=by rw[gw,Zam (by omega) (by omega)];omega
       obtain⟨bb,jp,iF,o',u',hu'⟩:=dY.base aM (by simp)
       subst jp
       obtain⟨bx,ox,jq,iG⟩:=ZdG aM (i:=r.length) (t:=x) (by simp)
       cases jq
       have wu:IntKind.i64.wrap (Int.tmod (intOf (Value.int .u8 (s2:Nat))) 3)=((s2 % 3:Nat):Int):=by
        rw[show Int.tmod (intOf (Value.int .u8 (s2:Nat))) 3=((s2 % 3:Nat):Int) from rfl,Zam (by omega) (by omega)]
       have ww:IntKind.i64.wrap (Int.tmod (intOf (Value.int .u8 (s3:Nat))) 4)=((s3 % 4:Nat):Int):=by
        rw[show Int.tmod (intOf (Value.int .u8 (s3:Nat))) 4=((s3 % 4:Nat):Int) from rfl,Zam (by omega) (by omega)]
       simp only[iL,wu,ww,zA8]
       have qw:s2 % 3 < 3:=by omega
       have jr:s3 % 4 < 4:=by omega
       generalize s2 % 3=L at *
       generalize s3 % 4=Mo at *
       refine⟨decide (9 < s1 % 12)&&!(x.k == 1),Zab (λh6=>Zab (λh7=>⟨_,_,rfl,⟨by omega,by omega⟩,.int .u8 x.k,iG 0 _ rfl,Zaa rfl ⟨by trivial,by trivial,?_⟩⟩) (λh7=>absurd h7 (by simp))) (λh6=>⟨by trivial,by trivial,?_⟩),Zab (λh6=>Zaa rfl ⟨by omega,Zaa rfl ⟨by omega,?_⟩⟩) (λh6=>⟨by trivial,N - (i+1),by omega,i+1,r++[x],_,_,u,g,mb,by omega,rfl,rfl,cQ,fH,cR,dY,aM,bB,hJ.skip,by omega⟩)⟩
       ·refine Zaf ?_
        have:=zA6 h6
        rw[decide_eq_true (show 9 < s1 % 12 by omega),Bool.true_and];rfl
       ·refine Zaf ?_
        have:=of_decide_eq_false h6
        rw[decide_eq_false (show ¬9 < s1 % 12 by omega)];rfl
       ·have iu:x.k≠1:=by
         rw[zA7]at h6
         simpa using h6.2
        obtain⟨tab1,tab2⟩:=Zyl L qw Mo jr
        refine⟨decide (Mo < L\/Mo=0\/(L=1/\Mo=1)),Zab (λg1=>⟨by trivial,by trivial,Zaf ?_⟩) (λg1=>Zab (λg2=>⟨by trivial,by trivial,Zaf ?_⟩) (λg2=>Zab (λg3=>⟨by trivial,by trivial,Zaf ?_⟩) (λg3=>⟨by trivial,by trivial,Zaf ?_⟩))),Zab (λg4=>?_) (λg4=>?_)⟩
        ·have:=zA6 g1
         exact(decide_eq_true (by omega)).symm
        ·have:Mo=0:=by simp at g2;omega
         exact(decide_eq_true (by omega)).symm
        ·have e1:=of_decide_eq_false g1
         have e2:¬Mo=0:=by simp at g2;omega
         have e3:L=1:=by simp at g3;omega
         rw[Bool.eq_iff_iff];simp;omega
        ·have e1:=of_decide_eq_false g1
         have e2:¬Mo=0:=by simp at g2;omega
         have e3:¬L=1:=by simp at g3;omega
         exact(decide_eq_false (by omega)).symm
        ·
         have hA:(if(1:Int) > (if(-1:Int) > (L:Int)then(-1:Int)else(L:Int))then(1:Int)else(if(-1:Int) > (L:Int)then(-1:Int)else(L:Int)))=((max 1 L:Nat):Int):=by
          split <;> split <;> omega
         obtain⟨tb,tp⟩:=tab1 (zA6 g4)
         have oY:u*max 1 L<=48:=by have:=Nat.mul_le_mul hJ.u16 (show max 1 L<=3 by omega);omega
         have sm:IntKind.i64.wrap ((u:Int)*((max 1 L:Nat):Int))=((u*max 1 L:Nat):Int):=by rw[<-Int.natCast_mul];exact Zam (by omega) (by omega)
         simp only[hA,sm]
         refine Zab (λg5=>?_) (λg5=>⟨by trivial,N - (i+1),by omega,i+1,r++[x],_,_,u,g,mb,by omega,rfl,rfl,cQ,fH,cR,dY,aM,bB,hJ.skip,by omega⟩)
         have nB:u*max 1 L<=16:=by have:=zA6 g5;omega
         refine⟨_,_,rfl,⟨by omega,by omega⟩,_,_,_,_,_,_,_,_,iG,Zai ((Zyk x (L:Nat) (-1:Int) ⟨by omega,by omega⟩ ⟨by omega,by omega⟩ mb (bB x (by simp))).frame2 cR) (Zdm (mb:=mb) (M0:=m1)) (Zjt λt m0 m3 aX h0 iH cF gx ht=>?_)⟩
         obtain⟨at',ct,ht⟩:=ht
         have fF:m0.free bb:=λo=>by rw[cF bb o' u' hu' o];exact iF o
         refine⟨bb,0,rfl,⟨by omega,by omega⟩,rfl,by omega,by trivial,N - (i+1),by omega,i+1,r++[t],_,_,u*max 1 L,g,m0,by omega,?_,?_,by rw[zA1];rw[gw]at cQ;exact cQ,mLt fH h0,Mem.le_upd iH fF _ _,.inr ⟨bb,rfl,fF⟩,Zr1 (aM.mono aX),?_,?_,by omega⟩
         ·rw[gw,zA1];rfl
         ·rw[gw,zA1];rfl
         ·intro z hz
          rcases List.mem_append.1 hz with hz|hz
          ·exact(bB z (by simp[hz])).mono h0
          ·simp at hz;subst hz;exact gx
         ·rw[ht];exact hJ.rep iu tb tp (by omega) nB _ _
        ·
         have hA:(if(1:Int) > (if((Mo:Int)) > (L:Int)then((Mo:Int))else(L:Int))then(1:Int)else(if((Mo:Int)) > (L:Int)then((Mo:Int))else(L:Int)))=((max 1 (max L Mo):Nat):Int):=by
          split <;> split <;> omega
         obtain⟨tb,tp⟩:=tab2 (of_decide_eq_false g4)
         have oY:u*max 1 (max L Mo)<=48:=by have:=Nat.mul_le_mul hJ.u16 (show max 1 (max L Mo)<=3 by omega);omega
         have sm:IntKind.i64.wrap ((u:Int)*((max 1 (max L Mo):Nat):Int))=((u*max 1 (max L Mo):Nat):Int):=by rw[<-Int.natCast_mul];exact Zam (by omega) (by omega)
         simp only[hA,sm]
         refine Zab (λg5=>?_) (λg5=>⟨by trivial,N - (i+1),by omega,i+1,r++[x],_,_,u,g,mb,by omega,rfl,rfl,cQ,fH,cR,dY,aM,bB,hJ.skip,by omega⟩)
         have nB:u*max 1 (max L Mo)<=16:=by have:=zA6 g5;omega
         refine⟨_,_,rfl,⟨by omega,by omega⟩,_,_,_,_,_,_,_,_,iG,Zai ((Zyk x (L:Nat) ((Mo:Int)) ⟨by omega,by omega⟩ ⟨by omega,by omega⟩ mb (bB x (by simp))).frame2 cR) (Zdm (mb:=mb) (M0:=m1)) (Zjt λt m0 m3 aX h0 iH cF gx ht=>?_)⟩
         obtain⟨at',ct,ht⟩:=ht
         have fF:m0.free bb:=λo=>by rw[cF bb o' u' hu' o];exact iF o
         refine⟨bb,0,rfl,⟨by omega,by omega⟩,rfl,by omega,by trivial,N - (i+1),by omega,i+1,r++[t],_,_,u*max 1 (max L Mo),g,m0,by omega,?_,?_,by rw[zA1];rw[gw]at cQ;exact cQ,mLt fH h0,Mem.le_upd iH fF _ _,.inr ⟨bb,rfl,fF⟩,Zr1 (aM.mono aX),?_,?_,by omega⟩
         ·rw[gw,zA1];rfl
         ·rw[gw,zA1];rfl
         ·intro z hz
          rcases List.mem_append.1 hz with hz|hz
          ·exact(bB z (by simp[hz])).mono h0
          ·simp at hz;subst hz;exact gx
         ·rw[ht];exact hJ.rep iu tb tp (by omega) nB _ _
      ·refine⟨false,Zab (λh6=>Zab (λh7=>absurd (zA6 h7) (by omega)) (λh7=>⟨by trivial,by trivial,rfl⟩)) (λh6=>⟨by trivial,by trivial,rfl⟩),ZdK rfl ⟨by trivial,N - (i+1),by omega,i+1,ts,_,_,u,g,mb,by omega,rfl,rfl,cQ,fH,cR,dY,aM,bB,hJ.skip,by omega⟩⟩
 ·have qy:i=N:=by have:=of_decide_eq_false bM;omega
  have aB:=mLt fH cR
  refine Zab (λh0=>?_) (λh0=>?_)
  ·have sn:(Zeq ⟨#[97]⟩)=Zdo 0:=by rfl
   refine Zai (ZpA ⟨#[97]⟩ (by decide) m1) Zff (Zqy λt m2 aN hr ht=>ZaJ (mLt aB aN) ⟨t,rfl,hr,?_⟩)
   rw[sn]at ht
   obtain⟨k1,k2,k3,k4⟩:=ZrB 0
   rw[<-ht]at k1 k2 k3 k4
   exact(F26.leaf ⟨k1,by simp,by simp[szL,Zaz,k2],by simp[ZeD];omega,by simp[grL,Zaz,k4]⟩ k2).done
  ·obtain⟨t0,rest,rfl⟩:∃t r,ts=t::r:=by cases ts with
    | nil=>simp at h0
    | cons t r=>exact⟨t,r,rfl⟩
   have hF:=F26.start hJ (by omega)
   obtain⟨bb,jp,iF,o',u',hu'⟩:=dY.base aM (by simp)
   subst jp
   obtain⟨bx,ox,jq,iG⟩:=ZdG aM (i:=0) (t:=t0) rfl
   cases jq
   rw[List.length_cons]at jY cQ
   refine⟨_,_,rfl,⟨by omega,by simp⟩,_,_,_,_,_,_,_,_,iG,λb2=>Zaa rfl ⟨⟨by omega,by rw[List.length_cons];omega⟩,?_⟩⟩
   refine⟨λxs css tvs m' q=>∃(k:Nat)(t:T),k<=rest.length/\xs=[.int .i64 k]/\css=[t.cs]/\m1.le m'/\Rep m' t/\F26 t (rest.drop k)/\q=rest.length - k,⟨rest.length,0,t0,by omega,rfl,rfl,Mem.le_refl _,(bB t0 (by simp)).mono cR,hF,by omega⟩,?_⟩
   rintro z cs m2 q2 _ ⟨k,t,hk,hz,cK,aN,gx,lg,qa⟩
   obtain rfl:z=k:=by simpa using hz
   obtain rfl:cs=t.cs:=by simpa using cK
   have jS:((t0::rest).length - Int.toNat 1)=rest.length:=by simp
   simp only[jS]
   refine Zab (λaO=>?_) (λeN=>Zaa rfl (ZaJ (mLt aB aN) ⟨t,rfl,gx,by rw[show k=rest.length by have:=of_decide_eq_false eN;omega,List.drop_length]at lg;exact lg.done⟩))
   have aW:k < rest.length:=by have:=zA6 aO;omega
   obtain⟨x,hx⟩:=ZaP aW
   obtain⟨b3,o3,gq,mX⟩:=ZdG (aM.mono aN) (i:=k+1) (t:=x) (by simpa using hx)
   cases gq
   have iM:IntKind.i64.wrap ((k:Int)+1)=((k+1:Nat):Int):=by rw[Zam (by omega) (by omega)];rfl
   simp only[iM,zA8]
   rw[Zos hx]at lg
   have bH:=lg.f.sz
   rw[ZeG]at bH
   have qv:=Zei (k:=4) (t:=t)
   have tH:=Zei (k:=4) (t:=x)
   have iJ:ZaS (some (⟨bb,0,none⟩:Addr)) (Int.toNat 1) c2 8=some ⟨bb,0+8,none⟩:=by
    unfold ZaS
    have:Nat.beq c2 1=false:=by
     cases hb:Nat.beq c2 1 with
     | false=>rfl
     | true=>have:=Nat.eq_of_beq_eq_true hb;omega
    show(bif Nat.beq c2 1 then _ else some (Addr.add _ (1*8)))=_
    rw[this,ZbM];rfl
   refine⟨_,_,iJ,⟨by omega,by omega⟩,_,_,_,_,_,_,_,_,by rw[show 0+8+k*8=0+(k+1)*8 by omega];exact mX,λb4=>Zaa rfl (Zai (Znz 4 t x (.inr rfl) m2 gx ((bB x (by simp[zA2 hx])).mono (mLt cR aN)) (by omega) (by omega)) Zff (Zqy λt' m3 aX hr' ht'=>⟨by trivial,by trivial,rest.length - (k+1),by omega,k+1,t',by omega,rfl,rfl,mLt aN aX,hr',?_,by omega⟩))⟩
   obtain⟨a3,c3,ht'⟩:=ht'
   rw[ht'];exact lg.step _ _
structure SAct where
 k:Nat
 n:Nat
 pa:Option Addr
 pl:List Nat
 pd:Nat
 ea:Option Addr
 el:List (Nat×Nat×Nat)
 ed:Nat
def SAct.cs(x:SAct):List Value:=[.int .u8 x.k,.int .u8 x.n,.slice x.pa x.pl.length x.pd,.slice x.ea x.el.length x.ed]
theorem SAct.len(x:SAct):x.cs.length=4:=rfl
structure RepSA (m:Mem)(x:SAct):Prop where
 k:x.k < 256
 n:x.n < 256
 p:BytU m x.pa x.pl
 pl:x.pl.length<=1000000000000000
 pd:x.pl.length<=x.pd
 e:SmE m x.ea x.el
 ed:x.el.length<=x.ed
theorem RepSA.mono{m m':Mem}{x:SAct}(h:RepSA m x)(hm:m.le m'):RepSA m' x:=⟨h.k,h.n,h.p.mono hm,h.pl,h.pd,h.e.mono hm,h.ed⟩
theorem SmE.take{m:Mem}{a:Option Addr}{l:List (Nat×Nat×Nat)}(h:SmE m a l)(n:Nat):SmE m a (l.take n):=
 ⟨by rw[List.length_take];have:=h.len;omega,λs hs=>h.byte s (List.mem_of_mem_take hs),λi s hi=>h.at' i s (by
  have aO:=(zA0 hi).1
  rw[List.length_take]at aO
  rw[List.getElem?_take_of_lt (by omega)]at hi;exact hi)⟩
def AcR(c:Int):Value->Mem->List (List Value)->Prop:=λv m' _=>∃a:Ac,v=.agg a.cs.toArray/\RepA m' a/\MkA c a
theorem Zym{c:Int}:∀(v:Value)(m':Mem) (css:List (List Value)),AcR c v m' css->Shape.fits (.agg [.int .u8,.str,.slice,.int .u8,.any,.str,.int .i64,.slice]) v=true:=λv _ _ ⟨_,h,_⟩=>by rw[h];rfl
theorem Zvi{c:Int}{l:List Pt}(h:MkT c l):l.length<=few:=by have:=h.len;unfold few;omega
theorem Zyn(x:SAct)(c:Int)(m:Mem)(hx:RepSA m x)(hc : -1<=c/\c<=10000):CX Tryz.prog 67 #[.agg x.cs.toArray,.int .i64 c] m [] (AcR c):=by
 apply ZhK
 intro b m1 aB _ b1
 have qA:=hx.e.len
 have hN:(if(8:Int) < (x.el.length:Int)then(8:Int)else(x.el.length:Int))=((min 8 x.el.length:Nat):Int):=by split <;> omega
 simp only[hN,zA8,Nat.sub_zero]
 have hd:=hx.ed
 have fY:(x.el.take 8).length=min 8 x.el.length:=List.length_take ..
 have hM:=Zwx (x.el.take 8) x.ea x.ed m1 ((hx.e.mono aB).take 8) (by omega)
 rw[fY]at hM
 refine⟨⟨by omega,by omega⟩,Zai hM Zf9 (ZyQ λe1 m2 aN eX ub=>?_)⟩
 have j1:=ub.len
 refine Zai (ZlX e1 c m2 eX ub.all (by omega)) Zf9 (ZyQ λe m3 aX hr he b2=>Zaa rfl ⟨by omega,?_⟩)
 have hE:MkE c 20 e:=he.toMk (by omega)
 have cV:=mLt aB (mLt aN aX)
 have kH:=hx.mono cV
 refine Zab (λh2=>?_) (λh2=>Zab (λh3=>?_) (λh3=>?_))
 ·refine⟨λk _ _=>if k=0 then ZyS ZeY else TmR c,_,rfl,Zny m3,Zdp,?_⟩
  rintro a5 n5 c5 m5 cP ⟨a',c',hU,gp⟩
  simp only[Value.slice.injEq]at hU
  obtain⟨rfl,rfl,rfl⟩:=hU
  have aO:x.n % 2 < 2:=Nat.mod_lt _ (by omega)
  obtain⟨s,hs⟩:=ZaP (l:=ZeY) (k:=x.n % 2) aO
  have jU:=zA2 hs
  obtain⟨b6,o6,iS,cC⟩:=ZcJ gp hs
  have bH:s.size<=1000000000000000:=by have:=Zk2 s jU;omega
  have hu:Int.tmod (x.n:Int) 2=((x.n % 2:Nat):Int):=rfl
  refine⟨by omega,b6,o6,iS,by rw[hu];exact⟨by omega,by show((x.n % 2:Nat):Int) < (2:Nat);omega⟩,_,by rw[hu,zA8];exact cC,s,rfl,_,rfl,Zjw x.pl x.pa x.pd e c m5 (kH.p.mono cP) hx.pd hx.pl (hr.mono' cP) hE hc,Zvh,?_⟩
  rintro a7 n7 c7 m7 jm ⟨L,aL,dL,pz,aM,bB,hT⟩ M i7 _ iq
  simp only[Value.slice.injEq]at pz
  obtain⟨rfl,rfl,rfl⟩:=pz
  exact ZaJ (mLt cV i7) ⟨⟨2,s,a7,c7,L,E0⟩,rfl,⟨by show(0:Int)<=2/\(2:Int) < 256;omega,bH,Zvi hT,aM.mono iq,λp hp=>(bB p hp).mono iq,Zw0 M⟩,.set s jU _ _ L hT⟩
 ·refine⟨λ_ _ _=>ZyS Zjy,_,rfl,Zic m3,Zdp,?_⟩
  rintro a5 n5 c5 m5 cP ⟨a',c',hU,gp⟩
  simp only[Value.slice.injEq]at hU
  obtain⟨rfl,rfl,rfl⟩:=hU
  have aO:x.n % 4 < 4:=Nat.mod_lt _ (by omega)
  obtain⟨s,hs⟩:=ZaP (l:=Zjy) (k:=x.n % 4) aO
  have jU:=zA2 hs
  obtain⟨b6,o6,iS,cC⟩:=ZcJ gp hs
  have bH:s.size<=1000000000000000:=by have:=Zk1 s jU;omega
  have hu:Int.tmod (x.n:Int) 4=((x.n % 4:Nat):Int):=rfl
  refine⟨by omega,b6,o6,iS,by rw[hu];exact⟨by omega,by show((x.n % 4:Nat):Int) < (4:Nat);omega⟩,_,by rw[hu,zA8];exact cC,s,rfl,Zaa rfl λM i7 gD=>?_⟩
  exact ZaJ (mLt cV i7) ⟨⟨3,s,none,0,[],e⟩,rfl,⟨by show(0:Int)<=3/\(3:Int) < 256;omega,bH,by simp,.inl rfl,by simp,hr.mono' i7⟩,.let_ s jU e hE⟩
 ·refine Zai (Zjw x.pl x.pa x.pd e c m3 kH.p hx.pd hx.pl hr hE hc) Zvh ?_
  rintro a7 n7 c7 m7 jm ⟨L,aL,dL,pz,aM,bB,hT⟩
  simp only[Value.slice.injEq]at pz
  obtain⟨rfl,rfl,rfl⟩:=pz
  exact ZaJ (mLt cV jm) ⟨⟨1,.empty,a7,c7,L,E0⟩,rfl,⟨by show(0:Int)<=1/\(1:Int) < 256;omega,by show ByteArray.empty.size<=_;rw[ZaH];omega,Zvi hT,aM,bB,Zw0 m7⟩,.send _ _ L hT⟩
structure SRul where
 k:Nat
 n:Nat
 t:Nat
 g:Nat
 ra:Option Addr
 rl:List (Nat×Nat×Nat)
 rd:Nat
 aa:Option Addr
 al:List SAct
 ad:Nat
def SRul.cs(x:SRul):List Value:=[.int .u8 x.k,.int .u8 x.n,.int .u8 x.t,.int .u8 x.g,.slice x.ra x.rl.length x.rd,.slice x.aa x.al.length x.ad]
theorem SRul.len(x:SRul):x.cs.length=6:=rfl
structure RepSR (m:Mem)(x:SRul):Prop where
 k:x.k < 256
 n:x.n < 256
 t:x.t < 256
 g:x.g < 256
 r:Sm m x.ra x.rl
 rd:x.rl.length<=x.rd
 al:x.al.length<=1000000000000000
 ad:x.al.length<=x.ad
 row:rowRd m x.aa (x.al.map SAct.cs).flatten
 all:∀a∈x.al,RepSA m a
theorem RepSR.mono{m m':Mem}{x:SRul}(h:RepSR m x)(hm:m.le m'):RepSR m' x:=⟨h.k,h.n,h.t,h.g,h.r.mono hm,h.rd,h.al,h.ad,h.row.mono hm,λa ha=>(h.all a ha).mono hm⟩
def RuR(n:Nat):Value->Mem->List (List Value)->Prop:=λv m' _=>∃r:Ru,v=.agg r.cs.toArray/\RepR m' r/\MkR n r
theorem Zyo{n:Nat}:∀(v:Value)(m':Mem) (css:List (List Value)),RuR n v m' css->Shape.fits (.agg [.int .u8,.bool,.bool,.int .u8,.int .u64,.int .u64,.int .u64,.int .u64,.int .i64,.int .i64,.slice,.str,.int .i64,.slice,.str,.int .i64]) v=true:=λv _ _ ⟨_,h,_⟩=>by rw[h];rfl
theorem Ac.one(a:Ac):∀u∈a.cs,u.oneCell'=true:=by
 intro u hu
 simp only[Ac.cs,List.mem_cons,List.not_mem_nil,or_false]at hu
 rcases hu with rfl|rfl|rfl|rfl|rfl|rfl|rfl|rfl <;> rfl
structure Ru0 (m:Mem)(r:Ru):Prop where
 kind:Zzc r
 t:Rep m r.t
 acts:r.acts=[]/\r.aa=none/\r.ac=0
 go:r.go=.empty/\r.code=0
theorem Zyp(m:Mem):Rep m T0:=by
 simp only[T0,Rep]
 exact⟨by simp,.inl trivial,⟨by omega,by omega,by omega,by omega,by omega,by omega,by omega⟩⟩
theorem Zyq{r:Ru}(h:Zzc r):(0<=r.k/\r.k < 256)/\r.s.size<=1000000000000000/\I64 r.n:=by
 unfold I64
 rcases h with⟨h1,_,_,h2,h3⟩|⟨_,⟨h1,h2,h3,h4⟩|⟨h1,h2,h3⟩|⟨h1,h2,h3,h4⟩⟩
 ·rw[h2,ZaH];omega
 ·omega
 ·rw[h2,ZaH];omega
 ·rw[h2,ZaH];omega
theorem ZpC{t:T}(h:t.light=true):t.groups=(t.gr:Nat):=by unfold T.groups;rw[h];rfl
theorem ZBM:∀j < 6,∃s:ByteArray,[Value.string ⟨#[97]⟩,.string ⟨#[98]⟩,.string ⟨#[97,98]⟩,.string ⟨#[98,97]⟩,.string ⟨#[97,97,98]⟩,.string ⟨#[99]⟩][j*1]?=some (.string s)/\1<=s.size/\s.size<=3:=by
 intro j hj
 have:j=0\/j=1\/j=2\/j=3\/j=4\/j=5:=by omega
 rcases this with rfl|rfl|rfl|rfl|rfl|rfl <;> exact⟨_,rfl,by decide,by decide⟩
set_option maxHeartbeats 2000000 in
theorem ZwA(x:SRul)(p:Nat)(m:Mem)(hx:RepSR m x)(hp:1<=p/\p<=4):CX Tryz.prog 35 #[.agg x.cs.toArray,.int .i64 p] m [] (RuR p):=by
 apply ZkR
 intro b m1 aB _ b1 b2
 have eA:=hx.mono aB
 have sf:Int.tmod (x.k:Int) 8=((x.k % 8:Nat):Int):=rfl
 have se:x.k % 8 < 8:=Nat.mod_lt _ (by omega)
 refine⟨λxs css _ M=>∃r:Ru,xs=[.int .i64 (ZbV r)]/\css=[r.cs]/\Ru0 M r,⟨_,rfl,by omega,?_⟩,?_⟩
 ·simp only[sf]
  generalize x.k % 8=k at se
  refine⟨λxs _ _ m'=>xs=[.bool (decide (k<=2))]/\m1.le m',Zab (λh=>⟨trivial,?_,Mem.le_refl _⟩) (λh=>Zab (λh2=>⟨trivial,?_,Mem.le_refl _⟩) (λh2=>⟨trivial,?_,Mem.le_refl _⟩)),?_⟩
  ·have:k=0:=by simp at h;omega
   rw[h,this];rfl
  ·have:k=1:=by simp at h2;omega
   rw[h2,this];rfl
  ·have h0:¬k=0:=by simp at h;omega
   have h1:¬k=1:=by simp at h2;omega
   refine Zaf ?_
   rw[Bool.eq_iff_iff];simp;omega
  rintro c2 m2 aN ⟨wx,_⟩
  obtain rfl:c2=decide (k<=2):=by simpa using wx
  refine Zau (λhk=>?_) (λhk=>?_)
  ·have hM:=Zt9 x.rl x.ra x.rd m2 (eA.r.mono aN) hx.rd
   refine⟨λ_ _ _=>Zot (λt=>t.check=0/\t.nodes.length<=26),_,rfl,by omega,_,rfl,by omega,_,rfl,hM,Zff,Zqy λt m3 aX gx ht M _ iq=>?_⟩
   have hl:t.nodes.length<=10000:=by omega
   refine Zax (ZlY t M (gx.mono iq) hl) λm4 bI=>⟨trivial,⟨1,Int.tmod (x.n:Int) 5 == 4,Int.tmod (x.n:Int) 7 == 6,t,.empty,0,none,0,[],.empty,0⟩,?_,rfl,⟨.inl ⟨rfl,ht.1,ht.2,rfl,rfl⟩,gx.mono (mLt iq bI),⟨rfl,rfl,rfl⟩,rfl,rfl⟩⟩
   have hg:=ZpC (Zkb hl)
   show[Value.int .i64 _]=[Value.int .i64 (if(1:Int)=1 then t.groups else _)]
   rw[if_pos rfl,hg]
  ·refine⟨λxs _ _ m'=>xs=[.bool (decide (k<=4))]/\m2.le m',Zab (λh=>⟨trivial,?_,Mem.le_refl _⟩) (λh=>⟨trivial,?_,Mem.le_refl _⟩),?_⟩
   ·have:k=3:=by simp at h;omega
    rw[h,this];rfl
   ·have:¬k=3:=by simp at h;omega
    refine Zaf ?_
    rw[Bool.eq_iff_iff];simp;omega
   rintro c3 m3 aX ⟨tS,_⟩
   obtain rfl:c3=decide (k<=4):=by simpa using tS
   refine Zau (λqU=>λb5 jo=>?_) (λqU=>Zab (λh5=>⟨trivial,⟨3,false,false,T0,.empty,0,none,0,[],.empty,0⟩,rfl,rfl,⟨.inr ⟨⟨rfl,rfl,rfl⟩,.inr (.inl ⟨rfl,rfl,rfl⟩)⟩,Zyp _,⟨rfl,rfl,rfl⟩,rfl,rfl⟩⟩) (λh5=>⟨_,rfl,by omega,trivial,?_⟩))
   ·have ud:Int.tmod (x.n:Int) 6=((x.n % 6:Nat):Int):=rfl
    have h6:x.n % 6 < 6:=Nat.mod_lt _ (by omega)
    obtain⟨s,hs,pq,md⟩:=ZBM (x.n % 6) h6
    refine⟨_,rfl,by omega,by rw[ud];exact⟨by omega,by omega⟩,Zap (by rw[ud,zA8];exact hs) ⟨s,rfl,λM _ _=>⟨trivial,⟨2,false,false,T0,s,0,none,0,[],.empty,0⟩,rfl,rfl,⟨.inr ⟨⟨rfl,rfl,rfl⟩,.inl ⟨rfl,pq,md,rfl⟩⟩,Zyp _,⟨rfl,rfl,rfl⟩,rfl,rfl⟩⟩⟩⟩
   ·have rW:Int.tmod (x.t:Int) 8=((x.t % 8:Nat):Int):=rfl
    have h8:x.t % 8 < 8:=Nat.mod_lt _ (by omega)
    have hw:IntKind.i64.wrap (1+IntKind.i64.wrap (Int.tmod (x.t:Int) 8))=((1+x.t % 8:Nat):Int):=by rw[rW,Zam (n:=((x.t % 8:Nat):Int)) (by omega) (by omega),Zam (by omega) (by omega)];omega
    exact⟨⟨4,false,false,T0,.empty,IntKind.i64.wrap (1+IntKind.i64.wrap (Int.tmod (x.t:Int) 8)),none,0,[],.empty,0⟩,rfl,rfl,⟨.inr ⟨⟨rfl,rfl,rfl⟩,.inr (.inr ⟨rfl,rfl,by show 1<=IntKind.i64.wrap (1+IntKind.i64.wrap (Int.tmod (x.t:Int) 8));rw[hw];omega,by show IntKind.i64.wrap (1+IntKind.i64.wrap (Int.tmod (x.t:Int) 8))<=8;rw[hw];omega⟩)⟩,Zyp _,⟨rfl,rfl,rfl⟩,rfl,rfl⟩⟩
 rintro cn cs m2 aN ⟨r,mD,jV,hR⟩
 simp only[List.cons.injEq,Value.int.injEq,true_and,and_true]at mD jV
 subst mD jV
 have j5:=hx.al
 have xN:=hx.ad
 have hN:(if(3:Int) < (x.al.length:Int)then(3:Int)else(x.al.length:Int))=((min 3 x.al.length:Nat):Int):=by split <;> omega
 simp only[hN,zA8,Nat.sub_zero]
 generalize qx:min 3 x.al.length=N
 have cQ : -1<=ZbV r/\ZbV r<=10000:=by
  refine⟨ZrE r,?_⟩
  unfold ZbV
  rcases hR.kind with⟨h1,h2,h3,_⟩|⟨_,⟨h1,_⟩|⟨h1,_⟩|⟨h1,_⟩⟩ <;> rw[h1]
  ·rw[if_pos rfl,ZpC (Zkb (by omega))]
   have:r.t.gr<=r.t.nodes.length:=List.countP_le_length
   omega
  ·rw[if_neg (by decide),if_pos rfl];omega
  ·rw[if_neg (by decide),if_neg (by decide)];omega
  ·rw[if_neg (by decide),if_neg (by decide)];omega
 have gW:=eA.mono aN
 refine⟨⟨by omega,by omega⟩,λxs css tvs m' q=>∃(L:List Ac)(a:Option Addr)(d:Nat),L.length<=N/\xs=[.int .i64 L.length]/\css=[({ r with acts:=L,aa:=a,ac:=d }:Ru).cs]/\tvs=[.slice a L.length d]/\rowRd m' a (L.map Ac.cs).flatten/\(∀y∈L,RepA m' y)/\(∀y∈L,MkA (ZbV r) y)/\q=N - L.length,⟨N,[],none,0,by simp,rfl,?_,rfl,.inl rfl,by simp,by simp,rfl⟩,?_⟩
 ·show[r.cs]=[_]
  unfold Ru.cs
  rw[hR.acts.1,hR.acts.2.1,hR.acts.2.2]
 rintro z cs a n1 d m3 q aX ⟨L,a',d',xO,hz,cK,cY,aM,bB,iA,rfl⟩
 simp only[List.cons.injEq,Value.slice.injEq,Value.int.injEq,true_and,and_true]at hz cK cY
 obtain⟨rfl,rfl,rfl⟩:=cY
 subst hz cK
 have cV:=mLt aB (mLt aN aX)
 refine Zau (λaO=>?_) (λbM=>?_)
 ·have aW:L.length < N:=by omega
  obtain⟨y,hy⟩:=ZaP (l:=x.al) (k:=L.length) (by omega)
  obtain⟨b3,o3,gq,gy⟩:=Zan SAct.len (gW.mono aX).row hy (by omega)
  have hw:IntKind.i64.wrap ((L.length:Int)+1)=((L.length+1:Nat):Int):=by rw[Zam (by omega) (by omega)];rfl
  refine⟨b3,o3,gq,⟨by omega,aO⟩,_,_,_,_,gy,λb4=>Zaa rfl ⟨λ_ _ _=>AcR (ZbV r),Zap rfl ⟨_,rfl,Zyn y (ZbV r) m3 ((gW.mono aX).all y (zA2 hy)) cQ,Zym,?_⟩⟩⟩
  rintro n s a3 n3 c3 n5 v s1 n6 a4 n7 c4 m4 bI ⟨w,hv,ln,so⟩ b5 jo
  simp only[Ac.cs,Value.agg.injEq,Array.mk.injEq,List.cons.injEq,Value.int.injEq,Value.string.injEq,Value.slice.injEq,true_and,and_true]at hv
  obtain⟨rfl,rfl,⟨rfl,rfl,rfl⟩,rfl,rfl,rfl,rfl,rfl,rfl,rfl⟩:=hv
  refine Zaa rfl ?_
  refine ZhM Ac.len Ac.one jo w (aM.mono bI) 112 (by omega) (by omega) (.inl rfl) λa5 c5 m5 cP cE=>Zaa rfl λM _ gD iq jr=>⟨trivial,N - (L.length+1),by omega,L++[w],a5,c5,by rw[zA1];exact aW,by rw[hw,zA1];rfl,?_,by rw[zA1];rfl,cE.mono jr,?_,?_,by rw[zA1];rfl⟩
  ·unfold Ru.cs;rw[zA1];rfl
  ·intro z hz
   rcases List.mem_append.1 hz with hz|hz
   ·exact(bB z hz).mono (mLt bI gD)
   ·rw[List.mem_singleton]at hz;subst hz;exact ln.mono gD
  ·intro z hz
   rcases List.mem_append.1 hz with hz|hz
   ·exact iA z hz
   ·rw[List.mem_singleton]at hz;subst hz;exact so
 ·have wy:Int.tmod (x.g:Int) 8=((x.g % 8:Nat):Int):=rfl
  have sk:IntKind.i64.wrap (Int.tmod (x.g:Int) 8)=((x.g % 8:Nat):Int):=by rw[wy,Zam (by omega) (by omega)]
  have hg:x.g % 8 < 8:=Nat.mod_lt _ (by omega)
  have ia:=Zyq hR.kind
  have base:∀{M:Mem},m3.le M->∀(go:ByteArray)(code:Int),go.size<=16->(0<=code/\code<=255)->RepR M { r with acts:=L,aa:=a,ac:=d,go:=go,code:=code }:=λ{M} hM go code h1 h2=>
   ⟨ia.1,hR.t.mono (mLt aX hM),ia.2.1,ia.2.2,by show L.length<=few;unfold few;omega,aM.mono hM,λy hy=>(bB y hy).mono hM,by show go.size<=_;omega,by show I64 code;unfold I64;omega⟩
  refine⟨λ_ css _ M=>∃r':Ru,css=[r'.cs]/\RepR M r'/\MkR p r',⟨_,rfl,by omega,?_⟩,?_⟩
  rw[sk]
  generalize x.g % 8=g at hg
  refine Zau (λh6=>?_) (λh6=>⟨by omega,Zaa rfl ⟨trivial,trivial,?_⟩⟩)
  ·refine⟨λ_ _ _=>ZyS Zw8,_,rfl,Zpz m3,Zdp,?_⟩
   rintro a5 n5 c5 m5 cP ⟨a',c',hU,gp⟩
   simp only[Value.slice.injEq]at hU
   obtain⟨rfl,rfl,rfl⟩:=hU
   have wz:g % p < p:=Nat.mod_lt _ (by omega)
   obtain⟨s,hs⟩:=ZaP (l:=Zw8) (k:=g % p) (by show g % p < 4;omega)
   have jU:=zA2 hs
   obtain⟨b6,o6,iS,cC⟩:=ZcJ gp hs
   have hu:Int.tmod (g:Int) (p:Int)=((g % p:Nat):Int):=rfl
   refine⟨by omega,b6,o6,iS,by rw[hu];exact⟨by omega,by show((g % p:Nat):Int) < (4:Nat);omega⟩,_,by rw[hu,zA8];exact cC,s,rfl,Zaa rfl λM i7 _=>⟨trivial,trivial,{ r with acts:=L,aa:=a,ac:=d,go:=s,code:=0 },?_,base i7 s 0 (by have:=Znt s jU;omega) (by omega),hR.kind,by show L.length<=3;omega,iA,.inl ⟨⟨g % p,wz,hs⟩,rfl⟩⟩⟩
   show[_]=[_]
   unfold Ru.cs ZaC
   rw[hR.go.2];rfl
  ·have im:Int.tmod (IntKind.i64.wrap ((g:Int)*41)) 256=((g*41 % 256:Nat):Int):=by
    rw[show((g:Int)*41)=((g*41:Nat):Int) by omega,Zam (by omega) (by omega)];rfl
   rw[im]
   have py:g*41 % 256 < 256:=Nat.mod_lt _ (by omega)
   refine⟨{ r with acts:=L,aa:=a,ac:=d,go:=.empty,code:=((g*41 % 256:Nat):Int) },?_,base (Mem.le_refl _) _ _ (by rw[ZaH];omega) (by omega),hR.kind,by show L.length<=3;omega,iA,.inr ⟨rfl,by show 0<=((g*41 % 256:Nat):Int)/\((g*41 % 256:Nat):Int)<=255;omega⟩⟩
   show[_]=[_]
   unfold Ru.cs ZaC
   rw[hR.go.1];rfl
  ·rintro cs m5 cP ⟨r',cK,hr',hk'⟩
   obtain rfl:cs=r'.cs:=by simpa using cK
   exact Zaa rfl (ZaJ (mLt cV cP) ⟨r',rfl,hr',hk'⟩)
end Go.Proofs.YtojlhhphofhaoaaGreatDoor