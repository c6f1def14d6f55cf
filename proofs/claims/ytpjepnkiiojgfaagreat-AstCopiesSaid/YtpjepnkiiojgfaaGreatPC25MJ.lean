/- Part of the proof: functions of the program. No condition. -/
import Derived.Test.YtpjepnkiiojgfaaGreatPVEN
import Derived.Test.YtpjepnkiiojgfaaGreatPVM
import Derived.Test.YtpjepnkiiojgfaaGreatMr
import Derived.Test.YtpjepnkiiojgfaaGreatPVEA
set_option linter.unusedVariables false
set_option linter.unusedSimpArgs false
set_option linter.unusedSectionVars false
namespace Go.Proofs.YtpjepnkiiojgfaaGreat
open Go Go.Eng Go.Rx Go.Proofs Go.RowKit
set_option maxRecDepth 100000
theorem ZhC(m:Mem):CX Tryz.prog 24 #[] m [] (ZyR ZeR):=by
 apply Zf4
 intro b hf
 exact ZaN (Mem.le_add hf _) ⟨_,_,rfl,Zbk⟩
theorem ZmF(m:Mem):CX Tryz.prog 25 #[] m [] (ZyR Zcx):=by
 apply Zh1
 intro b hf
 exact ZaN (Mem.le_add hf _) ⟨_,_,rfl,Zbk⟩
theorem Zov(m:Mem):CX Tryz.prog 35 #[] m [] (ZyR ZtW):=by
 apply Zh2
 intro b hf
 exact ZaN (Mem.le_add hf _) ⟨_,_,rfl,Zbk⟩
theorem ZkU{m:Mem}{b:Nat}:∀{L:List E} {o:Nat},m.reads b o (L.map E.cs).flatten->(∀z∈L,RepE m z)->RepEAt m b o L
 | [],o,_,_=>by simp only[RepEAt]
 | z::L,o,h,hz=>by
  rw[List.map_cons,List.flatten_cons]at h
  simp only[RepEAt]
  refine⟨λi v hi=>h i v (by rw[zA5 (zA0 hi).1];exact hi),hz z (by simp),ZkU (λi v hi=>?_) (λy hy=>hz y (by simp[hy]))⟩
  rw[Nat.add_assoc]
  refine h (5+i) v ?_
  rw[zA4 (by rw[E.len];omega),E.len,Nat.add_sub_cancel_left];exact hi
theorem Zru{m:Mem}{k:Int}{x:Nat}{s:ByteArray}{g:Int}{a:Option Addr}{c:Nat}{L:List E}(h:rowRd m a (L.map E.cs).flatten)(hz:∀z∈L,RepE m z)(hl:L.length<=1000000000000000)(ho:OkE k s g):RepE m (.node k x s g a c L):=by
 simp only[RepE]
 refine⟨hl,?_,ho⟩
 rcases h with h|⟨b,o,ha,h⟩
 ·refine .inl ?_
  have:=congrArg List.length h
  rw[Za3 E.len]at this
  exact List.eq_nil_of_length_eq_zero (by simp at this;omega)
 ·exact .inr ⟨b,o,ha,ZkU h hz⟩
theorem ZkV(e:E)(c:Int)(m:Mem)(hr:RepE m e)(cH:∀x∈e.nodes,okN 9 x)(hl:e.nodes.length<=1000):CX Tryz.prog 127 #[e.v,.int .i64 c] m [] (ER λy=>BoE c e y/\y.er=boF c e):=by
 apply Zf5
 intro b b1
 refine⟨decide (e.k=10)&&decide (e.g > c),Zab (λh=>⟨rfl,Zaq ?_⟩) (λh=>⟨rfl,Zaq ?_⟩),Zab (λh=>?_) (λh=>?_)⟩
 ·have:e.k=10:=by simpa using h
  rw[decide_eq_true this,Bool.true_and]
 ·have:¬e.k=10:=by simpa using h
  rw[decide_eq_false this,Bool.false_and]
 ·rw[zA7,decide_eq_true_iff,decide_eq_true_iff]at h
  exact ZaN (Mem.le_refl _) ⟨ZsA ⟨#[121]⟩,rfl,Zee (by omega) (by decide) (by omega),⟨Zxn (by simp[ZeR]) h.1,by rw[Zt5,Zxv h]⟩⟩
 have hk:¬(e.k=10/\e.g > c):=by
  rintro⟨h1,h2⟩
  rw[decide_eq_true h1,decide_eq_true h2]at h;cases h
 have dx:e.subs.length<=1000:=by
  have:=Zeb e.subs
  rw[Zbg,List.length_cons]at hl;omega
 refine⟨λxs css tvs m' q=>∃(ts:List E)(a:Option Addr)(d:Nat),ts.length<=e.subs.length/\xs=[.int .i64 ts.length]/\css=[[.int .u8 e.k,.float .f64 e.x,.string e.s,.int .i64 e.g,.slice a ts.length d]]/\tvs=[.slice a ts.length d]/\rowRd m' a (ts.map E.cs).flatten/\(∀t∈ts,RepE m' t)/\(∀(i:Nat)(x y:E),e.subs[i]?=some x->ts[i]?=some y->BoE c x y)/\ts.map E.er=(e.subs.map (boF c)).take ts.length/\q=e.subs.length - ts.length,⟨_,[],none,0,by simp,rfl,rfl,rfl,.inl rfl,by simp,by simp,rfl,rfl⟩,?_⟩
 rintro n cs a n1 d m1 q aG ⟨ts,a',d',gC,hx,bX,cQ,aC,aP,qb,ux,hq⟩
 simp only[List.cons.injEq,Value.slice.injEq,Value.int.injEq,true_and,and_true]at hx bX cQ
 obtain⟨rfl,rfl,rfl⟩:=cQ
 subst hx bX
 refine ZaB (λaB=>?_) (λbO=>?_)
 ·have aJ:ts.length < e.subs.length:=by omega
  obtain⟨x,hx⟩:=Zao aJ
  obtain⟨mO,h0|⟨b3,o3,ew,dU⟩⟩:=Zdg hr
  ·rw[h0]at aJ;simp at aJ
  obtain⟨dd,dz⟩:=(dU.mono' aG).get hx
  have lK:=zA2 hx
  have bJ:=ZgH lK
  have uy:∀z∈x.nodes,z∈Zak e.subs:=λz hz=>by rw[Zch hx];exact List.mem_append_right _ (List.mem_append_left _ hz)
  have iA:x.nodes.length<=1000:=by
   rw[Zbg,List.length_cons,Zch hx,zA1,zA1]at hl;omega
  have hw:IntKind.i64.wrap ((ts.length:Int)+1)=((ts.length+1:Nat):Int):=by rw[Zal (by omega) (by omega)];rfl
  refine⟨b3,o3,ew,⟨by omega,aB⟩,_,_,_,_,_,dd,λb4=>Zaa rfl ⟨λ_ _ _=>ER λy=>BoE c x y/\y.er=boF c x,Zam rfl ⟨_,rfl,ZkV x c m1 dz (λz hz=>cH z (by rw[Zbg];exact List.mem_cons_of_mem _ (uy z hz))) iA,ZfR,ZyO λt m2 aK e7 ht b5 iX=>Zaa rfl ?_⟩⟩⟩
  refine Zg0 E.len E.one iX t (aC.mono aK) 64 (by omega) (by omega) (.inl rfl) λa5 c5 m5 cP cw=>Zaa rfl λM _ fh fA gt=>⟨rfl,e.subs.length - (ts.length+1),by omega,ts++[t],a5,c5,by rw[zA1];exact aJ,by rw[hw,zA1];rfl,by rw[zA1];rfl,by rw[zA1];rfl,cw.mono gt,?_,?_,Zva ux hx ht.2,by rw[zA1];rfl⟩
  ·intro z hz
   rcases List.mem_append.1 hz with hz|hz
   ·exact(aP z hz).mono' (mLt aK fh)
   ·rw[List.mem_singleton]at hz;subst hz;exact e7.mono' fh
  ·intro i x' y' hx' hy'
   rcases Nat.lt_or_ge i ts.length with h|h
   ·rw[zA5 h]at hy'
    exact qb i x' y' hx' hy'
   ·have hi:=(zA0 hy').1
    rw[zA1,List.length_singleton]at hi
    obtain rfl:i=ts.length:=by omega
    rw[hx]at hx'
    simp at hy'
    cases hx';subst hy';exact ht.1
 ·have aH:ts.length=e.subs.length:=by omega
  have ho:=ZtU hr
  refine Zaa rfl (ZaN aG ⟨.node e.k e.x e.s e.g a d ts,rfl,Zru aC aP (by omega) ho,?_⟩)
  have:=Zu6 (c:=c) (x:=e.x) (s:=e.s) (a:=e.a) (a':=a) (d:=e.c) (d':=d) (l:=e.subs) (r:=ts) (k:=e.k) (g:=e.g) (by cases e;exact cH _ (by simp[E.nodes,E.k,E.x,E.s,E.g,E.a,E.c,E.subs])) hk aH.symm qb
  refine⟨by cases e;exact this,?_⟩
  rw[Zu9 hk]
  simp only[E.er,Zjl]
  rw[ux,aH,List.take_of_length_le (by rw[List.length_map];omega)]
termination_by SizeOf.sizeOf e
theorem ZkW(t:T)(m:Mem)(hr:Rep m t)(hl:t.nodes.length<=10000):CX Tryz.prog 85 #[t.v] m [] (Ret (.int .i64 (t.gr:Nat))):=by
 apply Zg5
 intro b m1 aG _
 have dx:t.subs.length<=10000:=by
  have h1:=Zjg t
  have:=ZnO t.subs
  omega
 have uz:∀i,grL (t.subs.take i)<=10000:=λi=>by
  have h1:grL (t.subs.take i)<=szL (t.subs.take i):=List.countP_le_length
  have h2:szL t.subs=szL (t.subs.take i)+szL (t.subs.drop i):=by rw[<-ZaG,List.take_append_drop]
  have h3:=Zjg t
  omega
 refine Zab (λh=>?_) (λh=>?_)
 all_goals
  refine⟨λxs _ _ m' q=>∃i:Nat,i<=t.subs.length/\xs=[.int .i64 (((if isG t=true then 1 else 0)+grL (t.subs.take i):Nat):Int),.int .i64 i]/\q=t.subs.length - i,⟨_,0,by omega,by unfold isG;rw[h];rfl,rfl⟩,?_⟩
  rintro n n1 m2 q aK ⟨i,hi,hx,rfl⟩
  simp only[List.cons.injEq,Value.int.injEq,true_and,and_true]at hx
  obtain⟨rfl,rfl⟩:=hx
  refine ZaB (λaB=>?_) (λbO=>Zaf (mLt aG aK) ?_)
  ·have aJ:i < t.subs.length:=by omega
   obtain⟨x,hx⟩:=Zao aJ
   have lK:=zA2 hx
   have bJ:=Zso lK
   have iA:x.nodes.length<=10000:=by
    have h1:=Zjg t
    have h2:szL t.subs=szL (t.subs.take i)+szL (t.subs.drop i):=by rw[<-ZaG,List.take_append_drop]
    rw[ZqD hx,Zex]at h2;omega
   have wF:grL (t.subs.take (i+1))=grL (t.subs.take i)+x.gr:=by
    rw[List.take_add_one,hx,Zbq];show _+grL [x]=_;rw[ZcT]
   have hb:=uz i
   have hb':=uz (i+1)
   obtain⟨b3,o3,ew,dd⟩:=Zdw ((Zd7 hr.subs).mono (mLt aG aK)) hx
   refine⟨b3,o3,ew,⟨by omega,aB⟩,_,_,_,_,_,_,_,_,dd,λb4=>Zaa rfl (ZcQ (ZkW x m2 ((Zjb hr.subs x lK).mono (mLt aG aK)) iA) λm3 aR=>⟨rfl,t.subs.length - (i+1),by omega,i+1,by omega,?_,rfl⟩)⟩
   rw[wF,Zal (by split <;> omega) (by split <;> omega),Zal (by omega) (by omega)]
   simp;omega
  ·have:i=t.subs.length:=by omega
   subst this
   rw[List.take_length]
   show Value.int .i64 _=Value.int .i64 _
   rw[Zwz t]
termination_by SizeOf.sizeOf t
structure BytU (m:Mem)(a:Option Addr)(l:List Nat):Prop where
 lt:∀n∈l,n < 256
 row:rowRd m a (l.map λn:Nat=>[Value.int .u8 n]).flatten
theorem BytU.mono{m m':Mem}{a l}(h:BytU m a l)(hm:m.le m'):BytU m' a l:=⟨h.lt,h.row.mono hm⟩
theorem BytU.get{m:Mem}{a l}(h:BytU m a l){i:Nat}{n:Nat}(hi:l[i]?=some n):n < 256/\∃b o,a=some ⟨b,o,none⟩/\m b (o+i*1)=some (.int .u8 n):=by
 obtain⟨b,o,ha,h1⟩:=Zaj (cs:=λn:Nat=>[Value.int .u8 n]) (n:=1) (λ_=>rfl) h.row hi (by omega)
 exact⟨h.lt n (zA2 hi),b,o,ha,h1 0 _ rfl⟩
theorem Pt.one(p:Pt):∀u∈p.cs,u.oneCell'=true:=by
 intro u hu
 simp only[Pt.cs,List.mem_cons,List.not_mem_nil,or_false]at hu
 rcases hu with rfl|rfl|rfl|rfl|rfl|rfl|rfl|rfl <;> rfl
def TmR(c:Int)(F:List Pt):Value->Mem->List (List Value)->Prop:=λv m' _=>∃(l:List Pt)(a:Option Addr)(d:Nat),v=.slice a l.length d/\rowRd m' a (l.map Pt.cs).flatten/\(∀p∈l,RepP m' p)/\MkT c l/\l.map Pt.er=F
theorem Zut{c:Int}{F:List Pt}:∀(v:Value)(m':Mem) (css:List (List Value)),TmR c F v m' css->Shape.fits .slice v=true:=λv _ _ ⟨_,_,_,h,_⟩=>by rw[h];rfl
def TmI(c:Int)(N:Nat)(m:Mem)(tr:List Pt->Nat->Prop):List Value->List (List Value)->List Value->Mem->Nat->Prop:=λxs _ tvs m' q=>∃(L:List Pt)(a:Option Addr)(d i:Nat),xs=[.slice a L.length d,.int .i64 i]/\tvs=[.slice a L.length d]/\i<=N/\L.length<=i/\m.le m'/\rowRd m' a (L.map Pt.cs).flatten/\(∀p∈L,RepP m' p)/\(∀p∈L,MkP c p)/\ZAX L/\tr L i/\q=N - i
theorem Zs9{L:List Pt}{p:Pt}(h:ZAX L)(hp:p.k=1->∀x,L[L.length - 1]?=some x->0 < L.length->x.k≠1):ZAX (L++[p]):=by
 intro i x y hx hy h1 h2
 rcases Nat.lt_or_ge (i+1) L.length with hi|hi
 ·rw[zA5 (by omega)]at hx
  rw[zA5 hi]at hy
  exact h i x y hx hy h1 h2
 ·have gH:=(zA0 hy).1
  rw[zA1,List.length_singleton]at gH
  have e:i+1=L.length:=by omega
  rw[zA5 (by omega)]at hx
  rw[e]at hy
  simp at hy;subst hy
  exact hp h2 x (by rw[<-e,Nat.add_sub_cancel];exact hx) (by omega) h1
theorem TmI.next{c:Int}{N:Nat}{m m' M:Mem}{tr:List Pt->Nat->Prop}{L:List Pt}{i:Nat}{p:Pt}{a:Option Addr}{d:Nat}(hi:i < N)(hL:L.length<=i)(h0:m.le m')(hM:m'.le M)(aC:rowRd M a ((L++[p]).map Pt.cs).flatten)(hr:∀x∈L,RepP m' x)(hp:RepP M p)(hk:∀x∈L,MkP c x)(wG:MkP c p)(hl:ZAX L)(wH:p.k=1->∀x,L[L.length - 1]?=some x->0 < L.length->x.k≠1)(ht:tr (L++[p]) (i+1)):
  ∃n',n' < N - i/\TmI c N m tr [.slice a (L.length+1) d,.int .i64 ((i+1:Nat):Int)] [] [.slice a (L.length+1) d] M n':=by
 refine⟨N - (i+1),by omega,L++[p],a,d,i+1,by rw[zA1];rfl,by rw[zA1];rfl,by omega,by rw[zA1,List.length_singleton];omega,mLt h0 hM,aC,?_,?_,Zs9 hl wH,ht,rfl⟩
 ·intro x hx
  rcases List.mem_append.1 hx with hx|hx
  ·exact(hr x hx).mono hM
  ·rw[List.mem_singleton]at hx;subst hx;exact hp
 ·intro x hx
  rcases List.mem_append.1 hx with hx|hx
  ·exact hk x hx
  ·rw[List.mem_singleton]at hx;subst hx;exact wG
theorem Zg8{m:Mem}{k:Int}{s:ByteArray}{g:Int}(hk:0<=k/\k < 256)(hs:s.size<=1000000000000000)(hg:I64 g):RepP m ⟨k,s,g,E0⟩:=⟨hk,hs,hg,Zy9 m⟩
theorem ZjP:∀s∈Zcx,s.size<=16:=by decide +kernel
theorem ZCr:∀j < 5,∃s:ByteArray,Zzf.getD j .empty=s/\[Value.string ⟨#[97]⟩,.string ⟨#[45]⟩,.string ⟨#[97,98,32]⟩,.string ⟨#[0,255]⟩,.string ⟨#[49,50]⟩][j*1]?=some (.string s)/\0 < s.size/\s.size<=512:=by
 intro j hj
 have:j=0\/j=1\/j=2\/j=3\/j=4:=by omega
 rcases this with rfl|rfl|rfl|rfl|rfl <;> exact⟨_,rfl,rfl,by decide,by decide⟩
set_option maxHeartbeats 2000000 in
theorem ZiE(l:List Nat)(a:Option Addr)(d:Nat)(e:E)(c:Int)(m:Mem)(hb:BytU m a l)(hd:l.length<=d)(hl:l.length<=1000000000000000)(hr:RepE m e)(he:MkE c 20 e)(hc : -1<=c/\c<=10000):
  CX Tryz.prog 129 #[.slice a l.length d,e.v,.int .i64 c] m [] (TmR c (tmF c e.er l)):=by
 apply Zfh
 intro b m1 aG _
 have hN:(if(5:Int) < (l.length:Int)then(5:Int)else(l.length:Int))=((min 5 l.length:Nat):Int):=by split <;> omega
 simp only[hN,zA8,Nat.sub_zero]
 generalize mQ:min 5 l.length=N
 refine⟨⟨by omega,by omega⟩,TmI c N m1 (λL i=>L.map Pt.er=(l.take i).foldl (λL n=>Zo4 c e.er L (n % 8) (n / 8)) []),⟨N,[],none,0,0,rfl,rfl,by omega,by simp,Mem.le_refl _,.inl rfl,by simp,by simp,(λi p q h=>by simp at h),rfl,by omega⟩,?_⟩
 rintro a1 n1 c1 z1 a2 n2 c2 m2 q aK ⟨L,a',c',i,hx,cQ,nR,fx,hm,aC,aP,gT,fV,uA,rfl⟩
 simp only[List.cons.injEq,Value.slice.injEq,Value.int.injEq,true_and,and_true]at hx cQ
 obtain⟨⟨rfl,rfl,rfl⟩,rfl⟩:=hx
 obtain⟨rfl,rfl,rfl⟩:=cQ
 have hw:IntKind.i64.wrap ((i:Int)+1)=((i+1:Nat):Int):=by rw[Zal (by omega) (by omega)];rfl
 have wI:IntKind.i64.wrap ((L.length:Int) - 1)=(L.length:Int) - 1:=Zal (by omega) (by omega)
 have lL:=mLt aG aK
 refine ZaB (λaB=>?_) (λbO=>ZaN lL ⟨L,a2,c2,rfl,aC,aP,⟨by omega,gT,fV⟩,by
  rw[uA];unfold tmF;rw[show l.take i=l.take 5 by rw[List.take_eq_take_iff];omega]⟩)
 have aJ:i < N:=by omega
 obtain⟨n,hn⟩:=Zao (l:=l) (k:=i) (by omega)
 obtain⟨iL,bs,os,ha,hv⟩:=(hb.mono lL).get hn
 have sC:Int.tmod (n:Int) 8=((n % 8:Nat):Int):=rfl
 have sD:IntKind.i64.wrap (Int.tdiv (IntKind.i64.wrap (n:Int)) 8)=((n / 8:Nat):Int):=by
  rw[Zal (n:=(n:Int)) (by omega) (by omega),show Int.tdiv (n:Int) 8=((n / 8:Nat):Int) from rfl,Zal (by omega) (by omega)]
 simp only[hw,wI,zA8]
 refine⟨bs,os,ha,⟨by omega,aB⟩,_,hv,_,rfl,by omega,by omega,?_⟩
 simp only[sC,sD]
 have j9:n / 8 < 32:=by omega
 have stp:∀L':List Pt,L'.map Pt.er=Zo4 c e.er (L.map Pt.er) (n % 8) (n / 8)->L'.map Pt.er=(l.take (i+1)).foldl (λL n=>Zo4 c e.er L (n % 8) (n / 8)) []:=λL' h=>by rw[List.take_add_one,hn,List.foldl_append,<-uA,h];rfl
 generalize n % 8=k at stp
 generalize n / 8=u at j9 stp
 have stay:L.map Pt.er=Zo4 c e.er (L.map Pt.er) k u->∀M:Mem,m2.le M->∃n',n' < N - i/\TmI c N m1 (λL i=>L.map Pt.er=(l.take i).foldl (λL n=>Zo4 c e.er L (n % 8) (n / 8)) []) [.slice a2 L.length c2,.int .i64 ((i+1:Nat):Int)] [] [.slice a2 L.length c2] M n':=λcB M hM=>⟨N - (i+1),by omega,L,a2,c2,i+1,rfl,rfl,by omega,by omega,mLt hm hM,aC.mono hM,λp hp=>(aP p hp).mono hM,gT,fV,stp _ cB,rfl⟩
 refine⟨λxs _ _ m'=>xs=[.bool (decide (k=0\/k=1))]/\m2.le m',Zab (λh=>⟨trivial,trivial,?_,Mem.le_refl _⟩) (λh=>⟨trivial,trivial,?_,Mem.le_refl _⟩),?_⟩
 ·have:k=0:=by simp at h;omega
  rw[h,this];rfl
 ·have:¬k=0:=by simp at h;omega
  refine Zaq ?_
  rw[Bool.eq_iff_iff];simp;omega
 rintro b2 m3 aR ⟨eY,_⟩
 obtain rfl:b2=decide (k=0\/k=1):=by simpa using eY
 have dA:=mLt lL aR
 refine ZaB (λft=>?_) (λft=>?_)
 ·refine⟨decide (L.length=0)||!(match L[L.length - 1]? with
   | some x=>x.k == 1
   | none=>false),ZaB (λh=>⟨trivial,trivial,Zaq ?_⟩) (λh=>?_),Zab (λhB=>?_) (λhB=>⟨trivial,stay (Zxx ft hB) m3 aR⟩)⟩
  ·rw[decide_eq_true (show L.length=0 by omega)];rfl
  ·obtain⟨x,hx⟩:=Zao (l:=L) (k:=L.length - 1) (by omega)
   obtain⟨b4,o4,kU,cz⟩:=Zaj Pt.len (aC.mono aR) hx (by omega)
   have wJ:Int.toNat ((L.length:Int) - 1)=L.length - 1:=by omega
   refine⟨b4,o4,kU,⟨by omega,by omega⟩,.int .u8 x.k,by rw[wJ];exact cz 0 _ rfl,_,rfl,trivial,trivial,Zaq ?_⟩
   rw[decide_eq_false (show ¬L.length=0 by omega),hx,Bool.false_or]
  ·have uB:Int.tmod (u:Int) 5=((u % 5:Nat):Int):=rfl
   have h5:u % 5 < 5:=Nat.mod_lt _ (by omega)
   intro b4 fy
   obtain⟨s,d5,hs,j3,wK⟩:=ZCr (u % 5) h5
   refine⟨by omega,by rw[uB];exact⟨by omega,by omega⟩,Zam (by rw[uB,zA8];exact hs) ⟨s,rfl,λb5 iX=>?_⟩⟩
   have sE:=mLt aR (Mem.le_add fy [Value.string ⟨#[97]⟩,.string ⟨#[45]⟩,.string ⟨#[97,98,32]⟩,.string ⟨#[0,255]⟩,.string ⟨#[49,50]⟩])
   refine Zg0 Pt.len Pt.one iX (⟨1,s,0,E0⟩:Pt) (aC.mono sE) 96 (by omega) (by omega) (.inl trivial) λa8 c8 m8 eA eW=>⟨trivial,TmI.next aJ fx (mLt hm sE) (mLt (Mem.le_add iX _) eA) eW (λx hx=>(aP x hx).mono sE) (Zg8 (by omega) (by omega) ⟨by omega,by omega⟩) gT (.lit s ⟨j3,wK⟩) fV (λ_ x hx yb qo=>?_) (stp _ (Zvb ft hB d5))⟩
   rw[hx,decide_eq_false (show ¬L.length=0 by omega)]at hB
   simp[qo]at hB
 refine⟨λxs _ _ m'=>xs=[.bool (decide (k=2\/k=3))]/\m3.le m',Zab (λh=>⟨trivial,trivial,?_,Mem.le_refl _⟩) (λh=>⟨trivial,trivial,?_,Mem.le_refl _⟩),?_⟩
 ·have:k=2:=by simp at h;omega
  rw[h,this];rfl
 ·have:¬k=2:=by simp at h;omega
  refine Zaq ?_
  rw[Bool.eq_iff_iff];simp;omega
 rintro b3 m4 cE ⟨eZ,_⟩
 obtain rfl:b3=decide (k=2\/k=3):=by simpa using eZ
 have fZ:=mLt aR cE
 refine ZaB (λnS=>?_) (λnS=>?_)
 ·refine Zan (ZmF m4) Zdh ?_
  rintro a5 n5 c5 m5 cP ⟨a',c',fB,eD⟩
  simp only[Value.slice.injEq]at fB
  obtain⟨rfl,rfl,rfl⟩:=fB
  have h2:u % 2 < 2:=Nat.mod_lt _ (by omega)
  obtain⟨s,hs⟩:=Zao (l:=Zcx) (k:=u % 2) h2
  have iY:=zA2 hs
  obtain⟨b6,o6,ij,cz⟩:=ZcX eD hs
  have bJ:s.size<=1000000000000000:=by have:=ZjP s iY;omega
  have hu:Int.tmod (u:Int) 2=((u % 2:Nat):Int):=rfl
  have gU:=mLt fZ cP
  refine⟨by omega,b6,o6,ij,by rw[hu];exact⟨by omega,by show((u % 2:Nat):Int) < (2:Nat);omega⟩,_,by rw[hu,zA8];exact cz,s,rfl,λb7 lN=>?_⟩
  refine Zg0 Pt.len Pt.one lN (⟨2,s,0,E0⟩:Pt) (aC.mono gU) 96 (by omega) (by omega) (.inl trivial) λa8 c8 m8 eA eW=>⟨trivial,TmI.next aJ fx (mLt hm gU) (mLt (Mem.le_add lN _) eA) eW (λx hx=>(aP x hx).mono gU) (Zg8 (by omega) bJ ⟨by omega,by omega⟩) gT (.var s (.inr iY)) fV (λh=>absurd (show(2:Int)=1 from h) (by decide)) (stp _ (Zvc ft nS hs))⟩
 refine Zab (λh4=>?_) (λh4=>?_)
 ·refine Zan (ZhC m4) Zdh ?_
  rintro a5 n5 c5 m5 cP ⟨a',c',fB,eD⟩
  simp only[Value.slice.injEq]at fB
  obtain⟨rfl,rfl,rfl⟩:=fB
  have h2:u % 4 < 4:=Nat.mod_lt _ (by omega)
  obtain⟨s,hs⟩:=Zao (l:=ZeR) (k:=u % 4) h2
  have iY:=zA2 hs
  obtain⟨b6,o6,ij,cz⟩:=ZcX eD hs
  have bJ:s.size<=1000000000000000:=by have:=ZjI s iY;omega
  have hu:Int.tmod (u:Int) 4=((u % 4:Nat):Int):=rfl
  have gU:=mLt fZ cP
  refine⟨by omega,b6,o6,ij,by rw[hu];exact⟨by omega,by show((u % 4:Nat):Int) < (4:Nat);omega⟩,_,by rw[hu,zA8];exact cz,s,rfl,λb7 lN=>?_⟩
  refine Zg0 Pt.len Pt.one lN (⟨2,s,0,E0⟩:Pt) (aC.mono gU) 96 (by omega) (by omega) (.inl trivial) λa8 c8 m8 eA eW=>⟨trivial,TmI.next aJ fx (mLt hm gU) (mLt (Mem.le_add lN _) eA) eW (λx hx=>(aP x hx).mono gU) (Zg8 (by omega) bJ ⟨by omega,by omega⟩) gT (.var s (.inl iY)) fV (λh=>absurd (show(2:Int)=1 from h) (by decide)) (stp _ (Zvd ft nS (by have:=h4;simp at this;omega) hs))⟩
 refine⟨λxs _ _ m'=>xs=[.bool (decide (k=5\/k=6))]/\m4.le m',Zab (λh=>⟨trivial,trivial,?_,Mem.le_refl _⟩) (λh=>⟨trivial,trivial,?_,Mem.le_refl _⟩),?_⟩
 ·have:k=5:=by simp at h;omega
  rw[h,this];rfl
 ·have:¬k=5:=by simp at h;omega
  refine Zaq ?_
  rw[Bool.eq_iff_iff];simp;omega
 rintro b4 m5 cP ⟨nO,_⟩
 obtain rfl:b4=decide (k=5\/k=6):=by simpa using nO
 have gU:=mLt fZ cP
 have j4:¬k=4:=by have:=h4;simp at this;omega
 refine ZaB (λqy=>?_) (λqy=>?_)
 ·refine ZaB (λhp=>?_) (λhp=>⟨trivial,stay (ZpH ft nS j4 qy (by omega)) m5 gU⟩)
  obtain⟨C,wL,lO,sF,hC⟩:∃C:Nat,C=(if(9:Int) < c then(9:Int)else c).toNat/\(C:Int)<=c/\C<=9/\IntKind.i64.wrap ((if(9:Int) < c then(9:Int)else c)+1)=((C+1:Nat):Int):=by
   by_cases h9:9 < c
   ·exact⟨9,by rw[if_pos h9];rfl,by omega,by omega,by rw[if_pos h9];rfl⟩
   ·refine⟨c.toNat,by rw[if_neg h9],by omega,by omega,?_⟩
    rw[if_neg h9,Zal (by omega) (by omega)];omega
  have kV:Int.tmod (u:Int) ((C+1:Nat):Int)=((u % (C+1):Nat):Int):=rfl
  have aB:u % (C+1) < C+1:=Nat.mod_lt _ (by omega)
  simp only[hC,kV]
  refine⟨by omega,λb6 gq=>?_⟩
  refine Zg0 Pt.len Pt.one gq (⟨3,.empty,((u % (C+1):Nat):Int),E0⟩:Pt) (aC.mono gU) 96 (by omega) (by omega) (.inl trivial) λa8 c8 m8 eA eW=>⟨trivial,TmI.next aJ fx (mLt hm gU) (mLt (Mem.le_add gq _) eA) eW (λx hx=>(aP x hx).mono gU) (Zg8 (by omega) (by rw[ZaU];omega) ⟨by omega,by omega⟩) gT (.cap _ (by omega)) fV (λh=>absurd (show(3:Int)=1 from h) (by decide)) (stp _ (Zve ft nS j4 qy (by omega) wL))⟩
 ·intro b6 gq
  have pi:=Mem.le_add gq (⟨4,.empty,0,e⟩:Pt).cs
  refine Zg0 Pt.len Pt.one gq (⟨4,.empty,0,e⟩:Pt) (aC.mono gU) 96 (by omega) (by omega) (.inl trivial) λa8 c8 m8 eA eW=>⟨trivial,TmI.next aJ fx (mLt hm gU) (mLt pi eA) eW (λx hx=>(aP x hx).mono gU) ⟨by show(0:Int)<=4/\(4:Int) < 256;omega,by show ByteArray.empty.size<=_;rw[ZaU];omega,⟨by show(-9223372036854775808:Int)<=0;omega,by show(0:Int)<=9223372036854775807;omega⟩,hr.mono' (mLt lL (mLt gU (mLt pi eA)))⟩ gT (.clc e he) fV (λh=>absurd (show(4:Int)=1 from h) (by decide)) (stp _ (Zvf ft nS j4 qy))⟩
theorem ZCs(l:List T):∀u∈Rx.Zcj l,u.oneCell'=true:=by
 intro u hu
 simp only[Rx.Zcj,List.mem_flatten,List.mem_map]at hu
 obtain⟨_,⟨t,_,rfl⟩,h⟩:=hu
 simp only[T.cs,T.sl,List.mem_cons,List.not_mem_nil,or_false]at h
 rcases h with rfl|rfl|rfl|rfl|rfl|rfl|rfl|rfl <;> rfl
theorem ZlU(a:Option Addr)(c:Nat)(l:List T)(m:Mem)(h:rowRd m a (Rx.Zcj l))(hl:l.length<=1000000000000):CXT Tryz.prog 155 #[.slice a l.length c] m 8 (λv m' _=>∃a' c',v=.slice a' l.length c'/\rowRd m' a' (Rx.Zcj l)/\l.length<=c'/\(l.length=0\/∃b,a'=some ⟨b,0,none⟩/\m.free b)):=by
 apply Zbw
 have aH:=Zar l
 refine Zab (λha=>?_) (λha=>⟨⟨rfl,Int.le_refl _,by decide,by decide⟩,λb hf _=>⟨.inl rfl,[],Rx.Zcj l,rfl,aH,.inl rfl,h,ZCs l,by omega,by omega,λa' c' m' hm aC iM=>⟨rfl,?_⟩⟩⟩)
 ·obtain rfl:a=none:=by simpa using ha
  have h0:l=[]:=by
   rcases h with h|⟨_,_,h,_⟩
   ·rw[h]at aH;exact List.eq_nil_of_length_eq_zero (by simp at aH;omega)
   ·cases h
  subst h0
  exact⟨rfl,none,0,rfl,.inl rfl,Nat.le_refl _,.inl rfl⟩
 ·simp only[Nat.zero_add]at iM ⊢
  refine⟨a',c',rfl,aC,iM.1,?_⟩
  rcases(iM.old (λ_ _ e=>by cases e;rfl)).2 with h1|⟨b',h1,h2|h2⟩
  ·subst h1
   left
   rcases aC with h3|⟨_,_,h3,_⟩
   ·have h4:(Rx.Zcj l).length=0:=congrArg List.length h3
    omega
   ·cases h3
  ·right;rw[<-h2];exact⟨b,rfl,hf⟩
  ·exact .inr ⟨b',h1,h2⟩
theorem ZvO{m:Mem}{b:Nat}{ts r:List T}{x t:T}(h:rowRd m (some ⟨b,0,none⟩) (Rx.Zcj (ts++x::r))):rowRd (m.upd b (0+ts.length*8) t.cs) (some ⟨b,0,none⟩) (Rx.Zcj (ts++t::r)):=by
 rcases h with h|⟨b',o',ha,h⟩
 ·have hl:(Rx.Zcj (ts++x::r)).length=0:=by rw[h];rfl
  rw[Zar,zA1,List.length_cons]at hl
  omega
 cases ha
 have e:∀y:T,Rx.Zcj (ts++y::r)=Rx.Zcj ts++(y.cs++Rx.Zcj r):=λy=>by simp[Rx.Zcj]
 have h8:∀y:T,y.cs.length=8:=λ_=>rfl
 refine .inr ⟨b,0,rfl,λj v hj=>?_⟩
 rw[e]at hj
 unfold Mem.upd;try dsimp only
 rw[Nat.zero_add,Nat.zero_add,h8]
 rcases Nat.lt_or_ge j (ts.length*8)with aB|bO
 ·rw[if_neg (by omega)]
  rw[zA5 (by rw[Zar];exact aB)]at hj
  have:=h j v (by rw[e,zA5 (by rw[Zar];exact aB)];exact hj)
  rwa [Nat.zero_add]at this
 ·rw[zA4 (by rw[Zar];exact bO),Zar]at hj
  rcases Nat.lt_or_ge j (ts.length*8+8)with aB|dP
  ·rw[if_pos ⟨rfl,bO,aB⟩]
   rw[zA5 (by rw[h8];omega)]at hj
   exact hj
  ·rw[if_neg (by omega)]
   rw[zA4 (by rw[h8];omega),h8]at hj
   have:=h j v (by
    rw[e,zA4 (by rw[Zar];exact bO),Zar,zA4 (by rw[h8];omega),h8];exact hj)
   rwa [Nat.zero_add]at this
theorem ZvP{m m':Mem}(h:m.le m'){b:Nat}(hf:m'.free b):m.free b:=λo=>by
 cases he:m b o with
 | none=>rfl
 | some v=>have:=h _ _ _ he;rw[hf o]at this;cases this
def NewT(m:Mem)(t:T):Prop:=∀x∈t.nodes,x.subs=[]\/∃b,x.a=some ⟨b,0,none⟩/\m.free b
theorem NewT.less{m m':Mem}{t:T}(hn:NewT m' t)(h:m.le m'):NewT m t:=λx hx=>(hn x hx).imp id λ⟨b,e,hf⟩=>⟨b,e,ZvP h hf⟩
theorem Zta{m:Mem}{k s0 s1 s2 s3 mn mx:Int}{a:Option Addr}{c:Nat}{l:List T}(h:l=[]\/∃b,a=some ⟨b,0,none⟩/\m.free b)(hl:∀x∈l,NewT m x):NewT m (.node k s0 s1 s2 s3 mn mx a c l):=by
 intro x hx
 simp only[T.nodes,List.mem_cons]at hx
 rcases hx with rfl|hx
 ·exact h
 ·have:∀l:List T,(∀x∈l,NewT m x)->∀x∈ZaI l,x.subs=[]\/∃b,x.a=some ⟨b,0,none⟩/\m.free b:=by
   intro l
   induction l with
   | nil=>intro _ x hx;simp[ZaI]at hx
   | cons y l ih=>
    intro h x hx
    simp only[ZaI,List.mem_append]at hx
    rcases hx with hx|hx
    ·exact h y (by simp) x hx
    ·exact ih (λz hz=>h z (by simp[hz])) x hx
  exact this l hl x hx
set_option maxHeartbeats 800000 in
theorem ZkX(t:T)(m:Mem)(hr:Rep m t)(hz:t.nodes.length<=10000):CX Tryz.prog 130 #[t.v] m [] (ZnE λt'=>t'.er=t.er/\(t'.caps/\NewT m t')):=by
 have bJ:szL t.subs<=10000:=by rw[Zjg]at hz;omega
 have d5:t.subs.length<=10000:=Nat.le_trans (ZnO _) bJ
 apply ZlP
 intro b b1
 refine⟨_,ZlU t.a t.c t.subs m (Zd7 hr.subs) (by omega),(λv _ _ ⟨a,c,e,_⟩=>by rw[e];rfl),?_⟩
 rintro a n c m1 aG ⟨a',c',hv,aC,gj,bI⟩
 simp only[Value.slice.injEq]at hv
 obtain⟨rfl,rfl,rfl⟩:=hv
 have aP:∀x∈t.subs,Rep m x:=Zjb hr.subs
 refine⟨λxs css tvs m' q=>∃(k:Nat)(L:List T)(mb:Mem),k<=t.subs.length/\xs=[.int .i64 k]/\q=t.subs.length - k/\L.length=k/\L.map T.er=(t.subs.take k).map T.er/\m.le mb/\mb.le m'/\(t.subs.length=0\/∃b,a=some ⟨b,0,none⟩/\mb.free b)/\(∀x∈L,Rep mb x/\(x.caps/\NewT m x))/\(t.subs.length=0\/∃b,a=some ⟨b,0,none⟩/\m.free b)/\rowRd m' a (Rx.Zcj (L++t.subs.drop k)),⟨_,0,[],m,by omega,rfl,rfl,rfl,rfl,Mem.le_refl _,aG,bI,by simp,bI,aC⟩,?_⟩
 rintro z m2 q _ ⟨k,L,mb,hk,cC,hq,iN,lP,ep,ik,dV,kj,bN,cX⟩
 obtain rfl:z=k:=by simpa using cC
 refine Zab (λaB=>?_) (λbO=>?_)
 ·have aJ:k < t.subs.length:=by have:=zA6 aB;omega
  obtain⟨x,hx⟩:=Zao aJ
  have dd:=aP x (zA2 hx)
  have kJ:x.nodes.length<=10000:=by
   obtain⟨h1,h2⟩:=zA0 hx
   have:=congrArg List.length (Zev hx)
   unfold szL at bJ
   simp only[zA1]at this
   omega
  have gM:t.subs.drop k=x::t.subs.drop (k+1):=by
   rw[List.drop_eq_getElem_cons aJ,(zA0 hx).2]
  rcases dV with dV|⟨bk,rfl,dy⟩
  ·omega
  obtain⟨b0,o0,mU,cz⟩:=Zdw cX (i:=k) (t:=x) (by rw[zA4 (by omega),iN,Nat.sub_self,gM];rfl)
  cases mU
  have hw:IntKind.i64.wrap ((k:Int)+1)=((k+1:Nat):Int):=by rw[Zal (by omega) (by omega)];rfl
  simp only[hw,zA8]
  have fP:CX Tryz.prog 130 #[x.v] m2 [] (Zo6 mb m2 λt'=>t'.er=x.er/\(t'.caps/\NewT mb t')):=(ZkX x mb (Rep.mono ep x dd) kJ).frame2 ik
  refine⟨bk,0,rfl,⟨by omega,by omega⟩,_,_,_,_,_,_,_,_,cz,λb3=>Zaa rfl ⟨λ_ _ _=>Zo6 mb m2 λt'=>t'.er=x.er/\(t'.caps/\NewT mb t'),Zo6 mb m2 λt'=>t'.er=x.er/\(t'.caps/\NewT mb t'),rfl,fP,Zde,ZiD λt' m0 m3 aR h0 dA df hr' ht'=>⟨bk,0,rfl,⟨by omega,by omega⟩,λM fh fA=>⟨rfl,by omega,by trivial,by trivial,t.subs.length - (k+1),by omega,k+1,L++[t'],m0,by omega,rfl,rfl,by simp[iN],?_,mLt ep h0,?_,.inr ⟨bk,rfl,?_⟩,?_,bN,?_⟩⟩⟩⟩
  ·rw[List.map_append,lP,ZqE hx,List.map_append]
   simp[ht'.1]
  ·refine Mem.le_upd (mLt dA fA) ?_ _ _
   intro o'
   have hc:m2 bk (0+k*8+0)=some (.int .u8 x.k):=cz 0 _ rfl
   rw[df _ _ _ hc o'];exact dy o'
  ·intro o'
   have hc:m2 bk (0+k*8+0)=some (.int .u8 x.k):=cz 0 _ rfl
   rw[df _ _ _ hc o'];exact dy o'
  ·intro y hy
   rcases List.mem_append.1 hy with hy|hy
   ·exact⟨Rep.mono h0 y (kj y hy).1,(kj y hy).2⟩
   ·simp at hy;subst hy;exact⟨hr',ht'.2.1,ht'.2.2.less ep⟩
  ·rw[gM]at cX
   have h5:=ZvO (t:=t') (cX.mono fh)
   rw[iN]at h5
   rw[List.append_assoc]
   exact h5
 ·have cY:k=t.subs.length:=by have:=of_decide_eq_false bO;omega
  subst cY
  rw[List.drop_length,List.append_nil]at cX
  rw[List.take_length]at lP
  have cH:=Zzx hr
  refine⟨m2,mLt ep ik,Mem.le_refl _,.node t.k t.s0 t.s1 t.s2 t.s3 t.mn t.mx a c L,?_,?_,?_⟩
  ·simp only[T.v,T.k,T.s0,T.s1,T.s2,T.s3,T.mn,T.mx,T.a,T.c,T.subs,iN]
  ·have:=ZtR cX (λx hx=>Rep.mono ik x (kj x hx).1) (by omega)
   exact Zls this.1 this.2 cH
  ·have:=Zxp (k:=t.k) (s0:=t.s0) (s1:=t.s1) (s2:=t.s2) (s3:=t.s3) (mn:=t.mn) (mx:=t.mx) (a:=a) (a':=t.a) (c:=c) (c':=t.c) lP
   refine⟨this.trans ?_,ZsE (by omega) λx hx=>(kj x hx).2.1,Zta (bN.imp (λh=>List.eq_nil_of_length_eq_zero (by omega)) id) λx hx=>(kj x hx).2.2⟩
   cases t;rfl
termination_by SizeOf.sizeOf t
decreasing_by exact Zso (zA2 hx)
mutual
theorem Zx1{m m':Mem}:∀(t:T),Rep m' t->NewT m t->Rep (nw m m') t
 | .node k s0 s1 s2 s3 mn mx a c l,hr,hn=>by
  have h0:=hn _ (by rw[Zcv];exact List.mem_cons_self)
  simp only[Rep]at hr ⊢
  refine⟨hr.1,?_,hr.2.2⟩
  rcases hr.2.1 with h|⟨b,o,ha,dU⟩
  ·exact .inl h
  rcases h0 with h|⟨b',hb',hf⟩
  ·exact .inl h
  ·have e:a=some ⟨b',0,none⟩:=hb'
   rw[ha]at e
   simp only[Option.some.injEq,Addr.mk.injEq,and_true]at e
   obtain⟨rfl,rfl⟩:=e
   exact .inr ⟨b,0,ha,Zrv b hf 0 l dU λx hx y hy=>hn y (by
    rw[Zcv]
    refine List.mem_cons_of_mem _ ?_
    obtain⟨i,hi⟩:=List.getElem?_of_mem hx
    rw[show(T.node k s0 s1 s2 s3 mn mx a c l).subs=l from rfl,Zev hi]
    simp[hy])⟩
theorem Zrv{m m':Mem}(b:Nat)(hf:m.free b):∀(o:Nat)(l:List T),RepAt m' b o l->(∀x∈l,NewT m x)->RepAt (nw m m') b o l
 | _,[],_,_=>by simp only[RepAt]
 | o,t::l,hr,hn=>by
  simp only[RepAt]at hr ⊢
  exact⟨λj v hj=>by rw[ZwA hf];exact hr.1 j v hj,Zx1 t hr.2.1 (hn t (by simp)),Zrv b hf (o+8) l hr.2.2 λx hx=>hn x (by simp[hx])⟩
end
def CpT(m:Mem)(t:T):Value->Mem->List (List Value)->Prop:=λv m' _=>∃t':T,v=t'.v/\t'.er=t.er/\Rep (nw m m') t'
theorem ZvQ{m:Mem}{t:T}:∀(v:Value)(m':Mem) (css:List (List Value)),CpT m t v m' css->Shape.fits (.agg [.int .u8,.int .u64,.int .u64,.int .u64,.int .u64,.int .i64,.int .i64,.slice]) v=true:=λv _ _ ⟨t,e,_⟩=>by rw[e];rfl
theorem ZvR(t:T)(m:Mem)(hr:Rep m t)(hz:t.nodes.length<=10000):CX Tryz.prog 87 #[t.v] m [] (CpT m t):=by
 apply ZpY
 intro b m1 aG _ b1
 have hl:t.light=true:=by unfold T.light;exact decide_eq_true hz
 have h:=ZhB t m1 (hr.mono aG)
 rw[hl]at h
 refine Zah h λm2 aK=>Zor rfl (Zan (ZkX t m2 (hr.mono (mLt aG aK)) hz) Ze9 (ZpB λt' m3 aR hr' ht'=>?_))
 exact⟨m3,mLt aG (mLt aK aR),Mem.le_refl _,t',rfl,ht'.1,Zx1 t' hr' (ht'.2.2.less (mLt aG aK))⟩
theorem Zow(a:Option Addr)(c:Nat)(l:List E)(m:Mem)(h:rowRd m a (l.map E.cs).flatten)(hl:l.length<=1000000000000):CXT Tryz.prog 156 #[.slice a l.length c] m 5 (λv m' _=>∃a' c',v=.slice a' l.length c'/\rowRd m' a' (l.map E.cs).flatten/\l.length<=c'/\(l.length=0\/∃b,a'=some ⟨b,0,none⟩/\m.free b)):=by
 apply Zba
 have aH:(l.map E.cs).flatten.length=l.length*5:=Za3 E.len l
 refine Zab (λha=>?_) (λha=>⟨⟨rfl,Int.le_refl _,by decide,by decide⟩,λb hf _=>⟨.inl rfl,[],(l.map E.cs).flatten,rfl,aH,.inl rfl,h,?_,by omega,by omega,λa' c' m' hm aC iM=>⟨rfl,?_⟩⟩⟩)
 ·obtain rfl:a=none:=by simpa using ha
  have h0:l=[]:=by
   rcases h with h|⟨_,_,h,_⟩
   ·rw[h]at aH;exact List.eq_nil_of_length_eq_zero (by simp at aH;omega)
   ·cases h
  subst h0
  exact⟨rfl,none,0,rfl,.inl rfl,Nat.le_refl _,.inl rfl⟩
 ·intro u hu
  simp only[List.mem_flatten,List.mem_map]at hu
  obtain⟨_,⟨e,_,rfl⟩,hu⟩:=hu
  exact E.one e u hu
 ·simp only[Nat.zero_add]at iM ⊢
  refine⟨a',c',rfl,aC,iM.1,?_⟩
  rcases(iM.old (λ_ _ e=>by cases e;rfl)).2 with h1|⟨b',h1,h2|h2⟩
  ·subst h1
   left
   rcases aC with h3|⟨_,_,h3,_⟩
   ·have h4:(l.map E.cs).flatten.length=0:=congrArg List.length h3
    omega
   ·cases h3
  ·right;rw[<-h2];exact⟨b,rfl,hf⟩
  ·exact .inr ⟨b',h1,h2⟩
theorem Ztb{m:Mem}{b:Nat}{ts r:List E}{x t:E}(h:rowRd m (some ⟨b,0,none⟩) ((ts++x::r).map E.cs).flatten):rowRd (m.upd b (0+ts.length*5) t.cs) (some ⟨b,0,none⟩) ((ts++t::r).map E.cs).flatten:=by
 have hl:∀l:List E,(l.map E.cs).flatten.length=l.length*5:=Za3 E.len
 rcases h with h|⟨b',o',ha,h⟩
 ·have:=congrArg List.length h
  rw[hl,zA1,List.length_cons]at this
  simp at this
 cases ha
 have e:∀y:E,((ts++y::r).map E.cs).flatten=(ts.map E.cs).flatten++(y.cs++(r.map E.cs).flatten):=λy=>by simp
 refine .inr ⟨b,0,rfl,λj v hj=>?_⟩
 rw[e]at hj
 unfold Mem.upd;try dsimp only
 rw[Nat.zero_add,Nat.zero_add,E.len]
 rcases Nat.lt_or_ge j (ts.length*5)with aB|bO
 ·rw[if_neg (by omega)]
  rw[zA5 (by rw[hl];exact aB)]at hj
  have:=h j v (by rw[e,zA5 (by rw[hl];exact aB)];exact hj)
  rwa [Nat.zero_add]at this
 ·rw[zA4 (by rw[hl];exact bO),hl]at hj
  rcases Nat.lt_or_ge j (ts.length*5+5)with aB|dP
  ·rw[if_pos ⟨rfl,bO,aB⟩]
   rw[zA5 (by rw[E.len];omega)]at hj
   exact hj
  ·rw[if_neg (by omega)]
   rw[zA4 (by rw[E.len];omega),E.len]at hj
   have:=h j v (by
    rw[e,zA4 (by rw[hl];exact bO),hl,zA4 (by rw[E.len];omega),E.len];exact hj)
   rwa [Nat.zero_add]at this
def NewE(m:Mem)(t:E):Prop:=∀x∈t.nodes,x.subs=[]\/∃b,x.a=some ⟨b,0,none⟩/\m.free b
theorem NewE.less{m m':Mem}{t:E}(hn:NewE m' t)(h:m.le m'):NewE m t:=λx hx=>(hn x hx).imp id λ⟨b,e,hf⟩=>⟨b,e,Zbo h hf⟩
theorem ZiF{y x:E}{l:List E}(hx:x∈l)(hy:y∈x.nodes):y∈Zak l:=by
 obtain⟨i,hi⟩:=List.getElem?_of_mem hx
 rw[Zch hi];simp[hy]
theorem Ztc{m:Mem}{k:Int}{x:Nat}{s:ByteArray}{g:Int}{a:Option Addr}{c:Nat}{l:List E}(h:l=[]\/∃b,a=some ⟨b,0,none⟩/\m.free b)(hl:∀x∈l,NewE m x):NewE m (.node k x s g a c l):=by
 intro x hx
 simp only[E.nodes,List.mem_cons]at hx
 rcases hx with rfl|hx
 ·exact h
 ·have:∀l:List E,(∀x∈l,NewE m x)->∀x∈Zak l,x.subs=[]\/∃b,x.a=some ⟨b,0,none⟩/\m.free b:=by
   intro l
   induction l with
   | nil=>intro _ x hx;simp[Zak]at hx
   | cons y l ih=>
    intro h x hx
    simp only[Zak,List.mem_append]at hx
    rcases hx with hx|hx
    ·exact h y (by simp) x hx
    ·exact ih (λz hz=>h z (by simp[hz])) x hx
  exact this l hl x hx
mutual
theorem Zuu{m m':Mem}:∀(t:E),RepE m' t->NewE m t->RepE (nw m m') t
 | .node k x s g a c l,hr,hn=>by
  have h0:=hn _ (by rw[Zbg];exact List.mem_cons_self)
  simp only[RepE]at hr ⊢
  refine⟨hr.1,?_,hr.2.2⟩
  rcases hr.2.1 with h|⟨b,o,ha,dU⟩
  ·exact .inl h
  rcases h0 with h|⟨b',hb',hf⟩
  ·exact .inl h
  ·have e:a=some ⟨b',0,none⟩:=hb'
   rw[ha]at e
   simp only[Option.some.injEq,Addr.mk.injEq,and_true]at e
   obtain⟨rfl,rfl⟩:=e
   exact .inr ⟨b,0,ha,Zox b hf 0 l dU λx hx y hy=>hn y (by
    rw[Zbg]
    exact List.mem_cons_of_mem _ (ZiF hx hy))⟩
theorem Zox{m m':Mem}(b:Nat)(hf:m.free b):∀(o:Nat)(l:List E),RepEAt m' b o l->(∀x∈l,NewE m x)->RepEAt (nw m m') b o l
 | _,[],_,_=>by simp only[RepEAt]
 | o,t::l,hr,hn=>by
  simp only[RepEAt]at hr ⊢
  exact⟨λj v hj=>by rw[ZwA hf];exact hr.1 j v hj,Zuu t hr.2.1 (hn t (by simp)),Zox b hf (o+5) l hr.2.2 λx hx=>hn x (by simp[hx])⟩
end
theorem Zg9{m:Mem}{b:Nat}:∀(L:List E)(o:Nat),RepEAt m b o L->m.reads b o (L.map E.cs).flatten
 | [],o,_=>λj v hj=>by simp at hj
 | z::L,o,h=>λj v hj=>by
  simp only[RepEAt]at h
  rw[List.map_cons,List.flatten_cons]at hj
  rcases Nat.lt_or_ge j 5 with aB|bO
  ·rw[zA5 (by rw[E.len];exact aB)]at hj
   exact h.1 j v hj
  ·rw[zA4 (by rw[E.len];exact bO),E.len]at hj
   have:=Zg9 L (o+5) h.2.2 (j - 5) v hj
   rwa [show o+5+(j - 5)=o+j by omega]at this
theorem ZvS(e:E)(m:Mem):CX Tryz.prog 132 #[e.v] m [] (Ret e.v):=by
 apply ZhZ
 intro b m1 aG _ b2
 exact Zaa rfl (Zaf aG rfl)
set_option maxHeartbeats 800000 in
theorem ZkY(t:E)(m:Mem)(hr:RepE m t)(hz:t.nodes.length<=10000):CX Tryz.prog 131 #[t.v,.func (.func 132) #[] #[]] m [] (ER λt'=>t'.er=t.er/\NewE m t'):=by
 have d5:t.subs.length<=10000:=by
  have:=Zeb t.subs
  rw[Zbg,List.length_cons]at hz;omega
 have aP:∀x∈t.subs,RepE m x:=λx hx=>ZpD hr (by rw[Zbg];exact List.mem_cons_of_mem _ (ZiF hx (by rw[Zbg];simp)))
 have pj:rowRd m t.a (t.subs.map E.cs).flatten:=by
  rcases(Zdg hr).2 with h|⟨b,o,ha,dU⟩
  ·rw[h];exact .inl rfl
  ·exact .inr ⟨b,o,ha,Zg9 t.subs o dU⟩
 apply Zg1
 intro b b1
 refine⟨_,Zow t.a t.c t.subs m pj (by omega),(λv _ _ ⟨a,c,e,_⟩=>by rw[e];rfl),?_⟩
 rintro a n c m1 aG ⟨a',c',hv,aC,gj,bI⟩
 simp only[Value.slice.injEq]at hv
 obtain⟨rfl,rfl,rfl⟩:=hv
 refine⟨λxs css tvs m' q=>∃(k:Nat)(L:List E)(mb:Mem),k<=t.subs.length/\xs=[.int .i64 k]/\q=t.subs.length - k/\L.length=k/\L.map E.er=(t.subs.take k).map E.er/\m.le mb/\mb.le m'/\(t.subs.length=0\/∃b,a=some ⟨b,0,none⟩/\mb.free b)/\(∀x∈L,RepE mb x/\NewE m x)/\(t.subs.length=0\/∃b,a=some ⟨b,0,none⟩/\m.free b)/\rowRd m' a ((L++t.subs.drop k).map E.cs).flatten,⟨_,0,[],m,by omega,rfl,rfl,rfl,rfl,Mem.le_refl _,aG,bI,by simp,bI,aC⟩,?_⟩
 rintro z m2 q _ ⟨k,L,mb,hk,cC,hq,iN,lP,ep,ik,dV,kj,bN,cX⟩
 obtain rfl:z=k:=by simpa using cC
 refine Zab (λaB=>?_) (λbO=>?_)
 ·have aJ:k < t.subs.length:=by have:=zA6 aB;omega
  obtain⟨x,hx⟩:=Zao aJ
  have dd:=aP x (zA2 hx)
  have kJ:x.nodes.length<=10000:=by
   have:=congrArg List.length (Zch hx)
   rw[Zbg,List.length_cons]at hz
   simp only[zA1]at this
   omega
  have gM:t.subs.drop k=x::t.subs.drop (k+1):=by
   rw[List.drop_eq_getElem_cons aJ,(zA0 hx).2]
  rcases dV with dV|⟨bk,rfl,dy⟩
  ·omega
  obtain⟨b0,o0,mU,cz⟩:=Zaj E.len cX (k:=k) (t:=x) (by rw[zA4 (by omega),iN,Nat.sub_self,gM];rfl) (by omega)
  cases mU
  have hw:IntKind.i64.wrap ((k:Int)+1)=((k+1:Nat):Int):=by rw[Zal (by omega) (by omega)];rfl
  simp only[hw,zA8]
  have fP:CX Tryz.prog 131 #[x.v,.func (.func 132) #[] #[]] m2 [] (EF mb m2 λt'=>t'.er=x.er/\NewE mb t'):=(ZkY x mb (RepE.mono ep x dd) kJ).frame2 ik
  refine⟨bk,0,rfl,⟨by omega,by omega⟩,_,_,_,_,_,cz,λb3=>Zaa rfl ⟨λ_ _ _=>EF mb m2 λt'=>t'.er=x.er/\NewE mb t',EF mb m2 λt'=>t'.er=x.er/\NewE mb t',rfl,fP,Zrt,ZBN λt' m0 m3 aR h0 dA df hr' ht'=>⟨bk,0,rfl,⟨by omega,by omega⟩,λM fh fA=>Zaa rfl ⟨rfl,by omega,trivial,trivial,t.subs.length - (k+1),by omega,k+1,L++[t'],m0,by omega,rfl,rfl,by simp[iN],?_,mLt ep h0,?_,.inr ⟨bk,rfl,?_⟩,?_,bN,?_⟩⟩⟩⟩
  ·rw[List.map_append,lP,ZqE hx,List.map_append]
   simp[ht'.1]
  ·refine Mem.le_upd (mLt dA fA) ?_ _ _
   intro o'
   have hc:m2 bk (0+k*5+0)=some (.int .u8 x.k):=cz 0 _ rfl
   rw[df _ _ _ hc o'];exact dy o'
  ·intro o'
   have hc:m2 bk (0+k*5+0)=some (.int .u8 x.k):=cz 0 _ rfl
   rw[df _ _ _ hc o'];exact dy o'
  ·intro y hy
   rcases List.mem_append.1 hy with hy|hy
   ·exact⟨RepE.mono h0 y (kj y hy).1,(kj y hy).2⟩
   ·simp at hy;subst hy;exact⟨hr',ht'.2.less ep⟩
  ·rw[gM]at cX
   have h5:=Ztb (t:=t') (cX.mono fh)
   rw[iN]at h5
   rw[List.append_assoc]
   exact h5
 ·have cY:k=t.subs.length:=by have:=of_decide_eq_false bO;omega
  subst cY
  rw[List.drop_length,List.append_nil]at cX
  rw[List.take_length]at lP
  have cH:=ZtU hr
  have hv:Value.agg #[.int .u8 t.k,.float .f64 t.x,.string t.s,.int .i64 t.g,.slice a t.subs.length c]=(E.node t.k t.x t.s t.g a c L).v:=by
   simp only[E.v,E.k,E.x,E.s,E.g,E.a,E.c,E.subs,iN]
  have fP:=ZvS (.node t.k t.x t.s t.g a c L) m2
  rw[<-hv]at fP
  refine⟨_,trivial,fP,(λv _ _ h=>by rw[h];rfl),?_⟩
  intro n5 v5 s5 g5 a5 k5 c5 m3 aR fB
  simp only[Value.agg.injEq,Array.mk.injEq,List.cons.injEq,Value.int.injEq,Value.string.injEq,Value.slice.injEq,true_and,and_true]at fB
  obtain⟨rfl,rfl,rfl,rfl,rfl,rfl,rfl⟩:=fB
  refine Zaa rfl ⟨m3,mLt ep (mLt ik aR),Mem.le_refl _,.node t.k t.x t.s t.g a5 c5 L,hv,?_,?_,?_⟩
  ·exact Zru (cX.mono aR) (λx hx=>RepE.mono (mLt ik aR) x (kj x hx).1) (by omega) cH
  ·cases t
   simp only[E.er,E.k,E.x,E.s,E.g,E.subs,Zjl]at lP ⊢
   rw[lP]
  ·exact Ztc (bN.imp (λh=>List.eq_nil_of_length_eq_zero (by omega)) id) λx hx=>(kj x hx).2
termination_by SizeOf.sizeOf t
decreasing_by exact ZgH (zA2 hx)
theorem ZBm(i:Nat):Int.tdiv (i:Int) 64=((i / 64:Nat):Int):=rfl
theorem ZAK(i:Nat):Int.tmod (i:Int) 64=((i % 64:Nat):Int):=rfl
theorem ZBn{n:Int}(h1:0<=n)(h2:n < 256):IntKind.u8.wrap n=n:=by
 unfold IntKind.wrap
 simp only[IntKind.bits,IntKind.signed,Bool.false_and,Bool.false_eq_true,if_false]
 have e:(2:Int) ^ 8=256:=by decide
 rw[e];omega
theorem ZvT(t:T)(m:Mem)(hr:Rep m t):CX Tryz.prog 125 #[t.v] m [] (ZnE (λu=>∃a c,u=Zbe 6 0 0 a c [t])):=by
 apply ZhS
 intro b m1 aG _ b1 b2 hf
 have cy:=Mem.le_add hf t.cs
 refine ZaN (mLt aG cy) ⟨Zbe 6 0 0 (some ⟨b2,0,none⟩) 1 [t],rfl,ZfI (ZqF ?_ (hr.mono (mLt aG cy))) (by omega) (by omega) (by omega),_,_,rfl⟩
 intro j v hj
 rw[Nat.zero_add,Mem.add_same];exact hj
theorem Zx2(t:T)(mn mx:Int)(h1 : -9223372036854775808<=mn/\mn<=9223372036854775807)(h2 : -9223372036854775808<=mx/\mx<=9223372036854775807)(m:Mem)(hr:Rep m t):CX Tryz.prog 126 #[t.v,.int .i64 mn,.int .i64 mx] m [] (ZnE (λu=>∃a c,u=Zbe 5 mn mx a c [t])):=by
 apply ZlC
 intro b m1 aG _ b1 b2 hf
 have cy:=Mem.le_add hf t.cs
 refine ZaN (mLt aG cy) ⟨Zbe 5 mn mx (some ⟨b2,0,none⟩) 1 [t],rfl,ZfI (ZqF ?_ (hr.mono (mLt aG cy))) (by omega) h1 h2,_,_,rfl⟩
 intro j v hj
 rw[Nat.zero_add,Mem.add_same];exact hj
def Zeg(s:ByteArray):List Nat:=s.data.toList.map λb=>b.toNat
theorem Zp0(s:ByteArray):(Zeg s).length=s.size:=by unfold Zeg;rw[List.length_map,Array.length_toList];rfl
theorem Ztd(s:ByteArray):∀c∈Zeg s,c < 256:=by
 intro c hc
 unfold Zeg at hc
 obtain⟨b,_,rfl⟩:=List.mem_map.1 hc
 exact b.toBitVec.isLt
theorem ZvU{s:ByteArray}{k c:Nat}(h:(Zeg s)[k]?=some c):Zwl s k=(c:Int):=by
 unfold Zeg at h
 rw[List.getElem?_map]at h
 obtain⟨b,hb,rfl⟩:=Option.map_eq_some_iff.1 h
 unfold Zwl
 rw[List.getD_eq_getElem?_getD,hb];rfl
theorem Zoy(s:ByteArray)(hs:(Zeg s).length<=100000)(m:Mem):CX Tryz.prog 122 #[.string s] m [] (ZnE (λt=>t=Zdy (Zeg s))):=by
 apply ZhT
 intro b b1
 have aH:=Zp0 s
 refine⟨λxs css tvs m' q=>∃k:Nat,k<=s.size/\xs=[.int .i64 k]/\css=[ZtT ((Zeg s).take k)]/\q=s.size - k,⟨_,0,by omega,rfl,rfl,rfl⟩,?_⟩
 rintro n cs m1 q aG ⟨k,hk,hn,bX,hq⟩
 obtain rfl:n=k:=by simpa using hn
 obtain rfl:cs=ZtT ((Zeg s).take k):=by simpa using bX
 refine Zab (λaB=>?_) (λbO=>?_)
 ·have aJ:k < s.size:=by have:=zA6 aB;omega
  obtain⟨c,hc⟩:=Zao (l:=Zeg s) (k:=k) (by omega)
  have pk:=Ztd s c (zA2 hc)
  have hw:IntKind.i64.wrap ((k:Int)+1)=((k+1:Nat):Int):=by rw[Zal (by omega) (by omega)];rfl
  have sD:IntKind.u8.wrap (Int.tdiv (c:Int) 64)=((c / 64:Nat):Int):=by rw[ZBm];exact ZBn (by omega) (by omega)
  have hr:IntKind.u64.wrap (1*2 ^ min (Int.toNat (Int.tmod (c:Int) 64)) 64)=((2 ^ (c % 64):Nat):Int):=by
   rw[ZAK,zA8,Nat.min_eq_left (by omega),Int.one_mul]
   have:=ZAv (2 ^ (c % 64)) (by
    have:2 ^ (c % 64) < 2 ^ 64:=Nat.pow_lt_pow_right (by omega) (by omega)
    exact this)
   rw[<-this];push_cast;rfl
  have h2:(2:Nat) ^ (c % 64) < 18446744073709551616:=by
   have:(2:Nat) ^ (c % 64) < 2 ^ 64:=Nat.pow_lt_pow_right (by omega) (by omega)
   exact this
  have hj:c / 64 < 4:=by omega
  simp only[hw,zA8,ZvU hc,sD,hr,Nat.zero_add,Nat.mul_one]
  refine⟨⟨by omega,by omega⟩,by omega,⟨by omega,by omega⟩,Zam (Zss _ hj) ⟨⟨by omega,by omega⟩,by omega,by rw[ZAK];omega,Zaa rfl ⟨⟨by omega,by omega⟩,Zaa (by rw[Nat.ble_eq];show c / 64+1<=4;omega) ⟨by trivial,s.size - (k+1),by omega,k+1,by omega,rfl,?_,rfl⟩⟩⟩⟩
  simp only[RowKit.intOf]
  rw[Zu1 _ _ (ZtS _ _) h2,ZpC _ rfl hj,ZqE hc]
 ·have:k=s.size:=by have:=of_decide_eq_false bO;omega
  subst this
  rw[<-aH,List.take_length]
  exact Zaa rfl (Zaa rfl (Zaf aG ⟨Zdy (Zeg s),rfl,ZnF _ m,rfl⟩))
theorem Zp1(n:Nat)(hn:n < 256)(m:Mem):CX Tryz.prog 123 #[.int .u8 n] m [] (λv _ _=>∃s,v=.string s/\Zeg s=Zb1 n):=by
 apply Zf2
 intro b hf
 have ht:Int.tmod (n:Int) 12=((n % 12:Nat):Int):=rfl
 simp only[ht,zA8,Nat.mul_one]
 refine⟨by omega,⟨by omega,by omega⟩,?_⟩
 have h:n % 12=0\/n % 12=1\/n % 12=2\/n % 12=3\/n % 12=4\/n % 12=5\/n % 12=6\/n % 12=7\/n % 12=8\/n % 12=9\/n % 12=10\/n % 12=11:=by omega
 unfold Zb1
 rcases h with e|e|e|e|e|e|e|e|e|e|e|e <;>
 ·rw[e]
  refine Zam rfl ?_
  exact⟨_,Mem.le_add hf _,Mem.le_refl _,_,rfl,rfl⟩
theorem ZeF(k:Int)(t:T):ZaQ k t=if t.k=k then t.subs else if k=3/\t.k=1 then[]else[t]:=rfl
theorem ZdI(l:List T):∀u∈Rx.Zcj l,u.oneCell'=true:=by
 intro u hu
 simp only[Rx.Zcj,List.mem_flatten,List.mem_map]at hu
 obtain⟨_,⟨t,_,rfl⟩,h⟩:=hu
 simp only[T.cs,List.mem_cons,List.not_mem_nil,or_false,T.sl]at h
 rcases h with rfl|rfl|rfl|rfl|rfl|rfl|rfl|rfl <;> rfl
theorem ZmG(k:Int)(t u:T)(hk:k=3\/k=4)(m:Mem)(hr:Rep m t)(hu:Rep m u)(ht:(ZaQ k t).length<=10000)(wM:(ZaQ k u).length<=10000):CX Tryz.prog 124 #[.int .u8 k,t.v,u.v] m [] (ZnE (λr=>∃a c,r=Zcr k a c (ZaQ k t++ZaQ k u))):=by
 apply ZhU
 intro b m1 aG _ b1 m2 aK _ b2 b3 fY
 have jt:=mLt aG aK
 have fK:m.le (m2.add b3 (t.cs++u.cs)):=mLt jt (Mem.le_add fY _)
 refine⟨λxs css tvs m' q=>∃(i:Nat)(l:List T)(a:Option Addr)(c:Nat),i<=2/\xs=[.slice a l.length c,.int .i64 i]/\tvs=[.slice a l.length c]/\l=(([t,u].take i).map (ZaQ k)).flatten/\rowRd m' a (Rx.Zcj l)/\q=2 - i,⟨2,0,[],none,0,by omega,rfl,rfl,rfl,.inl rfl,rfl⟩,?_⟩
 rintro a n c z a1 n1 c1 m3 q aR ⟨i,l,a',c',hi,cC,cQ,hl,aC,hq⟩
 simp only[List.cons.injEq,Value.slice.injEq,Value.int.injEq,true_and,and_true]at cC cQ
 obtain⟨⟨rfl,rfl,rfl⟩,rfl⟩:=cC
 obtain⟨rfl,rfl,rfl⟩:=cQ
 have gu:=mLt fK aR
 have fV:l.length<=20000:=by
  rw[hl]
  have:i=0\/i=1\/i=2:=by omega
  rcases this with rfl|rfl|rfl <;> simp <;> omega
 refine Zab (λaB=>?_) (λbO=>?_)
 ·have h2:i=0\/i=1:=by have:=zA6 aB;omega
  rcases h2 with rfl|rfl
  ·
   refine⟨⟨by omega,by omega⟩,Zaa rfl λb4=>Zaa rfl (Zam (v:=.int .u8 t.k) rfl (Zaa rfl (Zab (λcY=>Zam (v:=t.sl) rfl (Zaa rfl ?_)) (λcY=>?_))))⟩
   ·have fF:t.k=k:=by simpa[RowKit.intOf]using cY
    have hj:ZaQ k t=t.subs:=by rw[ZeF,if_pos fF]
    have aH:=ht
    rw[hj]at aH
    refine⟨.inl rfl,Rx.Zcj l,Rx.Zcj t.subs,Zar _,Zar _,aC,(Zd7 (hr.subs)).mono gu,ZdI _,?_,?_,λa2 c2 m4 cE da=>⟨by trivial,1,by omega,1,l++t.subs,a2,c2,by omega,?_,?_,?_,?_,?_⟩⟩
    ·simp only[T.sl,slN];omega
    ·simp only[T.sl,slN];omega
    ·rw[zA1];rfl
    ·rw[zA1];rfl
    ·rw[hl,<-hj];simp
    ·rw[ZaT];exact da
    ·omega
   ·have fF:¬t.k=k:=by simpa[RowKit.intOf]using cY
    refine⟨k == 3&&t.k == 1,Zab (λh=>Zam (v:=.int .u8 t.k) rfl (Zaa rfl ⟨by trivial,by trivial,?_⟩)) (λh=>⟨by trivial,by trivial,?_⟩),Zab (λh=>⟨by trivial,1,by omega,1,l,_,_,by omega,rfl,rfl,?_,aC,by omega⟩) (λh=>Zaa rfl λb6 gq=>?_)⟩
    ·rw[h];rfl
    ·rw[h];rfl
    ·have:k=3/\t.k=1:=by simpa using h
     have hj:ZaQ k t=[]:=by rw[ZeF,if_neg fF,if_pos this]
     rw[hl];simp[hj]
    ·have:¬(k=3/\t.k=1):=by simpa using h
     have hj:ZaQ k t=[t]:=by rw[ZeF,if_neg fF,if_neg this]
     have fJ:=Mem.le_add gq t.cs
     refine⟨.inl rfl,Rx.Zcj l,t.cs,Zar _,rfl,aC.mono fJ,.inr ⟨b6,0,rfl,λj v hj=>by rw[Nat.zero_add,Mem.add_same];exact hj⟩,by rw[<-Zbi];exact ZdI _,by omega,by omega,λa2 c2 m4 cE da=>⟨by trivial,1,by omega,1,l++[t],a2,c2,by omega,?_,?_,?_,?_,?_⟩⟩
     ·rw[zA1];rfl
     ·rw[zA1];rfl
     ·rw[hl];simp[hj]
     ·rw[ZaT,Zbi];exact da
     ·omega
  ·
   refine⟨⟨by omega,by omega⟩,Zaa rfl λb4=>Zaa rfl (Zam (v:=.int .u8 u.k) rfl (Zaa rfl (Zab (λcY=>Zam (v:=u.sl) rfl (Zaa rfl ?_)) (λcY=>?_))))⟩
   ·have fF:u.k=k:=by simpa[RowKit.intOf]using cY
    have hj:ZaQ k u=u.subs:=by rw[ZeF,if_pos fF]
    have aH:=wM
    rw[hj]at aH
    refine⟨.inl rfl,Rx.Zcj l,Rx.Zcj u.subs,Zar _,Zar _,aC,(Zd7 (hu.subs)).mono gu,ZdI _,?_,?_,λa2 c2 m4 cE da=>⟨by trivial,0,by omega,2,l++u.subs,a2,c2,by omega,?_,?_,?_,?_,?_⟩⟩
    ·simp only[T.sl,slN];omega
    ·simp only[T.sl,slN];omega
    ·rw[zA1];rfl
    ·rw[zA1];rfl
    ·rw[hl,<-hj];simp
    ·rw[ZaT];exact da
    ·omega
   ·have fF:¬u.k=k:=by simpa[RowKit.intOf]using cY
    refine⟨k == 3&&u.k == 1,Zab (λh=>Zam (v:=.int .u8 u.k) rfl (Zaa rfl ⟨by trivial,by trivial,?_⟩)) (λh=>⟨by trivial,by trivial,?_⟩),Zab (λh=>⟨by trivial,0,by omega,2,l,_,_,by omega,rfl,rfl,?_,aC,by omega⟩) (λh=>Zaa rfl λb6 gq=>?_)⟩
    ·rw[h];rfl
    ·rw[h];rfl
    ·have:k=3/\u.k=1:=by simpa using h
     have hj:ZaQ k u=[]:=by rw[ZeF,if_neg fF,if_pos this]
     rw[hl];simp[hj]
    ·have:¬(k=3/\u.k=1):=by simpa using h
     have hj:ZaQ k u=[u]:=by rw[ZeF,if_neg fF,if_neg this]
     have fJ:=Mem.le_add gq u.cs
     refine⟨.inl rfl,Rx.Zcj l,u.cs,Zar _,rfl,aC.mono fJ,.inr ⟨b6,0,rfl,λj v hj=>by rw[Nat.zero_add,Mem.add_same];exact hj⟩,by rw[<-Zbi];exact ZdI _,by omega,by omega,λa2 c2 m4 cE da=>⟨by trivial,0,by omega,2,l++[u],a2,c2,by omega,?_,?_,?_,?_,?_⟩⟩
     ·rw[zA1];rfl
     ·rw[zA1];rfl
     ·rw[hl];simp[hj]
     ·rw[ZaT,Zbi];exact da
     ·omega
 ·have:i=2:=by have:=of_decide_eq_false bO;omega
  subst this
  have hl':ZaQ k t++ZaQ k u=l:=by rw[hl];simp
  rw[hl']
  have aP:∀x∈l,Rep m3 x:=by
   have key:∀t:T,Rep m t->∀x∈ZaQ k t,Rep m3 x:=by
    intro t hr x hx
    rw[ZeF]at hx
    split at hx
    ·exact Zjb (hr.subs.mono gu) x hx
    ·split at hx
     ·simp at hx
     ·simp at hx;subst hx;exact hr.mono gu
   rw[<-hl']
   intro x hx
   rcases List.mem_append.1 hx with hx|hx
   ·exact key t hr x hx
   ·exact key u hu x hx
  refine Zab (λh0=>?_) (λh0=>Zab (λh1=>?_) (λh1=>?_))
  ·have:l=[]:=by simpa using h0
   subst this
   exact Zaf gu ⟨T1,rfl,Zxd _,none,0,rfl⟩
  ·have su:l.length=1:=by
    have:((l.length:Int) == 1)=true:=h1
    have:=zA6 this;omega
   obtain⟨x,rfl⟩:∃x,l=[x]:=by
    match l,su with
    | [x],_=>exact⟨x,rfl⟩
   rcases aC with aC|⟨b6,o,ha,cz⟩
   ·simp[Rx.Zcj,T.cs]at aC
   ·rw[Zbi]at cz
    exact⟨b6,o,ha,⟨by omega,by simp⟩,_,_,_,_,_,_,_,_,cz,Zaa rfl (ZaN gu ⟨x,rfl,aP x (by simp),none,0,rfl⟩)⟩
  ·have wN:¬l.length=0:=λe=>by rw[e]at h0;simp at h0
   have iW:¬l.length=1:=λe=>by rw[e]at h1;simp at h1
   obtain⟨x,y,r,rfl⟩:∃x y r,l=x::y::r:=by
    match l,wN,iW with
    | [],h,_=>simp at h
    | [x],_,h=>simp at h
    | x::y::r,_,_=>exact⟨x,y,r,rfl⟩
   refine ZaN gu ⟨Zbe k 0 0 _ _ (x::y::r),rfl,ZfI (ZtR aC aP (by omega)) (by omega) (by omega) (by omega),_,_,rfl⟩
structure Sm (m:Mem)(a:Option Addr)(l:List (Nat×Nat×Nat)):Prop where
 len:l.length<=9223372036854775807
 byte:∀s∈l,s.1 < 256/\s.2.1 < 256/\s.2.2 < 256
 at':∀i s,l[i]?=some s->∃b o,a=some ⟨b,o,none⟩/\m.reads b (o+i*3) [.int .u8 s.1,.int .u8 s.2.1,.int .u8 s.2.2]
theorem Sm.mono{m m':Mem}{a l}(h:Sm m a l)(hm:m.le m'):Sm m' a l:=
 ⟨h.len,h.byte,λi s hi=>by obtain⟨b,o,h1,h2⟩:=h.at' i s hi;exact⟨b,o,h1,h2.mono hm⟩⟩
theorem Zoz(n:Nat):(([[97],[98],[97,98],[97],[98],[99],[97,98,99],[98,99],[10],[0,255],[97],[98]][n % 12]?).getD []:List Nat).length<=100000:=by
 have h:n % 12=0\/n % 12=1\/n % 12=2\/n % 12=3\/n % 12=4\/n % 12=5\/n % 12=6\/n % 12=7\/n % 12=8\/n % 12=9\/n % 12=10\/n % 12=11:=by omega
 rcases h with e|e|e|e|e|e|e|e|e|e|e|e <;> rw[e] <;> decide
theorem Zx3:∀L < 3,∀Mo < 4,((Mo < L\/Mo=0\/(L=1/\Mo=1))->Zsp (L:Nat) (-1)=true/\Zzy (L:Nat) (-1)<=((max 1 L:Nat):Int))/\(¬(Mo < L\/Mo=0\/(L=1/\Mo=1))->Zsp (L:Nat) (Mo:Nat)=true/\Zzy (L:Nat) (Mo:Nat)<=((max 1 (max L Mo):Nat):Int)):=by
 intro L hL Mo hM
 have h1:L=0\/L=1\/L=2:=by omega
 have h2:Mo=0\/Mo=1\/Mo=2\/Mo=3:=by omega
 rcases h1 with rfl|rfl|rfl <;> rcases h2 with rfl|rfl|rfl|rfl <;> exact⟨λ_=>by first|exact⟨by decide,by decide⟩|omega,λ_=>by first|exact⟨by decide,by decide⟩|omega⟩
theorem Zte{p q:Prop} [Decidable p] [Decidable q](h:(decide p&&decide q)=false):¬(p/\q):=λ⟨a,b⟩=>by rw[decide_eq_true a,decide_eq_true b]at h;cases h
theorem Zx4{p q r:Prop} [Decidable p] [Decidable q] [Decidable r](h:(decide p&&(decide q&&decide r))=false):¬(p/\q/\r):=λ⟨a,b,c⟩=>by rw[decide_eq_true a,decide_eq_true b,decide_eq_true c]at h;cases h
set_option maxHeartbeats 2000000 in
theorem Zp2(l:List (Nat×Nat×Nat))(a:Option Addr)(c:Nat)(m:Mem)(hl:Sm m a l)(hc:l.length<=c):CX Tryz.prog 84 #[.slice a l.length c] m [] (ZnE (λt=>(t.check=0/\t.nodes.length<=26)/\t.er=tF l)):=by
 apply ZjA
 have aH:=hl.len
 intro b
 have hN:(if(25:Int) < (l.length:Int)then(25:Int)else(l.length:Int))=((min 25 l.length:Nat):Int):=by split <;> omega
 simp only[hN,zA8,Nat.sub_zero]
 generalize mQ:min 25 l.length=N
 refine⟨⟨by omega,by omega⟩,λxs css tvs m' q=>∃(i:Nat)(ts:List T)(a:Option Addr)(c:Nat)(u g:Nat)(mb:Mem),i<=N/\xs=[.slice a ts.length c,.int .i64 u,.int .i64 g,.int .i64 i]/\tvs=[.slice a ts.length c]/\ts.length<=c/\m.le mb/\mb.le m'/\Apart mb a/\rowRd m' a (Rx.Zcj ts)/\(∀t∈ts,Rep mb t)/\J i ts u g/\TrT l ts u g i/\q=N - i,⟨N,0,[],none,0,1,0,m,by omega,rfl,rfl,by simp,Mem.le_refl _,Mem.le_refl _,.inl rfl,.inl rfl,by simp,J.zero,rfl,by omega⟩,?_⟩
 rintro a1 n1 c1 z1 z2 z3 a2 n2 c2 m1 q _ ⟨i,ts,a',c',u,g,mb,hi,cC,cQ,cS,ep,cW,dB,aC,aP,hJ,hT,hq⟩
 simp only[List.cons.injEq,Value.slice.injEq,Value.int.injEq,true_and,and_true]at cC cQ
 obtain⟨⟨rfl,rfl,rfl⟩,rfl,rfl,rfl⟩:=cC
 obtain⟨rfl,rfl,rfl⟩:=cQ
 have gC:ts.length<=25:=by have:=hJ.sz;have:=ZnO ts;omega
 refine Zab (λaB=>?_) (λbO=>?_)
 ·have nR:i < N:=by have:=zA6 aB;omega
  have hi':i < l.length:=by omega
  obtain⟨s,hs⟩:=Zao hi'
  obtain⟨bs,os,ha,cz⟩:=(hl.mono (mLt ep cW)).at' i s hs
  obtain⟨s1,s2,s3⟩:=s
  obtain⟨kP,gR,j7⟩:=hl.byte _ (zA2 hs)
  have hw:IntKind.i64.wrap ((i:Int)+1)=((i+1:Nat):Int):=by rw[Zal (by omega) (by omega)];rfl
  have mR:Int.tmod (RowKit.intOf (Value.int .u8 (s1:Nat))) 12=((s1 % 12:Nat):Int):=rfl
  simp only[hw,zA8]
  refine⟨bs,os,ha,⟨by omega,by omega⟩,_,_,_,cz,λb2=>Zaa rfl (Zaa rfl ⟨by omega,?_⟩)⟩
  simp only[mR]
  refine Zab (λh1=>?_) (λh1=>Zab (λh2=>?_) (λh2=>?_))
  ·refine Zan (Zp1 s2 gR m1) (λv _ _ ⟨s,e,_⟩=>by rw[e];rfl) ?_
   rintro str m2 aK ⟨s',hv,hb⟩
   cases hv
   refine Zan (Zoy str (by rw[hb];unfold Zb1;exact Zoz _) m2) Ze9 (ZpB λt m3 aR hr ht b3 fY=>?_)
   rw[hb]at ht
   have fK:=mLt aK (mLt aR (Mem.le_add fY t.cs))
   obtain⟨k1,k2,k3,k4⟩:=ZqO s2
   refine⟨.inl trivial,Rx.Zcj ts,t.cs,Zar _,rfl,aC.mono (fK),.inr ⟨b3,0,rfl,λj v hj=>by rw[Nat.zero_add,Mem.add_same];exact hj⟩,by rw[<-Zbi];exact ZdI _,by omega,by omega,λa4 c4 m4 cE da aS=>⟨by trivial,N - (i+1),by omega,i+1,ts++[t],a4,c4,u,g,mb,by omega,?_,?_,by have:=aS.1;rw[zA1];exact this,ep,mLt cW (mLt (fK) cE),dB.tok (mLt cW (fK)) aS,?_,?_,?_,(by rw[ht];exact hT.cls hs (by have:=zA6 h1;omega)),by omega⟩⟩
   ·rw[zA1];rfl
   ·rw[zA1];rfl
   ·rw[ZaT,Zbi];exact da
   ·intro x hx
    rcases List.mem_append.1 hx with hx|hx
    ·exact aP x hx
    ·simp at hx;subst hx;exact(by rw[ht];exact ZnF _ _)
   ·rw[ht];exact hJ.push k1 k2 k3 k4
  ·intro b3 fY
   have fK:=Mem.le_add fY T1.cs
   refine⟨.inl trivial,Rx.Zcj ts,T1.cs,Zar _,rfl,aC.mono (fK),.inr ⟨b3,0,rfl,λj v hj=>by rw[Nat.zero_add,Mem.add_same];exact hj⟩,by rw[<-Zbi];exact ZdI _,by omega,by omega,λa4 c4 m4 cE da aS=>⟨by trivial,N - (i+1),by omega,i+1,ts++[T1],a4,c4,u,g,mb,by omega,?_,?_,by have:=aS.1;rw[zA1];exact this,ep,mLt cW (mLt (fK) cE),dB.tok (mLt cW (fK)) aS,?_,?_,?_,hT.emp hs (by have:=h2;simp at this;omega),by omega⟩⟩
   ·rw[zA1];rfl
   ·rw[zA1];rfl
   ·rw[ZaT,Zbi];exact da
   ·intro x hx
    rcases List.mem_append.1 hx with hx|hx
    ·exact aP x hx
    ·simp at hx;subst hx;exact Zxd _
   ·exact hJ.push Zxg.1 Zxg.2.1 Zxg.2.2.1 Zxg.2.2.2
  ·refine⟨decide (s1 % 12 < 7)&&decide (1 < ts.length),Zab (λh3=>⟨by trivial,by trivial,?_⟩) (λh3=>⟨by trivial,by trivial,?_⟩),Zab (λh3=>?_) (λh3=>?_)⟩
   ·refine Zaq ?_
    rw[Bool.eq_iff_iff];simp;have:=zA6 h3;omega
   ·refine Zaq ?_
    rw[eq_comm,Bool.and_eq_false_iff];left;have:=of_decide_eq_false h3;exact decide_eq_false (by omega)
   ·skip
    obtain⟨r,x,y,rfl⟩:=ZAI (ts:=ts) (by simp at h3;omega)
    have fl:(r++[x,y]).length=r.length+2:=by simp
    have gm:IntKind.i64.wrap (((r++[x,y]).length:Int) - 2)=(r.length:Int):=by rw[fl,Zal (by omega) (by omega)];omega
    have gJ:IntKind.i64.wrap (((r++[x,y]).length:Int) - 1)=((r.length+1:Nat):Int):=by rw[fl,Zal (by omega) (by omega)];omega
    simp only[gm,gJ,zA8,Nat.sub_zero]
    obtain⟨bb,ig,fO,o',u',hu'⟩:=dB.base aC (by simp)
    obtain⟨bx,ox,ii,eM⟩:=Zdw aC (i:=r.length) (t:=x) (by simp)
    obtain⟨by',oy,ph,mT⟩:=Zdw aC (i:=r.length+1) (t:=y) (by simp)
    have sG:(ZaQ 3 x).length<=10000:=by
     have:=hJ.sz
     rw[ZaG,show szL [x,y]=szL ([x]++[y]) from rfl,ZaG,Za9,Za9]at this
     have:=Zea (k:=3) (t:=x)
     omega
    have sH:(ZaQ 3 y).length<=10000:=by
     have:=hJ.sz
     rw[ZaG,show szL [x,y]=szL ([x]++[y]) from rfl,ZaG,Za9,Za9]at this
     have:=Zea (k:=3) (t:=y)
     omega
    refine⟨λ_ _ _=>Zo6 mb m1 (λr=>∃a c,r=Zcr 3 a c (ZaQ 3 x++ZaQ 3 y)),⟨by omega,by omega⟩,⟨by omega,by omega⟩,bx,ox,ii,⟨by omega,by omega⟩,_,_,_,_,_,_,_,_,eM,by',oy,ph,⟨by omega,by omega⟩,_,_,_,_,_,_,_,_,mT,Zo6 mb m1 (λr=>∃a c,r=Zcr 3 a c (ZaQ 3 x++ZaQ 3 y)),rfl,(ZmG 3 x y (by omega) mb (aP x (by simp)) (aP y (by simp)) sG sH).frame2 cW,Zde,ZiD λt m0 m3 aR h0 ft bN e7 ht b6 gq=>?_⟩
    obtain⟨at',ct,ht⟩:=ht
    have fJ:=Mem.le_add gq t.cs
    have eh:Apart m0 _:=.inr ⟨bb,ig,λo=>by rw[bN bb o' u' hu' o];exact fO o⟩
    refine⟨.inr (.inr (by omega)),Rx.Zcj r,t.cs,Zar _,rfl,((Zro aC).mono aR).mono fJ,.inr ⟨b6,0,rfl,λj v hj=>by rw[Nat.zero_add,Mem.add_same];exact hj⟩,by rw[<-Zbi];exact ZdI _,by omega,by omega,λa4 c4 m4 cE da aS M iO fh fA gt=>⟨by trivial,N - (i+1),by omega,i+1,r++[t],a4,c4,u,g,m0,by omega,?_,?_,by have:=aS.1;rw[zA1];exact this,mLt ep h0,mLt ft fh,eh.tok (mLt ft fJ) aS,?_,?_,?_,(by rw[ht];exact hT.cat hs (by have:=of_decide_eq_false h1;omega) (by have:=h2;simp at this;omega) (by simp at h3;omega) _ _),by omega⟩⟩
    ·rw[zA1];rfl
    ·rw[zA1];rfl
    ·rw[ZaT,Zbi];exact da.mono gt
    ·intro z hz
     rcases List.mem_append.1 hz with hz|hz
     ·exact(aP z (by simp[hz])).mono h0
     ·simp at hz;subst hz;exact e7
    ·rw[ht];exact hJ.join (by omega) (by omega) _ _
   ·refine⟨decide (s1 % 12 < 9)&&decide (1 < ts.length),Zab (λh4=>⟨by trivial,by trivial,?_⟩) (λh4=>⟨by trivial,by trivial,?_⟩),Zab (λh4=>?_) (λh4=>?_)⟩
    ·refine Zaq ?_
     rw[Bool.eq_iff_iff];simp;have:=zA6 h4;omega
    ·refine Zaq ?_
     rw[eq_comm,Bool.and_eq_false_iff];left;have:=of_decide_eq_false h4;exact decide_eq_false (by omega)
    ·skip
     obtain⟨r,x,y,rfl⟩:=ZAI (ts:=ts) (by simp at h4;omega)
     have fl:(r++[x,y]).length=r.length+2:=by simp
     have gm:IntKind.i64.wrap (((r++[x,y]).length:Int) - 2)=(r.length:Int):=by rw[fl,Zal (by omega) (by omega)];omega
     have gJ:IntKind.i64.wrap (((r++[x,y]).length:Int) - 1)=((r.length+1:Nat):Int):=by rw[fl,Zal (by omega) (by omega)];omega
     simp only[gm,gJ,zA8,Nat.sub_zero]
     obtain⟨bb,ig,fO,o',u',hu'⟩:=dB.base aC (by simp)
     obtain⟨bx,ox,ii,eM⟩:=Zdw aC (i:=r.length) (t:=x) (by simp)
     obtain⟨by',oy,ph,mT⟩:=Zdw aC (i:=r.length+1) (t:=y) (by simp)
     have sG:(ZaQ 4 x).length<=10000:=by
      have:=hJ.sz
      rw[ZaG,show szL [x,y]=szL ([x]++[y]) from rfl,ZaG,Za9,Za9]at this
      have:=Zea (k:=4) (t:=x)
      omega
     have sH:(ZaQ 4 y).length<=10000:=by
      have:=hJ.sz
      rw[ZaG,show szL [x,y]=szL ([x]++[y]) from rfl,ZaG,Za9,Za9]at this
      have:=Zea (k:=4) (t:=y)
      omega
     refine⟨λ_ _ _=>Zo6 mb m1 (λr=>∃a c,r=Zcr 4 a c (ZaQ 4 x++ZaQ 4 y)),⟨by omega,by omega⟩,⟨by omega,by omega⟩,bx,ox,ii,⟨by omega,by omega⟩,_,_,_,_,_,_,_,_,eM,by',oy,ph,⟨by omega,by omega⟩,_,_,_,_,_,_,_,_,mT,Zo6 mb m1 (λr=>∃a c,r=Zcr 4 a c (ZaQ 4 x++ZaQ 4 y)),rfl,(ZmG 4 x y (by omega) mb (aP x (by simp)) (aP y (by simp)) sG sH).frame2 cW,Zde,ZiD λt m0 m3 aR h0 ft bN e7 ht b6 gq=>?_⟩
     obtain⟨at',ct,ht⟩:=ht
     have fJ:=Mem.le_add gq t.cs
     have eh:Apart m0 _:=.inr ⟨bb,ig,λo=>by rw[bN bb o' u' hu' o];exact fO o⟩
     refine⟨.inr (.inr (by omega)),Rx.Zcj r,t.cs,Zar _,rfl,((Zro aC).mono aR).mono fJ,.inr ⟨b6,0,rfl,λj v hj=>by rw[Nat.zero_add,Mem.add_same];exact hj⟩,by rw[<-Zbi];exact ZdI _,by omega,by omega,λa4 c4 m4 cE da aS M iO fh fA gt=>⟨by trivial,N - (i+1),by omega,i+1,r++[t],a4,c4,u,g,m0,by omega,?_,?_,by have:=aS.1;rw[zA1];exact this,mLt ep h0,mLt ft fh,eh.tok (mLt ft fJ) aS,?_,?_,?_,(by rw[ht];exact hT.alt hs (by simp at h3;omega) (by simp at h4;omega) _ _),by omega⟩⟩
     ·rw[zA1];rfl
     ·rw[zA1];rfl
     ·rw[ZaT,Zbi];exact da.mono gt
     ·intro z hz
      rcases List.mem_append.1 hz with hz|hz
      ·exact(aP z (by simp[hz])).mono h0
      ·simp at hz;subst hz;exact e7
     ·rw[ht];exact hJ.join (by omega) (by omega) _ _
    ·refine⟨decide (s1 % 12=9)&&(decide (0 < ts.length)&&decide (g < 9)),Zab (λh5=>Zab (λh6=>⟨by trivial,by trivial,?_⟩) (λh6=>⟨by trivial,by trivial,?_⟩)) (λh5=>⟨by trivial,by trivial,?_⟩),Zab (λh5=>?_) (λh5=>?_)⟩
     ·refine Zaq ?_
      have e1:=zA6 h6
      have e2:s1 % 12=9:=by have:=h5;simp at this;omega
      rw[decide_eq_true e2,decide_eq_true (show 0 < ts.length by omega),Bool.true_and,Bool.true_and,Bool.eq_iff_iff];simp;omega
     ·refine Zaq ?_
      have e1:=of_decide_eq_false h6
      rw[decide_eq_false (show ¬0 < ts.length by omega)];simp
     ·refine Zaq ?_
      have e2:¬s1 % 12=9:=by have:=h5;simp at this;omega
      rw[decide_eq_false e2];rfl
     ·
      have uC:g < 9:=by simp at h5;omega
      skip
      obtain⟨r,x,rfl⟩:=ZAJ (ts:=ts) (by simp at h5;omega)
      have fl:(r++[x]).length=r.length+1:=by simp
      have gJ:IntKind.i64.wrap (((r++[x]).length:Int) - 1)=(r.length:Int):=by rw[fl,Zal (by omega) (by omega)];omega
      obtain⟨bb,ig,fO,o',u',hu'⟩:=dB.base aC (by simp)
      subst ig
      obtain⟨bx,ox,ii,eM⟩:=Zdw aC (i:=r.length) (t:=x) (by simp)
      cases ii
      have sI:IntKind.i64.wrap ((g:Int)+1)=((g+1:Nat):Int):=by rw[Zal (by omega) (by omega)];rfl
      simp only[gJ,sI,zA8]
      refine⟨_,_,rfl,⟨by omega,by omega⟩,_,_,_,_,_,_,_,_,eM,Zan ((ZvT x mb (aP x (by simp))).frame2 cW) (Zde (mb:=mb) (M0:=m1)) (ZiD λt m0 m3 aR h0 ft bN e7 ht=>?_)⟩
      obtain⟨at',ct,ht⟩:=ht
      have eh:m0.free bb:=λo=>by rw[bN bb o' u' hu' o];exact fO o
      refine⟨bb,0,rfl,⟨by omega,by omega⟩,rfl,by omega,by trivial,N - (i+1),by omega,i+1,r++[t],_,_,u,g+1,m0,by omega,?_,?_,by rw[zA1];rw[fl]at cS;exact cS,mLt ep h0,Mem.le_upd ft eh _ _,.inr ⟨bb,rfl,eh⟩,Zrp (aC.mono aR),?_,?_,(by rw[ht];exact hT.grp hs (by simp at h5;omega) uC _ _),by omega⟩
      ·rw[fl,zA1];rfl
      ·rw[fl,zA1];rfl
      ·intro z hz
       rcases List.mem_append.1 hz with hz|hz
       ·exact(aP z (by simp[hz])).mono h0
       ·simp at hz;subst hz;exact e7
      ·rw[ht];exact hJ.group uC _ _
     ·by_cases h0:0 < ts.length
      ·skip
       obtain⟨r,x,rfl⟩:=ZAJ (ts:=ts) (by exact h0)
       have fl:(r++[x]).length=r.length+1:=by simp
       have gJ:IntKind.i64.wrap (((r++[x]).length:Int) - 1)=(r.length:Int):=by rw[fl,Zal (by omega) (by omega)];omega
       obtain⟨bb,ig,fO,o',u',hu'⟩:=dB.base aC (by simp)
       subst ig
       obtain⟨bx,ox,ii,eM⟩:=Zdw aC (i:=r.length) (t:=x) (by simp)
       cases ii
       have wO:IntKind.i64.wrap (Int.tmod (RowKit.intOf (Value.int .u8 (s2:Nat))) 3)=((s2 % 3:Nat):Int):=by
        rw[show Int.tmod (RowKit.intOf (Value.int .u8 (s2:Nat))) 3=((s2 % 3:Nat):Int) from rfl,Zal (by omega) (by omega)]
       have pm:IntKind.i64.wrap (Int.tmod (RowKit.intOf (Value.int .u8 (s3:Nat))) 4)=((s3 % 4:Nat):Int):=by
        rw[show Int.tmod (RowKit.intOf (Value.int .u8 (s3:Nat))) 4=((s3 % 4:Nat):Int) from rfl,Zal (by omega) (by omega)]
       simp only[gJ,wO,pm,zA8]
       have qz:s2 % 3 < 3:=by omega
       have gt:s3 % 4 < 4:=by omega
       have qA:=@TrT.rep l r x u g i s1 s2 s3 hT hs
       have mS:=@TrT.over l r x u g i s1 s2 s3 hT hs
       generalize s2 % 3=L at *
       generalize s3 % 4=Mo at *
       refine⟨decide (9 < s1 % 12)&&!(x.k == 1),Zab (λh6=>Zab (λh7=>⟨_,_,rfl,⟨by omega,by omega⟩,.int .u8 x.k,eM 0 _ rfl,Zaa rfl ⟨by trivial,by trivial,?_⟩⟩) (λh7=>absurd h7 (by simp))) (λh6=>⟨by trivial,by trivial,?_⟩),Zab (λh6=>Zaa rfl ⟨by omega,Zaa rfl ⟨by omega,?_⟩⟩) (λh6=>⟨by trivial,N - (i+1),by omega,i+1,r++[x],_,_,u,g,mb,by omega,rfl,rfl,cS,ep,cW,dB,aC,aP,hJ.skip,hT.skip hs (by have:=of_decide_eq_false h1;omega) (by have:=h2;simp at this;omega) (Zte h3) (Zte h4) (Zx4 h5) (λ⟨p,_,q⟩=>by rw[ZnZ]at q;rw[decide_eq_true p]at h6;simp at h6;exact q h6),by omega⟩)⟩
       ·refine Zaq ?_
        have:=zA6 h6
        rw[decide_eq_true (show 9 < s1 % 12 by omega),Bool.true_and];rfl
       ·refine Zaq ?_
        have:=of_decide_eq_false h6
        rw[decide_eq_false (show ¬9 < s1 % 12 by omega)];rfl
       ·have gI:x.k≠1:=by
         rw[zA7]at h6
         simpa using h6.2
        have h9':9 < s1 % 12:=by
         rw[zA7]at h6
         exact zA6 h6.1
        obtain⟨tab1,tab2⟩:=Zx3 L qz Mo gt
        refine⟨decide (Mo < L\/Mo=0\/(L=1/\Mo=1)),Zab (λg1=>⟨by trivial,by trivial,Zaq ?_⟩) (λg1=>Zab (λg2=>⟨by trivial,by trivial,Zaq ?_⟩) (λg2=>Zab (λg3=>⟨by trivial,by trivial,Zaq ?_⟩) (λg3=>⟨by trivial,by trivial,Zaq ?_⟩))),Zab (λg4=>?_) (λg4=>?_)⟩
        ·have:=zA6 g1
         exact(decide_eq_true (by omega)).symm
        ·have:Mo=0:=by simp at g2;omega
         exact(decide_eq_true (by omega)).symm
        ·have e1:=of_decide_eq_false g1
         have e2:¬Mo=0:=by simp at g2;omega
         have e3:L=1:=by simp at g3;omega
         rw[Bool.eq_iff_iff];simp;omega
        ·have e1:=of_decide_eq_false g1
         have e2:¬Mo=0:=by simp at g2;omega
         have e3:¬L=1:=by simp at g3;omega
         exact(decide_eq_false (by omega)).symm
        ·
         have hA:(if(1:Int) > (if(-1:Int) > (L:Int)then(-1:Int)else(L:Int))then(1:Int)else(if(-1:Int) > (L:Int)then(-1:Int)else(L:Int)))=((max 1 L:Nat):Int):=by
          split <;> split <;> omega
         obtain⟨tb,tp⟩:=tab1 (zA6 g4)
         rw[show Zey L Mo=(-1,max 1 L) from if_pos (zA6 g4)]at qA mS
         have mN:u*max 1 L<=48:=by have:=Nat.mul_le_mul hJ.u16 (show max 1 L<=3 by omega);omega
         have sJ:IntKind.i64.wrap ((u:Int)*((max 1 L:Nat):Int))=((u*max 1 L:Nat):Int):=by rw[<-Int.natCast_mul];exact Zal (by omega) (by omega)
         simp only[hA,sJ]
         refine Zab (λg5=>?_) (λg5=>⟨by trivial,N - (i+1),by omega,i+1,r++[x],_,_,u,g,mb,by omega,rfl,rfl,cS,ep,cW,dB,aC,aP,hJ.skip,mS h9' gI (by have:=of_decide_eq_false g5;show ¬u*max 1 L<=16;omega),by omega⟩)
         have jI:u*max 1 L<=16:=by have:=zA6 g5;omega
         refine⟨_,_,rfl,⟨by omega,by omega⟩,_,_,_,_,_,_,_,_,eM,Zan ((Zx2 x (L:Nat) (-1:Int) ⟨by omega,by omega⟩ ⟨by omega,by omega⟩ mb (aP x (by simp))).frame2 cW) (Zde (mb:=mb) (M0:=m1)) (ZiD λt m0 m3 aR h0 ft bN e7 ht=>?_)⟩
         obtain⟨at',ct,ht⟩:=ht
         have eh:m0.free bb:=λo=>by rw[bN bb o' u' hu' o];exact fO o
         refine⟨bb,0,rfl,⟨by omega,by omega⟩,rfl,by omega,by trivial,N - (i+1),by omega,i+1,r++[t],_,_,u*max 1 L,g,m0,by omega,?_,?_,by rw[zA1];rw[fl]at cS;exact cS,mLt ep h0,Mem.le_upd ft eh _ _,.inr ⟨bb,rfl,eh⟩,Zrp (aC.mono aR),?_,?_,(by rw[ht];exact qA h9' gI jI _ _),by omega⟩
         ·rw[fl,zA1];rfl
         ·rw[fl,zA1];rfl
         ·intro z hz
          rcases List.mem_append.1 hz with hz|hz
          ·exact(aP z (by simp[hz])).mono h0
          ·simp at hz;subst hz;exact e7
         ·rw[ht];exact hJ.rep gI tb tp (by omega) jI _ _
        ·
         have hA:(if(1:Int) > (if((Mo:Int)) > (L:Int)then((Mo:Int))else(L:Int))then(1:Int)else(if((Mo:Int)) > (L:Int)then((Mo:Int))else(L:Int)))=((max 1 (max L Mo):Nat):Int):=by
          split <;> split <;> omega
         obtain⟨tb,tp⟩:=tab2 (of_decide_eq_false g4)
         rw[show Zey L Mo=((Mo:Int),max 1 (max L Mo)) from if_neg (of_decide_eq_false g4)]at qA mS
         have mN:u*max 1 (max L Mo)<=48:=by have:=Nat.mul_le_mul hJ.u16 (show max 1 (max L Mo)<=3 by omega);omega
         have sJ:IntKind.i64.wrap ((u:Int)*((max 1 (max L Mo):Nat):Int))=((u*max 1 (max L Mo):Nat):Int):=by rw[<-Int.natCast_mul];exact Zal (by omega) (by omega)
         simp only[hA,sJ]
         refine Zab (λg5=>?_) (λg5=>⟨by trivial,N - (i+1),by omega,i+1,r++[x],_,_,u,g,mb,by omega,rfl,rfl,cS,ep,cW,dB,aC,aP,hJ.skip,mS h9' gI (by have:=of_decide_eq_false g5;show ¬u*max 1 (max L Mo)<=16;omega),by omega⟩)
         have jI:u*max 1 (max L Mo)<=16:=by have:=zA6 g5;omega
         refine⟨_,_,rfl,⟨by omega,by omega⟩,_,_,_,_,_,_,_,_,eM,Zan ((Zx2 x (L:Nat) ((Mo:Int)) ⟨by omega,by omega⟩ ⟨by omega,by omega⟩ mb (aP x (by simp))).frame2 cW) (Zde (mb:=mb) (M0:=m1)) (ZiD λt m0 m3 aR h0 ft bN e7 ht=>?_)⟩
         obtain⟨at',ct,ht⟩:=ht
         have eh:m0.free bb:=λo=>by rw[bN bb o' u' hu' o];exact fO o
         refine⟨bb,0,rfl,⟨by omega,by omega⟩,rfl,by omega,by trivial,N - (i+1),by omega,i+1,r++[t],_,_,u*max 1 (max L Mo),g,m0,by omega,?_,?_,by rw[zA1];rw[fl]at cS;exact cS,mLt ep h0,Mem.le_upd ft eh _ _,.inr ⟨bb,rfl,eh⟩,Zrp (aC.mono aR),?_,?_,(by rw[ht];exact qA h9' gI jI _ _),by omega⟩
         ·rw[fl,zA1];rfl
         ·rw[fl,zA1];rfl
         ·intro z hz
          rcases List.mem_append.1 hz with hz|hz
          ·exact(aP z (by simp[hz])).mono h0
          ·simp at hz;subst hz;exact e7
         ·rw[ht];exact hJ.rep gI tb tp (by omega) jI _ _
      ·refine⟨false,Zab (λh6=>Zab (λh7=>absurd (zA6 h7) (by omega)) (λh7=>⟨by trivial,by trivial,rfl⟩)) (λh6=>⟨by trivial,by trivial,rfl⟩),Zor rfl ⟨by trivial,N - (i+1),by omega,i+1,ts,_,_,u,g,mb,by omega,rfl,rfl,cS,ep,cW,dB,aC,aP,hJ.skip,hT.skip hs (by have:=of_decide_eq_false h1;omega) (by have:=h2;simp at this;omega) (Zte h3) (Zte h4) (λ⟨_,q,_⟩=>h0 q) (λ⟨_,q,_⟩=>h0 q),by omega⟩⟩
 ·have nR:i=N:=by have:=of_decide_eq_false bO;omega
  have aG:=mLt ep cW
  rw[nR,<-mQ]at hT
  refine Zab (λh0=>?_) (λh0=>?_)
  ·have sB:tF l=_:=TrT.none (by have e:ts=[]:=List.eq_nil_of_length_eq_zero (by simpa using h0);rw[e]at hT;exact hT)
   have sK:(Zeg ⟨#[97]⟩)=Zb1 0:=by rfl
   refine Zan (Zoy ⟨#[97]⟩ (by decide) m1) Ze9 (ZpB λt m2 aK hr ht=>ZaN (mLt aG aK) ⟨t,rfl,hr,?_⟩)
   rw[sK]at ht
   obtain⟨k1,k2,k3,k4⟩:=ZqO 0
   rw[<-ht]at k1 k2 k3 k4
   exact⟨(F26.leaf ⟨k1,by simp,by simp[szL,ZaI,k2],by simp[Zj8];omega,by simp[grL,ZaI,k4]⟩ k2).done,by rw[ht,ZnX];exact sB.symm⟩
  ·obtain⟨t0,rest,rfl⟩:∃t r,ts=t::r:=by cases ts with
    | nil=>simp at h0
    | cons t r=>exact⟨t,r,rfl⟩
   have hF:=F26.start hJ (by omega)
   obtain⟨bb,ig,fO,o',u',hu'⟩:=dB.base aC (by simp)
   subst ig
   obtain⟨bx,ox,ii,eM⟩:=Zdw aC (i:=0) (t:=t0) rfl
   cases ii
   rw[List.length_cons]at gC cS
   refine⟨_,_,rfl,⟨by omega,by simp⟩,_,_,_,_,_,_,_,_,eM,λb2=>Zaa rfl ⟨⟨by omega,by rw[List.length_cons];omega⟩,?_⟩⟩
   refine⟨λxs css tvs m' q=>∃(k:Nat)(t:T),k<=rest.length/\xs=[.int .i64 k]/\css=[t.cs]/\m1.le m'/\Rep m' t/\F26 t (rest.drop k)/\FoT t (rest.drop k) l/\q=rest.length - k,⟨rest.length,0,t0,by omega,rfl,rfl,Mem.le_refl _,(aP t0 (by simp)).mono cW,hF,hT.fold,by omega⟩,?_⟩
   rintro z cs m2 q2 _ ⟨k,t,hk,hz,bX,aK,e7,j8,kQ,oz⟩
   obtain rfl:z=k:=by simpa using hz
   obtain rfl:cs=t.cs:=by simpa using bX
   have kR:((t0::rest).length - Int.toNat 1)=rest.length:=by simp
   simp only[kR]
   refine Zab (λaB=>?_) (λdP=>Zaa rfl (ZaN (mLt aG aK) ⟨t,rfl,e7,by rw[show k=rest.length by have:=of_decide_eq_false dP;omega,List.drop_length]at j8 kQ;exact⟨j8.done,kQ.done⟩⟩))
   have aJ:k < rest.length:=by have:=zA6 aB;omega
   obtain⟨x,hx⟩:=Zao aJ
   obtain⟨b3,o3,ew,je⟩:=Zdw (aC.mono aK) (i:=k+1) (t:=x) (by simpa using hx)
   cases ew
   have fS:IntKind.i64.wrap ((k:Int)+1)=((k+1:Nat):Int):=by rw[Zal (by omega) (by omega)];rfl
   simp only[fS,zA8]
   rw[ZqD hx]at j8 kQ
   have bJ:=j8.f.sz
   rw[Zex]at bJ
   have un:=Zea (k:=4) (t:=t)
   have uj:=Zea (k:=4) (t:=x)
   have gG:Za5 (some (⟨bb,0,none⟩:Addr)) (Int.toNat 1) c2 8=some ⟨bb,0+8,none⟩:=by
    unfold Za5
    have:Nat.beq c2 1=false:=by
     cases hb:Nat.beq c2 1 with
     | false=>rfl
     | true=>have:=Nat.eq_of_beq_eq_true hb;omega
    show(bif Nat.beq c2 1 then _ else some (Addr.add _ (1*8)))=_
    rw[this,ZbN];rfl
   refine⟨_,_,gG,⟨by omega,by omega⟩,_,_,_,_,_,_,_,_,by rw[show 0+8+k*8=0+(k+1)*8 by omega];exact je,λb4=>Zaa rfl (Zan (ZmG 4 t x (.inr rfl) m2 e7 ((aP x (by simp[zA2 hx])).mono (mLt cW aK)) (by omega) (by omega)) Ze9 (ZpB λt' m3 aR hr' ht'=>⟨by trivial,by trivial,rest.length - (k+1),by omega,k+1,t',by omega,rfl,rfl,mLt aK aR,hr',?_,?_,by omega⟩))⟩
   ·obtain⟨a3,c3,ht'⟩:=ht'
    rw[ht'];exact j8.step _ _
   ·obtain⟨a3,c3,ht'⟩:=ht'
    rw[ht'];exact kQ.step _ _
end Go.Proofs.YtpjepnkiiojgfaaGreat