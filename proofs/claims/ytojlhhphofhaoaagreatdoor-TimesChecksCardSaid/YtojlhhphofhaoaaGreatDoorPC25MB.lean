/- Part of the proof: functions of the program. No condition. -/
import Derived.Test.YtojlhhphofhaoaaGreatDoorPVEM
import Derived.Test.YtojlhhphofhaoaaGreatDoorPC25P
import Derived.Test.YtojlhhphofhaoaaGreatDoorMr
import Derived.Test.YtojlhhphofhaoaaGreatDoorPVEN
set_option linter.unusedVariables false
set_option linter.unusedSimpArgs false
set_option linter.unusedSectionVars false
namespace Go.Proofs.YtojlhhphofhaoaaGreatDoor
open Go Go.Eng Go.Rx Go.Proofs Go.RowKit
set_option maxRecDepth 100000
theorem Zvf{α:Type}{cs:α->List Value}{m:Mem}{a:Option Addr}{ts r:List α}(h:rowRd m a ((ts++r).map cs).flatten):rowRd m a (ts.map cs).flatten:=by
 rw[List.map_append,List.flatten_append]at h
 rcases h with h|⟨b,o,ha,h⟩
 ·exact .inl (List.append_eq_nil_iff.1 h).1
 ·refine .inr ⟨b,o,ha,λj v hj=>h j v ?_⟩
  rw[List.getElem?_append_left (List.getElem?_eq_some_iff.1 hj).1];exact hj
theorem Zld{α:Type}{cs:α->List Value}{ts:List α}{t:α}:((ts++[t]).map cs).flatten=(ts.map cs).flatten++cs t:=by simp
theorem Zvg{α:Type}{cs:α->List Value}{n:Nat}(hn:∀x,(cs x).length=n){m:Mem}{b:Nat}{ts:List α}{x t:α}(h:rowRd m (some ⟨b,0,none⟩) ((ts++[x]).map cs).flatten)(h0:0 < n):rowRd (m.upd b (0+ts.length*n) (cs t)) (some ⟨b,0,none⟩) ((ts++[t]).map cs).flatten:=by
 have hl:=Zdw hn ts
 refine .inr ⟨b,0,rfl,λj v hj=>?_⟩
 rw[Zld]at hj h
 rcases Nat.lt_or_ge j (ts.length*n)with bB|dF
 ·rw[List.getElem?_append_left (by omega)]at hj
  unfold Mem.upd;try dsimp only
  rw[if_neg (by omega)]
  rcases h with h|⟨b',o',ha,h⟩
  ·have:=congrArg List.length h
   rw[List.length_append,hl,hn]at this
   simp at this;omega
  ·cases ha
   refine h j v ?_
   rw[List.getElem?_append_left (by omega)];exact hj
 ·rw[List.getElem?_append_right (by omega),hl]at hj
  have h8:=(List.getElem?_eq_some_iff.1 hj).1
  have h9:=hn t
  unfold Mem.upd;try dsimp only
  rw[if_pos ⟨rfl,by omega,by omega⟩,show 0+j - (0+ts.length*n)=j - ts.length*n by omega]
  exact hj
theorem Apart.rbase{α:Type}{cs:α->List Value}{n:Nat}(hn:∀x,(cs x).length=n)(h0:0 < n){mb m:Mem}{a:Option Addr}{ts:List α}(h:Apart mb a)(bF:rowRd m a (ts.map cs).flatten)(dS:ts≠[]):∃b,a=some ⟨b,0,none⟩/\mb.free b/\∃o u,m b o=some u:=by
 obtain⟨t,r,rfl⟩:∃t r,ts=t::r:=by cases ts with
  | nil=>exact absurd rfl dS
  | cons t r=>exact⟨t,r,rfl⟩
 obtain⟨b',o,ha,dY⟩:=Zam hn bF (k:=0) (t:=t) rfl h0
 rcases h with h|⟨b,hb,hf⟩
 ·rw[h]at ha;cases ha
 ·rw[hb]at ha;cases ha
  have:0 < (cs t).length:=by rw[hn];exact h0
  exact⟨b',hb,hf,_,_,dY 0 _ (List.getElem?_eq_getElem this)⟩
theorem ZxZ{α:Type}{ts:List α}(h:1 < ts.length):∃r x y,ts=r++[x,y]:=by
 have h1:ts.length - 2 < ts.length:=by omega
 refine⟨ts.take (ts.length - 2),ts[ts.length - 2],ts[ts.length - 1],?_⟩
 have e:=(List.take_append_drop (ts.length - 2) ts).symm
 rw[List.drop_eq_getElem_cons h1,List.drop_eq_getElem_cons (by omega),List.drop_eq_nil_of_le (by omega)]at e
 simpa[show ts.length - 2+1=ts.length - 1 by omega]using e
theorem Zx0{α:Type}{ts:List α}(h:0 < ts.length):∃r x,ts=r++[x]:=by
 refine⟨ts.dropLast,ts.getLast (by intro e;subst e;simp at h),?_⟩
 exact(List.dropLast_concat_getLast _).symm
theorem Zbk{m:Mem}{b:Nat}{cs:List Value}:rowRd (m.add b cs) (some ⟨b,0,none⟩) cs:=.inr ⟨b,0,rfl,λj v hj=>by rw[Nat.zero_add,Mem.add_same];exact hj⟩
theorem Zle{α:Type}{cs:α->List Value}{n:Nat}(hn:∀x,(cs x).length=n)(h1:∀x,∀u∈cs x,u.oneCell'=true){m3:Mem}{b3:Nat}(hf:m3.free b3){a:Option Addr}{ts:List α}(t:α)(bF:rowRd m3 a (ts.map cs).flatten)(sz:Nat)(cE:(ts.length+1)*sz<=140737488355328)(hl:ts.length<=1000000){P Q:Prop}(hp:P\/Q){K:Option Addr->Nat->Mem->Prop}
  (k:∀(a':Option Addr)(c':Nat)(m4:Mem),(m3.add b3 (cs t)).le m4->rowRd m4 a' ((ts++[t]).map cs).flatten->TokFact (m3.add b3 (cs t)) a a' (ts.length+1) c'->K a' c' m4):
  (P\/Q)/\∃xs ys:List Value,xs.length=ts.length*n/\ys.length=1*n/\rowRd (m3.add b3 (cs t)) a xs/\rowRd (m3.add b3 (cs t)) (some ⟨b3,0,none⟩) ys/\(∀u:Value,u∈ys->u.oneCell'=true)/\(ts.length+1)*sz<=140737488355328/\ts.length+1<=9223372036854775807/\
   ∀(a':Option Addr)(c':Nat)(m4:Mem),(m3.add b3 (cs t)).le m4->rowRd m4 a' (List.append xs ys)->TokFact (m3.add b3 (cs t)) a a' (ts.length+1) c'->K a' c' m4:=
 ⟨hp,(ts.map cs).flatten,cs t,Zdw hn ts,by rw[hn,Nat.one_mul],bF.mono (Mem.le_add hf _),Zbk,h1 t,cE,by omega,λa' c' m4 hm hr ht=>k a' c' m4 hm (by rw[Zld];exact hr) ht⟩
theorem Zgg{α:Type}{cs:α->List Value}{n:Nat}(hn:∀x,(cs x).length=n)(h1:∀x,∀u∈cs x,u.oneCell'=true){m3:Mem}{b3:Nat}(hf:m3.free b3){a:Option Addr}{ts:List α}(t:α)(bF:rowRd m3 a (ts.map cs).flatten)(sz:Nat)(cE:(ts.length+1)*sz<=140737488355328)(hl:ts.length<=1000000){P Q:Prop}(hp:P\/Q){K:Option Addr->Nat->Mem->Prop}
  (k:∀(a':Option Addr)(c':Nat)(m4:Mem),(m3.add b3 (cs t)).le m4->rowRd m4 a' ((ts++[t]).map cs).flatten->K a' c' m4):
  (P\/Q)/\∃xs ys:List Value,xs.length=ts.length*n/\ys.length=1*n/\rowRd (m3.add b3 (cs t)) a xs/\rowRd (m3.add b3 (cs t)) (some ⟨b3,0,none⟩) ys/\(∀u:Value,u∈ys->u.oneCell'=true)/\(ts.length+1)*sz<=140737488355328/\ts.length+1<=9223372036854775807/\
   ∀(a':Option Addr)(c':Nat)(m4:Mem),(m3.add b3 (cs t)).le m4->rowRd m4 a' (List.append xs ys)->K a' c' m4:=
 ⟨hp,(ts.map cs).flatten,cs t,Zdw hn ts,by rw[hn,Nat.one_mul],bF.mono (Mem.le_add hf _),Zbk,h1 t,cE,by omega,λa' c' m4 hm hr=>k a' c' m4 hm (by rw[Zld];exact hr)⟩
def ER(φ:E->Prop):Value->Mem->List (List Value)->Prop:=λv m' _=>∃e:E,v=e.v/\RepE m' e/\φ e
theorem ZhM{φ:E->Prop}:∀(v:Value)(m':Mem) (css:List (List Value)),ER φ v m' css->Shape.fits (.agg [.int .u8,.any,.str,.int .i64,.slice]) v=true:=λv _ _ ⟨e,h,_⟩=>by rw[h];rfl
abbrev EK:=Int->Value->ByteArray->Int->Option Addr->Nat->Nat->Mem->Prop
theorem ZwN{e:E}{n:Int}{v:Value}{s:ByteArray}{g:Int}{a:Option Addr}{k c:Nat}(h:Value.agg #[.int .u8 n,v,.string s,.int .i64 g,.slice a k c]=e.v):n=e.k/\v=.float .f64 e.x/\s=e.s/\g=e.g/\a=e.a/\k=e.subs.length/\c=e.c:=by
 simpa[E.v]using h
theorem Zx1{φ:E->Prop}{m:Mem}{K:EK}(k:∀(e:E)(m':Mem),m.le m'->RepE m' e->φ e->K e.k (.float .f64 e.x) e.s e.g e.a e.subs.length e.c m'):
  ∀(n:Int)(v:Value)(s:ByteArray)(g:Int)(a:Option Addr)(n1 c:Nat)(m':Mem),m.le m'->ER φ (.agg #[.int .u8 n,v,.string s,.int .i64 g,.slice a n1 c]) m' []->K n v s g a n1 c m':=by
 rintro n v s g a n1 c m' hm ⟨e,hv,hr,hp⟩
 obtain⟨rfl,rfl,rfl,rfl,rfl,rfl,rfl⟩:=ZwN hv
 exact k e m' hm hr hp
def EF(mb M0:Mem)(φ:E->Prop):Value->Mem->List (List Value)->Prop:=λv M' css=>∃m0,mb.le m0/\m0.le M'/\(∀b o u,M0 b o=some u->∀o',m0 b o'=mb b o')/\ER φ v m0 css
theorem Zuc{mb M0:Mem}{φ:E->Prop}:∀(v:Value)(m':Mem) (css:List (List Value)),EF mb M0 φ v m' css->Shape.fits (.agg [.int .u8,.any,.str,.int .i64,.slice]) v=true:=λv _ _ ⟨_,_,_,_,e,h,_⟩=>by rw[h];rfl
theorem ZzG{mb M0:Mem}{φ:E->Prop}{m:Mem}{K:EK}(k:∀(e:E)(m0 m':Mem),m.le m'->mb.le m0->m0.le m'->(∀b o u,M0 b o=some u->∀o',m0 b o'=mb b o')->RepE m0 e->φ e->K e.k (.float .f64 e.x) e.s e.g e.a e.subs.length e.c m'):
  ∀(n:Int)(v:Value)(s:ByteArray)(g:Int)(a:Option Addr)(n1 c:Nat)(m':Mem),m.le m'->EF mb M0 φ (.agg #[.int .u8 n,v,.string s,.int .i64 g,.slice a n1 c]) m' []->K n v s g a n1 c m':=by
 rintro n v s g a n1 c m' hm ⟨m0,h1,h2,h3,e,hv,hr,hp⟩
 obtain⟨rfl,rfl,rfl,rfl,rfl,rfl,rfl⟩:=ZwN hv
 exact k e m0 m' hm h1 h2 h3 hr hp
theorem E.one(e:E):∀u∈e.cs,u.oneCell'=true:=by
 intro u hu
 simp only[E.cs,E.sl,List.mem_cons,List.not_mem_nil,or_false]at hu
 rcases hu with rfl|rfl|rfl|rfl|rfl <;> rfl
theorem E.len(e:E):e.cs.length=5:=rfl
theorem Zez{m:Mem}{k:Int}{x:Nat}{s:ByteArray}{g:Int}(hk:0<=k/\k < 256)(hs:s.size<=1000000000000000)(hg : -9223372036854775808<=g/\g<=9223372036854775807):RepE m (.node k x s g none 0 []):=by
 simp only[RepE]
 exact⟨by simp,.inl trivial,hk,hs,hg⟩
theorem Zlf:∀s∈ZjF,s.size<=16:=by decide +kernel
theorem ZwO(m:Mem):CX Tryz.prog 125 #[] m [] (Ret (.float .f64 Zwp)):=by
 apply Zpl
 exact⟨_,ZrA Zwp,Zac (Mem.le_refl _) rfl⟩
theorem Zud(x:Nat)(m:Mem):CX Tryz.prog 126 #[.float .f64 x] m [] (ER (λe=>e=ZyA x)):=by
 apply Znd
 intro b
 exact Zaa rfl (Zaa rfl (ZaQ (Mem.le_refl _) ⟨ZyA x,rfl,Zez (by omega) (by rw[ZaM];omega) (by omega),rfl⟩))
theorem Zvh(s:ByteArray)(hs:s.size<=1000000000000000)(m:Mem):CX Tryz.prog 127 #[.string s] m [] (ER (λe=>e=Zxi s)):=by
 apply Zk5
 intro b
 exact ZaQ (Mem.le_refl _) ⟨Zxi s,rfl,Zez (by omega) hs (by omega),rfl⟩
def Zxk(l:List ByteArray):Value->Mem->List (List Value)->Prop:=λv m' _=>∃a c,v=.slice a l.length c/\rowRd m' a (ZfB l)
theorem Zdy{l}:∀(v:Value)(m':Mem) (css:List (List Value)),Zxk l v m' css->Shape.fits .slice v=true:=λv _ _ ⟨_,_,e,_⟩=>by rw[e];rfl
theorem Ztn(m:Mem):CX Tryz.prog 128 #[] m [] (Zxk ZjF):=by
 apply Zi1
 intro b hf
 exact ZaQ (Mem.le_add hf _) ⟨_,_,rfl,Zbk⟩
theorem ZwP(e:E)(m:Mem)(hr:RepE m e):CX Tryz.prog 129 #[e.v] m [] (ER (λu=>∃a d,u=Zxj a d e)):=by
 apply Znf
 intro b m1 aV hb b2 b3 hf
 have cJ:=Mem.le_add hf e.cs
 refine ZaQ (mLt aV cJ) ⟨Zxj (some ⟨b3,0,none⟩) 1 e,rfl,?_,_,_,rfl⟩
 simp only[Zxj,RepE]
 refine⟨by simp,.inr ⟨b3,0,rfl,?_⟩,by omega,by rw[ZaM];omega,by omega⟩
 simp only[RepEAt]
 exact⟨λi v hv=>by rw[Nat.zero_add,Mem.add_same];exact hv,hr.mono' (mLt aV cJ),trivial⟩
theorem ZwQ(k:Int)(x y:E)(hk:0<=k/\k < 256)(m:Mem)(hx:RepE m x)(hy:RepE m y):CX Tryz.prog 130 #[.int .u8 k,x.v,y.v] m [] (ER (λu=>∃a d,u=opE k a d x y)):=by
 apply Zpo
 intro b m1 aV _ b1 m2 bA _ b2 b3 hf
 have cJ:=Mem.le_add hf (x.cs++y.cs)
 have eW:=mLt aV bA
 refine ZaQ (mLt eW cJ) ⟨opE k (some ⟨b3,0,none⟩) 2 x y,rfl,?_,_,_,rfl⟩
 simp only[opE,RepE]
 refine⟨by simp,.inr ⟨b3,0,rfl,?_⟩,hk,by rw[ZaM];omega,by omega⟩
 simp only[RepEAt]
 refine⟨λi v hv=>?_,hx.mono' (mLt eW cJ),λi v hv=>?_,hy.mono' (mLt eW cJ),trivial⟩
 ·rw[Nat.zero_add]
  exact(Mem.add_same ..).trans (by show(x.cs++y.cs)[i]?=some v;rw[List.getElem?_append_left (List.getElem?_eq_some_iff.1 hv).1];exact hv)
 ·rw[show 0+5+i=5+i by omega]
  exact(Mem.add_same ..).trans (by show(x.cs++y.cs)[5+i]?=some v;rw[List.getElem?_append_right (by rw[E.len];omega),E.len,Nat.add_sub_cancel_left];exact hv)
theorem Zue(T:TypeId){x y r:Nat}(h:FloatKind.f64.format.div x y=some r):BinIs Tryz.prog .quo T (.float .f64 x) (.float .f64 y) (.float .f64 r):=λox oy w=>by
 simp[eqGuard,binOp,Op.floatArith,h]
theorem Zzc(n:Int):ConvIs Tryz.prog 205 87 (.int .i8 n) (.float .f64 (FloatKind.f64.nearest n)):=λw=>by
 simp[convert,Tryz.underlying205,Tryz.underlying87,Conv.intToFloat]
theorem Zx2:∀n:Fin 256,(FloatKind.f64.format.div (FloatKind.f64.nearest (IntKind.i8.wrap (n:Nat))) 4616189618054758400).isSome=true:=by decide +kernel
structure SmE (m:Mem)(a:Option Addr)(l:List (Nat×Nat×Nat)):Prop where
 len:l.length<=9223372036854775807
 byte:∀s∈l,s.1 < 256/\s.2.1 < 256/\s.2.2 < 18446744073709551616
 at':∀i s,l[i]?=some s->∃b o,a=some ⟨b,o,none⟩/\m.reads b (o+i*3) [.int .u8 s.1,.int .u8 s.2.1,.int .u64 s.2.2]
theorem SmE.mono{m m':Mem}{a l}(h:SmE m a l)(hm:m.le m'):SmE m' a l:=
 ⟨h.len,h.byte,λi s hi=>by obtain⟨b,o,h1,h2⟩:=h.at' i s hi;exact⟨b,o,h1,h2.mono hm⟩⟩
theorem Zto:Zfj Zwp=true:=by decide +kernel
set_option maxHeartbeats 2000000 in
theorem Zvi(l:List (Nat×Nat×Nat))(a:Option Addr)(c:Nat)(m:Mem)(hl:SmE m a l)(hc:l.length<=c):CX Tryz.prog 105 #[.slice a l.length c] m [] (ER (MkE 9 (2*l.length+1))):=by
 apply Zk7
 have bT:=hl.len
 intro b
 have hN:(if(60:Int) < (l.length:Int)then(60:Int)else(l.length:Int))=((min 60 l.length:Nat):Int):=by split <;> omega
 simp only[hN,Int.toNat_natCast,Nat.sub_zero]
 generalize qz:min 60 l.length=N
 refine⟨⟨by omega,by omega⟩,λxs css tvs m' q=>∃(i:Nat)(ts:List E)(a:Option Addr)(c:Nat)(mb:Mem),i<=N/\xs=[.slice a ts.length c,.int .i64 i]/\tvs=[.slice a ts.length c]/\ts.length<=c/\m.le mb/\mb.le m'/\Apart mb a/\rowRd m' a (ts.map E.cs).flatten/\(∀t∈ts,RepE mb t)/\PE ts i/\q=N - i,⟨N,0,[],none,0,m,by omega,rfl,rfl,by simp,Mem.le_refl _,Mem.le_refl _,.inl rfl,.inl rfl,by simp,PE.zero,by omega⟩,?_⟩
 rintro a1 n1 c1 z1 a2 n2 c2 m1 q _ ⟨i,ts,a',c',mb,hi,fB,fl,dT,gz,dR,dD,bF,bV,hP,hq⟩
 simp only[List.cons.injEq,Value.slice.injEq,Value.int.injEq,true_and,and_true]at fB fl
 obtain⟨⟨rfl,rfl,rfl⟩,rfl⟩:=fB
 obtain⟨rfl,rfl,rfl⟩:=fl
 have gR:ts.length<=60:=by have:=hP.sz;have:=Zgb ts;omega
 refine Zab (λbB=>?_) (λdF=>?_)
 ·have qA:i < N:=by have:=of_decide_eq_true bB;omega
  obtain⟨s,hs⟩:=Zbd (l:=l) (k:=i) (by omega)
  obtain⟨bs,os,ha,dY⟩:=(hl.mono (mLt gz dR)).at' i s hs
  obtain⟨s1,s2,s3⟩:=s
  obtain⟨pq,iW,mI⟩:=hl.byte _ (List.mem_of_getElem? hs)
  have hw:IntKind.i64.wrap ((i:Int)+1)=((i+1:Nat):Int):=by rw[Zal (by omega) (by omega)];rfl
  have na:Int.tmod (s1:Int) 12=((s1 % 12:Nat):Int):=rfl
  simp only[hw,Int.toNat_natCast]
  refine⟨bs,os,ha,⟨by omega,by omega⟩,_,_,_,dY,λb2=>Zaa rfl ⟨_,rfl,by omega,?_⟩⟩
  simp only[na]
  refine Zau (λh1=>?_) (λh1=>Zau (λh2=>?_) (λh2=>Zab (λh3=>?_) (λh3=>?_)))
  ·have hd:=Zx2 ⟨s2,iW⟩
   obtain⟨r,hr⟩:=Option.isSome_iff_exists.1 hd
   have hr:FloatKind.f64.format.div (FloatKind.f64.nearest (IntKind.i8.wrap (s2:Nat))) 4616189618054758400=some r:=hr
   refine⟨_,rfl,_,Zzc _,_,Zue _ hr,λxs _ _ m'=>(∃x,xs=[.float .f64 x])/\m1.le m',⟨_,rfl,Zab (λ_=>⟨_,rfl,_,ZrA s3,trivial,trivial,⟨_,rfl⟩,Mem.le_refl _⟩) (λ_=>⟨trivial,trivial,⟨_,rfl⟩,Mem.le_refl _⟩)⟩,?_⟩
   rintro v m2 _ ⟨⟨x,hx⟩,bA⟩
   obtain rfl:v=.float .f64 x:=by simpa using hx
   refine⟨λxs _ _ m'=>(∃y,xs=[.float .f64 y]/\Zfj y=true)/\m1.le m',⟨_,ZwC _ x x,Zab (λh=>?_) (λh=>⟨trivial,trivial,⟨x,rfl,?_⟩,bA⟩)⟩,?_⟩
   ·refine⟨_,trivial,ZwO m2,λ_ _ _ _=>trivial,?_⟩
    intro u m3 bS hu
    exact⟨trivial,trivial,⟨Zwp,by rw[show u=_ from hu],Zto⟩,mLt bA bS⟩
   ·unfold Zfj
    rw[show Op.floatEq .f64 x x=true by simpa using h];rfl
   rintro v m3 _ ⟨⟨y,hy,fO⟩,bS⟩
   obtain rfl:v=.float .f64 y:=by simpa using hy
   refine Zaj (Zud y m3) ZhM (Zx1 λt m4 cR hr ht b3 jd=>?_)
   subst ht
   have jQ:=mLt bS cR
   have fL:=Mem.le_add jd (ZyA y).cs
   refine Zle E.len E.one jd (ZyA y) (bF.mono jQ) 64 (by omega) (by omega) (.inl trivial) λa5 c5 m5 dX eB bX=>⟨trivial,N - (i+1),by omega,i+1,ts++[ZyA y],a5,c5,mb,by omega,by rw[List.length_append];rfl,by rw[List.length_append];rfl,by rw[List.length_append];exact bX.1,gz,mLt dR (mLt jQ (mLt fL dX)),dD.tok (mLt dR (mLt jQ fL)) bX,eB,?_,hP.push (ZtZ fO),by omega⟩
   intro z hz
   rcases List.mem_append.1 hz with hz|hz
   ·exact bV z hz
   ·rw[List.mem_singleton]at hz;subst hz;exact Zez (by omega) (by rw[ZaM];omega) (by omega)
  ·refine⟨λ_ vs _=>match vs with
    | [.string s]=>ER (λe=>e=Zxi s)
    | _=>Zxk ZjF,_,rfl,Ztn m1,Zdy,?_⟩
   rintro a3 n3 c3 m2 bA ⟨a3',c3',hv,gd⟩
   simp only[Value.slice.injEq]at hv
   obtain⟨rfl,rfl,rfl⟩:=hv
   obtain⟨nm,tC⟩:=Zbd (l:=ZjF) (k:=s2 % 4) (Nat.mod_lt _ (by omega))
   have pt:=List.mem_of_getElem? tC
   have cE:nm.size<=1000000000000000:=Nat.le_trans (Zlf nm pt) (by omega)
   obtain⟨b3,o3,f4,r8⟩:=ZcF gd tC
   have tD:Int.tmod (s2:Int) 4=((s2 % 4:Nat):Int):=rfl
   have h4:s2 % 4 < 4:=Nat.mod_lt _ (by omega)
   refine⟨_,rfl,by omega,b3,o3,f4,by rw[tD];exact⟨by omega,by show((s2 % 4:Nat):Int) < (4:Nat);omega⟩,_,by rw[tD,Int.toNat_natCast];exact r8,nm,rfl,_,rfl,Zvh nm cE m2,ZhM,Zx1 λt m3 bS hr ht b4 pu=>?_⟩
   subst ht
   have jQ:=mLt bA bS
   have fL:=Mem.le_add pu (Zxi nm).cs
   refine Zle E.len E.one pu (Zxi nm) (bF.mono jQ) 64 (by omega) (by omega) (.inl trivial) λa5 c5 m5 dX eB bX M _ _ _ _ hM=>⟨trivial,N - (i+1),by omega,i+1,ts++[Zxi nm],a5,c5,mb,by omega,by rw[List.length_append];rfl,by rw[List.length_append];rfl,by rw[List.length_append];exact bX.1,gz,mLt dR (mLt jQ (mLt fL (mLt dX hM))),dD.tok (mLt dR (mLt jQ fL)) bX,eB.mono hM,?_,hP.push (Zt1 pt),by omega⟩
   intro z hz
   rcases List.mem_append.1 hz with hz|hz
   ·exact bV z hz
   ·rw[List.mem_singleton]at hz;subst hz;exact Zez (by omega) cE (by omega)
  ·refine⟨_,rfl,by omega,λb3 jd=>?_⟩
   have r9:Int.tmod (s2:Int) 10=((s2 % 10:Nat):Int):=rfl
   have iB:s2 % 10 < 10:=Nat.mod_lt _ (by omega)
   have vf:IntKind.i64.wrap (Int.tmod (s2:Int) 10)=((s2 % 10:Nat):Int):=by rw[r9,Zal (by omega) (by omega)]
   simp only[vf]
   have fL:=Mem.le_add jd (Zy7 ((s2 % 10:Nat):Int)).cs
   refine Zle E.len E.one jd (Zy7 ((s2 % 10:Nat):Int)) bF 64 (by omega) (by omega) (.inl trivial) λa5 c5 m5 dX eB bX=>⟨trivial,N - (i+1),by omega,i+1,ts++[Zy7 ((s2 % 10:Nat):Int)],a5,c5,mb,by omega,by rw[List.length_append];rfl,by rw[List.length_append];rfl,by rw[List.length_append];exact bX.1,gz,mLt dR (mLt fL dX),dD.tok (mLt dR fL) bX,eB,?_,hP.push (Zws (by omega) (by omega)),by omega⟩
   intro z hz
   rcases List.mem_append.1 hz with hz|hz
   ·exact bV z hz
   ·rw[List.mem_singleton]at hz;subst hz;exact Zez (by omega) (by rw[ZaM];omega) (by omega)
  ·refine⟨decide (s1 % 12=5)&&decide (0 < ts.length),Zab (λh=>⟨trivial,trivial,Zae ?_⟩) (λh=>⟨trivial,trivial,Zae ?_⟩),Zab (λhb=>?_) (λhb=>?_)⟩
   ·have:s1 % 12=5:=by have:=h;simp at this;omega
    rw[this,Bool.eq_iff_iff];simp
   ·have:¬s1 % 12=5:=by have:=h;simp at this;omega
    rw[decide_eq_false this];rfl
   ·have gq:0 < ts.length:=by rw[Bool.and_eq_true,decide_eq_true_iff,decide_eq_true_iff]at hb;exact hb.2
    obtain⟨r,x,rfl⟩:=Zx0 gq
    have gn:(r++[x]).length=r.length+1:=by simp
    have iJ:IntKind.i64.wrap (((r++[x]).length:Int) - 1)=(r.length:Int):=by rw[gn,Zal (by omega) (by omega)];omega
    obtain⟨bb,je,jb,o',u',hu'⟩:=dD.rbase E.len (by omega) bF (by simp)
    subst je
    obtain⟨bx,ox,jf,iF⟩:=Zam E.len bF (k:=r.length) (t:=x) (by simp) (by omega)
    cases jf
    simp only[iJ,Int.toNat_natCast]
    refine⟨_,_,rfl,⟨by omega,by omega⟩,_,iF 0 _ rfl,_,rfl,Zab (λh8=>?_) (λh8=>⟨trivial,N - (i+1),by omega,i+1,r++[x],_,_,mb,by omega,rfl,rfl,dT,gz,dR,dD,bF,bV,hP.skip,by omega⟩)⟩
    have sb:x.k≠8:=by simpa using h8
    refine⟨_,_,rfl,⟨by omega,by omega⟩,_,_,_,_,_,iF,Zaj ((ZwP x mb (bV x (by simp))).frame2 dR) (Zuc (mb:=mb) (M0:=m1)) (ZzG λt m0 m3 bS h0 iG dB gp ht=>?_)⟩
    obtain⟨at',ct,rfl⟩:=ht
    have fK:m0.free bb:=λo=>by rw[dB bb o' u' hu' o];exact jb o
    refine⟨bb,0,rfl,⟨by omega,by omega⟩,Zaa rfl ⟨rfl,by omega,trivial,N - (i+1),by omega,i+1,r++[Zxj at' ct x],_,_,m0,by omega,?_,?_,by rw[List.length_append];rw[gn]at dT;exact dT,mLt gz h0,Mem.le_upd iG fK _ _,.inr ⟨bb,rfl,fK⟩,Zvg E.len (bF.mono bS) (by omega),?_,hP.neg sb _ _,by omega⟩⟩
    ·rw[gn,List.length_append];rfl
    ·rw[gn,List.length_append];rfl
    ·intro z hz
     rcases List.mem_append.1 hz with hz|hz
     ·exact(bV z (by simp[hz])).mono' h0
     ·rw[List.mem_singleton]at hz;subst hz;exact gp
   ·refine⟨decide (5 < s1 % 12)&&decide (1 < ts.length),Zau (λh=>⟨trivial,trivial,Zae ?_⟩) (λh=>⟨trivial,trivial,Zae ?_⟩),Zab (λfD=>?_) (λfD=>⟨trivial,N - (i+1),by omega,i+1,ts,_,_,mb,by omega,rfl,rfl,dT,gz,dR,dD,bF,bV,hP.skip,by omega⟩)⟩
    ·rw[decide_eq_true (show 5 < s1 % 12 by omega),Bool.true_and,decide_eq_decide];omega
    ·rw[decide_eq_false (show ¬5 < s1 % 12 by omega)];rfl
    obtain⟨h5,vg⟩:5 < s1 % 12/\1 < ts.length:=by rw[Bool.and_eq_true,decide_eq_true_iff,decide_eq_true_iff]at fD;exact fD
    have vh:s1 % 12 < 12:=Nat.mod_lt _ (by omega)
    obtain⟨r,x,y,rfl⟩:=ZxZ vg
    have gn:(r++[x,y]).length=r.length+2:=by simp
    have gP:IntKind.i64.wrap (((r++[x,y]).length:Int) - 2)=(r.length:Int):=by rw[gn,Zal (by omega) (by omega)];omega
    have iJ:IntKind.i64.wrap (((r++[x,y]).length:Int) - 1)=((r.length+1:Nat):Int):=by rw[gn,Zal (by omega) (by omega)];omega
    have hk:IntKind.u8.wrap (((s1 % 12:Nat):Int) - 4)=((s1 % 12 - 4:Nat):Int):=by
     generalize s1 % 12=k at h5 vh
     have:k=6\/k=7\/k=8\/k=9\/k=10\/k=11:=by omega
     rcases this with rfl|rfl|rfl|rfl|rfl|rfl <;> rfl
    have gu:2<=((s1 % 12 - 4:Nat):Int)/\((s1 % 12 - 4:Nat):Int)<=7:=by omega
    generalize ((s1 % 12 - 4:Nat):Int)=kk at hk gu
    simp only[gP,iJ,hk,Int.toNat_natCast,Nat.sub_zero]
    obtain⟨bb,je,jb,o',u',hu'⟩:=dD.rbase E.len (by omega) bF (by simp)
    obtain⟨bx,ox,jf,iF⟩:=Zam E.len bF (k:=r.length) (t:=x) (by simp) (by omega)
    obtain⟨by',oy,pw,px⟩:=Zam E.len bF (k:=r.length+1) (t:=y) (by simp) (by omega)
    refine⟨λ_ _ _=>EF mb m1 (λe=>∃a d,e=opE kk a d x y),⟨by omega,by omega⟩,⟨by omega,by omega⟩,bx,ox,jf,⟨by omega,by omega⟩,_,_,_,_,_,iF,by',oy,pw,⟨by omega,by omega⟩,_,_,_,_,_,px,_,rfl,(ZwQ kk x y (by omega) mb (bV x (by simp)) (bV y (by simp))).frame2 dR,Zuc,ZzG λt m0 m3 bS h0 iG dB gp ht b6 gY=>?_⟩
    obtain⟨at',ct,rfl⟩:=ht
    have gN:=Mem.le_add gY (opE kk at' ct x y).cs
    have fK:Apart m0 _:=.inr ⟨bb,je,λo=>by rw[dB bb o' u' hu' o];exact jb o⟩
    refine Zle E.len E.one gY (opE kk at' ct x y) ((Zvf bF).mono bS) 64 (by omega) (by omega) (.inr (.inr (by omega))) λa4 c4 m4 cR dZ bX M _ im _ jH=>⟨trivial,N - (i+1),by omega,i+1,r++[opE kk at' ct x y],a4,c4,m0,by omega,?_,?_,by have:=bX.1;rw[List.length_append];exact this,mLt gz h0,mLt iG im,fK.tok (mLt iG gN) bX,dZ.mono jH,?_,hP.op gu _ _,by omega⟩
    ·rw[List.length_append];rfl
    ·rw[List.length_append];rfl
    ·intro z hz
     rcases List.mem_append.1 hz with hz|hz
     ·exact(bV z (by simp[hz])).mono' h0
     ·rw[List.mem_singleton]at hz;subst hz;exact gp
 ·have qA:i=N:=by have:=of_decide_eq_false dF;omega
  have aV:=mLt gz dR
  refine Zab (λh0=>?_) (λh0=>?_)
  ·refine Zaj (Zud _ m1) ZhM (Zx1 λt m2 bA hr ht=>Zaa rfl (ZaQ (mLt aV bA) ⟨t,rfl,hr,?_⟩))
   rw[ht];exact(ZtZ (by decide +kernel)).mono (by omega)
  ·obtain⟨t0,rest,rfl⟩:∃t r,ts=t::r:=by cases ts with
    | nil=>simp at h0
    | cons t r=>exact⟨t,r,rfl⟩
   have hF:=QE.start hP
   obtain⟨bb,je,jb,o',u',hu'⟩:=dD.rbase E.len (by omega) bF (by simp)
   subst je
   obtain⟨bx,ox,jf,iF⟩:=Zam E.len bF (k:=0) (t:=t0) rfl (by omega)
   cases jf
   rw[List.length_cons]at gR dT
   refine⟨_,_,rfl,⟨by omega,by simp⟩,_,_,_,_,_,iF,λb2=>Zaa rfl ⟨⟨by omega,by rw[List.length_cons];omega⟩,?_⟩⟩
   refine⟨λxs css tvs m' q=>∃(k:Nat)(t:E),k<=rest.length/\xs=[.int .i64 k]/\css=[t.cs]/\m1.le m'/\RepE m' t/\QE t (rest.drop k) (2*i)/\q=rest.length - k,⟨rest.length,0,t0,by omega,rfl,rfl,Mem.le_refl _,(bV t0 (by simp)).mono' dR,hF,by omega⟩,?_⟩
   rintro z cs m2 q2 _ ⟨k,t,hk,hz,dJ,bA,gp,kW,nt⟩
   obtain rfl:z=k:=by simpa using hz
   obtain rfl:cs=t.cs:=by simpa using dJ
   have jC:((t0::rest).length - Int.toNat 1)=rest.length:=by simp
   simp only[jC]
   refine Zab (λbB=>?_) (λfM=>Zaa rfl (ZaQ (mLt aV bA) ⟨t,rfl,gp,?_⟩))
   ·have bQ:k < rest.length:=by have:=of_decide_eq_true bB;omega
    obtain⟨x,hx⟩:=Zbd bQ
    obtain⟨b3,o3,f4,mD⟩:=Zam E.len (bF.mono bA) (k:=k+1) (t:=x) (by simpa using hx) (by omega)
    cases f4
    have iK:IntKind.i64.wrap ((k:Int)+1)=((k+1:Nat):Int):=by rw[Zal (by omega) (by omega)];rfl
    simp only[iK,Int.toNat_natCast]
    rw[Zow hx]at kW
    have iI:ZaT (some (⟨bb,0,none⟩:Addr)) (Int.toNat 1) c2 5=some ⟨bb,0+5,none⟩:=by
     unfold ZaT
     have:Nat.beq c2 1=false:=by
      cases hb:Nat.beq c2 1 with
      | false=>rfl
      | true=>have:=Nat.eq_of_beq_eq_true hb;omega
     show(bif Nat.beq c2 1 then _ else some (Addr.add _ (1*5)))=_
     rw[this,ZbN];rfl
    refine⟨_,_,iI,⟨by omega,by omega⟩,_,_,_,_,_,by rw[show 0+5+k*5=0+(k+1)*5 by omega];exact mD,λb4=>Zaa rfl (Zaj (ZwQ 2 t x (by omega) m2 gp ((bV x (by simp[List.mem_of_getElem? hx])).mono' (mLt dR bA))) ZhM (Zx1 λt' m3 bS hr' ht'=>Zaa rfl ⟨trivial,trivial,rest.length - (k+1),by omega,k+1,t',by omega,rfl,rfl,mLt bA bS,hr',?_,by omega⟩))⟩
    obtain⟨a3,c3,rfl⟩:=ht'
    exact kW.step _ _
   ·have:k=rest.length:=by have:=of_decide_eq_false fM;omega
    rw[this,List.drop_length]at kW
    exact kW.done.mono (by omega)
theorem Zia(m:Mem):CX Tryz.prog 32 #[] m [] (Zxk ZjF):=by
 apply ZgA
 intro b hf
 exact ZaQ (Mem.le_add hf _) ⟨_,_,rfl,Zbk⟩
theorem ZnE(m:Mem):CX Tryz.prog 33 #[] m [] (Zxk Ze7):=by
 apply ZiW
 intro b hf
 exact ZaQ (Mem.le_add hf _) ⟨_,_,rfl,Zbk⟩
theorem Zpq(m:Mem):CX Tryz.prog 34 #[] m [] (Zxk ZvO):=by
 apply ZiX
 intro b hf
 exact ZaQ (Mem.le_add hf _) ⟨_,_,rfl,Zbk⟩
theorem Zl8{m:Mem}{b:Nat}:∀{L:List E} {o:Nat},m.reads b o (L.map E.cs).flatten->(∀z∈L,RepE m z)->RepEAt m b o L
 | [],o,_,_=>by simp only[RepEAt]
 | z::L,o,h,hz=>by
  rw[List.map_cons,List.flatten_cons]at h
  simp only[RepEAt]
  refine⟨λi v hi=>h i v (by rw[List.getElem?_append_left (List.getElem?_eq_some_iff.1 hi).1];exact hi),hz z (by simp),Zl8 (λi v hi=>?_) (λy hy=>hz y (by simp[hy]))⟩
  rw[Nat.add_assoc]
  refine h (5+i) v ?_
  rw[List.getElem?_append_right (by rw[E.len];omega),E.len,Nat.add_sub_cancel_left];exact hi
theorem Zvj{m:Mem}{k:Int}{x:Nat}{s:ByteArray}{g:Int}{a:Option Addr}{c:Nat}{L:List E}(h:rowRd m a (L.map E.cs).flatten)(hz:∀z∈L,RepE m z)(hl:L.length<=1000000000000000)(ho:OkE k s g):RepE m (.node k x s g a c L):=by
 simp only[RepE]
 refine⟨hl,?_,ho⟩
 rcases h with h|⟨b,o,ha,h⟩
 ·refine .inl ?_
  have:=congrArg List.length h
  rw[Zdw E.len]at this
  exact List.eq_nil_of_length_eq_zero (by simp at this;omega)
 ·exact .inr ⟨b,o,ha,Zl8 h hz⟩
theorem Zl9(e:E)(c:Int)(m:Mem)(hr:RepE m e)(cW:∀x∈e.nodes,okN 9 x)(hl:e.nodes.length<=1000):CX Tryz.prog 104 #[e.v,.int .i64 c] m [] (ER (BoE c e)):=by
 apply ZgB
 intro b b1
 refine⟨decide (e.k=10)&&decide (e.g > c),Zab (λh=>⟨rfl,Zae ?_⟩) (λh=>⟨rfl,Zae ?_⟩),Zab (λh=>?_) (λh=>?_)⟩
 ·have:e.k=10:=by simpa using h
  rw[decide_eq_true this,Bool.true_and]
 ·have:¬e.k=10:=by simpa using h
  rw[decide_eq_false this,Bool.false_and]
 ·rw[Bool.and_eq_true,decide_eq_true_iff,decide_eq_true_iff]at h
  exact ZaQ (Mem.le_refl _) ⟨Zxi ⟨#[121]⟩,rfl,Zez (by omega) (by decide) (by omega),Zwy (by simp[ZjF]) h.1⟩
 have hk:¬(e.k=10/\e.g > c):=by
  rintro⟨h1,h2⟩
  rw[decide_eq_true h1,decide_eq_true h2]at h;cases h
 have dA:e.subs.length<=1000:=by
  have:=Zgb e.subs
  rw[ZdD,List.length_cons]at hl;omega
 refine⟨λxs css tvs m' q=>∃(ts:List E)(a:Option Addr)(d:Nat),ts.length<=e.subs.length/\xs=[.int .i64 ts.length]/\css=[[.int .u8 e.k,.float .f64 e.x,.string e.s,.int .i64 e.g,.slice a ts.length d]]/\tvs=[.slice a ts.length d]/\rowRd m' a (ts.map E.cs).flatten/\(∀t∈ts,RepE m' t)/\(∀(i:Nat)(x y:E),e.subs[i]?=some x->ts[i]?=some y->BoE c x y)/\q=e.subs.length - ts.length,⟨_,[],none,0,by simp,rfl,rfl,rfl,.inl rfl,by simp,by simp,rfl⟩,?_⟩
 rintro n cs a n1 d m1 q aV ⟨ts,a',d',gR,hx,dJ,fl,bF,bV,p6,hq⟩
 simp only[List.cons.injEq,Value.slice.injEq,Value.int.injEq,true_and,and_true]at hx dJ fl
 obtain⟨rfl,rfl,rfl⟩:=fl
 subst hx dJ
 refine Zau (λbB=>?_) (λdF=>?_)
 ·have bQ:ts.length < e.subs.length:=by omega
  obtain⟨x,hx⟩:=Zbd bQ
  obtain⟨o8,h0|⟨b3,o3,f4,f7⟩⟩:=Zf8 hr
  ·rw[h0]at bQ;simp at bQ
  obtain⟨eA,eU⟩:=(f7.mono' aV).get hx
  have jB:=List.mem_of_getElem? hx
  have cE:=Zoz jB
  have tg:∀z∈x.nodes,z∈Zan e.subs:=λz hz=>by rw[Zd4 hx];exact List.mem_append_right _ (List.mem_append_left _ hz)
  have jW:x.nodes.length<=1000:=by
   rw[ZdD,List.length_cons,Zd4 hx,List.length_append,List.length_append]at hl;omega
  have hw:IntKind.i64.wrap ((ts.length:Int)+1)=((ts.length+1:Nat):Int):=by rw[Zal (by omega) (by omega)];rfl
  refine⟨b3,o3,f4,⟨by omega,bB⟩,_,_,_,_,_,eA,λb4=>Zaa rfl ⟨λ_ _ _=>ER (BoE c x),Zao rfl ⟨_,rfl,Zl9 x c m1 eU (λz hz=>cW z (by rw[ZdD];exact List.mem_cons_of_mem _ (tg z hz))) jW,ZhM,Zx1 λt m2 bA gp ht b5 iE=>Zaa rfl ?_⟩⟩⟩
  refine Zgg E.len E.one iE t (bF.mono bA) 64 (by omega) (by omega) (.inl rfl) λa5 c5 m5 dX eB=>Zaa rfl λM _ im kX jH=>⟨rfl,e.subs.length - (ts.length+1),by omega,ts++[t],a5,c5,by rw[List.length_append];exact bQ,by rw[hw,List.length_append];rfl,by rw[List.length_append];rfl,by rw[List.length_append];rfl,eB.mono jH,?_,?_,by rw[List.length_append];rfl⟩
  ·intro z hz
   rcases List.mem_append.1 hz with hz|hz
   ·exact(bV z hz).mono' (mLt bA im)
   ·rw[List.mem_singleton]at hz;subst hz;exact gp.mono' im
  ·intro i x' y' hx' hy'
   rcases Nat.lt_or_ge i ts.length with h|h
   ·rw[List.getElem?_append_left h]at hy'
    exact p6 i x' y' hx' hy'
   ·have hi:=(List.getElem?_eq_some_iff.1 hy').1
    rw[List.length_append,List.length_singleton]at hi
    obtain rfl:i=ts.length:=by omega
    rw[hx]at hx'
    simp at hy'
    cases hx';subst hy';exact ht
 ·have bT:ts.length=e.subs.length:=by omega
  have ho:=ZtX hr
  refine Zaa rfl (ZaQ aV ⟨.node e.k e.x e.s e.g a d ts,rfl,Zvj bF bV (by omega) ho,?_⟩)
  have:=ZuK (c:=c) (x:=e.x) (s:=e.s) (a:=e.a) (a':=a) (d:=e.c) (d':=d) (l:=e.subs) (r:=ts) (k:=e.k) (g:=e.g) (by cases e;exact cW _ (by simp[E.nodes,E.k,E.x,E.s,E.g,E.a,E.c,E.subs])) hk bT.symm p6
  cases e;exact this
termination_by SizeOf.sizeOf e
theorem Zma(t:T)(m:Mem)(hr:Rep m t)(hl:t.nodes.length<=10000):CX Tryz.prog 66 #[t.v] m [] (Ret (.int .i64 (t.gr:Nat))):=by
 apply ZhI
 intro b m1 aV _
 have dA:t.subs.length<=10000:=by
  have h1:=Zl1 t
  have:=Zrq t.subs
  omega
 have tE:∀i,grL (t.subs.take i)<=10000:=λi=>by
  have h1:grL (t.subs.take i)<=szL (t.subs.take i):=List.countP_le_length
  have h2:szL t.subs=szL (t.subs.take i)+szL (t.subs.drop i):=by rw[<-ZaD,List.take_append_drop]
  have h3:=Zl1 t
  omega
 refine Zab (λh=>?_) (λh=>?_)
 all_goals
  refine⟨λxs _ _ m' q=>∃i:Nat,i<=t.subs.length/\xs=[.int .i64 (((if isG t=true then 1 else 0)+grL (t.subs.take i):Nat):Int),.int .i64 i]/\q=t.subs.length - i,⟨_,0,by omega,by unfold isG;rw[h];rfl,rfl⟩,?_⟩
  rintro n n1 m2 q bA ⟨i,hi,hx,rfl⟩
  simp only[List.cons.injEq,Value.int.injEq,true_and,and_true]at hx
  obtain⟨rfl,rfl⟩:=hx
  refine Zau (λbB=>?_) (λdF=>Zac (mLt aV bA) ?_)
  ·have bQ:i < t.subs.length:=by omega
   obtain⟨x,hx⟩:=Zbd bQ
   have jB:=List.mem_of_getElem? hx
   have cE:=ZsB jB
   have jW:x.nodes.length<=10000:=by
    have h1:=Zl1 t
    have h2:szL t.subs=szL (t.subs.take i)+szL (t.subs.drop i):=by rw[<-ZaD,List.take_append_drop]
    rw[Zow hx,ZeR]at h2;omega
   have vj:grL (t.subs.take (i+1))=grL (t.subs.take i)+x.gr:=by
    rw[List.take_add_one,hx,Zby];show _+grL [x]=_;rw[Zc6]
   have hb:=tE i
   have hb':=tE (i+1)
   obtain⟨b3,o3,f4,eA⟩:=Zex ((Zf7 hr.subs).mono (mLt aV bA)) hx
   refine⟨b3,o3,f4,⟨by omega,bB⟩,_,_,_,_,_,_,_,_,eA,λb4=>Zaa rfl (Zav (Zma x m2 ((Zox hr.subs x jB).mono (mLt aV bA)) jW) λm3 bS=>⟨rfl,t.subs.length - (i+1),by omega,i+1,by omega,?_,rfl⟩)⟩
   rw[vj,Zal (by split <;> omega) (by split <;> omega),Zal (by omega) (by omega)]
   simp;omega
  ·have:i=t.subs.length:=by omega
   subst this
   rw[List.take_length]
   show Value.int .i64 _=Value.int .i64 _
   rw[ZvL t]
termination_by SizeOf.sizeOf t
structure BytU (m:Mem)(a:Option Addr)(l:List Nat):Prop where
 lt:∀n∈l,n < 256
 row:rowRd m a (l.map λn:Nat=>[Value.int .u8 n]).flatten
theorem BytU.mono{m m':Mem}{a l}(h:BytU m a l)(hm:m.le m'):BytU m' a l:=⟨h.lt,h.row.mono hm⟩
theorem BytU.get{m:Mem}{a l}(h:BytU m a l){i:Nat}{n:Nat}(hi:l[i]?=some n):n < 256/\∃b o,a=some ⟨b,o,none⟩/\m b (o+i*1)=some (.int .u8 n):=by
 obtain⟨b,o,ha,h1⟩:=Zam (cs:=λn:Nat=>[Value.int .u8 n]) (n:=1) (λ_=>rfl) h.row hi (by omega)
 exact⟨h.lt n (List.mem_of_getElem? hi),b,o,ha,h1 0 _ rfl⟩
theorem Pt.one(p:Pt):∀u∈p.cs,u.oneCell'=true:=by
 intro u hu
 simp only[Pt.cs,List.mem_cons,List.not_mem_nil,or_false]at hu
 rcases hu with rfl|rfl|rfl|rfl|rfl|rfl|rfl|rfl <;> rfl
def TmR(c:Int):Value->Mem->List (List Value)->Prop:=λv m' _=>∃(l:List Pt)(a:Option Addr)(d:Nat),v=.slice a l.length d/\rowRd m' a (l.map Pt.cs).flatten/\(∀p∈l,RepP m' p)/\MkT c l
theorem Zuf{c:Int}:∀(v:Value)(m':Mem) (css:List (List Value)),TmR c v m' css->Shape.fits .slice v=true:=λv _ _ ⟨_,_,_,h,_⟩=>by rw[h];rfl
def TmI(c:Int)(N:Nat)(m:Mem):List Value->List (List Value)->List Value->Mem->Nat->Prop:=λxs _ tvs m' q=>∃(L:List Pt)(a:Option Addr)(d i:Nat),xs=[.slice a L.length d,.int .i64 i]/\tvs=[.slice a L.length d]/\i<=N/\L.length<=i/\m.le m'/\rowRd m' a (L.map Pt.cs).flatten/\(∀p∈L,RepP m' p)/\(∀p∈L,MkP c p)/\ZyQ L/\q=N - i
theorem Ztp{L:List Pt}{p:Pt}(h:ZyQ L)(hp:p.k=1->∀x,L[L.length - 1]?=some x->0 < L.length->x.k≠1):ZyQ (L++[p]):=by
 intro i x y hx hy h1 h2
 rcases Nat.lt_or_ge (i+1) L.length with hi|hi
 ·rw[List.getElem?_append_left (by omega)]at hx
  rw[List.getElem?_append_left hi]at hy
  exact h i x y hx hy h1 h2
 ·have ij:=(List.getElem?_eq_some_iff.1 hy).1
  rw[List.length_append,List.length_singleton]at ij
  have e:i+1=L.length:=by omega
  rw[List.getElem?_append_left (by omega)]at hx
  rw[e]at hy
  simp at hy;subst hy
  exact hp h2 x (by rw[<-e,Nat.add_sub_cancel];exact hx) (by omega) h1
theorem TmI.next{c:Int}{N:Nat}{m m' M:Mem}{L:List Pt}{i:Nat}{p:Pt}{a:Option Addr}{d:Nat}(hi:i < N)(hL:L.length<=i)(h0:m.le m')(hM:m'.le M)(bF:rowRd M a ((L++[p]).map Pt.cs).flatten)(hr:∀x∈L,RepP m' x)(hp:RepP M p)(hk:∀x∈L,MkP c x)(rJ:MkP c p)(hl:ZyQ L)(vn:p.k=1->∀x,L[L.length - 1]?=some x->0 < L.length->x.k≠1):
  ∃n',n' < N - i/\TmI c N m [.slice a (L.length+1) d,.int .i64 ((i+1:Nat):Int)] [] [.slice a (L.length+1) d] M n':=by
 refine⟨N - (i+1),by omega,L++[p],a,d,i+1,by rw[List.length_append];rfl,by rw[List.length_append];rfl,by omega,by rw[List.length_append,List.length_singleton];omega,mLt h0 hM,bF,?_,?_,Ztp hl vn,rfl⟩
 ·intro x hx
  rcases List.mem_append.1 hx with hx|hx
  ·exact(hr x hx).mono hM
  ·rw[List.mem_singleton]at hx;subst hx;exact hp
 ·intro x hx
  rcases List.mem_append.1 hx with hx|hx
  ·exact hk x hx
  ·rw[List.mem_singleton]at hx;subst hx;exact rJ
theorem ZhN{m:Mem}{k:Int}{s:ByteArray}{g:Int}(hk:0<=k/\k < 256)(hs:s.size<=1000000000000000)(hg:I64 g):RepP m ⟨k,s,g,E0⟩:=⟨hk,hs,hg,ZvI m⟩
theorem Zlg:∀s∈Ze7,s.size<=16:=by decide +kernel
theorem ZzP:∀j < 5,∃s:ByteArray,[Value.string ⟨#[97]⟩,.string ⟨#[45]⟩,.string ⟨#[97,98,32]⟩,.string ⟨#[0,255]⟩,.string ⟨#[49,50]⟩][j*1]?=some (.string s)/\0 < s.size/\s.size<=512:=by
 intro j hj
 have:j=0\/j=1\/j=2\/j=3\/j=4:=by omega
 rcases this with rfl|rfl|rfl|rfl|rfl <;> exact⟨_,rfl,by decide,by decide⟩
set_option maxHeartbeats 2000000 in
theorem ZjE(l:List Nat)(a:Option Addr)(d:Nat)(e:E)(c:Int)(m:Mem)(hb:BytU m a l)(hd:l.length<=d)(hl:l.length<=1000000000000000)(hr:RepE m e)(he:MkE c 20 e)(hc : -1<=c/\c<=10000):
  CX Tryz.prog 106 #[.slice a l.length d,e.v,.int .i64 c] m [] (TmR c):=by
 apply ZfC
 intro b m1 aV _
 have hN:(if(5:Int) < (l.length:Int)then(5:Int)else(l.length:Int))=((min 5 l.length:Nat):Int):=by split <;> omega
 simp only[hN,Int.toNat_natCast,Nat.sub_zero]
 generalize qz:min 5 l.length=N
 refine⟨⟨by omega,by omega⟩,TmI c N m1,⟨N,[],none,0,0,rfl,rfl,by omega,by simp,Mem.le_refl _,.inl rfl,by simp,by simp,λi p q h=>by simp at h,by omega⟩,?_⟩
 rintro a1 n1 c1 z1 a2 n2 c2 m2 q bA ⟨L,a',c',i,hx,fl,qA,gy,hm,bF,bV,gD,gx,rfl⟩
 simp only[List.cons.injEq,Value.slice.injEq,Value.int.injEq,true_and,and_true]at hx fl
 obtain⟨⟨rfl,rfl,rfl⟩,rfl⟩:=hx
 obtain⟨rfl,rfl,rfl⟩:=fl
 have hw:IntKind.i64.wrap ((i:Int)+1)=((i+1:Nat):Int):=by rw[Zal (by omega) (by omega)];rfl
 have vo:IntKind.i64.wrap ((L.length:Int) - 1)=(L.length:Int) - 1:=Zal (by omega) (by omega)
 have qB:=mLt aV bA
 refine Zau (λbB=>?_) (λdF=>ZaQ qB ⟨L,a2,c2,rfl,bF,bV,by omega,gD,gx⟩)
 have bQ:i < N:=by omega
 obtain⟨n,hn⟩:=Zbd (l:=l) (k:=i) (by omega)
 obtain⟨jr,bs,os,ha,hv⟩:=(hb.mono qB).get hn
 have se:Int.tmod (n:Int) 8=((n % 8:Nat):Int):=rfl
 have sf:IntKind.i64.wrap (Int.tdiv (IntKind.i64.wrap (n:Int)) 8)=((n / 8:Nat):Int):=by
  rw[Zal (n:=(n:Int)) (by omega) (by omega),show Int.tdiv (n:Int) 8=((n / 8:Nat):Int) from rfl,Zal (by omega) (by omega)]
 simp only[hw,vo,Int.toNat_natCast]
 refine⟨bs,os,ha,⟨by omega,bB⟩,_,hv,_,rfl,by omega,by omega,?_⟩
 simp only[se,sf]
 have vp:n / 8 < 32:=by omega
 generalize n % 8=k
 generalize n / 8=u at vp
 have stay:∀M:Mem,m2.le M->∃n',n' < N - i/\TmI c N m1 [.slice a2 L.length c2,.int .i64 ((i+1:Nat):Int)] [] [.slice a2 L.length c2] M n':=λM hM=>⟨N - (i+1),by omega,L,a2,c2,i+1,rfl,rfl,by omega,by omega,mLt hm hM,bF.mono hM,λp hp=>(bV p hp).mono hM,gD,gx,rfl⟩
 refine⟨λxs _ _ m'=>xs=[.bool (decide (k=0\/k=1))]/\m2.le m',Zab (λh=>⟨trivial,trivial,?_,Mem.le_refl _⟩) (λh=>⟨trivial,trivial,?_,Mem.le_refl _⟩),?_⟩
 ·have:k=0:=by simp at h;omega
  rw[h,this];rfl
 ·have:¬k=0:=by simp at h;omega
  refine Zae ?_
  rw[Bool.eq_iff_iff];simp;omega
 rintro b2 m3 bS ⟨fD,_⟩
 obtain rfl:b2=decide (k=0\/k=1):=by simpa using fD
 have eX:=mLt qB bS
 refine Zau (λiG=>?_) (λiG=>?_)
 ·refine⟨decide (L.length=0)||!(match L[L.length - 1]? with
   | some x=>x.k == 1
   | none=>false),Zau (λh=>⟨trivial,trivial,Zae ?_⟩) (λh=>?_),Zab (λhB=>?_) (λ_=>⟨trivial,stay m3 bS⟩)⟩
  ·rw[decide_eq_true (show L.length=0 by omega)];rfl
  ·obtain⟨x,hx⟩:=Zbd (l:=L) (k:=L.length - 1) (by omega)
   obtain⟨b4,o4,pk,dY⟩:=Zam Pt.len (bF.mono bS) hx (by omega)
   have vq:Int.toNat ((L.length:Int) - 1)=L.length - 1:=by omega
   refine⟨b4,o4,pk,⟨by omega,by omega⟩,.int .u8 x.k,by rw[vq];exact dY 0 _ rfl,_,rfl,trivial,trivial,Zae ?_⟩
   rw[decide_eq_false (show ¬L.length=0 by omega),hx,Bool.false_or]
  ·have tF:Int.tmod (u:Int) 5=((u % 5:Nat):Int):=rfl
   have h5:u % 5 < 5:=Nat.mod_lt _ (by omega)
   intro b4 pu
   obtain⟨s,hs,jY,vr⟩:=ZzP (u % 5) h5
   refine⟨by omega,by rw[tF];exact⟨by omega,by omega⟩,Zao (by rw[tF,Int.toNat_natCast];exact hs) ⟨s,rfl,λb5 iE=>?_⟩⟩
   have nK:=mLt bS (Mem.le_add pu [Value.string ⟨#[97]⟩,.string ⟨#[45]⟩,.string ⟨#[97,98,32]⟩,.string ⟨#[0,255]⟩,.string ⟨#[49,50]⟩])
   refine Zgg Pt.len Pt.one iE (⟨1,s,0,E0⟩:Pt) (bF.mono nK) 96 (by omega) (by omega) (.inl trivial) λa8 c8 m8 ge f6=>⟨trivial,TmI.next bQ gy (mLt hm nK) (mLt (Mem.le_add iE _) ge) f6 (λx hx=>(bV x hx).mono nK) (ZhN (by omega) (by omega) ⟨by omega,by omega⟩) gD (.lit s ⟨jY,vr⟩) gx (λ_ x hx rD qi=>?_)⟩
   rw[hx,decide_eq_false (show ¬L.length=0 by omega)]at hB
   simp[qi]at hB
 refine⟨λxs _ _ m'=>xs=[.bool (decide (k=2\/k=3))]/\m3.le m',Zab (λh=>⟨trivial,trivial,?_,Mem.le_refl _⟩) (λh=>⟨trivial,trivial,?_,Mem.le_refl _⟩),?_⟩
 ·have:k=2:=by simp at h;omega
  rw[h,this];rfl
 ·have:¬k=2:=by simp at h;omega
  refine Zae ?_
  rw[Bool.eq_iff_iff];simp;omega
 rintro b3 m4 cR ⟨fA,_⟩
 obtain rfl:b3=decide (k=2\/k=3):=by simpa using fA
 have jG:=mLt bS cR
 refine Zau (λvt=>?_) (λvt=>?_)
 ·refine Zaj (ZnE m4) Zdy ?_
  rintro a5 n5 c5 m5 dX ⟨a',c',ir,gd⟩
  simp only[Value.slice.injEq]at ir
  obtain⟨rfl,rfl,rfl⟩:=ir
  have h2:u % 2 < 2:=Nat.mod_lt _ (by omega)
  obtain⟨s,hs⟩:=Zbd (l:=Ze7) (k:=u % 2) h2
  have jI:=List.mem_of_getElem? hs
  obtain⟨b6,o6,jc,dY⟩:=ZcF gd hs
  have cE:s.size<=1000000000000000:=by have:=Zlg s jI;omega
  have hu:Int.tmod (u:Int) 2=((u % 2:Nat):Int):=rfl
  have iZ:=mLt jG dX
  refine⟨by omega,b6,o6,jc,by rw[hu];exact⟨by omega,by show((u % 2:Nat):Int) < (2:Nat);omega⟩,_,by rw[hu,Int.toNat_natCast];exact dY,s,rfl,λb7 nb=>?_⟩
  refine Zgg Pt.len Pt.one nb (⟨2,s,0,E0⟩:Pt) (bF.mono iZ) 96 (by omega) (by omega) (.inl trivial) λa8 c8 m8 ge f6=>⟨trivial,TmI.next bQ gy (mLt hm iZ) (mLt (Mem.le_add nb _) ge) f6 (λx hx=>(bV x hx).mono iZ) (ZhN (by omega) cE ⟨by omega,by omega⟩) gD (.var s (.inr jI)) gx (λh=>absurd (show(2:Int)=1 from h) (by decide))⟩
 refine Zab (λh4=>?_) (λh4=>?_)
 ·refine Zaj (Zia m4) Zdy ?_
  rintro a5 n5 c5 m5 dX ⟨a',c',ir,gd⟩
  simp only[Value.slice.injEq]at ir
  obtain⟨rfl,rfl,rfl⟩:=ir
  have h2:u % 4 < 4:=Nat.mod_lt _ (by omega)
  obtain⟨s,hs⟩:=Zbd (l:=ZjF) (k:=u % 4) h2
  have jI:=List.mem_of_getElem? hs
  obtain⟨b6,o6,jc,dY⟩:=ZcF gd hs
  have cE:s.size<=1000000000000000:=by have:=Zlf s jI;omega
  have hu:Int.tmod (u:Int) 4=((u % 4:Nat):Int):=rfl
  have iZ:=mLt jG dX
  refine⟨by omega,b6,o6,jc,by rw[hu];exact⟨by omega,by show((u % 4:Nat):Int) < (4:Nat);omega⟩,_,by rw[hu,Int.toNat_natCast];exact dY,s,rfl,λb7 nb=>?_⟩
  refine Zgg Pt.len Pt.one nb (⟨2,s,0,E0⟩:Pt) (bF.mono iZ) 96 (by omega) (by omega) (.inl trivial) λa8 c8 m8 ge f6=>⟨trivial,TmI.next bQ gy (mLt hm iZ) (mLt (Mem.le_add nb _) ge) f6 (λx hx=>(bV x hx).mono iZ) (ZhN (by omega) cE ⟨by omega,by omega⟩) gD (.var s (.inl jI)) gx (λh=>absurd (show(2:Int)=1 from h) (by decide))⟩
 refine⟨λxs _ _ m'=>xs=[.bool (decide (k=5\/k=6))]/\m4.le m',Zab (λh=>⟨trivial,trivial,?_,Mem.le_refl _⟩) (λh=>⟨trivial,trivial,?_,Mem.le_refl _⟩),?_⟩
 ·have:k=5:=by simp at h;omega
  rw[h,this];rfl
 ·have:¬k=5:=by simp at h;omega
  refine Zae ?_
  rw[Bool.eq_iff_iff];simp;omega
 rintro b4 m5 dX ⟨qw,_⟩
 obtain rfl:b4=decide (k=5\/k=6):=by simpa using qw
 have iZ:=mLt jG dX
 refine Zau (λvu=>?_) (λvu=>?_)
 ·refine Zau (λhp=>?_) (λhp=>⟨trivial,stay m5 iZ⟩)
  obtain⟨C,lQ,rS,hC⟩:∃C:Nat,(C:Int)<=c/\C<=9/\IntKind.i64.wrap ((if(9:Int) < c then(9:Int)else c)+1)=((C+1:Nat):Int):=by
   by_cases h9:9 < c
   ·exact⟨9,by omega,by omega,by rw[if_pos h9];rfl⟩
   ·refine⟨c.toNat,by omega,by omega,?_⟩
    rw[if_neg h9,Zal (by omega) (by omega)];omega
  have ls:Int.tmod (u:Int) ((C+1:Nat):Int)=((u % (C+1):Nat):Int):=rfl
  have bB:u % (C+1) < C+1:=Nat.mod_lt _ (by omega)
  simp only[hC,ls]
  refine⟨by omega,λb6 gY=>?_⟩
  refine Zgg Pt.len Pt.one gY (⟨3,.empty,((u % (C+1):Nat):Int),E0⟩:Pt) (bF.mono iZ) 96 (by omega) (by omega) (.inl trivial) λa8 c8 m8 ge f6=>⟨trivial,TmI.next bQ gy (mLt hm iZ) (mLt (Mem.le_add gY _) ge) f6 (λx hx=>(bV x hx).mono iZ) (ZhN (by omega) (by rw[ZaM];omega) ⟨by omega,by omega⟩) gD (.cap _ (by omega)) gx (λh=>absurd (show(3:Int)=1 from h) (by decide))⟩
 ·intro b6 gY
  have py:=Mem.le_add gY (⟨4,.empty,0,e⟩:Pt).cs
  refine Zgg Pt.len Pt.one gY (⟨4,.empty,0,e⟩:Pt) (bF.mono iZ) 96 (by omega) (by omega) (.inl trivial) λa8 c8 m8 ge f6=>⟨trivial,TmI.next bQ gy (mLt hm iZ) (mLt py ge) f6 (λx hx=>(bV x hx).mono iZ) ⟨by show(0:Int)<=4/\(4:Int) < 256;omega,by show ByteArray.empty.size<=_;rw[ZaM];omega,⟨by show(-9223372036854775808:Int)<=0;omega,by show(0:Int)<=9223372036854775807;omega⟩,hr.mono' (mLt qB (mLt iZ (mLt py ge)))⟩ gD (.clc e he) gx (λh=>absurd (show(4:Int)=1 from h) (by decide))⟩
end Go.Proofs.YtojlhhphofhaoaaGreatDoor