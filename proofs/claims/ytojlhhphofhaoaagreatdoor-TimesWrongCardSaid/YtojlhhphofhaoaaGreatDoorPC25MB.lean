/- Part of the proof: functions of the program. No condition. -/
import Derived.Test.YtojlhhphofhaoaaGreatDoorPVEM
import Derived.Test.YtojlhhphofhaoaaGreatDoorPC25P
import Derived.Test.YtojlhhphofhaoaaGreatDoorMr
import Derived.Test.YtojlhhphofhaoaaGreatDoorPVEN
set_option linter.unusedVariables false
set_option linter.unusedSimpArgs false
set_option linter.unusedSectionVars false
namespace Go.Proofs.YtojlhhphofhaoaaGreatDoor
open Go Go.Eng Go.Rx Go.Proofs Go.RowKit
set_option maxRecDepth 100000
theorem Zu8{α:Type}{cs:α->List Value}{m:Mem}{a:Option Addr}{ts r:List α}(h:rowRd m a ((ts++r).map cs).flatten):rowRd m a (ts.map cs).flatten:=by
 rw[List.map_append,List.flatten_append]at h
 rcases h with h|⟨b,o,ha,h⟩
 ·exact .inl (List.append_eq_nil_iff.1 h).1
 ·refine .inr ⟨b,o,ha,λj v hj=>h j v ?_⟩
  rw[List.getElem?_append_left (List.getElem?_eq_some_iff.1 hj).1];exact hj
theorem Zk3{α:Type}{cs:α->List Value}{ts:List α}{t:α}:((ts++[t]).map cs).flatten=(ts.map cs).flatten++cs t:=by simp
theorem Zu9{α:Type}{cs:α->List Value}{n:Nat}(hn:∀x,(cs x).length=n){m:Mem}{b:Nat}{ts:List α}{x t:α}(h:rowRd m (some ⟨b,0,none⟩) ((ts++[x]).map cs).flatten)(h0:0 < n):rowRd (m.upd b (0+ts.length*n) (cs t)) (some ⟨b,0,none⟩) ((ts++[t]).map cs).flatten:=by
 have hl:=Zdr hn ts
 refine .inr ⟨b,0,rfl,λj v hj=>?_⟩
 rw[Zk3]at hj h
 rcases Nat.lt_or_ge j (ts.length*n)with bB|dB
 ·rw[List.getElem?_append_left (by omega)]at hj
  unfold Mem.upd;try dsimp only
  rw[if_neg (by omega)]
  rcases h with h|⟨b',o',ha,h⟩
  ·have:=congrArg List.length h
   rw[List.length_append,hl,hn]at this
   simp at this;omega
  ·cases ha
   refine h j v ?_
   rw[List.getElem?_append_left (by omega)];exact hj
 ·rw[List.getElem?_append_right (by omega),hl]at hj
  have h8:=(List.getElem?_eq_some_iff.1 hj).1
  have h9:=hn t
  unfold Mem.upd;try dsimp only
  rw[if_pos ⟨rfl,by omega,by omega⟩,show 0+j - (0+ts.length*n)=j - ts.length*n by omega]
  exact hj
theorem Apart.rbase{α:Type}{cs:α->List Value}{n:Nat}(hn:∀x,(cs x).length=n)(h0:0 < n){mb m:Mem}{a:Option Addr}{ts:List α}(h:Apart mb a)(bF:rowRd m a (ts.map cs).flatten)(dU:ts≠[]):∃b,a=some ⟨b,0,none⟩/\mb.free b/\∃o u,m b o=some u:=by
 obtain⟨t,r,rfl⟩:∃t r,ts=t::r:=by cases ts with
  | nil=>exact absurd rfl dU
  | cons t r=>exact⟨t,r,rfl⟩
 obtain⟨b',o,ha,eA⟩:=Zam hn bF (k:=0) (t:=t) rfl h0
 rcases h with h|⟨b,hb,hf⟩
 ·rw[h]at ha;cases ha
 ·rw[hb]at ha;cases ha
  have:0 < (cs t).length:=by rw[hn];exact h0
  exact⟨b',hb,hf,_,_,eA 0 _ (List.getElem?_eq_getElem this)⟩
theorem ZxS{α:Type}{ts:List α}(h:1 < ts.length):∃r x y,ts=r++[x,y]:=by
 have h1:ts.length - 2 < ts.length:=by omega
 refine⟨ts.take (ts.length - 2),ts[ts.length - 2],ts[ts.length - 1],?_⟩
 have e:=(List.take_append_drop (ts.length - 2) ts).symm
 rw[List.drop_eq_getElem_cons h1,List.drop_eq_getElem_cons (by omega),List.drop_eq_nil_of_le (by omega)]at e
 simpa[show ts.length - 2+1=ts.length - 1 by omega]using e
theorem ZxT{α:Type}{ts:List α}(h:0 < ts.length):∃r x,ts=r++[x]:=by
 refine⟨ts.dropLast,ts.getLast (by intro e;subst e;simp at h),?_⟩
 exact(List.dropLast_concat_getLast _).symm
theorem ZbM{m:Mem}{b:Nat}{cs:List Value}:rowRd (m.add b cs) (some ⟨b,0,none⟩) cs:=.inr ⟨b,0,rfl,λj v hj=>by rw[Nat.zero_add,Mem.add_same];exact hj⟩
theorem Zk4{α:Type}{cs:α->List Value}{n:Nat}(hn:∀x,(cs x).length=n)(h1:∀x,∀u∈cs x,u.oneCell'=true){m3:Mem}{b3:Nat}(hf:m3.free b3){a:Option Addr}{ts:List α}(t:α)(bF:rowRd m3 a (ts.map cs).flatten)(sz:Nat)(cE:(ts.length+1)*sz<=140737488355328)(hl:ts.length<=1000000){P Q:Prop}(hp:P\/Q){K:Option Addr->Nat->Mem->Prop}
  (k:∀(a':Option Addr)(c':Nat)(m4:Mem),(m3.add b3 (cs t)).le m4->rowRd m4 a' ((ts++[t]).map cs).flatten->TokFact (m3.add b3 (cs t)) a a' (ts.length+1) c'->K a' c' m4):
  (P\/Q)/\∃xs ys:List Value,xs.length=ts.length*n/\ys.length=1*n/\rowRd (m3.add b3 (cs t)) a xs/\rowRd (m3.add b3 (cs t)) (some ⟨b3,0,none⟩) ys/\(∀u:Value,u∈ys->u.oneCell'=true)/\(ts.length+1)*sz<=140737488355328/\ts.length+1<=9223372036854775807/\
   ∀(a':Option Addr)(c':Nat)(m4:Mem),(m3.add b3 (cs t)).le m4->rowRd m4 a' (List.append xs ys)->TokFact (m3.add b3 (cs t)) a a' (ts.length+1) c'->K a' c' m4:=
 ⟨hp,(ts.map cs).flatten,cs t,Zdr hn ts,by rw[hn,Nat.one_mul],bF.mono (Mem.le_add hf _),ZbM,h1 t,cE,by omega,λa' c' m4 hm hr ht=>k a' c' m4 hm (by rw[Zk3];exact hr) ht⟩
theorem ZhD{α:Type}{cs:α->List Value}{n:Nat}(hn:∀x,(cs x).length=n)(h1:∀x,∀u∈cs x,u.oneCell'=true){m3:Mem}{b3:Nat}(hf:m3.free b3){a:Option Addr}{ts:List α}(t:α)(bF:rowRd m3 a (ts.map cs).flatten)(sz:Nat)(cE:(ts.length+1)*sz<=140737488355328)(hl:ts.length<=1000000){P Q:Prop}(hp:P\/Q){K:Option Addr->Nat->Mem->Prop}
  (k:∀(a':Option Addr)(c':Nat)(m4:Mem),(m3.add b3 (cs t)).le m4->rowRd m4 a' ((ts++[t]).map cs).flatten->K a' c' m4):
  (P\/Q)/\∃xs ys:List Value,xs.length=ts.length*n/\ys.length=1*n/\rowRd (m3.add b3 (cs t)) a xs/\rowRd (m3.add b3 (cs t)) (some ⟨b3,0,none⟩) ys/\(∀u:Value,u∈ys->u.oneCell'=true)/\(ts.length+1)*sz<=140737488355328/\ts.length+1<=9223372036854775807/\
   ∀(a':Option Addr)(c':Nat)(m4:Mem),(m3.add b3 (cs t)).le m4->rowRd m4 a' (List.append xs ys)->K a' c' m4:=
 ⟨hp,(ts.map cs).flatten,cs t,Zdr hn ts,by rw[hn,Nat.one_mul],bF.mono (Mem.le_add hf _),ZbM,h1 t,cE,by omega,λa' c' m4 hm hr=>k a' c' m4 hm (by rw[Zk3];exact hr)⟩
def ER(φ:E->Prop):Value->Mem->List (List Value)->Prop:=λv m' _=>∃e:E,v=e.v/\RepE m' e/\φ e
theorem ZhE{φ:E->Prop}:∀(v:Value)(m':Mem) (css:List (List Value)),ER φ v m' css->Shape.fits (.agg [.int .u8,.any,.str,.int .i64,.slice]) v=true:=λv _ _ ⟨e,h,_⟩=>by rw[h];rfl
abbrev EK:=Int->Value->ByteArray->Int->Option Addr->Nat->Nat->Mem->Prop
theorem ZwF{e:E}{n:Int}{v:Value}{s:ByteArray}{g:Int}{a:Option Addr}{k c:Nat}(h:Value.agg #[.int .u8 n,v,.string s,.int .i64 g,.slice a k c]=e.v):n=e.k/\v=.float .f64 e.x/\s=e.s/\g=e.g/\a=e.a/\k=e.subs.length/\c=e.c:=by
 simpa[E.v]using h
theorem ZxU{φ:E->Prop}{m:Mem}{K:EK}(k:∀(e:E)(m':Mem),m.le m'->RepE m' e->φ e->K e.k (.float .f64 e.x) e.s e.g e.a e.subs.length e.c m'):
  ∀(n:Int)(v:Value)(s:ByteArray)(g:Int)(a:Option Addr)(n1 c:Nat)(m':Mem),m.le m'->ER φ (.agg #[.int .u8 n,v,.string s,.int .i64 g,.slice a n1 c]) m' []->K n v s g a n1 c m':=by
 rintro n v s g a n1 c m' hm ⟨e,hv,hr,hp⟩
 obtain⟨rfl,rfl,rfl,rfl,rfl,rfl,rfl⟩:=ZwF hv
 exact k e m' hm hr hp
def EF(mb M0:Mem)(φ:E->Prop):Value->Mem->List (List Value)->Prop:=λv M' css=>∃m0,mb.le m0/\m0.le M'/\(∀b o u,M0 b o=some u->∀o',m0 b o'=mb b o')/\ER φ v m0 css
theorem Zt5{mb M0:Mem}{φ:E->Prop}:∀(v:Value)(m':Mem) (css:List (List Value)),EF mb M0 φ v m' css->Shape.fits (.agg [.int .u8,.any,.str,.int .i64,.slice]) v=true:=λv _ _ ⟨_,_,_,_,e,h,_⟩=>by rw[h];rfl
theorem Zzy{mb M0:Mem}{φ:E->Prop}{m:Mem}{K:EK}(k:∀(e:E)(m0 m':Mem),m.le m'->mb.le m0->m0.le m'->(∀b o u,M0 b o=some u->∀o',m0 b o'=mb b o')->RepE m0 e->φ e->K e.k (.float .f64 e.x) e.s e.g e.a e.subs.length e.c m'):
  ∀(n:Int)(v:Value)(s:ByteArray)(g:Int)(a:Option Addr)(n1 c:Nat)(m':Mem),m.le m'->EF mb M0 φ (.agg #[.int .u8 n,v,.string s,.int .i64 g,.slice a n1 c]) m' []->K n v s g a n1 c m':=by
 rintro n v s g a n1 c m' hm ⟨m0,h1,h2,h3,e,hv,hr,hp⟩
 obtain⟨rfl,rfl,rfl,rfl,rfl,rfl,rfl⟩:=ZwF hv
 exact k e m0 m' hm h1 h2 h3 hr hp
theorem E.one(e:E):∀u∈e.cs,u.oneCell'=true:=by
 intro u hu
 simp only[E.cs,E.sl,List.mem_cons,List.not_mem_nil,or_false]at hu
 rcases hu with rfl|rfl|rfl|rfl|rfl <;> rfl
theorem E.len(e:E):e.cs.length=5:=rfl
theorem Zeq{m:Mem}{k:Int}{x:Nat}{s:ByteArray}{g:Int}(hk:0<=k/\k < 256)(hs:s.size<=1000000000000000)(hg : -9223372036854775808<=g/\g<=9223372036854775807):RepE m (.node k x s g none 0 []):=by
 simp only[RepE]
 exact⟨by simp,.inl trivial,hk,hs,hg⟩
theorem Zk5:∀s∈Zjv,s.size<=16:=by decide +kernel
theorem ZwG(m:Mem):CX Tryz.prog 125 #[] m [] (Ret (.float .f64 Zwh)):=by
 apply Zpd
 exact⟨_,Zrr Zwh,Zac (Mem.le_refl _) rfl⟩
theorem Zt6(x:Nat)(m:Mem):CX Tryz.prog 126 #[.float .f64 x] m [] (ER (λe=>e=Zyq x)):=by
 apply Zm6
 intro b
 exact Zaa rfl (Zaa rfl (ZaS (Mem.le_refl _) ⟨Zyq x,rfl,Zeq (by omega) (by rw[ZaN];omega) (by omega),rfl⟩))
theorem Zva(s:ByteArray)(hs:s.size<=1000000000000000)(m:Mem):CX Tryz.prog 127 #[.string s] m [] (ER (λe=>e=Zxa s)):=by
 apply ZkV
 intro b
 exact ZaS (Mem.le_refl _) ⟨Zxa s,rfl,Zeq (by omega) hs (by omega),rfl⟩
def Zxc(l:List ByteArray):Value->Mem->List (List Value)->Prop:=λv m' _=>∃a c,v=.slice a l.length c/\rowRd m' a (Zft l)
theorem Zdt{l}:∀(v:Value)(m':Mem) (css:List (List Value)),Zxc l v m' css->Shape.fits .slice v=true:=λv _ _ ⟨_,_,e,_⟩=>by rw[e];rfl
theorem Zte(m:Mem):CX Tryz.prog 128 #[] m [] (Zxc Zjv):=by
 apply ZiU
 intro b hf
 exact ZaS (Mem.le_add hf _) ⟨_,_,rfl,ZbM⟩
theorem ZwH(e:E)(m:Mem)(hr:RepE m e):CX Tryz.prog 129 #[e.v] m [] (ER (λu=>∃a d,u=Zxb a d e)):=by
 apply Zm8
 intro b m1 aV hb b2 b3 hf
 have cJ:=Mem.le_add hf e.cs
 refine ZaS (mLt aV cJ) ⟨Zxb (some ⟨b3,0,none⟩) 1 e,rfl,?_,_,_,rfl⟩
 simp only[Zxb,RepE]
 refine⟨by simp,.inr ⟨b3,0,rfl,?_⟩,by omega,by rw[ZaN];omega,by omega⟩
 simp only[RepEAt]
 exact⟨λi v hv=>by rw[Nat.zero_add,Mem.add_same];exact hv,hr.mono' (mLt aV cJ),trivial⟩
theorem ZwI(k:Int)(x y:E)(hk:0<=k/\k < 256)(m:Mem)(hx:RepE m x)(hy:RepE m y):CX Tryz.prog 130 #[.int .u8 k,x.v,y.v] m [] (ER (λu=>∃a d,u=opE k a d x y)):=by
 apply Zpg
 intro b m1 aV _ b1 m2 bA _ b2 b3 hf
 have cJ:=Mem.le_add hf (x.cs++y.cs)
 have eI:=mLt aV bA
 refine ZaS (mLt eI cJ) ⟨opE k (some ⟨b3,0,none⟩) 2 x y,rfl,?_,_,_,rfl⟩
 simp only[opE,RepE]
 refine⟨by simp,.inr ⟨b3,0,rfl,?_⟩,hk,by rw[ZaN];omega,by omega⟩
 simp only[RepEAt]
 refine⟨λi v hv=>?_,hx.mono' (mLt eI cJ),λi v hv=>?_,hy.mono' (mLt eI cJ),trivial⟩
 ·rw[Nat.zero_add]
  exact(Mem.add_same ..).trans (by show(x.cs++y.cs)[i]?=some v;rw[List.getElem?_append_left (List.getElem?_eq_some_iff.1 hv).1];exact hv)
 ·rw[show 0+5+i=5+i by omega]
  exact(Mem.add_same ..).trans (by show(x.cs++y.cs)[5+i]?=some v;rw[List.getElem?_append_right (by rw[E.len];omega),E.len,Nat.add_sub_cancel_left];exact hv)
theorem Zt7(T:TypeId){x y r:Nat}(h:FloatKind.f64.format.div x y=some r):BinIs Tryz.prog .quo T (.float .f64 x) (.float .f64 y) (.float .f64 r):=λox oy w=>by
 simp[eqGuard,binOp,Op.floatArith,h]
theorem Zy5(n:Int):ConvIs Tryz.prog 205 87 (.int .i8 n) (.float .f64 (FloatKind.f64.nearest n)):=λw=>by
 simp[convert,Tryz.underlying205,Tryz.underlying87,Conv.intToFloat]
theorem ZxV:∀n:Fin 256,(FloatKind.f64.format.div (FloatKind.f64.nearest (IntKind.i8.wrap (n:Nat))) 4616189618054758400).isSome=true:=by decide +kernel
structure SmE (m:Mem)(a:Option Addr)(l:List (Nat×Nat×Nat)):Prop where
 len:l.length<=9223372036854775807
 byte:∀s∈l,s.1 < 256/\s.2.1 < 256/\s.2.2 < 18446744073709551616
 at':∀i s,l[i]?=some s->∃b o,a=some ⟨b,o,none⟩/\m.reads b (o+i*3) [.int .u8 s.1,.int .u8 s.2.1,.int .u64 s.2.2]
theorem SmE.mono{m m':Mem}{a l}(h:SmE m a l)(hm:m.le m'):SmE m' a l:=
 ⟨h.len,h.byte,λi s hi=>by obtain⟨b,o,h1,h2⟩:=h.at' i s hi;exact⟨b,o,h1,h2.mono hm⟩⟩
theorem Ztf:Zfd Zwh=true:=by decide +kernel
set_option maxHeartbeats 2000000 in
theorem Zvb(l:List (Nat×Nat×Nat))(a:Option Addr)(c:Nat)(m:Mem)(hl:SmE m a l)(hc:l.length<=c):CX Tryz.prog 105 #[.slice a l.length c] m [] (ER (MkE 9 (2*l.length+1))):=by
 apply ZkX
 have bT:=hl.len
 intro b
 have hN:(if(60:Int) < (l.length:Int)then(60:Int)else(l.length:Int))=((min 60 l.length:Nat):Int):=by split <;> omega
 simp only[hN,Int.toNat_natCast,Nat.sub_zero]
 generalize qw:min 60 l.length=N
 refine⟨⟨by omega,by omega⟩,λxs css tvs m' q=>∃(i:Nat)(ts:List E)(a:Option Addr)(c:Nat)(mb:Mem),i<=N/\xs=[.slice a ts.length c,.int .i64 i]/\tvs=[.slice a ts.length c]/\ts.length<=c/\m.le mb/\mb.le m'/\Apart mb a/\rowRd m' a (ts.map E.cs).flatten/\(∀t∈ts,RepE mb t)/\PE ts i/\q=N - i,⟨N,0,[],none,0,m,by omega,rfl,rfl,by simp,Mem.le_refl _,Mem.le_refl _,.inl rfl,.inl rfl,by simp,PE.zero,by omega⟩,?_⟩
 rintro a1 n1 c1 z1 a2 n2 c2 m1 q _ ⟨i,ts,a',c',mb,hi,eZ,ft,dW,gz,dT,dE,bF,bV,hP,hq⟩
 simp only[List.cons.injEq,Value.slice.injEq,Value.int.injEq,true_and,and_true]at eZ ft
 obtain⟨⟨rfl,rfl,rfl⟩,rfl⟩:=eZ
 obtain⟨rfl,rfl,rfl⟩:=ft
 have gT:ts.length<=60:=by have:=hP.sz;have:=Zf3 ts;omega
 refine Zab (λbB=>?_) (λdB=>?_)
 ·have qx:i < N:=by have:=of_decide_eq_true bB;omega
  obtain⟨s,hs⟩:=Zbc (l:=l) (k:=i) (by omega)
  obtain⟨bs,os,ha,eA⟩:=(hl.mono (mLt gz dT)).at' i s hs
  obtain⟨s1,s2,s3⟩:=s
  obtain⟨pk,iY,mL⟩:=hl.byte _ (List.mem_of_getElem? hs)
  have hw:IntKind.i64.wrap ((i:Int)+1)=((i+1:Nat):Int):=by rw[Zal (by omega) (by omega)];rfl
  have na:Int.tmod (s1:Int) 12=((s1 % 12:Nat):Int):=rfl
  simp only[hw,Int.toNat_natCast]
  refine⟨bs,os,ha,⟨by omega,by omega⟩,_,_,_,eA,λb2=>Zaa rfl ⟨_,rfl,by omega,?_⟩⟩
  simp only[na]
  refine Zaw (λh1=>?_) (λh1=>Zaw (λh2=>?_) (λh2=>Zab (λh3=>?_) (λh3=>?_)))
  ·have hd:=ZxV ⟨s2,iY⟩
   obtain⟨r,hr⟩:=Option.isSome_iff_exists.1 hd
   have hr:FloatKind.f64.format.div (FloatKind.f64.nearest (IntKind.i8.wrap (s2:Nat))) 4616189618054758400=some r:=hr
   refine⟨_,rfl,_,Zy5 _,_,Zt7 _ hr,λxs _ _ m'=>(∃x,xs=[.float .f64 x])/\m1.le m',⟨_,rfl,Zab (λ_=>⟨_,rfl,_,Zrr s3,trivial,trivial,⟨_,rfl⟩,Mem.le_refl _⟩) (λ_=>⟨trivial,trivial,⟨_,rfl⟩,Mem.le_refl _⟩)⟩,?_⟩
   rintro v m2 _ ⟨⟨x,hx⟩,bA⟩
   obtain rfl:v=.float .f64 x:=by simpa using hx
   refine⟨λxs _ _ m'=>(∃y,xs=[.float .f64 y]/\Zfd y=true)/\m1.le m',⟨_,Zwu _ x x,Zab (λh=>?_) (λh=>⟨trivial,trivial,⟨x,rfl,?_⟩,bA⟩)⟩,?_⟩
   ·refine⟨_,trivial,ZwG m2,λ_ _ _ _=>trivial,?_⟩
    intro u m3 bR hu
    exact⟨trivial,trivial,⟨Zwh,by rw[show u=_ from hu],Ztf⟩,mLt bA bR⟩
   ·unfold Zfd
    rw[show Op.floatEq .f64 x x=true by simpa using h];rfl
   rintro v m3 _ ⟨⟨y,hy,fO⟩,bR⟩
   obtain rfl:v=.float .f64 y:=by simpa using hy
   refine Zai (Zt6 y m3) ZhE (ZxU λt m4 cO hr ht b3 iT=>?_)
   subst ht
   have jL:=mLt bR cO
   have fx:=Mem.le_add iT (Zyq y).cs
   refine Zk4 E.len E.one iT (Zyq y) (bF.mono jL) 64 (by omega) (by omega) (.inl trivial) λa5 c5 m5 dY eF bX=>⟨trivial,N - (i+1),by omega,i+1,ts++[Zyq y],a5,c5,mb,by omega,by rw[List.length_append];rfl,by rw[List.length_append];rfl,by rw[List.length_append];exact bX.1,gz,mLt dT (mLt jL (mLt fx dY)),dE.tok (mLt dT (mLt jL fx)) bX,eF,?_,hP.push (ZtT fO),by omega⟩
   intro z hz
   rcases List.mem_append.1 hz with hz|hz
   ·exact bV z hz
   ·rw[List.mem_singleton]at hz;subst hz;exact Zeq (by omega) (by rw[ZaN];omega) (by omega)
  ·refine⟨λ_ vs _=>match vs with
    | [.string s]=>ER (λe=>e=Zxa s)
    | _=>Zxc Zjv,_,rfl,Zte m1,Zdt,?_⟩
   rintro a3 n3 c3 m2 bA ⟨a3',c3',hv,gi⟩
   simp only[Value.slice.injEq]at hv
   obtain⟨rfl,rfl,rfl⟩:=hv
   obtain⟨nm,tL⟩:=Zbc (l:=Zjv) (k:=s2 % 4) (Nat.mod_lt _ (by omega))
   have pm:=List.mem_of_getElem? tL
   have cE:nm.size<=1000000000000000:=Nat.le_trans (Zk5 nm pm) (by omega)
   obtain⟨b3,o3,f5,sf⟩:=ZcC gi tL
   have tM:Int.tmod (s2:Int) 4=((s2 % 4:Nat):Int):=rfl
   have h4:s2 % 4 < 4:=Nat.mod_lt _ (by omega)
   refine⟨_,rfl,by omega,b3,o3,f5,by rw[tM];exact⟨by omega,by show((s2 % 4:Nat):Int) < (4:Nat);omega⟩,_,by rw[tM,Int.toNat_natCast];exact sf,nm,rfl,_,rfl,Zva nm cE m2,ZhE,ZxU λt m3 bR hr ht b4 pn=>?_⟩
   subst ht
   have jL:=mLt bA bR
   have fx:=Mem.le_add pn (Zxa nm).cs
   refine Zk4 E.len E.one pn (Zxa nm) (bF.mono jL) 64 (by omega) (by omega) (.inl trivial) λa5 c5 m5 dY eF bX M _ _ _ _ hM=>⟨trivial,N - (i+1),by omega,i+1,ts++[Zxa nm],a5,c5,mb,by omega,by rw[List.length_append];rfl,by rw[List.length_append];rfl,by rw[List.length_append];exact bX.1,gz,mLt dT (mLt jL (mLt fx (mLt dY hM))),dE.tok (mLt dT (mLt jL fx)) bX,eF.mono hM,?_,hP.push (ZtV pm),by omega⟩
   intro z hz
   rcases List.mem_append.1 hz with hz|hz
   ·exact bV z hz
   ·rw[List.mem_singleton]at hz;subst hz;exact Zeq (by omega) cE (by omega)
  ·refine⟨_,rfl,by omega,λb3 iT=>?_⟩
   have sg:Int.tmod (s2:Int) 10=((s2 % 10:Nat):Int):=rfl
   have iD:s2 % 10 < 10:=Nat.mod_lt _ (by omega)
   have vp:IntKind.i64.wrap (Int.tmod (s2:Int) 10)=((s2 % 10:Nat):Int):=by rw[sg,Zal (by omega) (by omega)]
   simp only[vp]
   have fx:=Mem.le_add iT (Zy0 ((s2 % 10:Nat):Int)).cs
   refine Zk4 E.len E.one iT (Zy0 ((s2 % 10:Nat):Int)) bF 64 (by omega) (by omega) (.inl trivial) λa5 c5 m5 dY eF bX=>⟨trivial,N - (i+1),by omega,i+1,ts++[Zy0 ((s2 % 10:Nat):Int)],a5,c5,mb,by omega,by rw[List.length_append];rfl,by rw[List.length_append];rfl,by rw[List.length_append];exact bX.1,gz,mLt dT (mLt fx dY),dE.tok (mLt dT fx) bX,eF,?_,hP.push (Zwk (by omega) (by omega)),by omega⟩
   intro z hz
   rcases List.mem_append.1 hz with hz|hz
   ·exact bV z hz
   ·rw[List.mem_singleton]at hz;subst hz;exact Zeq (by omega) (by rw[ZaN];omega) (by omega)
  ·refine⟨decide (s1 % 12=5)&&decide (0 < ts.length),Zab (λh=>⟨trivial,trivial,Zae ?_⟩) (λh=>⟨trivial,trivial,Zae ?_⟩),Zab (λhb=>?_) (λhb=>?_)⟩
   ·have:s1 % 12=5:=by have:=h;simp at this;omega
    rw[this,Bool.eq_iff_iff];simp
   ·have:¬s1 % 12=5:=by have:=h;simp at this;omega
    rw[decide_eq_false this];rfl
   ·have gq:0 < ts.length:=by rw[Bool.and_eq_true,decide_eq_true_iff,decide_eq_true_iff]at hb;exact hb.2
    obtain⟨r,x,rfl⟩:=ZxT gq
    have gn:(r++[x]).length=r.length+1:=by simp
    have iK:IntKind.i64.wrap (((r++[x]).length:Int) - 1)=(r.length:Int):=by rw[gn,Zal (by omega) (by omega)];omega
    obtain⟨bb,je,jc,o',u',hu'⟩:=dE.rbase E.len (by omega) bF (by simp)
    subst je
    obtain⟨bx,ox,jf,iG⟩:=Zam E.len bF (k:=r.length) (t:=x) (by simp) (by omega)
    cases jf
    simp only[iK,Int.toNat_natCast]
    refine⟨_,_,rfl,⟨by omega,by omega⟩,_,iG 0 _ rfl,_,rfl,Zab (λh8=>?_) (λh8=>⟨trivial,N - (i+1),by omega,i+1,r++[x],_,_,mb,by omega,rfl,rfl,dW,gz,dT,dE,bF,bV,hP.skip,by omega⟩)⟩
    have si:x.k≠8:=by simpa using h8
    refine⟨_,_,rfl,⟨by omega,by omega⟩,_,_,_,_,_,iG,Zai ((ZwH x mb (bV x (by simp))).frame2 dT) (Zt5 (mb:=mb) (M0:=m1)) (Zzy λt m0 m3 bR h0 iH dA gp ht=>?_)⟩
    obtain⟨at',ct,rfl⟩:=ht
    have fL:m0.free bb:=λo=>by rw[dA bb o' u' hu' o];exact jc o
    refine⟨bb,0,rfl,⟨by omega,by omega⟩,Zaa rfl ⟨rfl,by omega,trivial,N - (i+1),by omega,i+1,r++[Zxb at' ct x],_,_,m0,by omega,?_,?_,by rw[List.length_append];rw[gn]at dW;exact dW,mLt gz h0,Mem.le_upd iH fL _ _,.inr ⟨bb,rfl,fL⟩,Zu9 E.len (bF.mono bR) (by omega),?_,hP.neg si _ _,by omega⟩⟩
    ·rw[gn,List.length_append];rfl
    ·rw[gn,List.length_append];rfl
    ·intro z hz
     rcases List.mem_append.1 hz with hz|hz
     ·exact(bV z (by simp[hz])).mono' h0
     ·rw[List.mem_singleton]at hz;subst hz;exact gp
   ·refine⟨decide (5 < s1 % 12)&&decide (1 < ts.length),Zaw (λh=>⟨trivial,trivial,Zae ?_⟩) (λh=>⟨trivial,trivial,Zae ?_⟩),Zab (λfD=>?_) (λfD=>⟨trivial,N - (i+1),by omega,i+1,ts,_,_,mb,by omega,rfl,rfl,dW,gz,dT,dE,bF,bV,hP.skip,by omega⟩)⟩
    ·rw[decide_eq_true (show 5 < s1 % 12 by omega),Bool.true_and,decide_eq_decide];omega
    ·rw[decide_eq_false (show ¬5 < s1 % 12 by omega)];rfl
    obtain⟨h5,vq⟩:5 < s1 % 12/\1 < ts.length:=by rw[Bool.and_eq_true,decide_eq_true_iff,decide_eq_true_iff]at fD;exact fD
    have vr:s1 % 12 < 12:=Nat.mod_lt _ (by omega)
    obtain⟨r,x,y,rfl⟩:=ZxS vq
    have gn:(r++[x,y]).length=r.length+2:=by simp
    have gR:IntKind.i64.wrap (((r++[x,y]).length:Int) - 2)=(r.length:Int):=by rw[gn,Zal (by omega) (by omega)];omega
    have iK:IntKind.i64.wrap (((r++[x,y]).length:Int) - 1)=((r.length+1:Nat):Int):=by rw[gn,Zal (by omega) (by omega)];omega
    have hk:IntKind.u8.wrap (((s1 % 12:Nat):Int) - 4)=((s1 % 12 - 4:Nat):Int):=by
     generalize s1 % 12=k at h5 vr
     have:k=6\/k=7\/k=8\/k=9\/k=10\/k=11:=by omega
     rcases this with rfl|rfl|rfl|rfl|rfl|rfl <;> rfl
    have gv:2<=((s1 % 12 - 4:Nat):Int)/\((s1 % 12 - 4:Nat):Int)<=7:=by omega
    generalize ((s1 % 12 - 4:Nat):Int)=kk at hk gv
    simp only[gR,iK,hk,Int.toNat_natCast,Nat.sub_zero]
    obtain⟨bb,je,jc,o',u',hu'⟩:=dE.rbase E.len (by omega) bF (by simp)
    obtain⟨bx,ox,jf,iG⟩:=Zam E.len bF (k:=r.length) (t:=x) (by simp) (by omega)
    obtain⟨by',oy,po,pq⟩:=Zam E.len bF (k:=r.length+1) (t:=y) (by simp) (by omega)
    refine⟨λ_ _ _=>EF mb m1 (λe=>∃a d,e=opE kk a d x y),⟨by omega,by omega⟩,⟨by omega,by omega⟩,bx,ox,jf,⟨by omega,by omega⟩,_,_,_,_,_,iG,by',oy,po,⟨by omega,by omega⟩,_,_,_,_,_,pq,_,rfl,(ZwI kk x y (by omega) mb (bV x (by simp)) (bV y (by simp))).frame2 dT,Zt5,Zzy λt m0 m3 bR h0 iH dA gp ht b6 iv=>?_⟩
    obtain⟨at',ct,rfl⟩:=ht
    have gO:=Mem.le_add iv (opE kk at' ct x y).cs
    have fL:Apart m0 _:=.inr ⟨bb,je,λo=>by rw[dA bb o' u' hu' o];exact jc o⟩
    refine Zk4 E.len E.one iv (opE kk at' ct x y) ((Zu8 bF).mono bR) 64 (by omega) (by omega) (.inr (.inr (by omega))) λa4 c4 m4 cO eB bX M _ io _ jE=>⟨trivial,N - (i+1),by omega,i+1,r++[opE kk at' ct x y],a4,c4,m0,by omega,?_,?_,by have:=bX.1;rw[List.length_append];exact this,mLt gz h0,mLt iH io,fL.tok (mLt iH gO) bX,eB.mono jE,?_,hP.op gv _ _,by omega⟩
    ·rw[List.length_append];rfl
    ·rw[List.length_append];rfl
    ·intro z hz
     rcases List.mem_append.1 hz with hz|hz
     ·exact(bV z (by simp[hz])).mono' h0
     ·rw[List.mem_singleton]at hz;subst hz;exact gp
 ·have qx:i=N:=by have:=of_decide_eq_false dB;omega
  have aV:=mLt gz dT
  refine Zab (λh0=>?_) (λh0=>?_)
  ·refine Zai (Zt6 _ m1) ZhE (ZxU λt m2 bA hr ht=>Zaa rfl (ZaS (mLt aV bA) ⟨t,rfl,hr,?_⟩))
   rw[ht];exact(ZtT (by decide +kernel)).mono (by omega)
  ·obtain⟨t0,rest,rfl⟩:∃t r,ts=t::r:=by cases ts with
    | nil=>simp at h0
    | cons t r=>exact⟨t,r,rfl⟩
   have hF:=QE.start hP
   obtain⟨bb,je,jc,o',u',hu'⟩:=dE.rbase E.len (by omega) bF (by simp)
   subst je
   obtain⟨bx,ox,jf,iG⟩:=Zam E.len bF (k:=0) (t:=t0) rfl (by omega)
   cases jf
   rw[List.length_cons]at gT dW
   refine⟨_,_,rfl,⟨by omega,by simp⟩,_,_,_,_,_,iG,λb2=>Zaa rfl ⟨⟨by omega,by rw[List.length_cons];omega⟩,?_⟩⟩
   refine⟨λxs css tvs m' q=>∃(k:Nat)(t:E),k<=rest.length/\xs=[.int .i64 k]/\css=[t.cs]/\m1.le m'/\RepE m' t/\QE t (rest.drop k) (2*i)/\q=rest.length - k,⟨rest.length,0,t0,by omega,rfl,rfl,Mem.le_refl _,(bV t0 (by simp)).mono' dT,hF,by omega⟩,?_⟩
   rintro z cs m2 q2 _ ⟨k,t,hk,hz,dM,bA,gp,kT,nq⟩
   obtain rfl:z=k:=by simpa using hz
   obtain rfl:cs=t.cs:=by simpa using dM
   have jC:((t0::rest).length - Int.toNat 1)=rest.length:=by simp
   simp only[jC]
   refine Zab (λbB=>?_) (λfM=>Zaa rfl (ZaS (mLt aV bA) ⟨t,rfl,gp,?_⟩))
   ·have bQ:k < rest.length:=by have:=of_decide_eq_true bB;omega
    obtain⟨x,hx⟩:=Zbc bQ
    obtain⟨b3,o3,f5,mG⟩:=Zam E.len (bF.mono bA) (k:=k+1) (t:=x) (by simpa using hx) (by omega)
    cases f5
    have iL:IntKind.i64.wrap ((k:Int)+1)=((k+1:Nat):Int):=by rw[Zal (by omega) (by omega)];rfl
    simp only[iL,Int.toNat_natCast]
    rw[Zon hx]at kT
    have iJ:ZaU (some (⟨bb,0,none⟩:Addr)) (Int.toNat 1) c2 5=some ⟨bb,0+5,none⟩:=by
     unfold ZaU
     have:Nat.beq c2 1=false:=by
      cases hb:Nat.beq c2 1 with
      | false=>rfl
      | true=>have:=Nat.eq_of_beq_eq_true hb;omega
     show(bif Nat.beq c2 1 then _ else some (Addr.add _ (1*5)))=_
     rw[this,ZbK];rfl
    refine⟨_,_,iJ,⟨by omega,by omega⟩,_,_,_,_,_,by rw[show 0+5+k*5=0+(k+1)*5 by omega];exact mG,λb4=>Zaa rfl (Zai (ZwI 2 t x (by omega) m2 gp ((bV x (by simp[List.mem_of_getElem? hx])).mono' (mLt dT bA))) ZhE (ZxU λt' m3 bR hr' ht'=>Zaa rfl ⟨trivial,trivial,rest.length - (k+1),by omega,k+1,t',by omega,rfl,rfl,mLt bA bR,hr',?_,by omega⟩))⟩
    obtain⟨a3,c3,rfl⟩:=ht'
    exact kT.step _ _
   ·have:k=rest.length:=by have:=of_decide_eq_false fM;omega
    rw[this,List.drop_length]at kT
    exact kT.done.mono (by omega)
theorem Zh4(m:Mem):CX Tryz.prog 32 #[] m [] (Zxc Zjv):=by
 apply Zgr
 intro b hf
 exact ZaS (Mem.le_add hf _) ⟨_,_,rfl,ZbM⟩
theorem Znv(m:Mem):CX Tryz.prog 33 #[] m [] (Zxc Ze0):=by
 apply ZiP
 intro b hf
 exact ZaS (Mem.le_add hf _) ⟨_,_,rfl,ZbM⟩
theorem Zpi(m:Mem):CX Tryz.prog 34 #[] m [] (Zxc ZvH):=by
 apply ZiQ
 intro b hf
 exact ZaS (Mem.le_add hf _) ⟨_,_,rfl,ZbM⟩
theorem Zl0{m:Mem}{b:Nat}:∀{L:List E} {o:Nat},m.reads b o (L.map E.cs).flatten->(∀z∈L,RepE m z)->RepEAt m b o L
 | [],o,_,_=>by simp only[RepEAt]
 | z::L,o,h,hz=>by
  rw[List.map_cons,List.flatten_cons]at h
  simp only[RepEAt]
  refine⟨λi v hi=>h i v (by rw[List.getElem?_append_left (List.getElem?_eq_some_iff.1 hi).1];exact hi),hz z (by simp),Zl0 (λi v hi=>?_) (λy hy=>hz y (by simp[hy]))⟩
  rw[Nat.add_assoc]
  refine h (5+i) v ?_
  rw[List.getElem?_append_right (by rw[E.len];omega),E.len,Nat.add_sub_cancel_left];exact hi
theorem Zvc{m:Mem}{k:Int}{x:Nat}{s:ByteArray}{g:Int}{a:Option Addr}{c:Nat}{L:List E}(h:rowRd m a (L.map E.cs).flatten)(hz:∀z∈L,RepE m z)(hl:L.length<=1000000000000000)(ho:OkE k s g):RepE m (.node k x s g a c L):=by
 simp only[RepE]
 refine⟨hl,?_,ho⟩
 rcases h with h|⟨b,o,ha,h⟩
 ·refine .inl ?_
  have:=congrArg List.length h
  rw[Zdr E.len]at this
  exact List.eq_nil_of_length_eq_zero (by simp at this;omega)
 ·exact .inr ⟨b,o,ha,Zl0 h hz⟩
theorem Zl1(e:E)(c:Int)(m:Mem)(hr:RepE m e)(cV:∀x∈e.nodes,okN 9 x)(hl:e.nodes.length<=1000):CX Tryz.prog 104 #[e.v,.int .i64 c] m [] (ER (BoE c e)):=by
 apply Zgs
 intro b b1
 refine⟨decide (e.k=10)&&decide (e.g > c),Zab (λh=>⟨rfl,Zae ?_⟩) (λh=>⟨rfl,Zae ?_⟩),Zab (λh=>?_) (λh=>?_)⟩
 ·have:e.k=10:=by simpa using h
  rw[decide_eq_true this,Bool.true_and]
 ·have:¬e.k=10:=by simpa using h
  rw[decide_eq_false this,Bool.false_and]
 ·rw[Bool.and_eq_true,decide_eq_true_iff,decide_eq_true_iff]at h
  exact ZaS (Mem.le_refl _) ⟨Zxa ⟨#[121]⟩,rfl,Zeq (by omega) (by decide) (by omega),Zwq (by simp[Zjv]) h.1⟩
 have hk:¬(e.k=10/\e.g > c):=by
  rintro⟨h1,h2⟩
  rw[decide_eq_true h1,decide_eq_true h2]at h;cases h
 have dO:e.subs.length<=1000:=by
  have:=Zf3 e.subs
  rw[Zdy,List.length_cons]at hl;omega
 refine⟨λxs css tvs m' q=>∃(ts:List E)(a:Option Addr)(d:Nat),ts.length<=e.subs.length/\xs=[.int .i64 ts.length]/\css=[[.int .u8 e.k,.float .f64 e.x,.string e.s,.int .i64 e.g,.slice a ts.length d]]/\tvs=[.slice a ts.length d]/\rowRd m' a (ts.map E.cs).flatten/\(∀t∈ts,RepE m' t)/\(∀(i:Nat)(x y:E),e.subs[i]?=some x->ts[i]?=some y->BoE c x y)/\q=e.subs.length - ts.length,⟨_,[],none,0,by simp,rfl,rfl,rfl,.inl rfl,by simp,by simp,rfl⟩,?_⟩
 rintro n cs a n1 d m1 q aV ⟨ts,a',d',gT,hx,dM,ft,bF,bV,pY,hq⟩
 simp only[List.cons.injEq,Value.slice.injEq,Value.int.injEq,true_and,and_true]at hx dM ft
 obtain⟨rfl,rfl,rfl⟩:=ft
 subst hx dM
 refine Zaw (λbB=>?_) (λdB=>?_)
 ·have bQ:ts.length < e.subs.length:=by omega
  obtain⟨x,hx⟩:=Zbc bQ
  obtain⟨oW,h0|⟨b3,o3,f5,f9⟩⟩:=Zf0 hr
  ·rw[h0]at bQ;simp at bQ
  obtain⟨dZ,eU⟩:=(f9.mono' aV).get hx
  have jB:=List.mem_of_getElem? hx
  have cE:=Zoq jB
  have tw:∀z∈x.nodes,z∈Zaq e.subs:=λz hz=>by rw[ZdU hx];exact List.mem_append_right _ (List.mem_append_left _ hz)
  have jQ:x.nodes.length<=1000:=by
   rw[Zdy,List.length_cons,ZdU hx,List.length_append,List.length_append]at hl;omega
  have hw:IntKind.i64.wrap ((ts.length:Int)+1)=((ts.length+1:Nat):Int):=by rw[Zal (by omega) (by omega)];rfl
  refine⟨b3,o3,f5,⟨by omega,bB⟩,_,_,_,_,_,dZ,λb4=>Zaa rfl ⟨λ_ _ _=>ER (BoE c x),Zao rfl ⟨_,rfl,Zl1 x c m1 eU (λz hz=>cV z (by rw[Zdy];exact List.mem_cons_of_mem _ (tw z hz))) jQ,ZhE,ZxU λt m2 bA gp ht b5 jd=>Zaa rfl ?_⟩⟩⟩
  refine ZhD E.len E.one jd t (bF.mono bA) 64 (by omega) (by omega) (.inl rfl) λa5 c5 m5 dY eF=>Zaa rfl λM _ io kU jE=>⟨rfl,e.subs.length - (ts.length+1),by omega,ts++[t],a5,c5,by rw[List.length_append];exact bQ,by rw[hw,List.length_append];rfl,by rw[List.length_append];rfl,by rw[List.length_append];rfl,eF.mono jE,?_,?_,by rw[List.length_append];rfl⟩
  ·intro z hz
   rcases List.mem_append.1 hz with hz|hz
   ·exact(bV z hz).mono' (mLt bA io)
   ·rw[List.mem_singleton]at hz;subst hz;exact gp.mono' io
  ·intro i x' y' hx' hy'
   rcases Nat.lt_or_ge i ts.length with h|h
   ·rw[List.getElem?_append_left h]at hy'
    exact pY i x' y' hx' hy'
   ·have hi:=(List.getElem?_eq_some_iff.1 hy').1
    rw[List.length_append,List.length_singleton]at hi
    obtain rfl:i=ts.length:=by omega
    rw[hx]at hx'
    simp at hy'
    cases hx';subst hy';exact ht
 ·have bT:ts.length=e.subs.length:=by omega
  have ho:=ZtR hr
  refine Zaa rfl (ZaS aV ⟨.node e.k e.x e.s e.g a d ts,rfl,Zvc bF bV (by omega) ho,?_⟩)
  have:=ZuF (c:=c) (x:=e.x) (s:=e.s) (a:=e.a) (a':=a) (d:=e.c) (d':=d) (l:=e.subs) (r:=ts) (k:=e.k) (g:=e.g) (by cases e;exact cV _ (by simp[E.nodes,E.k,E.x,E.s,E.g,E.a,E.c,E.subs])) hk bT.symm pY
  cases e;exact this
termination_by SizeOf.sizeOf e
theorem Zl2(t:T)(m:Mem)(hr:Rep m t)(hl:t.nodes.length<=10000):CX Tryz.prog 66 #[t.v] m [] (Ret (.int .i64 (t.gr:Nat))):=by
 apply Zhz
 intro b m1 aV _
 have dO:t.subs.length<=10000:=by
  have h1:=ZlT t
  have:=Zrh t.subs
  omega
 have tN:∀i,grL (t.subs.take i)<=10000:=λi=>by
  have h1:grL (t.subs.take i)<=szL (t.subs.take i):=List.countP_le_length
  have h2:szL t.subs=szL (t.subs.take i)+szL (t.subs.drop i):=by rw[<-ZaE,List.take_append_drop]
  have h3:=ZlT t
  omega
 refine Zab (λh=>?_) (λh=>?_)
 all_goals
  refine⟨λxs _ _ m' q=>∃i:Nat,i<=t.subs.length/\xs=[.int .i64 (((if isG t=true then 1 else 0)+grL (t.subs.take i):Nat):Int),.int .i64 i]/\q=t.subs.length - i,⟨_,0,by omega,by unfold isG;rw[h];rfl,rfl⟩,?_⟩
  rintro n n1 m2 q bA ⟨i,hi,hx,rfl⟩
  simp only[List.cons.injEq,Value.int.injEq,true_and,and_true]at hx
  obtain⟨rfl,rfl⟩:=hx
  refine Zaw (λbB=>?_) (λdB=>Zac (mLt aV bA) ?_)
  ·have bQ:i < t.subs.length:=by omega
   obtain⟨x,hx⟩:=Zbc bQ
   have jB:=List.mem_of_getElem? hx
   have cE:=Zst jB
   have jQ:x.nodes.length<=10000:=by
    have h1:=ZlT t
    have h2:szL t.subs=szL (t.subs.take i)+szL (t.subs.drop i):=by rw[<-ZaE,List.take_append_drop]
    rw[Zon hx,ZeJ]at h2;omega
   have vt:grL (t.subs.take (i+1))=grL (t.subs.take i)+x.gr:=by
    rw[List.take_add_one,hx,Zbx];show _+grL [x]=_;rw[Zc3]
   have hb:=tN i
   have hb':=tN (i+1)
   obtain⟨b3,o3,f5,dZ⟩:=Zeo ((ZfZ hr.subs).mono (mLt aV bA)) hx
   refine⟨b3,o3,f5,⟨by omega,bB⟩,_,_,_,_,_,_,_,_,dZ,λb4=>Zaa rfl (Zax (Zl2 x m2 ((Zoo hr.subs x jB).mono (mLt aV bA)) jQ) λm3 bR=>⟨rfl,t.subs.length - (i+1),by omega,i+1,by omega,?_,rfl⟩)⟩
   rw[vt,Zal (by split <;> omega) (by split <;> omega),Zal (by omega) (by omega)]
   simp;omega
  ·have:i=t.subs.length:=by omega
   subst this
   rw[List.take_length]
   show Value.int .i64 _=Value.int .i64 _
   rw[ZvD t]
termination_by SizeOf.sizeOf t
structure BytU (m:Mem)(a:Option Addr)(l:List Nat):Prop where
 lt:∀n∈l,n < 256
 row:rowRd m a (l.map λn:Nat=>[Value.int .u8 n]).flatten
theorem BytU.mono{m m':Mem}{a l}(h:BytU m a l)(hm:m.le m'):BytU m' a l:=⟨h.lt,h.row.mono hm⟩
theorem BytU.get{m:Mem}{a l}(h:BytU m a l){i:Nat}{n:Nat}(hi:l[i]?=some n):n < 256/\∃b o,a=some ⟨b,o,none⟩/\m b (o+i*1)=some (.int .u8 n):=by
 obtain⟨b,o,ha,h1⟩:=Zam (cs:=λn:Nat=>[Value.int .u8 n]) (n:=1) (λ_=>rfl) h.row hi (by omega)
 exact⟨h.lt n (List.mem_of_getElem? hi),b,o,ha,h1 0 _ rfl⟩
theorem Pt.one(p:Pt):∀u∈p.cs,u.oneCell'=true:=by
 intro u hu
 simp only[Pt.cs,List.mem_cons,List.not_mem_nil,or_false]at hu
 rcases hu with rfl|rfl|rfl|rfl|rfl|rfl|rfl|rfl <;> rfl
def TmR(c:Int):Value->Mem->List (List Value)->Prop:=λv m' _=>∃(l:List Pt)(a:Option Addr)(d:Nat),v=.slice a l.length d/\rowRd m' a (l.map Pt.cs).flatten/\(∀p∈l,RepP m' p)/\MkT c l
theorem Zt8{c:Int}:∀(v:Value)(m':Mem) (css:List (List Value)),TmR c v m' css->Shape.fits .slice v=true:=λv _ _ ⟨_,_,_,h,_⟩=>by rw[h];rfl
def TmI(c:Int)(N:Nat)(m:Mem):List Value->List (List Value)->List Value->Mem->Nat->Prop:=λxs _ tvs m' q=>∃(L:List Pt)(a:Option Addr)(d i:Nat),xs=[.slice a L.length d,.int .i64 i]/\tvs=[.slice a L.length d]/\i<=N/\L.length<=i/\m.le m'/\rowRd m' a (L.map Pt.cs).flatten/\(∀p∈L,RepP m' p)/\(∀p∈L,MkP c p)/\ZyI L/\q=N - i
theorem Ztg{L:List Pt}{p:Pt}(h:ZyI L)(hp:p.k=1->∀x,L[L.length - 1]?=some x->0 < L.length->x.k≠1):ZyI (L++[p]):=by
 intro i x y hx hy h1 h2
 rcases Nat.lt_or_ge (i+1) L.length with hi|hi
 ·rw[List.getElem?_append_left (by omega)]at hx
  rw[List.getElem?_append_left hi]at hy
  exact h i x y hx hy h1 h2
 ·have ik:=(List.getElem?_eq_some_iff.1 hy).1
  rw[List.length_append,List.length_singleton]at ik
  have e:i+1=L.length:=by omega
  rw[List.getElem?_append_left (by omega)]at hx
  rw[e]at hy
  simp at hy;subst hy
  exact hp h2 x (by rw[<-e,Nat.add_sub_cancel];exact hx) (by omega) h1
theorem TmI.next{c:Int}{N:Nat}{m m' M:Mem}{L:List Pt}{i:Nat}{p:Pt}{a:Option Addr}{d:Nat}(hi:i < N)(hL:L.length<=i)(h0:m.le m')(hM:m'.le M)(bF:rowRd M a ((L++[p]).map Pt.cs).flatten)(hr:∀x∈L,RepP m' x)(hp:RepP M p)(hk:∀x∈L,MkP c x)(rJ:MkP c p)(hl:ZyI L)(vu:p.k=1->∀x,L[L.length - 1]?=some x->0 < L.length->x.k≠1):
  ∃n',n' < N - i/\TmI c N m [.slice a (L.length+1) d,.int .i64 ((i+1:Nat):Int)] [] [.slice a (L.length+1) d] M n':=by
 refine⟨N - (i+1),by omega,L++[p],a,d,i+1,by rw[List.length_append];rfl,by rw[List.length_append];rfl,by omega,by rw[List.length_append,List.length_singleton];omega,mLt h0 hM,bF,?_,?_,Ztg hl vu,rfl⟩
 ·intro x hx
  rcases List.mem_append.1 hx with hx|hx
  ·exact(hr x hx).mono hM
  ·rw[List.mem_singleton]at hx;subst hx;exact hp
 ·intro x hx
  rcases List.mem_append.1 hx with hx|hx
  ·exact hk x hx
  ·rw[List.mem_singleton]at hx;subst hx;exact rJ
theorem ZhF{m:Mem}{k:Int}{s:ByteArray}{g:Int}(hk:0<=k/\k < 256)(hs:s.size<=1000000000000000)(hg:I64 g):RepP m ⟨k,s,g,E0⟩:=⟨hk,hs,hg,ZvA m⟩
theorem Zk6:∀s∈Ze0,s.size<=16:=by decide +kernel
theorem ZzH:∀j < 5,∃s:ByteArray,[Value.string ⟨#[97]⟩,.string ⟨#[45]⟩,.string ⟨#[97,98,32]⟩,.string ⟨#[0,255]⟩,.string ⟨#[49,50]⟩][j*1]?=some (.string s)/\0 < s.size/\s.size<=512:=by
 intro j hj
 have:j=0\/j=1\/j=2\/j=3\/j=4:=by omega
 rcases this with rfl|rfl|rfl|rfl|rfl <;> exact⟨_,rfl,by decide,by decide⟩
set_option maxHeartbeats 2000000 in
theorem Zju(l:List Nat)(a:Option Addr)(d:Nat)(e:E)(c:Int)(m:Mem)(hb:BytU m a l)(hd:l.length<=d)(hl:l.length<=1000000000000000)(hr:RepE m e)(he:MkE c 20 e)(hc : -1<=c/\c<=10000):
  CX Tryz.prog 106 #[.slice a l.length d,e.v,.int .i64 c] m [] (TmR c):=by
 apply Zfu
 intro b m1 aV _
 have hN:(if(5:Int) < (l.length:Int)then(5:Int)else(l.length:Int))=((min 5 l.length:Nat):Int):=by split <;> omega
 simp only[hN,Int.toNat_natCast,Nat.sub_zero]
 generalize qw:min 5 l.length=N
 refine⟨⟨by omega,by omega⟩,TmI c N m1,⟨N,[],none,0,0,rfl,rfl,by omega,by simp,Mem.le_refl _,.inl rfl,by simp,by simp,λi p q h=>by simp at h,by omega⟩,?_⟩
 rintro a1 n1 c1 z1 a2 n2 c2 m2 q bA ⟨L,a',c',i,hx,ft,qx,gy,hm,bF,bV,gE,gx,rfl⟩
 simp only[List.cons.injEq,Value.slice.injEq,Value.int.injEq,true_and,and_true]at hx ft
 obtain⟨⟨rfl,rfl,rfl⟩,rfl⟩:=hx
 obtain⟨rfl,rfl,rfl⟩:=ft
 have hw:IntKind.i64.wrap ((i:Int)+1)=((i+1:Nat):Int):=by rw[Zal (by omega) (by omega)];rfl
 have vv:IntKind.i64.wrap ((L.length:Int) - 1)=(L.length:Int) - 1:=Zal (by omega) (by omega)
 have qy:=mLt aV bA
 refine Zaw (λbB=>?_) (λdB=>ZaS qy ⟨L,a2,c2,rfl,bF,bV,by omega,gE,gx⟩)
 have bQ:i < N:=by omega
 obtain⟨n,hn⟩:=Zbc (l:=l) (k:=i) (by omega)
 obtain⟨js,bs,os,ha,hv⟩:=(hb.mono qy).get hn
 have sj:Int.tmod (n:Int) 8=((n % 8:Nat):Int):=rfl
 have sk:IntKind.i64.wrap (Int.tdiv (IntKind.i64.wrap (n:Int)) 8)=((n / 8:Nat):Int):=by
  rw[Zal (n:=(n:Int)) (by omega) (by omega),show Int.tdiv (n:Int) 8=((n / 8:Nat):Int) from rfl,Zal (by omega) (by omega)]
 simp only[hw,vv,Int.toNat_natCast]
 refine⟨bs,os,ha,⟨by omega,bB⟩,_,hv,_,rfl,by omega,by omega,?_⟩
 simp only[sj,sk]
 have vA:n / 8 < 32:=by omega
 generalize n % 8=k
 generalize n / 8=u at vA
 have stay:∀M:Mem,m2.le M->∃n',n' < N - i/\TmI c N m1 [.slice a2 L.length c2,.int .i64 ((i+1:Nat):Int)] [] [.slice a2 L.length c2] M n':=λM hM=>⟨N - (i+1),by omega,L,a2,c2,i+1,rfl,rfl,by omega,by omega,mLt hm hM,bF.mono hM,λp hp=>(bV p hp).mono hM,gE,gx,rfl⟩
 refine⟨λxs _ _ m'=>xs=[.bool (decide (k=0\/k=1))]/\m2.le m',Zab (λh=>⟨trivial,trivial,?_,Mem.le_refl _⟩) (λh=>⟨trivial,trivial,?_,Mem.le_refl _⟩),?_⟩
 ·have:k=0:=by simp at h;omega
  rw[h,this];rfl
 ·have:¬k=0:=by simp at h;omega
  refine Zae ?_
  rw[Bool.eq_iff_iff];simp;omega
 rintro b2 m3 bR ⟨fD,_⟩
 obtain rfl:b2=decide (k=0\/k=1):=by simpa using fD
 have eG:=mLt qy bR
 refine Zaw (λiH=>?_) (λiH=>?_)
 ·refine⟨decide (L.length=0)||!(match L[L.length - 1]? with
   | some x=>x.k == 1
   | none=>false),Zaw (λh=>⟨trivial,trivial,Zae ?_⟩) (λh=>?_),Zab (λhB=>?_) (λ_=>⟨trivial,stay m3 bR⟩)⟩
  ·rw[decide_eq_true (show L.length=0 by omega)];rfl
  ·obtain⟨x,hx⟩:=Zbc (l:=L) (k:=L.length - 1) (by omega)
   obtain⟨b4,o4,ph,eA⟩:=Zam Pt.len (bF.mono bR) hx (by omega)
   have vB:Int.toNat ((L.length:Int) - 1)=L.length - 1:=by omega
   refine⟨b4,o4,ph,⟨by omega,by omega⟩,.int .u8 x.k,by rw[vB];exact eA 0 _ rfl,_,rfl,trivial,trivial,Zae ?_⟩
   rw[decide_eq_false (show ¬L.length=0 by omega),hx,Bool.false_or]
  ·have tO:Int.tmod (u:Int) 5=((u % 5:Nat):Int):=rfl
   have h5:u % 5 < 5:=Nat.mod_lt _ (by omega)
   intro b4 pn
   obtain⟨s,hs,jS,vC⟩:=ZzH (u % 5) h5
   refine⟨by omega,by rw[tO];exact⟨by omega,by omega⟩,Zao (by rw[tO,Int.toNat_natCast];exact hs) ⟨s,rfl,λb5 jd=>?_⟩⟩
   have nG:=mLt bR (Mem.le_add pn [Value.string ⟨#[97]⟩,.string ⟨#[45]⟩,.string ⟨#[97,98,32]⟩,.string ⟨#[0,255]⟩,.string ⟨#[49,50]⟩])
   refine ZhD Pt.len Pt.one jd (⟨1,s,0,E0⟩:Pt) (bF.mono nG) 96 (by omega) (by omega) (.inl trivial) λa8 c8 m8 gu f8=>⟨trivial,TmI.next bQ gy (mLt hm nG) (mLt (Mem.le_add jd _) gu) f8 (λx hx=>(bV x hx).mono nG) (ZhF (by omega) (by omega) ⟨by omega,by omega⟩) gE (.lit s ⟨jS,vC⟩) gx (λ_ x hx rD qg=>?_)⟩
   rw[hx,decide_eq_false (show ¬L.length=0 by omega)]at hB
   simp[qg]at hB
 refine⟨λxs _ _ m'=>xs=[.bool (decide (k=2\/k=3))]/\m3.le m',Zab (λh=>⟨trivial,trivial,?_,Mem.le_refl _⟩) (λh=>⟨trivial,trivial,?_,Mem.le_refl _⟩),?_⟩
 ·have:k=2:=by simp at h;omega
  rw[h,this];rfl
 ·have:¬k=2:=by simp at h;omega
  refine Zae ?_
  rw[Bool.eq_iff_iff];simp;omega
 rintro b3 m4 cO ⟨fB,_⟩
 obtain rfl:b3=decide (k=2\/k=3):=by simpa using fB
 have kG:=mLt bR cO
 refine Zaw (λvD=>?_) (λvD=>?_)
 ·refine Zai (Znv m4) Zdt ?_
  rintro a5 n5 c5 m5 dY ⟨a',c',gP,gi⟩
  simp only[Value.slice.injEq]at gP
  obtain⟨rfl,rfl,rfl⟩:=gP
  have h2:u % 2 < 2:=Nat.mod_lt _ (by omega)
  obtain⟨s,hs⟩:=Zbc (l:=Ze0) (k:=u % 2) h2
  have jF:=List.mem_of_getElem? hs
  obtain⟨b6,o6,iu,eA⟩:=ZcC gi hs
  have cE:s.size<=1000000000000000:=by have:=Zk6 s jF;omega
  have hu:Int.tmod (u:Int) 2=((u % 2:Nat):Int):=rfl
  have i4:=mLt kG dY
  refine⟨by omega,b6,o6,iu,by rw[hu];exact⟨by omega,by show((u % 2:Nat):Int) < (2:Nat);omega⟩,_,by rw[hu,Int.toNat_natCast];exact eA,s,rfl,λb7 pt=>?_⟩
  refine ZhD Pt.len Pt.one pt (⟨2,s,0,E0⟩:Pt) (bF.mono i4) 96 (by omega) (by omega) (.inl trivial) λa8 c8 m8 gu f8=>⟨trivial,TmI.next bQ gy (mLt hm i4) (mLt (Mem.le_add pt _) gu) f8 (λx hx=>(bV x hx).mono i4) (ZhF (by omega) cE ⟨by omega,by omega⟩) gE (.var s (.inr jF)) gx (λh=>absurd (show(2:Int)=1 from h) (by decide))⟩
 refine Zab (λh4=>?_) (λh4=>?_)
 ·refine Zai (Zh4 m4) Zdt ?_
  rintro a5 n5 c5 m5 dY ⟨a',c',gP,gi⟩
  simp only[Value.slice.injEq]at gP
  obtain⟨rfl,rfl,rfl⟩:=gP
  have h2:u % 4 < 4:=Nat.mod_lt _ (by omega)
  obtain⟨s,hs⟩:=Zbc (l:=Zjv) (k:=u % 4) h2
  have jF:=List.mem_of_getElem? hs
  obtain⟨b6,o6,iu,eA⟩:=ZcC gi hs
  have cE:s.size<=1000000000000000:=by have:=Zk5 s jF;omega
  have hu:Int.tmod (u:Int) 4=((u % 4:Nat):Int):=rfl
  have i4:=mLt kG dY
  refine⟨by omega,b6,o6,iu,by rw[hu];exact⟨by omega,by show((u % 4:Nat):Int) < (4:Nat);omega⟩,_,by rw[hu,Int.toNat_natCast];exact eA,s,rfl,λb7 pt=>?_⟩
  refine ZhD Pt.len Pt.one pt (⟨2,s,0,E0⟩:Pt) (bF.mono i4) 96 (by omega) (by omega) (.inl trivial) λa8 c8 m8 gu f8=>⟨trivial,TmI.next bQ gy (mLt hm i4) (mLt (Mem.le_add pt _) gu) f8 (λx hx=>(bV x hx).mono i4) (ZhF (by omega) cE ⟨by omega,by omega⟩) gE (.var s (.inl jF)) gx (λh=>absurd (show(2:Int)=1 from h) (by decide))⟩
 refine⟨λxs _ _ m'=>xs=[.bool (decide (k=5\/k=6))]/\m4.le m',Zab (λh=>⟨trivial,trivial,?_,Mem.le_refl _⟩) (λh=>⟨trivial,trivial,?_,Mem.le_refl _⟩),?_⟩
 ·have:k=5:=by simp at h;omega
  rw[h,this];rfl
 ·have:¬k=5:=by simp at h;omega
  refine Zae ?_
  rw[Bool.eq_iff_iff];simp;omega
 rintro b4 m5 dY ⟨qt,_⟩
 obtain rfl:b4=decide (k=5\/k=6):=by simpa using qt
 have i4:=mLt kG dY
 refine Zaw (λvE=>?_) (λvE=>?_)
 ·refine Zaw (λhp=>?_) (λhp=>⟨trivial,stay m5 i4⟩)
  obtain⟨C,lQ,rU,hC⟩:∃C:Nat,(C:Int)<=c/\C<=9/\IntKind.i64.wrap ((if(9:Int) < c then(9:Int)else c)+1)=((C+1:Nat):Int):=by
   by_cases h9:9 < c
   ·exact⟨9,by omega,by omega,by rw[if_pos h9];rfl⟩
   ·refine⟨c.toNat,by omega,by omega,?_⟩
    rw[if_neg h9,Zal (by omega) (by omega)];omega
  have ls:Int.tmod (u:Int) ((C+1:Nat):Int)=((u % (C+1):Nat):Int):=rfl
  have bB:u % (C+1) < C+1:=Nat.mod_lt _ (by omega)
  simp only[hC,ls]
  refine⟨by omega,λb6 iv=>?_⟩
  refine ZhD Pt.len Pt.one iv (⟨3,.empty,((u % (C+1):Nat):Int),E0⟩:Pt) (bF.mono i4) 96 (by omega) (by omega) (.inl trivial) λa8 c8 m8 gu f8=>⟨trivial,TmI.next bQ gy (mLt hm i4) (mLt (Mem.le_add iv _) gu) f8 (λx hx=>(bV x hx).mono i4) (ZhF (by omega) (by rw[ZaN];omega) ⟨by omega,by omega⟩) gE (.cap _ (by omega)) gx (λh=>absurd (show(3:Int)=1 from h) (by decide))⟩
 ·intro b6 iv
  have pu:=Mem.le_add iv (⟨4,.empty,0,e⟩:Pt).cs
  refine ZhD Pt.len Pt.one iv (⟨4,.empty,0,e⟩:Pt) (bF.mono i4) 96 (by omega) (by omega) (.inl trivial) λa8 c8 m8 gu f8=>⟨trivial,TmI.next bQ gy (mLt hm i4) (mLt pu gu) f8 (λx hx=>(bV x hx).mono i4) ⟨by show(0:Int)<=4/\(4:Int) < 256;omega,by show ByteArray.empty.size<=_;rw[ZaN];omega,⟨by show(-9223372036854775808:Int)<=0;omega,by show(0:Int)<=9223372036854775807;omega⟩,hr.mono' (mLt qy (mLt i4 (mLt pu gu)))⟩ gE (.clc e he) gx (λh=>absurd (show(4:Int)=1 from h) (by decide))⟩
end Go.Proofs.YtojlhhphofhaoaaGreatDoor