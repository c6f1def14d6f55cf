/- Part of the proof: conditions and contracts of functions of this program. No condition of its own. -/
import Derived.Test.YtgclajkldphoaaaPVSK
import Derived.Test.YtgclajkldphoaaaPC14K
import Derived.Test.YtgclajkldphoaaaMr
import Derived.Test.YtgclajkldphoaaaPVSC
import Derived.Test.YtgclajkldphoaaaPC13S
set_option linter.unusedVariables false
set_option linter.unusedSimpArgs false
set_option linter.unusedSectionVars false
namespace Go.Proofs.Ytgclajkldphoaaa
open Go Go.Eng Go.Rx Go.Proofs Go.RowKit
set_option maxRecDepth 100000
theorem Ze3:∀P:PL,(plV P).length=P.length*2:=λP=>by
 unfold plV
 induction P with
 | nil=>rfl
 | cons p P ih=>simp only[List.flatMap_cons,List.length_append,List.length_cons,List.length_nil,ih];omega
theorem ZmQ(P:PL):∀u∈plV P,u.oneCell'=true:=λu hu=>by
 unfold plV at hu
 obtain⟨p,_,hu⟩:=List.mem_flatMap.1 hu
 have:u=.int .i64 p.1\/u=.int .i64 p.2:=by simpa using hu
 rcases this with rfl|rfl <;> rfl
theorem ZmR(P Q:PL):plV (P++Q)=plV P++plV Q:=by unfold plV;simp
theorem ZgS(P:PL)(a:Option Addr)(c:Nat)(m:Mem)(h:rowRd m a (plV P))(hl:P.length<=1000000):CXT Try.prog 33 #[.slice a P.length c] m 2 (λv m' _=>∃a c,v=.slice a P.length c/\rowRd m' a (plV P)):=by
 apply Zbv
 unfold Za4
 refine Zab (λhn=>?_) (λhn=>⟨⟨rfl,Int.le_refl _,by decide,by decide⟩,λb hb=>⟨.inl rfl,[],plV P,rfl,by rw[Ze3],.inl rfl,h,ZmQ P,by omega,by omega,λa' c' m' hm' hr wj=>⟨rfl,a',c',by rw[Nat.zero_add],hr⟩⟩⟩)
 have:a=none:=by simpa using hn
 subst this
 have:=ZkC h
 have hP:P=[]:=by
  cases P with
  | nil=>rfl
  | cons p P=>simp[plV]at this
 subst hP
 exact⟨rfl,none,0,rfl,.inl rfl⟩
theorem Zua(n:Nat)(h:1<=n/\n<=9)(m:Mem):CX Try.prog 85 #[.int .u64 1,.int .u64 (n:Nat)] m [] (Ret (.tuple #[.int .u64 0,.int .u64 (n:Nat)])):=by
 apply Zgt
 unfold ZdX
 have hn:n=1\/n=2\/n=3\/n=4\/n=5\/n=6\/n=7\/n=8\/n=9:=by omega
 refine⟨by omega,by omega,by omega,by omega,by omega,m,Mem.le_refl _,Mem.le_refl _,?_⟩
 unfold Ret
 rcases hn with rfl|rfl|rfl|rfl|rfl|rfl|rfl|rfl|rfl <;> kernel_rfl
theorem Zys(n:Nat)(h:1<=n/\n<=9)(m:Mem):CX Try.prog 58 #[.int .u64 1,.int .u64 (n:Nat)] m [] (Ret (.tuple #[.int .u64 0,.int .u64 (n:Nat)])):=by
 apply Zh4
 unfold Ze2
 refine Zav (Zua n h m) (λv _ _ e=>by rw[e];rfl) ?_
 intro n n1 m1 bH hn
 exact⟨m1,bH,Mem.le_refl _,hn⟩
theorem Zp1{α:Type}(k j:Nat)(t:α):List.replicate (k+j) t=List.replicate k t++List.replicate j t:=by simp
theorem Zyt(k:Nat)(p:Int×Int):(List.replicate k [Value.int .i64 p.1,.int .i64 p.2]).flatten=plV (List.replicate k p):=by
 induction k with
 | zero=>rfl
 | succ k ih=>rw[List.replicate_succ,List.replicate_succ,List.flatten_cons,ih];rfl
theorem ZjV(n:Nat)(h:1<=n/\n<=9)(p:Int×Int)(b:Nat)(m:Mem)(cK:m.reads b 0 [.int .i64 p.1,.int .i64 p.2]):CX Try.prog 31 #[.slice (some ⟨b,0,none⟩) 1 1,.int .i64 (n:Nat)] m [] (λv m' _=>∃a,v=.slice a n n/\rowRd m' a (plV (List.replicate n p))):=by
 apply Zbw
 unfold Za2
 have eF:IntKind.u64.wrap (n:Int)=(n:Int):=Zuy n (by omega)
 refine ZpA (decide_eq_false (by omega)) ?_
 rw[show IntKind.u64.wrap (((1:Nat):Int))=1 from rfl,eF]
 refine Zav (Zys n h m) (λv _ _ e=>by rw[e];rfl) ?_
 intro n0 n1 m1 bH hn
 obtain⟨rfl,rfl⟩:n0=0/\n1=(n:Nat):=by simpa[Ret]using hn
 have hw:IntKind.i64.wrap (n:Int)=(n:Int):=ZaO (by omega) (by omega)
 rw[hw]
 simp only[Int.toNat_natCast]
 refine⟨false,ZpA rfl (Zaq (decide_eq_false (by omega))),ZpA rfl ⟨⟨by omega,by omega,by omega,by omega⟩,?_⟩⟩
 intro b' hf
 have jR:min 1 n=1:=by omega
 rw[jR,Zyt n ((0:Int),(0:Int))]
 have nI:∀(k:Nat)(q:Int×Int),(plV (List.replicate k q)).length=k*2:=λk q=>by rw[Ze3,List.length_replicate]
 refine⟨0,plV [p],rfl,by rw[Ze3];rfl,by rw[Ze3,nI];simp;omega,ZmQ _,.inl (.inr ⟨b,0,rfl,λj v hj=>(mLt bH (Mem.le_refl _)).c _ _ _ (cK j v hj)⟩),?_⟩
 refine⟨λxs css tvs m' q=>∃(k:Nat)(cs:List Value),1<=k/\k<=n/\xs=[.int .i64 k]/\css=[cs]/\cs.length=n*2/\cs.take (k*2)=plV (List.replicate k p)/\q=n - k,⟨_,1,_,by omega,by omega,rfl,rfl,?_,?_,rfl⟩,?_⟩
 ·rw[ZbI (by rw[Ze3,nI];simp;omega),nI]
 ·unfold ZaG
  simp[plV]
 rintro z cs m2 q bL ⟨k,cs',gA,iO,cJ,kY,bM,dC,hq⟩
 obtain rfl:z=k:=by simpa using cJ
 obtain rfl:cs=cs':=by simpa using kY
 refine Zab (λbF=>?_) (λcP=>?_)
 ·have bF:k < n:=by have:=of_decide_eq_true bF;omega
  refine⟨⟨by omega,by omega⟩,⟨by omega,by omega⟩,λmB=>?_⟩
  generalize hj:min (Int.toNat (k:Int) - 0) (n - Int.toNat (k:Int))=j
  have yD:1<=j/\j<=k/\k+j<=n:=by simp at hj;omega
  have kI:(plV (List.replicate j p)).length=j*2:=nI j p
  have eQ:Nat.beq k 0=false:=by cases k with|zero=>omega|succ k=>rfl
  have eB:Nat.beq n k=false:=by
   cases h:Nat.beq n k with
   | false=>rfl
   | true=>have:=Nat.eq_of_beq_eq_true h;omega
  have hH:∀(i:Nat)(u:Value),(plV (List.replicate j p))[i]?=some u->cs[i]?=some u:=λi u hu=>by
   have hi:=(List.getElem?_eq_some_iff.1 hu).1
   rw[kI]at hi
   have h1:(cs.take (k*2))[i]?=cs[i]?:=List.getElem?_take_of_lt (by omega)
   rw[<-h1,dC,show k=j+(k - j) by omega,Zp1,ZmR,List.getElem?_append_left (by rw[kI];omega)]
   exact hu
  refine⟨k*2,plV (List.replicate j p),?_,kI,by rw[kI,bM];omega,ZmQ _,.inr ⟨0,rfl,λi u hu=>by rw[Nat.zero_add];exact hH i u hu⟩,?_⟩
  ·simp[ZaC,eQ,eB,Addr.add]
   omega
  ·have xL:IntKind.i64.wrap ((k:Int)+(j:Int))=((k+j:Nat):Int):=by rw[ZaO (by omega) (by omega)];omega
   refine⟨by trivial,n - (k+j),by omega,k+j,_,by omega,by omega,by rw[xL],rfl,?_,?_,rfl⟩
   ·rw[ZbI (by rw[kI,bM];omega),bM]
   ·unfold ZaG
    rw[dC,<-ZmR,<-Zp1]
    exact List.take_left' (nI _ _)
 ·have dM:k=n:=by have:=of_decide_eq_false cP;omega
  subst dM
  rw[List.take_of_length_le (by omega)]at dC
  subst dC
  exact⟨m1.add b' _,mLt bH (Mem.le_add hf _),Mem.add_le bL _ _,_,rfl,.inr ⟨b',0,rfl,λj v hj=>by rw[Nat.zero_add,Mem.add_same];exact hj⟩⟩
theorem ZsJ(t:T)(m:Mem)(hr:Rep m t)(n:Nat)(h:1<=n/\n<=9)(hn:t.groups=(n:Nat)):CX Try.prog 30 #[t.v] m [] (λv m' _=>∃a,v=.slice a n n/\rowRd m' a (plV (List.replicate n (-1,-1)))):=by
 unfold T.v
 apply Zfm
 unfold Zda
 intro b m1 bH cK
 obtain⟨Fq,xM,oD,xN⟩:∃F:Fx,(∀l M,F 0 l M=λv _ _=>v=.agg #[.int .i64 (-1),.int .i64 (-1)])/\(∀l M,F 3 l M=Ret (.int .i64 t.groups))/\(∀l M,F 4 l M=λv m' _=>∃a,v=.slice a n n/\rowRd m' a (plV (List.replicate n (-1,-1)))):=
  ⟨λi _ _=>if i=0 then λv _ _=>v=.agg #[.int .i64 (-1),.int .i64 (-1)]else if i=3 then Ret (.int .i64 t.groups)else λv m' _=>∃a,v=.slice a n n/\rowRd m' a (plV (List.replicate n (-1,-1))),λ_ _=>if_pos rfl,λ_ _=>(if_neg (by decide)).trans (if_pos rfl),λ_ _=>(if_neg (by decide)).trans (if_neg (by decide))⟩
 refine⟨Fq,_,rfl,?_,?_,?_⟩
 ·rw[xM];exact ZpR m1
 ·rw[xM];exact λv _ _ h=>by rw[h];rfl
 rw[xM]
 rintro y1 y2 m2 bL hy
 obtain⟨rfl,rfl⟩:y1=-1/\y2=-1:=by simpa using hy
 intro b2 mB
 refine⟨_,rfl,?_,?_,?_⟩
 ·rw[oD];exact Zpz t m2 (hr.mono (mLt bH bL))
 ·rw[oD];exact λv _ _ h=>by unfold Ret at h;rw[h];rfl
 rw[oD]
 rintro zg m3 bX Cc
 obtain rfl:zg=t.groups:=by simpa[Ret]using Cc
 intro V C4 Cd C5
 rw[hn]
 refine⟨_,rfl,?_,?_,?_⟩
 ·rw[xN];exact ZjV n h (-1,-1) b2 V (λj v hj=>Cd.c _ _ _ (by rw[Nat.zero_add,Mem.add_same];exact hj))
 ·rw[xN];exact λv _ _ ⟨_,h,_⟩=>by rw[h];rfl
 rw[xN]
 rintro a4 n4 c4 m4 bZ ⟨a',hv,bG⟩
 obtain⟨rfl,rfl,rfl⟩:a4=a'/\n4=n/\c4=n:=by simpa using hv
 intro M dR dW gU dQ pN
 exact⟨M,mLt bH dR,Mem.le_refl _,a4,rfl,bG.mono pN⟩
def Zgu(t:T):T:=(Zap 6 0 0 none 0 [t]).er
def Zf5(t G:T):Prop:=∃a c,Zzf (Zap 6 0 0 a c [t]) G
def Zrq(k w:Int)(u t1 t2 t':T):Prop:=∃G1 G2 a c,Zf5 t1 G1/\Zf5 t2 G2/\ZzL k a c u (Zek k w [G1,G2]) t'
theorem Zdh{t G:T}(hc:t.check=0)(h:Zf5 t G):G.clean=true/\G.er=Zgu t:=by
 obtain⟨h1,a,c,h2⟩:=Zzv hc h
 exact⟨h1,h2⟩
theorem Zp2{k w:Int}{u t1 t2 t':T}(hk:k=3\/k=4)(hw:w≠6)(h1:t1.check=0)(h2:t2.check=0)(h:Zrq k w u t1 t2 t')(hc:t'.check=0):∃G1 G2,G1.er=Zgu t1/\G2.er=Zgu t2/\∃a c,t'.er=(Zap k 0 0 a c [G1,G2]).er:=by
 obtain⟨G1,G2,a,c,c1,c2,hj⟩:=h
 obtain⟨_,e1⟩:=Zdh h1 c1
 obtain⟨_,e2⟩:=Zdh h2 c2
 have k1:G1.k=6:=by rw[<-ZAf,e1];rfl
 have k2:G2.k=6:=by rw[<-ZAf,e2];rfl
 have hf:Zek k w [G1,G2]=[G1,G2]:=by
  have f1:∀G:T,G.k=6->Zkn k w G=[G]:=λG hG=>by
   unfold Zkn
   rw[hG,if_neg (by omega),if_neg (by omega)]
  simp[Zek,f1 G1 k1,f1 G2 k2]
 rw[hf]at hj
 obtain⟨hj,_⟩:=hj
 refine⟨G1,G2,e1,e2,a,c,?_⟩
 rcases hj with⟨_,h⟩|⟨_,h⟩
 ·exact h
 ·rw[h]at hc;exact absurd hc (by decide)
theorem Zvc{G1 G2:T}{m M:Mem}{b:Nat}(hM:(m.add b (Rx.ZcF [G1,G2])).le M)(h1:Rep M G1)(h2:Rep M G2):RepL M (some ⟨b,0,none⟩) [G1,G2]:=
 Zmv (.inr ⟨b,0,rfl,λj v hj=>by rw[Nat.zero_add];exact hM.c _ _ _ (by rw[Mem.add_same];exact hj)⟩) (by
  intro x hx
  simp at hx
  rcases hx with rfl|rfl
  ·exact h1
  ·exact h2) (by simp)
def Zyx(E:T)(s:List Nat):RT:=λv m' _=>∃a c,v=.tuple #[.slice a (Zb1 E s).1.length c,.int .i64 (Zb1 E s).2]/\rowRd m' a (plV (Zb1 E s).1)
theorem Zf6(t E:T)(sa:Option Addr)(s:List Nat)(sc:Nat)(m:Mem)(he:t.er=E)(hr:Rep m t)(hb:Byt m sa s):CX Try.prog 15 #[t.v,.slice sa s.length sc] m [] (Zyx E s):=
 (ZlQ t E sa s sc m he hr hb).mono λv m' css _ ⟨a,c,h1,h2⟩=>⟨a,c,h1,ZlM h2⟩
theorem Zf7{E:T}{s:List Nat}:∀(v:Value)(m':Mem) (css:List (List Value)),Zyx E s v m' css->Shape.fits (Shape.tup [Shape.slice,Shape.int .i64]) v=true:=λv _ _ ⟨_,_,h,_⟩=>by rw[h];rfl
theorem Zp3{E:T}{s:List Nat}{m:Mem}{K:Option Addr->Nat->Nat->Int->Mem->Prop}(k:∀(a:Option Addr)(c:Nat)(m':Mem),m.le m'->rowRd m' a (plV (Zb1 E s).1)->K a (Zb1 E s).1.length c (Zb1 E s).2 m'):
  ∀(a:Option Addr)(n c:Nat)(e:Int)(m':Mem),m.le m'->Zyx E s (.tuple #[.slice a n c,.int .i64 e]) m' []->K a n c e m':=by
 rintro a n c e m' hm ⟨a',c',hv,hr⟩
 simp only[Value.tuple.injEq,Array.mk.injEq,List.cons.injEq,Value.int.injEq,Value.slice.injEq,true_and,and_true]at hv
 obtain⟨⟨rfl,rfl,rfl⟩,rfl⟩:=hv
 exact k a c m' hm hr
theorem Zvd{a:Option Addr}{n c:Nat}:∃(a':Option Addr)(n' c' k:Nat),Tok.mk (.slice a n c) 2=Tok.mk (.slice a' n' c') 2/\k<=n'/\Value.slice a n c=.slice (ZaC a' k c' 2) (n' - k) (c' - k):=⟨a,n,c,0,rfl,Nat.zero_le _,rfl⟩
set_option maxHeartbeats 6400000 in
theorem ZjW(L L2:List (Nat×Nat×Nat))(pa qa:Option Addr)(pc qc:Nat)(s:List Nat)(sa:Option Addr)(sc:Nat)(m:Mem)(hL:Sm m pa L)(xO:L.length<=pc)(xP:Sm m qa L2)(sG:L2.length<=qc)(hs:Byt m sa s)(sO:s.length<=sc):
  CX Try.prog 7 #[.slice pa L.length pc,.slice qa L2.length qc,.slice sa s.length sc] m [] (Ret (.bool true)):=by
 apply Zgo
 unfold ZdS
 refine Zas (Zrn m) λm1 bH=>ZpA rfl ?_
 refine Zav (Zu7 L pa pc m1 (hL.mono bH) xO) ZaL (Zco λt1 m2 bL dA oX=>?_)
 refine Zav (Zu7 L2 qa qc m2 (xP.mono (mLt bH bL)) sG) ZaL (Zco λt2 m3 bX eV oY b1 b2=>?_)
 have xI:(if(14:Int) < (s.length:Int)then(14:Int)else(s.length:Int))=((min 14 s.length:Nat):Int):=by split <;> omega
 simp(maxSteps:=10000000) only[xI,Int.toNat_natCast,Nat.sub_zero]
 have mD:=mLt bH (mLt bL bX)
 have e3:(s.take 14).length=min 14 s.length:=by simp
 have hS:=(ZmP hs 14).mono mD
 rw[<-e3]
 generalize s.take 14=S at *
 have C6:S.length<=14:=by omega
 have Ce:S.length<=sc:=by omega
 have iQ:ZaC sa 0 sc 1=sa:=rfl
 simp(maxSteps:=10000000) only[iQ]
 replace dA:=dA.mono bX
 have gQ:S.length<=512:=by omega
 refine⟨⟨by omega,by omega⟩,λ_ _ _ M=>True,?_,?_⟩
 ·
  obtain⟨Fq,lW,oD,r7⟩:∃F:Fx,(∀l M,F 1 l M=Zcu (Zf5 t1))/\(∀l M,F 3 l M=Zcu (Zf5 t2))/\(∀l M,F 5 l M=Zcu (Zrq 4 0 T0 t1 t2)):=
   ⟨λi _ _=>if i=1 then Zcu (Zf5 t1)else if i=3 then Zcu (Zf5 t2)else Zcu (Zrq 4 0 T0 t1 t2),λ_ _=>if_pos rfl,λ_ _=>(if_neg (by decide)).trans (if_pos rfl),λ_ _=>(if_neg (by decide)).trans (if_neg (by decide))⟩
  refine⟨Fq,_,rfl,?_,?_,?_⟩
  ·rw[lW];exact Zb8 t1 m3 dA
  ·rw[lW];exact ZaL
  rw[lW]
  refine Zco λG1 m4 bZ r8 mF=>?_
  refine⟨_,rfl,?_,?_,?_⟩
  ·rw[oD];exact Zb8 t2 m4 (eV.mono bZ)
  ·rw[oD];exact ZaL
  rw[oD]
  refine Zco λG2 m5 c9 sd mG=>?_
  obtain⟨cl1,eG1⟩:=Zdh oX mF
  obtain⟨cl2,eG2⟩:=Zdh oY mG
  intro b5 xQ
  have oE:=Mem.le_add xQ (Rx.ZcF [G1,G2])
  refine⟨_,rfl,?_,?_,?_⟩
  ·rw[r7]
   refine(ZAU [G1,G2] (some ⟨b5,0,none⟩) 2 _ (Zvc (Mem.le_refl _) ((r8.mono c9).mono oE) (sd.mono oE)) (by simp) (by
    intro x hx
    simp at hx
    rcases hx with rfl|rfl
    ·exact cl1
    ·exact cl2)).mono ?_
   rintro v m' css _ ⟨t',e,hr',a,c,hj⟩
   exact⟨t',e,hr',G1,G2,a,c,mF,mG,hj⟩
  ·rw[r7];exact ZaL
  rw[r7]
  refine Zco λE m6 fF pX xR=>?_
  intro b6 M gU dQ pN Cf zk
  have pX:=pX.mono zk
  refine Zav (ZlC false false E M pX) (λv _ _ h=>by unfold Ret at h;rw[h];rfl) ?_
  rintro zc m7 qD rn
  obtain rfl:zc=E.check:=by simpa[Ret]using rn
  refine Zab (λmH=>?_) (λ_=>⟨by trivial,by trivial⟩)
  have mH:E.check=0:=by simpa using mH
  obtain⟨X1,X2,x1,x2,ea,ec,hE⟩:=Zp2 (.inr rfl) (by decide) oX oY xR mH
  have kD:=Zc2 (.inr rfl) mH hE (x:=X1) (by simp)
  have kG:=Zc2 (.inr rfl) mH hE (x:=X2) (by simp)
  have uu:m3.le m7:=mLt gU qD
  have xS:=pX.mono qD
  have uy:=dA.mono uu
  have uz:=eV.mono uu
  have xU:=hS.mono uu
  have pe1:Zb1 X1 S=Zb1 (Zgu t1) S:=by rw[<-ZgF,x1]
  have pe2:Zb1 X2 S=Zb1 (Zgu t2) S:=by rw[<-ZgF,x2]
  have ne1:X1.ngr=(Zgu t1).ngr:=by rw[<-Zg7,x1]
  have ne2:X2.ngr=(Zgu t2).ngr:=by rw[<-Zg7,x2]
  have se:=ZxY hE mH gQ
  rw[pe1,pe2,ne1,ne2]at se
  have uA:∀X t:T,X.check=0->Zb1 X S=Zb1 (Zgu t) S->(Zb1 (Zgu t) S).2=0\/((Zb1 (Zgu t) S).2=141/\(Zb1 (Zgu t) S).1=[]):=λX t hX e=>by
   rw[<-e]
   rcases Zpd (Zbl hX gQ)with⟨h,_⟩|⟨h,_⟩
   ·exact .inl h
   ·rw[h];exact .inr ⟨rfl,rfl⟩
  have two1:=uA X1 t1 kD pe1
  have two2:=uA X2 t2 kG pe2
  have jI:∀(X G:T)(t:T),X.check=0->X.er=Zgu t->t.check=0->Zf5 t G->G.groups=(((Zgu t).ngr:Nat):Int)/\1<=(Zgu t).ngr/\(Zgu t).ngr<=9:=λX G t hX e ht hG=>by
   obtain⟨_,eG⟩:=Zdh ht hG
   have zl:G.check=0:=by rw[Zr8 (eG.trans e.symm)];exact hX
   have h1:G.ngr=(Zgu t).ngr:=by rw[<-Zg7,eG]
   have h2:(Zgu t).ngr=t.ngr+1:=by
    unfold Zgu
    rw[Zg7]
    show(if(6:Int)=6 then 1 else 0)+(t.ngr+0)=_
    rw[if_pos rfl];omega
   have h3:=Zlu zl
   exact⟨by rw[ZmA zl,h1],by omega,by omega⟩
  have bM:∀(X t:T),X.check=0->X.er=Zgu t->(Zb1 (Zgu t) S).1.length<=9:=λX t hX e=>by
   rw[<-e,ZgF]
   rcases Zpd (Zbl hX gQ)with⟨_,_,h⟩|⟨h,_⟩
   ·rw[h,Zjr];exact Zlu hX
   ·rw[h];simp
  have len1:=bM X1 t1 kD x1
  have len2:=bM X2 t2 kG x2
  have Cg:=jI X1 G1 t1 kD x1 oX mF
  have xV:=jI X2 G2 t2 kG x2 oY mG
  obtain⟨n1,mJ⟩:∃n,n=(Zgu t1).ngr:=⟨_,rfl⟩
  obtain⟨n2,lR⟩:∃n,n=(Zgu t2).ngr:=⟨_,rfl⟩
  obtain⟨P1,tP⟩:∃P,P=Zb1 (Zgu t1) S:=⟨_,rfl⟩
  obtain⟨P2,tQ⟩:∃P,P=Zb1 (Zgu t2) S:=⟨_,rfl⟩
  have Ch:∀(m:Mem)(hm:m7.le m),∀G,Zf5 t1 G->Rep m G->CX Try.prog 15 #[G.v,.slice sa S.length sc] m [] (Zyx (Zgu t1) S):=λm hm G hG sf=>Zf6 G (Zgu t1) sa S sc m (Zdh oX hG).2 sf (xU.mono hm)
  have xW:∀(m:Mem)(hm:m7.le m),∀G,Zf5 t2 G->Rep m G->CX Try.prog 15 #[G.v,.slice sa S.length sc] m [] (Zyx (Zgu t2) S):=λm hm G hG sf=>Zf6 G (Zgu t2) sa S sc m (Zdh oY hG).2 sf (xU.mono hm)
  rw[<-mJ,<-lR,<-tP,<-tQ]at se
  rw[<-tP]at two1 len1
  rw[<-tQ]at two2 len2
  rw[<-mJ]at Cg
  rw[<-lR]at xV
  refine Zav (Zf6 E E.er sa S sc m7 rfl xS xU) Zf7 (Zp3 λea ec m8 sP oF=>?_)
  rw[ZgF,se]at oF ⊢
  refine Zav (Zb8 t1 m8 (uy.mono sP)) ZaL (Zco λA1 m9 oZ sg xX=>?_)
  refine Zav (Ch m9 (mLt sP oZ) A1 xX sg) Zf7 (Zp3 λa1 c1 m10 kH jC=>?_)
  rw[<-tP]at jC ⊢
  have h7_10:=mLt sP (mLt oZ kH)
  refine Zav (Zb8 t2 m10 (uz.mono h7_10)) ZaL (Zco λA2 m11 gR si xY=>?_)
  refine Zav (xW m11 (mLt h7_10 gR) A2 xY si) Zf7 (Zp3 λa2 c2 m12 fM oG=>?_)
  rw[<-tQ]at oG ⊢
  have h7_12:=mLt h7_10 (mLt gR fM)
  have sR:∀(m:Mem)(G:T),Rep m G->Zf5 t2 G->CX Try.prog 30 #[G.v] m [] (λv m' _=>∃a,v=.slice a n2 n2/\rowRd m' a (plV (List.replicate n2 (-1,-1)))):=λm G sf hG=>by
   have h:=jI X2 G t2 kG x2 oY hG
   rw[<-lR]at h
   exact ZsJ G m sf n2 h.2 h.1
  have xZ:∀(m:Mem)(G:T),Rep m G->Zf5 t1 G->CX Try.prog 30 #[G.v] m [] (λv m' _=>∃a,v=.slice a n1 n1/\rowRd m' a (plV (List.replicate n1 (-1,-1)))):=λm G sf hG=>by
   have h:=jI X1 G t1 kD x1 oX hG
   rw[<-mJ]at h
   exact ZsJ G m sf n1 h.2 h.1
  obtain⟨Fr,iH,sK,oH⟩:∃F:Fx,(∀l M,F 1 l M=λv m' _=>∃a c,v=.slice a P1.1.length c/\rowRd m' a (plV P1.1))/\(∀l M,F 4 l M=Zcu (Zf5 t2))/\(∀l M,F 5 l M=λv m' _=>∃a,v=.slice a n2 n2/\rowRd m' a (plV (List.replicate n2 (-1,-1)))):=
   ⟨λi _ _=>if i=1 then λv m' _=>∃a c,v=.slice a P1.1.length c/\rowRd m' a (plV P1.1)else if i=4 then Zcu (Zf5 t2)else λv m' _=>∃a,v=.slice a n2 n2/\rowRd m' a (plV (List.replicate n2 (-1,-1))),λ_ _=>if_pos rfl,λ_ _=>(if_neg (by decide)).trans (if_pos rfl),λ_ _=>(if_neg (by decide)).trans (if_neg (by decide))⟩
  refine⟨Fr,_,rfl,?_,?_,?_⟩
  ·rw[iH];exact ZgS P1.1 a1 c1 m12 (jC.mono (mLt gR fM)) (by omega)
  ·rw[iH];exact λv _ _ ⟨_,_,h,_⟩=>by rw[h];rfl
  rw[iH]
  rintro a13 n13 c13 m13 kW ⟨a',c',hv,sj⟩
  obtain⟨rfl,rfl,rfl⟩:a13=a'/\n13=P1.1.length/\c13=c':=by simpa using hv
  refine⟨_,rfl,?_,?_,?_⟩
  ·rw[sK];exact Zb8 t2 m13 (uz.mono (mLt h7_12 kW))
  ·rw[sK];exact ZaL
  rw[sK]
  refine Zco λA3 m14 nO x3 Ci=>?_
  refine⟨_,rfl,?_,?_,?_⟩
  ·rw[oH];exact sR m14 A3 x3 Ci
  ·rw[oH];exact λv _ _ ⟨_,h,_⟩=>by rw[h];rfl
  rw[oH]
  rintro a15 n15 c15 m15 uB ⟨a',hv,sk⟩
  obtain⟨rfl,q1,q2⟩:a15=a'/\n15=n2/\c15=n2:=by simpa using hv
  obtain rfl:=q1.symm
  obtain rfl:=q2.symm
  intro M2 pY uC uD uE
  have wX:Nat.beq n2 0=false:=by cases h:n2 with|zero=>omega|succ k=>rfl
  refine ZpA wX ⟨.inl Zvd,plV P1.1,plV (List.replicate n2 (-1,-1)),Ze3 _,by rw[Ze3,List.length_replicate],sj.mono uC,sk.mono uE,ZmQ _,by omega,by omega,λa16 c16 m16 pZ gS=>?_⟩
  have gS:rowRd m16 a16 (plV (P1.1++List.replicate n2 (-1,-1))):=by rw[ZmR];exact gS
  have h7_16:m7.le m16:=mLt h7_12 (mLt pY pZ)
  obtain⟨W0,oI⟩:∃W,W=(if P1.2=141 then List.replicate n1 (-1,-1)++P2.1 else P1.1++List.replicate n2 (-1,-1):PL):=⟨_,rfl⟩
  obtain⟨W2,sm⟩:∃W,W=(if P1.2=141/\P2.2=141 then[]else W0:PL):=⟨_,rfl⟩
  refine⟨λxs _ _ M=>m16.le M/\∃a c,xs=[.slice a W0.length c]/\rowRd M a (plV W0),?_,?_⟩
  ·refine Zab (λhf=>?_) (λhf=>?_)
   ·have hf:P1.2=141:=by simpa using hf
    rw[if_pos hf]at oI
    refine Zav (Zb8 t1 m16 (uy.mono h7_16)) ZaL (Zco λA4 m17 lA x4 Cj=>?_)
    refine Zav (xZ m17 A4 x4 Cj) (λv _ _ ⟨_,h,_⟩=>by rw[h];rfl) ?_
    rintro a18 n18 c18 m18 lB ⟨a',hv,fP⟩
    obtain⟨rfl,q1,q2⟩:a18=a'/\n18=n1/\c18=n1:=by simpa using hv
    obtain rfl:=q1.symm
    obtain rfl:=q2.symm
    refine Zab (λhz=>?_) (λhz=>?_)
    ·have hz:P2.1=[]:=List.eq_nil_of_length_eq_zero (Nat.eq_of_beq_eq_true hz)
     rw[hz,List.append_nil]at oI
     refine Zaa (Nat.ble_self_eq_true _) ⟨by trivial,by trivial,mLt lA lB,a18,n1,?_,?_⟩
     ·rw[oI,List.length_replicate]
     ·rw[oI];exact fP
    ·have hz:P2.1.length≠0:=λe=>by rw[e]at hz;cases hz
     refine⟨.inr (.inr (by omega)),plV (List.replicate n1 (-1,-1)),plV P2.1,by rw[Ze3,List.length_replicate],Ze3 _,fP,oG.mono (mLt pY (mLt pZ (mLt lA lB))),ZmQ _,by omega,by omega,λa19 c19 m19 oJ sn=>⟨by trivial,by trivial,mLt lA (mLt lB oJ),a19,c19,?_,?_⟩⟩
     ·rw[oI,List.length_append,List.length_replicate]
     ·rw[oI,ZmR];exact sn
   ·have hf:¬P1.2=141:=by simpa using hf
    rw[if_neg hf]at oI
    refine⟨by trivial,by trivial,Mem.le_refl _,a16,c16,?_,?_⟩
    ·rw[oI,List.length_append,List.length_replicate]
    ·rw[oI];exact gS
  rintro a20 n20 c20 _ _ _ m20 uF ⟨zm,a',c',hv,lC⟩
  obtain⟨rfl,rfl,rfl⟩:a20=a'/\n20=W0.length/\c20=c':=by simpa using hv
  refine⟨λxs _ _ M=>m20.le M/\∃a c,xs=[.slice a W2.length c]/\rowRd M a (plV W2),⟨decide (P1.2=141)&&decide (P2.2=141),Zab (λhf=>?_) (λhf=>?_),Zab (λhf=>?_) (λhf=>?_)⟩,?_⟩
  ·have hf:P1.2=141:=by simpa using hf
   refine⟨by trivial,?_⟩
   rw[hf]
   by_cases hg:P2.2=141 <;> simp[hg]
  ·have hf:¬P1.2=141:=by simpa using hf
   exact⟨by trivial,by simp[hf]⟩
  ·have hf:P1.2=141/\P2.2=141:=by simpa using hf
   rw[if_pos hf]at sm
   refine⟨by trivial,by trivial,Mem.le_refl _,none,0,?_,?_⟩
   ·rw[sm];rfl
   ·rw[sm];exact .inl rfl
  ·have hf:¬(P1.2=141/\P2.2=141):=by simpa using hf
   rw[if_neg hf]at sm
   rw[sm]
   exact⟨by trivial,by trivial,Mem.le_refl _,a20,c20,rfl,lC⟩
  rintro a21 n21 c21 m21 x5 ⟨_,a',c',hv,sq⟩
  obtain⟨rfl,rfl,rfl⟩:a21=a'/\n21=W2.length/\c21=c':=by simpa using hv
  have x6:(if P1.2=0 then(P1.1++List.replicate n2 (-1,-1),0)else if P2.2=0 then(List.replicate n1 (-1,-1)++P2.1,0)else([],141):PL×Int)=(W2,if P2.2 < P1.2 then P2.2 else P1.2):=by
   rcases two1 with h1|⟨h1,h1'⟩ <;> rcases two2 with h2|⟨h2,h2'⟩ <;> (rw[sm,oI];simp[h1,h2])
  have zf:W2.length<=1000000:=by
   rw[sm,oI]
   split
   ·simp
   ·split <;> (rw[List.length_append,List.length_replicate];omega)
  rw[x6]at oF ⊢
  have hm8_21:m8.le m21:=mLt oZ (mLt kH (mLt gR (mLt fM (mLt pY (mLt pZ (mLt uF x5))))))
  refine⟨false,ZpA (by simp) ⟨_,trivial,Zfv W2 W2 ea a21 ec c21 m21 (oF.mono hm8_21) sq zf,(λv _ _ h=>by unfold Ret at h;rw[h];rfl),?_⟩,ZpA rfl ⟨by trivial,by trivial⟩⟩
  rintro z m22 Ck hz
  obtain rfl:z=true:=by simpa[Ret]using hz
  exact⟨by trivial,by trivial,rfl⟩
 ·
  rintro m4 bZ _
  replace dA:=dA.mono bZ
  replace eV:=eV.mono bZ
  replace hS:=hS.mono bZ
  have rZ:=mLt mD bZ
  obtain⟨Fq,lW,oD,r7⟩:∃F:Fx,(∀l M,F 1 l M=Zcu (Zf5 t1))/\(∀l M,F 3 l M=Zcu (Zf5 t2))/\(∀l M,F 5 l M=Zcu (Zrq 3 1 T1 t1 t2)):=
   ⟨λi _ _=>if i=1 then Zcu (Zf5 t1)else if i=3 then Zcu (Zf5 t2)else Zcu (Zrq 3 1 T1 t1 t2),λ_ _=>if_pos rfl,λ_ _=>(if_neg (by decide)).trans (if_pos rfl),λ_ _=>(if_neg (by decide)).trans (if_neg (by decide))⟩
  refine⟨Fq,_,rfl,?_,?_,?_⟩
  ·rw[lW];exact Zb8 t1 m4 dA
  ·rw[lW];exact ZaL
  rw[lW]
  refine Zco λG1 m5 c9 r8 mF=>?_
  refine⟨_,rfl,?_,?_,?_⟩
  ·rw[oD];exact Zb8 t2 m5 (eV.mono c9)
  ·rw[oD];exact ZaL
  rw[oD]
  refine Zco λG2 m6 fF sd mG=>?_
  obtain⟨cl1,eG1⟩:=Zdh oX mF
  obtain⟨cl2,eG2⟩:=Zdh oY mG
  intro b5 xQ
  have oE:=Mem.le_add xQ (Rx.ZcF [G1,G2])
  refine⟨_,rfl,?_,?_,?_⟩
  ·rw[r7]
   refine(Zzu [G1,G2] (some ⟨b5,0,none⟩) 2 _ (Zvc (Mem.le_refl _) ((r8.mono fF).mono oE) (sd.mono oE)) (by simp) (by
    intro x hx
    simp at hx
    rcases hx with rfl|rfl
    ·exact cl1
    ·exact cl2)).mono ?_
   rintro v m' css _ ⟨t',e,hr',a,c,hj⟩
   exact⟨t',e,hr',G1,G2,a,c,mF,mG,hj⟩
  ·rw[r7];exact ZaL
  rw[r7]
  refine Zco λE m7 qD pX xR=>?_
  intro b6 M dQ pN zk Cl Cm
  have pX:=pX.mono Cm
  refine Zav (ZlC false false E M pX) (λv _ _ h=>by unfold Ret at h;rw[h];rfl) ?_
  rintro zc m8 sP rn
  obtain rfl:zc=E.check:=by simpa[Ret]using rn
  have uv:m4.le m8:=mLt dQ sP
  have zn:=mLt rZ uv
  refine Zab (λ_=>⟨m8,zn,Mem.le_refl _,by trivial⟩) (λmH=>?_)
  have mH:E.check=0:=by simpa using mH
  obtain⟨X1,X2,x1,x2,ea,ec,hE⟩:=Zp2 (.inl rfl) (by decide) oX oY xR mH
  have kD:=Zc2 (.inl rfl) mH hE (x:=X1) (by simp)
  have kG:=Zc2 (.inl rfl) mH hE (x:=X2) (by simp)
  have x7:=pX.mono sP
  have uG:=dA.mono uv
  have x8:=eV.mono uv
  have x9:=hS.mono uv
  have pe1:∀s,Zb1 X1 s=Zb1 (Zgu t1) s:=λs=>by rw[<-ZgF,x1]
  have pe2:∀s,Zb1 X2 s=Zb1 (Zgu t2) s:=λs=>by rw[<-ZgF,x2]
  have jD:=ZxZ hE (show X1.er=(Zap 6 0 0 none 0 [t1]).er from x1) (show X2.er=(Zap 6 0 0 none 0 [t2]).er from x2) mH gQ
  simp only[pe1,pe2]at jD
  refine Zav (Zf6 E E.er sa S sc m8 rfl x7 x9) Zf7 (Zp3 λea ec m9 oZ oK=>?_)
  rw[ZgF]at oK ⊢
  have eF:Zdp t1 S.length=0:=Zbl oX gQ
  have ya:ZuM t1 S 0=(t1.e0 S 0,0):=by
   unfold ZuM
   rw[if_neg (by simp[eF]),if_neg (by omega)];rfl
  have hO:=ZsC t1 sa S sc 0 m9 (uG.mono oZ) (λ_ _=>x9.mono oZ)
  unfold ZAq at hO
  rw[ya]at hO
  refine Zav hO (λv _ _ ⟨_,_,h,_⟩=>by rw[h];rfl) ?_
  rintro a10 n10 c10 e10 m10 kH ⟨a',c',hv,jC⟩
  simp only[Value.tuple.injEq,Array.mk.injEq,List.cons.injEq,Value.int.injEq,Value.slice.injEq,true_and,and_true]at hv
  obtain⟨⟨rfl,rfl,rfl⟩,rfl⟩:=hv
  refine ZpA rfl ?_
  have C7:(t1.e0 S 0).length<=513:=by
   have:=Zb2 (d:=0) (i:=0) (s:=S) (ZfC (Zcs oX).1).1 gQ (by omega)
   rwa [Za9]at this
  have Cn:∀x∈t1.e0 S 0,x<=S.length:=λx hx=>(ZaQ S t1 0 (by omega) x hx).2
  have yc:∀x∈t1.e0 S 0,(Zb1 (Zgu t1) (S.take x)).2=0:=λx hx=>by
   rw[<-pe1];exact ZvV (show X1.er=(Zap 6 0 0 none 0 [t1]).er from x1) kD gQ hx
  generalize t1.e0 S 0=O at *
  obtain⟨p,hp⟩:∃p:Nat->Bool,p=λi=>decide ((S.drop i).length∈t2.e0 (S.drop i) 0):=⟨_,rfl⟩
  rw[<-hp]at jD
  have Co:=mLt zn (mLt oZ kH)
  refine⟨λxs _ _ M q=>∃j:Nat,j<=O.length/\xs=[.int .i64 (j:Nat)]/\(∀y∈O.take j,p y=false)/\q=O.length - j,⟨_,0,by omega,rfl,by simp,rfl⟩,?_⟩
  rintro y m11 q gR ⟨j,hj,cJ,fL,rfl⟩
  obtain rfl:y=j:=by simpa using cJ
  have zo:=mLt Co gR
  refine Zab (λbF=>?_) (λcP=>?_)
  rotate_left
  ·have tN:j=O.length:=by have:=of_decide_eq_false cP;omega
   have hf:O.find? p=none:=List.find?_eq_none.2 λx hx=>by
    rw[tN,List.take_length]at fL
    simp[fL x hx]
   rw[hf]at jD
   rw[jD]
   exact⟨true,Zyw rfl ⟨by trivial,rfl⟩,m11,zo,Mem.le_refl _,by trivial⟩
  have bI:j < O.length:=by have:=of_decide_eq_true bF;omega
  obtain⟨i,hi⟩:∃i,O[j]?=some i:=⟨_,List.getElem?_eq_getElem bI⟩
  have zp:=List.mem_of_getElem? hi
  have rK:=Cn i zp
  have xL:IntKind.i64.wrap ((j:Int)+1)=((j+1:Nat):Int):=wr1 (by omega)
  obtain⟨ob,oo,Cp,Cq⟩:∃b o,a10=some ⟨b,o,none⟩/\m11.reads b o (nsL O):=by
   rcases jC.mono gR with h|h
   ·have:O=[]:=by simpa[nsL]using h
    rw[this]at bI;simp at bI
   ·exact h
  have cM:m11 ob (oo+Int.toNat (j:Int)*1)=some (.int .i64 (i:Nat)):=by
   rw[Int.toNat_natCast,Nat.mul_one]
   refine Cq j _ ?_
   unfold nsL;rw[List.getElem?_map,hi];rfl
  obtain⟨D,hD⟩:∃D,D=S.drop i:=⟨_,rfl⟩
  have Cr:D.length=S.length - i:=by rw[hD];exact List.length_drop ..
  have uH:=x9.mono (mLt oZ (mLt kH gR))
  have zq:∀M:Mem,m11.le M->Byt M (ZaC sa i sc 1) D:=λM hM=>by
   have:=Zva (uH.mono hM) i S.length sc Ce (Nat.le_refl _) rK
   rwa [List.take_length,<-hD]at this
  have uI:RowKit.intOf (.int .i64 (i:Nat))=(i:Int):=rfl
  have Cs:t2.wrong D.length 0=0:=by rw[ZmB oY];unfold ZAm;rw[if_neg (by omega),if_neg (by omega)]
  have uJ:=x8.mono (mLt oZ (mLt kH gR))
  have yd:=uG.mono (mLt oZ (mLt kH gR))
  have Ct:T.matches t2 D=p i:=by
   have h1:=ZlT oY (s:=D) (by omega)
   rw[hp]
   simp only
   rw[<-hD]
   cases h:T.matches t2 D with
   | true=>exact(decide_eq_true (h1.1 h)).symm
   | false=>exact(decide_eq_false (λh'=>by rw[h1.2 h']at h;cases h)).symm
  refine⟨ob,oo,Cp,⟨by omega,by omega⟩,_,cM,false,Zaa rfl (ZpA (decide_eq_false (by show ¬(i:Int) < 0;omega)) (Zaa rfl ⟨by trivial,by rw[uI,decide_eq_false (by omega)]⟩)),ZpA rfl ⟨λ_ _ _=>Ret (.tuple #[.bool (p i),.int .i64 0]),Zaa rfl ?_⟩⟩
  rw[uI,Int.toNat_natCast,<-Cr]
  refine⟨⟨by omega,by omega⟩,_,rfl,?_,(λv _ _ h=>by unfold Ret at h;rw[h];rfl),?_⟩
  ·have:=Zre t2 (ZaC sa i sc 1) D (sc - i) m11 uJ (λ_=>zq m11 (Mem.le_refl _))
   rw[Ct,Cs]at this
   exact this
  rintro q1 z3 m12 fM uK M1 mI pY
  simp only[Ret,Value.tuple.injEq,Array.mk.injEq,List.cons.injEq,Value.int.injEq,Value.bool.injEq,true_and,and_true]at uK
  obtain⟨rfl,rfl⟩:=uK
  refine ZpA rfl (Zab (λhq=>?_) (λhq=>?_))
  ·have hq:p i=false:=by simpa using hq
   rw[xL]
   refine⟨by trivial,O.length - (j+1),by omega,j+1,by omega,rfl,λy hy=>?_,rfl⟩
   rw[List.take_add_one,hi,List.mem_append]at hy
   rcases hy with hy|hy
   ·exact fL y hy
   ·have:y=i:=by simpa using hy
    rw[this];exact hq
  have hq:p i=true:=by simpa using hq
  rw[Znk fL hi hq]at jD
  simp only at jD
  have ro:=yc i zp
  have qu:(Zb1 (Zgu t2) D).2=0:=by
   rw[<-pe2]
   have dT:=Zbl kG (n:=D.length) (by omega)
   have eL:D.length∈X2.e0 D 0:=(ZtG (s:=D) (show X2.er=(Zap 6 0 0 none 0 [t2]).er from x2)).2.1.2 (by
    have h:=hq
    rw[hp]at h
    rw[hD]
    exact of_decide_eq_true h)
   unfold Zb1
   rw[if_neg (by rw[dT];simp),if_pos eL]
  have ye:∀y∈(Zb1 (Zgu t2) D).1,Zey D.length y:=ZuN
  have lY:(Zb1 (Zgu t1) (S.take i)).1.length<=9:=by
   have eT:(S.take i).length=i:=by rw[List.length_take];omega
   rw[<-pe1]
   rcases Zpd (Zbl kD (n:=(S.take i).length) (by omega))with⟨_,_,h⟩|⟨h,_⟩
   ·rw[h,Zjr];exact Zlu kD
   ·rw[h];simp
  have oT:(Zb1 (Zgu t2) D).1.length<=9:=by
   rw[<-pe2]
   rcases Zpd (Zbl kG (n:=D.length) (by omega))with⟨_,_,h⟩|⟨h,_⟩
   ·rw[h,Zjr];exact Zlu kG
   ·rw[h];simp
  rw[<-hD]at jD
  have yf:=yd.mono mI
  have yg:=uJ.mono mI
  have yh:=uH.mono mI
  obtain⟨Fr,iH,oH⟩:∃F:Fx,(∀l M,F 1 l M=Zcu (Zf5 t1))/\(∀l M,F 5 l M=Zyx (Zgu t1) (S.take i)):=
   ⟨λk _ _=>if k=1 then Zcu (Zf5 t1)else Zyx (Zgu t1) (S.take i),λ_ _=>if_pos rfl,λ_ _=>if_neg (by decide)⟩
  refine⟨Fr,_,rfl,?_,?_,?_⟩
  ·rw[iH];exact Zb8 t1 M1 yf
  ·rw[iH];exact ZaL
  rw[iH]
  refine Zco λA1 m13 kW sg xX=>Zaa rfl ?_
  refine⟨⟨by omega,by omega⟩,_,rfl,?_,?_,?_⟩
  ·rw[oH]
   have:=Zf6 A1 (Zgu t1) sa (S.take i) sc m13 (Zdh oX xX).2 sg (ZmP (yh.mono kW) i)
   rw[show(S.take i).length=i by rw[List.length_take];omega]at this
   exact this
  ·rw[oH];exact Zf7
  rw[oH]
  refine Zp3 λa14 c14 m14 nO sr=>?_
  intro M3 p6 uC uD
  obtain⟨Fs,iH,oH⟩:∃F:Fx,(∀l M,F 1 l M=Zcu (Zf5 t2))/\(∀l M,F 5 l M=Zyx (Zgu t2) D):=
   ⟨λk _ _=>if k=1 then Zcu (Zf5 t2)else Zyx (Zgu t2) D,λ_ _=>if_pos rfl,λ_ _=>if_neg (by decide)⟩
  refine⟨Fs,_,rfl,?_,?_,?_⟩
  ·rw[iH];exact Zb8 t2 M3 (yg.mono p6)
  ·rw[iH];exact ZaL
  rw[iH]
  refine Zco λA2 m15 uB si xY=>Zaa rfl ?_
  refine⟨⟨by omega,by omega⟩,_,rfl,?_,?_,?_⟩
  ·rw[oH]
   exact Zf6 A2 (Zgu t2) (ZaC sa i sc 1) D (sc - i) m15 (Zdh oY xY).2 si (zq m15 (mLt mI (mLt p6 uB)))
  ·rw[oH];exact Zf7
  rw[oH]
  refine Zp3 λa16 c16 m16 pZ gS=>?_
  intro M4 gU uE yi
  rw[ro,qu,jD]
  rw[jD]at oK
  generalize hP:(Zb1 (Zgu t1) (S.take i)).1=P at *
  generalize hQ:(Zb1 (Zgu t2) D).1=Q at *
  refine⟨_,ZgS P a14 c14 M4 (sr.mono (mLt uD gU)) (by omega),(λv _ _ ⟨_,_,h,_⟩=>by rw[h];rfl),?_⟩
  rintro a17 n17 c17 m17 lA ⟨a',c',hv,ss⟩
  obtain⟨rfl,rfl,rfl⟩:a17=a'/\n17=P.length/\c17=c':=by simpa using hv
  have tM:m16.le m17:=mLt yi lA
  have h0_17:m.le m17:=mLt zo (mLt mI (mLt p6 (mLt gU lA)))
  have h9_17:m9.le m17:=mLt kH (mLt gR (mLt mI (mLt p6 (mLt gU lA))))
  refine⟨λxs _ tvs M q=>∃(k:Nat)(a:Option Addr)(c:Nat),k<=Q.length/\xs=[.slice a (P.length+k) c,.int .i64 (k:Nat)]/\tvs=[.slice a (P.length+k) c]/\rowRd M a (plV (P++(Q.take k).map (shP i)))/\q=Q.length - k,⟨_,0,a17,c17,by omega,rfl,rfl,by simpa using ss,rfl⟩,?_⟩
  rintro a18 n18 c18 kk a19 n19 c19 m18 q lB ⟨k,a',c',hk,cJ,fN,fP,rfl⟩
  simp only[List.cons.injEq,Value.slice.injEq,Value.int.injEq,true_and,and_true]at cJ fN
  obtain⟨⟨rfl,rfl,rfl⟩,rfl⟩:=cJ
  obtain⟨rfl,rfl,rfl⟩:=fN
  refine Zab (λiX=>?_) (λrO=>?_)
  rotate_left
  ·have mQ:k=Q.length:=by have:=of_decide_eq_false rO;omega
   subst mQ
   rw[List.take_length]at fP
   have hl:(P++Q.map (shP i)).length=P.length+Q.length:=by simp
   refine⟨true,Zyw (by show(IntKind.i64.wrap (IntKind.i64.wrap ((0:Int)+0)+0) == 0)=true;decide) ⟨Ret (.bool true),trivial,?_,(λv _ _ h=>by unfold Ret at h;rw[h];rfl),?_⟩,m18,mLt h0_17 lB,Mem.le_refl _,by trivial⟩
   ·have:=Zfv (P++Q.map (shP i)) (P++Q.map (shP i)) ea a19 ec c19 m18 (oK.mono (mLt h9_17 lB)) fP (by rw[hl];omega)
    rw[beq_self_eq_true]at this
    rw[<-hl]
    exact this
   ·rintro z m19 oJ hz
    obtain rfl:z=true:=by simpa[Ret]using hz
    exact⟨by trivial,by trivial,rfl⟩
  have iX:k < Q.length:=by have:=of_decide_eq_true iX;omega
  obtain⟨y,hy⟩:∃y,Q[k]?=some y:=⟨_,List.getElem?_eq_getElem iX⟩
  have yj:=ye y (List.mem_of_getElem? hy)
  obtain⟨qb,qo,Cu,zr⟩:∃b o,a16=some ⟨b,o,none⟩/\m18.reads b o (plV Q):=by
   rcases gS.mono (mLt tM lB)with h|h
   ·have:(plV Q).length=0:=by rw[h];rfl
    rw[Ze3]at this;omega
   ·exact h
  obtain⟨y1,y2⟩:=Zyi Q k y hy
  have r5:IntKind.i64.wrap ((k:Int)+1)=((k+1:Nat):Int):=wr1 (by omega)
  rw[r5]
  refine⟨qb,qo,Cu,⟨by omega,by omega⟩,.int .i64 y.1,.int .i64 y.2,?_,λb3=>Zaa rfl ⟨λ_ css _ M=>m18.le M/\css=[[.int .i64 (shP i y).1,.int .i64 (shP i y).2]],⟨λ_ _ _=>λv _ _=>v=.agg #[.int .i64 (-1),.int .i64 (-1)],_,rfl,ZpR m18,(λv _ _ h=>by rw[h];rfl),?_⟩,?_⟩⟩
  ·intro i v hi
   have bF:i < 2:=(List.getElem?_eq_some_iff.1 hi).1
   rw[Int.toNat_natCast]
   have:i=0\/i=1:=by omega
   rcases this with rfl|rfl
   ·cases hi;exact zr _ _ y1
   ·cases hi;exact zr _ _ y2
  ·rintro z1 z2 m19 oJ hz
   obtain⟨rfl,rfl⟩:z1=-1/\z2=-1:=by simpa using hz
   refine⟨_,ZsG _ _ _ _,λM zt mK=>Zab (λcT=>?_) (λheq=>?_)⟩
   ·have vr:¬y=(-1,-1):=λe=>by rw[e]at cT;simp at cT
    have eA:0<=y.1/\y.1<=y.2/\y.2<=D.length:=yj.resolve_left vr
    refine Zaa rfl (Zaa rfl ⟨by trivial,by trivial,zt,?_⟩)
    show[[Value.int .i64 (IntKind.i64.wrap (y.1+(i:Int))),Value.int .i64 (IntKind.i64.wrap (y.2+(i:Int)))]]=_
    rw[ZaO (by omega) (by omega),ZaO (by omega) (by omega)]
    unfold shP
    rw[if_neg vr]
   ·have vr:y=(-1,-1):=by
     have:y.1=-1/\y.2=-1:=by simpa using heq
     exact Prod.ext this.1 this.2
    refine⟨by trivial,by trivial,zt,?_⟩
    rw[vr];unfold shP;rw[if_pos rfl]
  ·rintro cs m19 oJ ⟨zu,cR⟩
   obtain rfl:cs=[.int .i64 (shP i y).1,.int .i64 (shP i y).2]:=by simpa using cR
   refine Zaa rfl λb9 Cv=>?_
   have sV:=Mem.le_add Cv (List.append [Value.int .i64 (shP i y).1,.int .i64 (shP i y).2] [])
   refine⟨.inl Zvd,plV (P++(Q.take k).map (shP i)),[.int .i64 (shP i y).1,.int .i64 (shP i y).2],?_,rfl,(fP.mono oJ).mono sV,.inr ⟨b9,0,rfl,λj v hj=>by rw[Nat.zero_add,Mem.add_same];exact hj⟩,?_,by omega,by omega,λa20 c20 m20 uF lC=>⟨by trivial,?_⟩⟩
   ·rw[Ze3,List.length_append,List.length_map,List.length_take,Nat.min_eq_left (by omega)]
   ·intro u hu
    have:u=.int .i64 (shP i y).1\/u=.int .i64 (shP i y).2:=by simpa using hu
    rcases this with rfl|rfl <;> rfl
   ·refine⟨by trivial,Q.length - (k+1),by omega,k+1,a20,c20,by omega,rfl,rfl,?_,rfl⟩
    have e:P++(Q.take (k+1)).map (shP i)=(P++(Q.take k).map (shP i))++[shP i y]:=by
     rw[List.take_add_one,hy];simp
    rw[e,ZmR]
    exact lC
end Go.Proofs.Ytgclajkldphoaaa
namespace Go.Proofs.Ytgclajkldphoaaa
open Go Go.Eng Go.Rx Go.Proofs Go.RowKit Go.ChangeShapes Go.WideShapes Go.ChangeAt
set_option maxRecDepth 100000
theorem Zh5(H:Type)(enc:TypeId×Value->H)(W:World)(base:Nat)(args:Array Value)(ds gs:List (DataW H))(before:List MemPlace)
  (fZ:∀(j:Nat) t v,Try.f7.params[j]?=some t->args[j]?=some v->Value.okWide Try.prog W .any base t v)
  (hW:DataW.Whole enc Try.prog Try.f7.params.toList Rows.spanFirstSpec.vars false W args.toList ds gs before):
  Calls Try.prog 7 args W λe W'=>∃v,e=.returned v/\Rows.spanFirstSpec.post enc Try.prog Try.f7 false true false false W args v W':=by
 have hW':=hW
 obtain⟨p,q,Cw,hV,rfl,jM,dI⟩:=hW
 have hA:DataW.TrodAll enc Try.prog W 0 (λ_=>true) true Try.f7.params.toList args.toList ds p:=Cw
 rw[Try.params7]at hA fZ
 obtain⟨v0,v1,v2,d0,d1,d2,p0,p1,p2,rfl,rfl,rfl,h0,h1,h2⟩:=trodAll_three hA
 obtain⟨rfl,rfl⟩:=trodVars_none hV
 obtain⟨L,pa,pc,rfl,hL,xO⟩:=ZkB (fZ 0 _ v0 rfl rfl) h0
 obtain⟨L2,qa,qc,rfl,xP,sG⟩:=ZkB (fZ 1 _ v1 rfl rfl) h1
 obtain⟨s,sa,sc,rfl,hs,sO,Cx⟩:=Zyb (fZ 2 _ v2 rfl rfl) h2
 exact Ztw (tb:=4) Zx9 (by rw[Try.params7];intro t ht;simp at ht;rcases ht with rfl|rfl <;> exact⟨by kernel_rfl,of_decide_eq_true (by kernel_rfl)⟩) hW' rfl rfl rfl rfl rfl Try.underlying4 (ZjW L L2 pa qa pc qc s sa sc (ZwB W) hL xO xP sG hs sO)
theorem ZjX(os:Os)(started:os.Started)(H:Type)(enc:TypeId×Value->H):
  ReturnsInHanded {} Try.checked os 7 .any (Rows.spanFirstSpec.pre6 enc Try.prog Try.f7 Rows.spanFirstRow.domain false) (Rows.spanFirstSpec.post enc Try.prog Try.f7 false true false false):=by
 refine returnsInHanded_of_change (C:=Try.checked) Zzn started (by kernel_rfl) Try.func7
  (ChangeSpec.witness6 (enc:=enc) (C:=Try.checked) false ⟨#[],#[.slice none 0 0,.slice none 0 0,.slice none 0 0],[]⟩ 8 (by kernel_rfl) (by kernel_rfl) (by kernel_rfl) (by kernel_rfl)) ?_
 intro W base args ds gs before fZ hW _ _
 exact Zh5 H enc W base args ds gs before fZ hW
theorem spfirst_holds:Rows.SpanFirstSaid:=
 OpenClaim.holds_of_wide 7 Try.f7 rfl rfl rfl rfl rfl rfl rfl ⟨rfl,rfl,rfl,rfl,rfl⟩ rfl rfl rfl rfl rfl (by kernel_rfl) Try.func7 (by kernel_rfl)
  (of_decide_eq_true (by kernel_rfl)) (by unfold Func.isWrapper;first|(rw[if_pos (by decide +kernel)];kernel_rfl)|(rw[if_neg (by decide +kernel)];exact⟨rfl,rfl⟩))
  (λos started H enc _=>ZjX os started H enc)
#print axioms spfirst_holds
end Go.Proofs.Ytgclajkldphoaaa