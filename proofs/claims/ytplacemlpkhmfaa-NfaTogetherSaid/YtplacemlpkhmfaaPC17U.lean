/- Part of the proof: conditions and contracts of functions of this program. No condition of its own. -/
import Derived.Test.YtplacemlpkhmfaaPVNG
import Derived.Test.YtplacemlpkhmfaaPC17Q
import Derived.Test.YtplacemlpkhmfaaPC17R
import Derived.Test.YtplacemlpkhmfaaPC17N
import Derived.Test.YtplacemlpkhmfaaPC17O
import Derived.Test.YtplacemlpkhmfaaPC13J
import Derived.Test.YtplacemlpkhmfaaPC13N
import Derived.Test.YtplacemlpkhmfaaMr
set_option linter.unusedVariables false
set_option linter.unusedSimpArgs false
namespace Go.Proofs.Ytplacemlpkhmfaa
open Go Go.Eng Go.Rx Go.Proofs Go.RowKit
set_option maxRecDepth 100000
theorem Zuo{m:Mem}{a:Option Addr}{s:List Nat}(h:Byt m a s)(i n c:Nat)(hc:s.length≤c)(hn:n≤s.length)(hi:i≤n):Byt m (Za3 a i c 1) ((s.drop i).take (n - i)):=by
 refine⟨?_,fun x hx=>h.2 x (List.mem_of_mem_drop (List.mem_of_mem_take hx))⟩
 rcases h.1 with h|⟨b,o,h1,h2⟩
 ·subst h;left;simp
 ·by_cases hz:n - i=0
  ·left;rw[hz];simp
  ·right
   have hs:Za3 a i c 1=some ⟨b,o+i,none⟩:=by
    subst h1
    unfold Za3
    cases i with
    | zero=>rfl
    | succ i=>
     have e1:Nat.beq (i+1) 0=false:=rfl
     have e2:Nat.beq c (i+1)=false:=by
      cases hb:Nat.beq c (i+1)with
      | false=>rfl
      | true=>have:=Nat.eq_of_beq_eq_true hb;omega
     rw[e1,e2]
     simp[Addr.add]
   refine⟨b,o+i,hs,fun j v hj=>?_⟩
   rw[List.map_take,List.getElem?_take]at hj
   split at hj
   ·rw[List.map_drop,List.getElem?_drop]at hj
    rw[Nat.add_assoc];exact h2 (i+j) v hj
   ·cases hj
theorem ZvG{m:Mem}{a:Option Addr}{s:List Nat}(h:Byt m a s)(k:Nat):Byt m a (s.take k):=by
 refine⟨?_,fun c hc=>h.2 c (List.mem_of_mem_take hc)⟩
 rcases h.1 with h1|⟨b,o,h1,h2⟩
 ·left;rw[h1];simp
 ·exact .inr ⟨b,o,h1,fun j v hj=>h2 j v (by
   rw[List.map_take,List.getElem?_take]at hj
   split at hj
   ·exact hj
   ·cases hj)⟩
theorem Zwb(A:Nf)(hr:A.right=true)(hq:∀q∈A.sets,QOk q)(a1 a2 a3 a4:Option Addr)(n1 c1 n2 c2 n3 c3 n4 c4:Nat)(e:Bool)(S:List Nat)(sa:Option Addr)(sc b i j:Nat)(m:Mem)
  (hN:NfR true A (.agg #[.slice a1 n1 c1,.slice a2 n2 c2,.slice a3 n3 c3,.slice a4 n4 c4,.bool e]) m) (hb:m.reads b 0 [.slice sa S.length sc]) (hS:Byt m sa S) (qi:S.length≤sc) (hl:S.length≤12) (kD:i≤j) (hj:j≤S.length):
  CX Try.prog 31 #[.agg #[.slice a1 n1 c1,.slice a2 n2 c2,.slice a3 n3 c3,.slice a4 n4 c4,.bool e],.int .i64 i,.int .i64 j,.pointer (some ⟨b,0,none⟩)] m [] (Ret (.bool (A.matches ((S.drop i).take (j - i))))):=by
 apply ZdH
 unfold Zcl
 intro b4 m1 bJ _
 have h:=Zj9 A hq _ ((S.drop i).take (j - i)) (Za3 sa i sc 1) (sc - i) m1 (hN.mono bJ) (Zuo (hS.mono bJ) i j sc qi hj kD) (by simp;omega)
 rw[hr,if_pos rfl,Bool.true_and,show((S.drop i).take (j - i)).length=j - i by simp;omega]at h
 refine⟨fun _ _ _=>Ret (.tuple #[.bool (A.matches ((S.drop i).take (j - i))),.int .i64 0]),.slice sa S.length sc,bJ _ _ _ (hb 0 _ rfl),Zab rfl ?_⟩
 simp only[Int.toNat_natCast,slA,slC]
 refine⟨⟨by omega,by omega⟩,⟨by omega,by omega⟩,_,rfl,h,(by rintro v m' css rfl;rfl),?_⟩
 intro b1 n m2 bP hv M gC fJ
 simp only[Ret,Value.tuple.injEq,Array.mk.injEq,List.cons.injEq,Value.bool.injEq,Value.int.injEq,true_and,and_true]at hv
 obtain⟨rfl,rfl⟩:=hv
 exact⟨A.matches ((S.drop i).take (j - i)),Zaa (fun h=>⟨by trivial,Zay (by rw[h];rfl)⟩) (fun h=>⟨by trivial,Zay (by rw[h])⟩),Zag (Mem.le_trans bJ gC) rfl⟩
theorem Zrn(l:List Nat):(Zif l).length=l.length:=by simp[Zif]
theorem ZsK(n:Nat):List.flatten (List.replicate n [Value.int .i64 0])=Zif (ZkS (fun _=>false) n):=by
 have h:List.flatten (List.replicate n [Value.int .i64 0])=List.replicate n (Value.int .i64 0):=by
  induction n with
  | zero=>rfl
  | succ n ih=>rw[List.replicate_succ,List.flatten_cons,ih];rfl
 rw[h]
 refine List.ext_getElem? fun i=>?_
 unfold Zif
 rw[List.getElem?_map]
 by_cases hi:i < n
 ·rw[ZiP _ hi];simp[hi]
 ·rw[List.getElem?_eq_none_iff.2 (by simp;omega),List.getElem?_eq_none_iff.2 (by rw[ZfO];omega)];rfl
theorem Zro(l:List Nat)(i:Nat):(Zif l).set i (.int .i64 1)=Zif (l.set i 1):=by simp[Zif,List.map_set]
theorem Zm8{p:Nat→Bool}{n i:Nat}(h:i < n):(Zif (ZkS p n))[i*1]?=some (.int .i64 ((if p i then 1 else 0:Nat):Int)):=by
 unfold Zif
 rw[List.getElem?_map,Nat.mul_one,ZiP _ h]
 rfl
theorem ZvH(b:Bool):(((if b then 1 else 0:Nat):Int) == 1)=b:=by cases b <;> rfl
def ZxZ(R Q:Re)(n:Nat):List Value→List (List Value)→List Value→Mem→Nat→Prop:=fun xs _ _ _ q=>∃i:Nat,i≤n+1∧xs=[.bool (ZvM R Q n i),.int .i64 i]∧q=n+1 - i
def Zx0(R:Re)(n:Nat):List Value→List (List Value)→List Value→Mem→Nat→Prop:=fun xs css _ _ q=>∃i:Nat,i≤n∧xs=[.int .i64 i]∧css=[Zif (ZkS (Zmu R i 0) (n+1))]∧q=n - i
def ZxT(R:Re)(n i:Nat):List Value→List (List Value)→List Value→Mem→Nat→Prop:=fun xs css _ _ q=>∃k:Nat,i < k∧k≤n+1∧xs=[.int .i64 k]∧css=[Zif (ZkS (Zmu R i k) (n+1))]∧q=n+1 - k
set_option maxHeartbeats 1600000 in
theorem Zjm(L:List (Nat×Nat×Nat))(pa:Option Addr)(pc:Nat)(L2:List (Nat×Nat×Nat))(qa:Option Addr)(qc:Nat)(s:List Nat)(sa:Option Addr)(sc:Nat)(m:Mem)(hL:Sm m pa L)(tg:L.length≤pc)(mC:Sm m qa L2)(ti:L2.length≤qc)(hs:Byt m sa s)(qi:s.length≤sc):
  CX Try.prog 7 #[.slice pa L.length pc,.slice qa L2.length qc,.slice sa s.length sc] m [] (Ret (.bool true)):=by
 apply Zey
 unfold ZcL
 intro b
 refine Zai (Zqi m) fun m1 bJ=>Zrq rfl ?_
 refine Zam (Ztg L pa pc m1 (hL.mono bJ) tg) Zba (ZdF fun t m2 bP hr ht=>?_)
 have iy:=Mem.le_trans bJ bP
 refine Zam (Ztg L2 qa qc m2 (mC.mono iy) ti) Zba (ZdF fun u m3 cJ fZ nF b2 b3=>?_)
 have kE:=Mem.le_trans iy cJ
 have hr:=hr.mono cJ
 have tj:(if(12:Int) < (s.length:Int)then(12:Int)else(s.length:Int))=((min 12 s.length:Nat):Int):=by split <;> omega
 have gi:Za3 sa 0 sc 1=sa:=rfl
 simp only[tj,Int.toNat_natCast,Nat.sub_zero,gi]
 have e3:(s.take 12).length=min 12 s.length:=by simp
 have hS:=(ZvG hs 12).mono kE
 rw[←e3]
 generalize s.take 12=S at *
 have tq:S.length≤12:=by omega
 have tr:S.length≤sc:=by omega
 have wz:IntKind.i64.wrap ((S.length:Int)+1)=((S.length+1:Nat):Int):=by rw[ZaA (by omega) (by omega)];rfl
 have lJ:=(Zgq ht).1
 have mU:=(Zgq nF).1
 have eI:=(ZbK ht).1
 have lK:=(ZbK nF).1
 have hf:Fwd (t.M S):=fun i j h=>ZxO lJ h
 simp only[wz,Int.toNat_natCast]
 have nE:=ZsE t m3 hr
 rw[(Zfk ht).1,(Zfk ht).2]at nE
 refine⟨⟨by omega,by omega⟩,Zam nE ZeR (Zrl fun a1 a2 a3 a4 c1 c2 c3 c4 m4 cY hN b5 m5 eA cX=>?_)⟩
 have uk:=Mem.le_trans cY eA
 have jA:=ZsE u m5 (fZ.mono uk)
 rw[(Zfk nF).1,(Zfk nF).2]at jA
 refine Zam jA ZeR (Zrl fun a5 a6 a7 a8 c5 c6 c7 c8 m6 i8 my b7=>Zrq rfl ?_)
 have qj:=Mem.le_trans uk i8
 have hN:=hN.mono (Mem.le_trans eA i8)
 have hS:=hS.mono qj
 have hr:=hr.mono qj
 have fZ:=fZ.mono qj
 have cX:m6.reads b 0 [.slice sa S.length sc]:=cX.mono i8
 have wA:=ZtW hr
 have wB:=ZtW fZ
 have isP:=fun(M:Mem)(hM:m6.le M)(i j:Nat)(kD:i≤j)(hj:j≤S.length)=>Zwb t.auto (ZiO eI) wA _ _ _ _ _ _ _ _ _ _ _ _ _ S sa sc b i j M (hN.mono hM) (cX.mono hM) (hS.mono hM) tr tq kD hj
 have isQ:=fun(M:Mem)(hM:m6.le M)(i j:Nat)(kD:i≤j)(hj:j≤S.length)=>Zwb u.auto (ZiO lK) wB _ _ _ _ _ _ _ _ _ _ _ _ _ S sa sc b i j M (my.mono hM) (cX.mono hM) (hS.mono hM) tr tq kD hj
 have subP:=fun(i j:Nat)(kD:i≤j)(hj:j≤S.length)=>Zrb (S:=S) eI lJ kD hj
 have subQ:=fun(i j:Nat)(kD:i≤j)(hj:j≤S.length)=>Zrb (S:=S) lK mU kD hj
 clear hN my hL mC hs nE jA
 refine⟨ZxZ (t.M S) (u.M S) S.length,⟨_,0,by omega,by simp[ZvM],rfl⟩,?_⟩
 rintro cb n26 m7 q7 kX ⟨i,hi,eG,rfl⟩
 simp only[List.cons.injEq,Value.bool.injEq,Value.int.injEq,true_and,and_true]at eG
 obtain⟨rfl,rfl⟩:=eG
 refine Zaa (fun bM=>?_) (fun cR=>?_)
 ·have hi':i≤S.length:=by have:=of_decide_eq_true bM;omega
  have pD:IntKind.i64.wrap ((i:Int)+1)=((i+1:Nat):Int):=by rw[ZaA (by omega) (by omega)];rfl
  have hc:=Zsj (subP 0 i (by omega) hi') (subQ i S.length hi' (by omega))
  have ip:=isP m7 kX 0 i (by omega) hi'
  simp only[Int.natCast_zero]at ip
  rw[pD]
  refine⟨ZvM (t.M S) (u.M S) S.length (i+1),Zaa (fun h=>?_) (fun h=>Zai ip fun m8 kp=>Zaa (fun h1=>Zai (isQ m8 (Mem.le_trans kX kp) i S.length hi' (by omega)) fun m9 nA=>?_) (fun h1=>?_)),?_⟩
  ·exact⟨by trivial,Zay (by rw[hc,h];rfl)⟩
  ·exact⟨by trivial,Zay (by rw[hc,h,h1];rfl)⟩
  ·exact⟨by trivial,Zay (by rw[hc,h,h1];rfl)⟩
  ·exact⟨by trivial,_,by omega,i+1,by omega,rfl,rfl⟩
 ·have wC:i=S.length+1:=by have:=of_decide_eq_false cR;omega
  subst wC
  clear cR hi
  refine⟨⟨by omega,by omega,by omega,by omega⟩,fun b9=>⟨fun _ css _ _=>css=[Zif (ZkS (Zmu (t.M S) 0 0) (S.length+1))],?_,?_⟩⟩
  ·rw[ZsK]
   refine⟨⟨by omega,by omega⟩,Zon (i:=0) (cs:=Zif (ZkS (fun _=>false) (S.length+1))) (n:=S.length+1) (v:=.int .i64 1) (P:=fun l=>True∧([l]:List (List Value))=[Zif (ZkS (Zmu (t.M S) 0 0) (S.length+1))]) (by rw[Zrn,ZfO]) (by omega) ⟨trivial,?_⟩⟩
   rw[Zro,Zsi _ _ (by omega)]
  intro cs0 m8 kp hJ
  obtain rfl:cs0=Zif (ZkS (Zmu (t.M S) 0 0) (S.length+1)):=by simpa using hJ
  clear hJ
  refine⟨Zx0 (t.M S) S.length,⟨_,0,by omega,rfl,rfl,rfl⟩,?_⟩
  rintro n28 cs1 m9 q9 nA ⟨i,hi,eG,cG,rfl⟩
  obtain rfl:n28=i:=by simpa using eG
  obtain rfl:cs1=_:=by simpa using cG
  clear eG cG
  have pE:=Mem.le_trans kX (Mem.le_trans kp nA)
  refine Zaa (fun bM=>?_) (fun cR=>?_)
  ·have hi':i < S.length:=by have:=of_decide_eq_true bM;omega
   have pD:IntKind.i64.wrap ((i:Int)+1)=((i+1:Nat):Int):=by rw[ZaA (by omega) (by omega)];rfl
   rw[pD]
   refine⟨ZxT (t.M S) S.length i,⟨_,i+1,by omega,by omega,rfl,by rw[Zvj],rfl⟩,?_⟩
   rintro n30 cs2 m10 q10 jz ⟨k,hk,gA,eG,cG,rfl⟩
   obtain rfl:n30=k:=by simpa using eG
   obtain rfl:cs2=_:=by simpa using cG
   clear eG cG
   have tu:=Mem.le_trans pE jz
   refine⟨decide (k≤S.length)&&Zmu (t.M S) i k i,?_,?_⟩
   ·refine Zaa (fun h=>⟨⟨by omega,by omega⟩,Zan (Zm8 (by omega)) (Zab rfl ⟨trivial,Zay ?_⟩)⟩) (fun h=>⟨trivial,Zay ?_⟩)
    ·have:k≤S.length:=by have:=of_decide_eq_true h;omega
     show((((if Zmu (t.M S) i k i then 1 else 0:Nat):Int) == 1))=_
     rw[ZvH];simp[this]
    ·have:¬k≤S.length:=by have:=of_decide_eq_false h;omega
     simp[this]
   refine Zaa (fun tw=>?_) (fun iq=>?_)
   ·rw[Bool.and_eq_true]at tw
    have mZ:k≤S.length:=of_decide_eq_true tw.1
    have cL:=(Zm3 hf).1 tw.2
    have wD:IntKind.i64.wrap ((k:Int)+1)=((k+1:Nat):Int):=by rw[ZaA (by omega) (by omega)];rfl
    rw[wD]
    have dC:=subP i k (by omega) mZ
    refine Zai (isP m10 tu i k (by omega) mZ) fun m11 kv=>Zaa (fun h=>⟨⟨by omega,by omega⟩,?_⟩) (fun h=>?_)
    ·refine Zon (i:=k) (cs:=Zif (ZkS (Zmu (t.M S) i k) (S.length+1))) (n:=S.length+1) (v:=.int .i64 1) (P:=fun l=>True∧∃n':Nat,n' < S.length+1 - k∧ZxT (t.M S) S.length i [.int .i64 ((k+1:Nat):Int)] [l] [] m11 n') (by rw[Zrn,ZfO]) (by omega) ⟨trivial,_,?_,k+1,by omega,by omega,rfl,?_,rfl⟩
     ·omega
     ·rw[Zro,Zvk (by omega) hk cL (dC.1 h)]
    ·refine⟨trivial,_,?_,k+1,by omega,by omega,rfl,?_,rfl⟩
     ·omega
     ·rw[Zt2 (fun hh=>by rw[dC.2 hh]at h;cases h)]
   ·have tx:k=S.length+1∨¬ZuC (t.M S) i:=by
     rw[Bool.and_eq_false_iff]at iq
     rcases iq with h|h
     ·left;have:=of_decide_eq_false h;omega
     ·right;intro hh;rw[(Zm3 hf).2 hh]at h;cases h
    exact⟨trivial,_,by omega,i+1,by omega,rfl,by rw[Zt3 hf tx],rfl⟩
  ·have gQ:i=S.length:=by have:=of_decide_eq_false cR;omega
   subst gQ
   clear cR hi
   have wE:=pE
   have tz:=hr.mono pE
   have wF:=fZ.mono pE
   have eT:=Zfl ht
   have kY:=Zfl nF
   have lL:∀x∈[t,u],x.clean=true:=by
    intro x hx
    simp at hx
    rcases hx with rfl|rfl
    ·exact eT
    ·exact kY
   have lM:∀(M:Mem)(b5:Nat),m9.le M→(∀j v,(Rx.Zco [t,u])[j]?=some v→M b5 j=some v)→RepL M (some ⟨b5,0,none⟩) [t,u]:=fun M b5 cN h=>ZlI (.inr ⟨b5,0,rfl,fun j v hj=>by rw[Nat.zero_add];exact h j v hj⟩) (by
    intro x hx
    simp at hx
    rcases hx with rfl|rfl
    ·exact tz.mono cN
    ·exact wF.mono cN) (by simp)
   refine⟨fun k _ _=>bif Nat.beq k 3 then Zgo (fun t'=>∃a c,ZvL 4 a c T0 (Zcn 4 0 [t,u]) t')else bif Nat.beq k 7 then Zgo (fun t'=>∃a c,ZvL 3 a c T1 (Zcn 3 1 [t,u]) t')else bif Nat.beq k 9 then Zgo (Zvc t 0 (-1))else Zgo (fun t'=>∃a c,Zv8 (Zbb 6 0 0 a c [t]) t'),fun b5 wG=>⟨_,rfl,Zxu [t,u] (some ⟨b5,0,none⟩) 2 _ (lM _ b5 (Mem.le_add wG _) (fun j v hj=>by rw[Mem.add_same];exact hj)) (by simp) lL,Zba,ZdF fun w1 m10 jz eJ nn b6 ly V oT t3 sf=>?_⟩⟩
   refine⟨_,rfl,Zwz [t,u] (some ⟨b6,0,none⟩) 2 _ (lM _ b6 oT (fun j v hj=>sf _ _ _ (by rw[Mem.add_same];exact hj))) (by simp) lL,Zba,ZdF fun w2 m11 kv eH nq=>?_⟩
   have ul:m9.le m11:=Mem.le_trans oT kv
   refine⟨_,rfl,Zun t 0 _ m11 (tz.mono ul) eT,Zba,ZdF fun w3 m12 iv jG wH=>?_⟩
   refine⟨_,rfl,Zqm t m12 (tz.mono (Mem.le_trans ul iv)),Zba,ZdF fun w4 m13 iQ oO tA b10 pq M gC fJ ju jI sr nw lF w7=>?_⟩
   have wI:m9.le M:=gC
   have pF:=Mem.le_trans pE wI
   have eJ:=eJ.mono ju
   have eH:=eH.mono sr
   have jG:=jG.mono nw
   have oO:=oO.mono lF
   obtain⟨_,_,nn⟩:=nn
   obtain⟨_,_,nq⟩:=nq
   obtain⟨_,_,tA⟩:=tA
   have jF:=fun h0:w1.check=0=>Zxr ht nF nn h0 S
   have nV:=fun h0:w2.check=0=>Zwq ht nq h0 S
   have wJ:=fun h0:w3.check=0=>Zt4 ht wH h0 S
   have wK:=fun h0:w4.check=0=>Zt5 ht tA h0 S
   have eS:(S.drop 0).take (S.length - 0)=S:=by simp
   have isPn:=fun(M':Mem)(h:M.le M')=>isP M' (Mem.le_trans pF h) 0 S.length (Nat.zero_le _) (Nat.le_refl _)
   have isQn:=fun(M':Mem)(h:M.le M')=>isQ M' (Mem.le_trans pF h) 0 S.length (Nat.zero_le _) (Nat.le_refl _)
   simp only[eS,Int.natCast_zero]at isPn isQn
   generalize t.auto.matches S=nm at *
   generalize u.auto.matches S=um at *
   generalize w8:ZvM (t.M S) (u.M S) S.length (S.length+1)=ct at *
   generalize me:Zmu (t.M S) S.length 0 S.length=tm at *
   refine⟨fun xs css tvs m' q=>∃i:Nat,i≤4∧xs=[.int .i64 i]∧q=4 - i,⟨_,0,by omega,rfl,rfl⟩,?_⟩
   rintro z m14 q14 gY ⟨i,w9,eG,rfl⟩
   obtain rfl:z=i:=by simpa using eG
   refine Zaa (fun bM=>?_) (fun cR=>⟨m14,Mem.le_trans kE (Mem.le_trans qj (Mem.le_trans pF gY)),Mem.le_refl _,by trivial⟩)
   have iB:i < 4:=by have:=of_decide_eq_true bM;omega
   have pD:IntKind.i64.wrap ((i:Int)+1)=((i+1:Nat):Int):=by rw[ZaA (by omega) (by omega)];rfl
   rw[pD]
   obtain⟨w,want,cG,iC,qk,tB⟩:∃(w:T)(want:Bool),List.take 8 (List.drop (Int.toNat (i:Int)*8) (w1.cs++(w2.cs++(w3.cs++w4.cs))))=w.cs∧Rep M w∧([.bool (nm||um),.bool ct,.bool tm,.bool nm]:List Value)[Int.toNat (i:Int)*1]?=some (.bool want)∧(w.check=0→w.auto.matches S=want):=by
    rcases(show i=0∨i=1∨i=2∨i=3 by omega)with rfl|rfl|rfl|rfl
    ·exact⟨w1,_,rfl,eJ,rfl,jF⟩
    ·exact⟨w2,_,rfl,eH,rfl,nV⟩
    ·exact⟨w3,_,rfl,jG,rfl,wJ⟩
    ·exact⟨w4,_,rfl,oO,rfl,wK⟩
   have cG:List.take 8 (List.drop (Int.toNat (i:Int)*8) (ZaD w1.k w1.s0 w1.s1 w1.s2 w1.s3 w1.mn w1.mx w1.a w1.subs.length w1.c w2.k w2.s0 w2.s1 w2.s2 w2.s3 w2.mn w2.mx w2.a w2.subs.length w2.c w3.k w3.s0 w3.s1 w3.s2 w3.s3 w3.mn w3.mx w3.a w3.subs.length w3.c w4.k w4.s0 w4.s1 w4.s2 w4.s3 w4.mn w4.mx w4.a w4.subs.length w4.c))=w.cs:=cG
   rw[cG]
   refine⟨⟨by omega,by omega⟩,Zab (Nat.ble_eq_true_of_le (by omega)) fun b13=>Zab rfl ?_⟩
   have ky:=iC.mono gY
   refine Zam (ZsE w m14 ky) ZeR (Zrl fun a9 a10 a11 a12 c9 c10 c11 c12 m15 kZ un b15=>Zab rfl ?_)
   refine Zdv (Zt9 false false w m15 (ky.mono kZ)) fun m16 je=>Zaa (fun wL=>⟨by trivial,_,by omega,i+1,by omega,rfl,rfl⟩) (fun cH=>?_)
   have qm:w.check=0:=by simpa using cH
   have tB:=tB qm
   rw[(Zfk qm).1]at un ⊢
   rw[(Zfk qm).2]
   have mV:=Mem.le_trans gY kZ
   have k5:=Mem.le_trans mV je
   have isW:=fun(M':Mem)(h:m15.le M')=>Zwb w.auto (ZiO (ZbK qm).1) (ZtW ky) _ _ _ _ _ _ _ _ _ _ _ _ _ S sa sc b 0 S.length M' (un.mono h) (cX.mono (Mem.le_trans pF (Mem.le_trans mV h))) (hS.mono (Mem.le_trans pF (Mem.le_trans mV h))) tr tq (Nat.zero_le _) (Nat.le_refl _)
   simp only[eS,Int.natCast_zero,tB]at isW
   have uo:∀(x:Bool),((((if x then 1 else 0:Nat):Int) == 1))=x:=ZvH
   refine⟨fun k _ _=>bif Nat.beq k 10 then Ret (.bool um)else Ret (.bool nm),_,rfl,isPn m16 k5,(fun v _ _ e=>by rw[e];rfl),?_⟩
   intro bA m17 jf pG
   have pG:Ret (.bool nm) (.bool bA) m17 []:=pG
   have pG:bA=nm:=by simpa[Ret]using pG
   subst pG
   have xb:=Mem.le_trans je jf
   refine Zaa (fun hA=>?_) (fun hA=>?_)
   ·refine⟨⟨by omega,by omega⟩,Zan (Zm8 (by omega)) (Zab rfl ⟨_,rfl,isPn m17 (Mem.le_trans k5 jf),(fun v _ _ e=>by rw[e];rfl),?_⟩)⟩
    intro bB m18 kw kA b9 sI
    have kA:Ret (.bool bA) (.bool bB) m18 []:=kA
    have kA:bB=bA:=by simpa[Ret]using kA
    subst kA
    refine⟨⟨by omega,by omega⟩,Zan (v:=.bool want) ?_ fun N iW my tj wM wN=>?_⟩
    ·show([.bool true,.bool ct,.bool ((((if Zmu (t.M S) S.length 0 S.length then 1 else 0:Nat):Int) == 1)),.bool bB]:List Value)[Int.toNat (i:Int)*1]?=_
     rw[uo,me]
     rw[hA,Bool.true_or]at qk
     rw[hA];exact qk
    ·exact⟨false,Zrq rfl (Zai (isW N (Mem.le_trans je iW)) fun m19 jB=>Zab rfl ⟨trivial,Zay (by cases want <;> rfl)⟩),Zrq rfl ⟨trivial,_,by omega,i+1,by omega,rfl,rfl⟩⟩
   ·refine⟨_,rfl,isQn m17 (Mem.le_trans k5 jf),(fun v _ _ e=>by rw[e];rfl),?_⟩
    intro bB m18 kw kA
    have kA:Ret (.bool um) (.bool bB) m18 []:=kA
    have kA:bB=um:=by simpa[Ret]using kA
    subst kA
    refine⟨⟨by omega,by omega⟩,Zan (Zm8 (by omega)) (Zab rfl ⟨_,rfl,isPn m18 (Mem.le_trans (Mem.le_trans k5 jf) kw),(fun v _ _ e=>by rw[e];rfl),?_⟩)⟩
    intro bC m19 jB pH b9 sI
    have pH:Ret (.bool bA) (.bool bC) m19 []:=pH
    have pH:bC=bA:=by simpa[Ret]using pH
    subst pH
    refine⟨⟨by omega,by omega⟩,Zan (v:=.bool want) ?_ fun N iW my tj wM wN=>?_⟩
    ·show([.bool bB,.bool ct,.bool ((((if Zmu (t.M S) S.length 0 S.length then 1 else 0:Nat):Int) == 1)),.bool bC]:List Value)[Int.toNat (i:Int)*1]?=_
     rw[uo,me]
     rw[hA,Bool.false_or]at qk
     rw[hA];exact qk
    ·exact⟨false,Zrq rfl (Zai (isW N (Mem.le_trans je iW)) fun m19 jB=>Zab rfl ⟨trivial,Zay (by cases want <;> rfl)⟩),Zrq rfl ⟨trivial,_,by omega,i+1,by omega,rfl,rfl⟩⟩
end Go.Proofs.Ytplacemlpkhmfaa

