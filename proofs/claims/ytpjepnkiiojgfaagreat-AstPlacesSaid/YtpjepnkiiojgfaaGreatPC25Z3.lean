/- Part of the proof: functions of the program. No condition. -/
import Derived.Test.YtpjepnkiiojgfaaGreatPVEQ
import Derived.Test.YtpjepnkiiojgfaaGreatPC25E
import Derived.Test.YtpjepnkiiojgfaaGreatMr
import Derived.Test.YtpjepnkiiojgfaaGreatMc
import Derived.Test.YtpjepnkiiojgfaaGreatRows
import Derived.Deep.Slices
import Derived.Laws.IdiomArrays
import Derived.SizedLaws
import Derived.LaidMore
import Derived.Lay
import Derived.SevenTiedAt
import Derived.OpenShut
import Derived.ProofKit
import Derived.Carry
set_option linter.unusedVariables false
set_option linter.unusedSimpArgs false
set_option linter.unusedSectionVars false
namespace Go.Proofs.YtpjepnkiiojgfaaGreat
open Go Go.Eng Go.Rx Go.Proofs Go.RowKit
set_option maxRecDepth 100000
theorem Pl.len5(p:Pl):p.cs.length=5:=rfl
theorem ZcJ{p q:Pl}{r:Bool}(h:ZbQ p q=r)(m:Mem):CX Tryz.prog 12 #[.agg p.cs.toArray,.agg q.cs.toArray] m [] (Ret (.bool r)):=by
 rw[<-h];exact ZmU p q m
set_option maxHeartbeats 1000000 in
theorem Zkz(x:SScr)(p q:Pl)(m:Mem)(hx:RepSC m x):CX Tryz.prog 3 #[.agg x.cs.toArray,.agg p.cs.toArray,.agg q.cs.toArray] m [] (Ret (.bool true)):=by
 apply Zd1
 intro b1 m1 aH _ b2 m2 aK _ b3 m3 aR _
 have dh:=mLt aH (mLt aK aR)
 refine Zar (ZnY m3) λm4 bU=>Zmm rfl ?_
 have fx:=mLt dh bU
 refine Zam (Zuw x m4 (hx.mono fx)) Zuu ?_
 rintro n a n1 c a1 n2 c1 m5 cE ⟨s,hv,hr,hk⟩
 simp only[Sc.v,Value.agg.injEq,Array.mk.injEq,List.cons.injEq,Value.int.injEq,Value.slice.injEq,true_and,and_true]at hv
 obtain⟨rfl,⟨rfl,rfl,rfl⟩,rfl,rfl,rfl⟩:=hv
 have ii:=mLt fx cE
 have hl:=hk.light
 have s9:=Zv2 hl
 have gL:=Zrl hl
 have oT:pcC s=1+s.vars.length+s.states.length+Zjo pcS s.states:=rfl
 intro b6
 refine⟨λxs _ _ mm q=>∃i:Nat,i<=s.states.length/\xs=[.int .i64 ((1+s.vars.length+s.states.length+Zjo pcS (s.states.take i):Nat):Int),.int .i64 i]/\q=s.states.length - i,⟨_,0,by omega,?_,rfl⟩,?_⟩
 ·rw[Zai (n:=(1:Int)+(s.vars.length:Nat)) (by omega) (by omega),Zai (by omega) (by omega)]
  simp only[List.take_zero,Zjo,List.map_nil,List.sum_nil,Nat.add_zero]
  congr 2
 rintro z0 z m6 k0 hM ⟨i,hi,bQ,rfl⟩
 simp only[List.cons.injEq,Value.int.injEq,true_and,and_true]at bQ
 obtain⟨rfl,rfl⟩:=bQ
 have gT:IntKind.i64.wrap ((i:Int)+1)=((i+1:Nat):Int):=by rw[Zai (by omega) (by omega)];rfl
 have nH:=hr.mono hM
 refine Zat (λaC=>?_) (λbF=>?_)
 ·have aC:(i:Int) < (s.states.length:Nat):=aC
  obtain⟨y,hy⟩:=Zcz (show i < s.states.length by omega)
  have bO:=ZfV pcS hy
  have dS:=ZoN pcS s.states (i+1)
  have vM:pcS y=y.rules.length+Zjo pcR y.rules:=rfl
  obtain⟨b7,o7,nR,lK⟩:=Zal Sta.len nH.row hy (by omega)
  obtain⟨B,hB⟩:∃B,B=1+s.vars.length+s.states.length+Zjo pcS (s.states.take i):=⟨_,rfl⟩
  rw[<-hB]
  refine⟨b7,o7,nR,⟨by omega,aC⟩,_,_,lK,λb8=>Zaa rfl (Zaa rfl (Zaa rfl ⟨λxs _ _ mm q=>∃k:Nat,k<=y.rules.length/\xs=[.int .i64 ((B+y.rules.length+Zjo pcR (y.rules.take k):Nat):Int),.int .i64 k]/\q=y.rules.length - k,⟨_,0,by omega,?_,rfl⟩,?_⟩))⟩
  ·rw[show slN (.slice y.ra y.rules.length y.rc)=y.rules.length from rfl,Zai (by omega) (by omega)]
   simp only[List.take_zero,Zjo,List.map_nil,List.sum_nil,Nat.add_zero]
   congr 2
  rintro z1 z2 m7 k1 vN ⟨k,lR,bQ,rfl⟩
  simp only[List.cons.injEq,Value.int.injEq,true_and,and_true]at bQ
  obtain⟨rfl,rfl⟩:=bQ
  have gV:IntKind.i64.wrap ((k:Int)+1)=((k+1:Nat):Int):=by rw[Zai (by omega) (by omega)];rfl
  refine Zat (λcY=>?_) (λdg=>?_)
  ·have cY:(k:Int) < (y.rules.length:Nat):=cY
   obtain⟨r,eK⟩:=Zcz (show k < y.rules.length by omega)
   have rO:=ZfV pcR eK
   have vO:=ZoN pcR y.rules (k+1)
   have vP:pcR r=r.acts.length+Zjo pcA r.acts:=rfl
   have pm:=(nH.mono vN).all y (zA2 hy)
   obtain⟨b9,o9,rE,rP⟩:=Zal Ru.len pm.row eK (by omega)
   have vQ:=pm.all r (zA2 eK)
   obtain⟨D,hD⟩:∃D,D=B+y.rules.length+Zjo pcR (y.rules.take k):=⟨_,rfl⟩
   rw[<-hD]
   refine Zaa rfl ⟨b9,o9,rE,⟨by omega,cY⟩,_,_,_,_,_,_,_,_,_,_,_,_,_,_,_,_,rP,λb10=>Zaa rfl (Zaa rfl (Zaa rfl ⟨λxs _ _ mm q=>∃j:Nat,j<=r.acts.length/\xs=[.int .i64 ((D+r.acts.length+Zjo pcA (r.acts.take j):Nat):Int),.int .i64 j]/\q=r.acts.length - j,⟨_,0,by omega,?_,rfl⟩,?_⟩))⟩
   ·rw[show slN (.slice r.aa r.acts.length r.ac)=r.acts.length from rfl,Zai (by omega) (by omega)]
    simp only[List.take_zero,Zjo,List.map_nil,List.sum_nil,Nat.add_zero]
    congr 2
   rintro z3 z4 m8 k2 pt ⟨j,oV,bQ,rfl⟩
   simp only[List.cons.injEq,Value.int.injEq,true_and,and_true]at bQ
   obtain⟨rfl,rfl⟩:=bQ
   have iW:IntKind.i64.wrap ((j:Int)+1)=((j+1:Nat):Int):=by rw[Zai (by omega) (by omega)];rfl
   refine Zat (λeB=>?_) (λfl=>⟨rfl,?_⟩)
   ·have eB:(j:Int) < (r.acts.length:Nat):=eB
    obtain⟨t,ht⟩:=Zcz (show j < r.acts.length by omega)
    have rQ:=ZfV pcA ht
    have vR:=ZoN pcA r.acts (j+1)
    have vS:pcA t=t.parts.length:=rfl
    obtain⟨b11,o11,rR,ol⟩:=Zal Ac.len (vQ.mono pt).row ht (by omega)
    refine Zaa rfl ⟨b11,o11,rR,⟨by omega,eB⟩,_,_,_,_,_,_,_,_,ol,λb12=>Zaa rfl (Zaa rfl ⟨rfl,r.acts.length - (j+1),by omega,j+1,by omega,?_,rfl⟩)⟩
    rw[iW,rQ,vS,show slN (.slice t.pa t.parts.length t.pc)=t.parts.length from rfl,Zai (by omega) (by omega)]
    congr 2
    omega
   ·have fl:¬(j:Int) < (r.acts.length:Nat):=fl
    have:j=r.acts.length:=by omega
    subst this
    rw[List.take_length]
    refine⟨y.rules.length - (k+1),by omega,k+1,by omega,?_,rfl⟩
    rw[gV,rO,vP,hD]
    congr 3
    omega
  ·have dg:¬(k:Int) < (y.rules.length:Nat):=dg
   have:k=y.rules.length:=by omega
   subst this
   rw[List.take_length]
   refine⟨rfl,s.states.length - (i+1),by omega,i+1,by omega,?_,rfl⟩
   rw[gT,bO,vM,hB]
   congr 3
   omega
 have bF:¬(i:Int) < (s.states.length:Nat):=bF
 have:i=s.states.length:=by omega
 subst this
 rw[List.take_length,<-oT,<-gL]
 refine Zam (ZmR s m6 nH) Zhv ?_
 rintro pa pn pc m7 ew ⟨pa',pc',mj,fy⟩
 simp only[Value.slice.injEq]at mj
 obtain⟨rfl,rfl,rfl⟩:=mj
 have eW:=mLt ii hM
 have rC:=mLt eW ew
 refine⟨false,Zmm (by simp) (Zar (ZmU p q m7) λm8 dG=>Zab (λh=>?_) (λh=>?_)),Zmm rfl ?_⟩
 ·refine Zar (ZcJ (ZfW h) m8) λm9 fI=>Zmm rfl (Zar (ZcJ (Bool.eq_false_iff.2 (Ze4 p)) m9) λm10 fm=>⟨rfl,rfl⟩)
 ·exact Zar (ZcJ (Bool.eq_false_iff.2 (Ze4 p)) m8) λm10 fm=>⟨rfl,rfl⟩
 have mG:s.places.length<=20001:=Zgx s
 refine⟨λxs _ _ mm q=>∃i:Nat,i<=s.places.length/\xs=[.int .i64 i]/\q=s.places.length - i,⟨_,0,by omega,rfl,rfl⟩,?_⟩
 rintro z m8 k3 dG ⟨i,hi,hz,rfl⟩
 obtain rfl:z=i:=by simpa using hz
 have gT:IntKind.i64.wrap ((i:Int)+1)=((i+1:Nat):Int):=by rw[Zai (by omega) (by omega)];rfl
 refine Zat (λaC=>⟨false,?_,Zmm rfl ⟨rfl,s.places.length - (i+1),by omega,i+1,by have aC:(i:Int) < (s.places.length:Nat):=aC;omega,by rw[gT],rfl⟩⟩) (λbF=>?_)
 ·have aC:(i:Int) < (s.places.length:Nat):=aC
  refine⟨λk _ _=>bif Nat.beq k 24 then Ret (.bool false)else Ret (.bool true),Zat (λh0=>?_) (λh0 M _ _ _ _=>⟨rfl,rfl⟩)⟩
  have h0:(i:Int) > 0:=h0
  obtain⟨j,rfl⟩:∃j,i=j+1:=⟨i - 1,by omega⟩
  have fB:IntKind.i64.wrap (((j+1:Nat):Int) - 1)=((j:Nat):Int):=by rw[Zai (by omega) (by omega)];omega
  obtain⟨u,hu⟩:=Zcz (show j < s.places.length by omega)
  obtain⟨w,hw⟩:=Zcz (show j+1 < s.places.length by omega)
  have tC:=Zmf s (Nat.lt_succ_self j) hu hw
  have rS:=ZfW tC
  obtain⟨bu,ou,py,jI⟩:=Zal Pl.len5 fy hu (Nat.zero_lt_succ 4)
  obtain⟨bw,ow,rT,lL⟩:=Zal Pl.len5 fy hw (Nat.zero_lt_succ 4)
  rw[fB]
  refine⟨bu,ou,py,⟨by omega,by omega⟩,_,_,_,_,_,jI.mono dG,bw,ow,rT,⟨by omega,by omega⟩,_,_,_,_,_,lL.mono dG,_,rfl,ZcJ tC m8,λv _ _ h=>by rw[show v=_ from h];rfl,?_⟩
  rintro bb m9 fI vT
  obtain rfl:bb=true:=by simpa using(show Value.bool bb=Value.bool _ from vT)
  refine Zmm rfl ⟨bw,ow,rT,⟨by omega,by omega⟩,_,_,_,_,_,lL.mono (mLt dG fI),bu,ou,py,⟨by omega,by omega⟩,_,_,_,_,_,jI.mono (mLt dG fI),_,rfl,ZcJ rS m9,λv _ _ h=>by rw[show v=_ from h];rfl,?_⟩
  rintro bb m10 fm rU
  obtain rfl:bb=false:=by simpa using(show Value.bool bb=Value.bool _ from rU)
  refine Zmm rfl (Zat (λh1=>?_) (λh1 M _ _ _ _=>⟨rfl,rfl⟩))
  have h1:((j+1:Nat):Int) > 1:=h1
  obtain⟨k,rfl⟩:∃k,j=k+1:=⟨j - 1,by omega⟩
  have fc:IntKind.i64.wrap (((k+1+1:Nat):Int) - 2)=((k:Nat):Int):=by rw[Zai (by omega) (by omega)];omega
  obtain⟨t,ht⟩:=Zcz (show k < s.places.length by omega)
  have vU:=Zmf s (show k < k+1+1 by omega) ht hw
  obtain⟨bt,ot,dR,rV⟩:=Zal Pl.len5 fy ht (Nat.zero_lt_succ 4)
  rw[fc]
  have om:=mLt dG (mLt fI fm)
  refine⟨bt,ot,dR,⟨by omega,by omega⟩,_,_,_,_,_,rV.mono om,bw,ow,rT,⟨by omega,by omega⟩,_,_,_,_,_,lL.mono om,_,rfl,ZcJ vU m10,λv _ _ h=>by rw[show v=_ from h];rfl,?_⟩
  rintro bb m11 ij rW M _ _ _ _
  obtain rfl:bb=true:=by simpa using(show Value.bool bb=Value.bool _ from rW)
  exact⟨rfl,rfl⟩
 ·obtain⟨bu,ou,py,jI⟩:=Zal Pl.len5 fy (Zjp hl) (Nat.zero_lt_succ 4)
  have oM:=(zA0 (Zjp hl)).1
  exact⟨bu,ou,py,⟨by omega,by omega⟩,_,_,_,_,_,jI.mono dG,_,ZuI top top,Zaj (mLt rC dG) rfl⟩
end Go.Proofs.YtpjepnkiiojgfaaGreat
namespace Go.Proofs.YtpjepnkiiojgfaaGreat
open Go Go.Eng Go.Rx Go.Proofs Go.RowKit Go.ChangeShapes Go.WideShapes Go.ChangeAt
set_option maxRecDepth 100000
theorem Zry{α:Type}{ZgJ:α->List Value}{k:Nat}(hk:∀z,(ZgJ z).length=k){m:Mem}{b:Nat}:∀{L:List α} {o:Nat},(∀i z,L[i]?=some z->m.reads b (o+i*k) (ZgJ z))->m.reads b o (L.map ZgJ).flatten
 | [],o,h=>λj v hj=>by simp at hj
 | x::L,o,h=>λj v hj=>by
  rw[List.map_cons,List.flatten_cons]at hj
  by_cases aC:j < k
  ·rw[zA5 (by rw[hk];exact aC)]at hj
   have:=h 0 x rfl j v hj
   rwa [Nat.zero_mul,Nat.add_zero]at this
  ·rw[zA4 (by rw[hk];omega),hk]at hj
   have:=Zry hk (L:=L) (o:=o+k) (λi z hz=>by
    have:=h (i+1) z (by simpa using hz)
    rwa [show o+(i+1)*k=o+k+i*k by rw[Nat.succ_mul];omega]at this) (j - k) v hj
   rwa [show o+k+(j - k)=o+j by omega]at this
theorem Zrz{α:Type}{p:Nat->α->Prop}:∀n,(∀i,i < n->∃z,p i z)->∃L:List α,L.length=n/\∀i z,L[i]?=some z->p i z
 | 0,_=>⟨[],rfl,λi z h=>by simp at h⟩
 | n+1,h=>by
  obtain⟨L,hL,hp⟩:=Zrz n λi hi=>h i (by omega)
  obtain⟨z,hz⟩:=h n (by omega)
  refine⟨L++[z],by rw[zA1,hL];rfl,λi y hy=>?_⟩
  by_cases hi:i < n
  ·rw[zA5 (by omega)]at hy;exact hp i y hy
  ·have aC:=(zA0 hy).1
   rw[zA1,hL]at aC
   have aC:i < n+1:=aC
   obtain rfl:i=n:=by omega
   rw[zA4 (by omega),hL,Nat.sub_self]at hy
   obtain rfl:z=y:=by simpa using hy
   exact hz
theorem Zxw{w:World}{a:Addr}{v:Value}(h:w.cell? (a.add 0)=some v):∃b o,a=⟨b,o,none⟩:=by
 obtain⟨b,o,sp⟩:=a
 cases sp with
 | none=>exact⟨b,o,rfl⟩
 | some s=>
  exfalso
  have e:(Addr.add ⟨b,o,some s⟩ 0)=⟨b,o,some s⟩:=rfl
  rw[e]at h
  unfold World.cell? at h
  split at h
  ·simp at h
  ·cases h
section
variable {H:Type} {enc:TypeId×Value->H} {W:World} {bZ:Bool}
theorem Zo6{P:Program}{e:TypeId}:∀{l:List (DataW H)} {d:DataW H},d∈l->∀n∈d.weights P e,n∈DataW.weightsAll P e l
 | x::l,d,hd,n,hn=>by
  simp only[DataW.weightsAll,List.mem_append]
  rcases List.mem_cons.1 hd with rfl|hd
  ·exact .inl hn
  ·exact .inr (Zo6 hd n hn)
theorem ZcT{α:Type}{ZgJ:α->List Value}{Q:α->Prop}{t e:TypeId}{k:Nat}(ht:Tryz.prog.underlying t=some (.slice e))(hc:Tryz.prog.cellsOf e=k)(hk:∀z,(ZgJ z).length=k)(h0:0 < k)(hb:1<=Tryz.prog.bytesOf e){n:Nat}{cs:List Value}{x:DataW H×List MemPlace}
  (h:DataW.trod enc Tryz.prog W 0 (λ_=>true) bZ n t cs=some x) (hw:∀w∈x.1.weights Tryz.prog t,w<=reachBytes)
  (ih:∀n',n' < n->∀(cs':List Value)(y:DataW H×List MemPlace),DataW.trod enc Tryz.prog W 0 (λ_=>true) bZ n' e cs'=some y->(∀w∈y.1.weights Tryz.prog e,w<=reachBytes)->∃z,cs'=ZgJ z/\Q z):
  ∃(L:List α)(a:Option Addr)(cap:Nat),cs=[.slice a L.length cap]/\L.length<=cap/\L.length<=1000000000000000/\rowRd (ZlQ W) a (L.map ZgJ).flatten/\∀z∈L,Q z:=by
 rcases DataW.trod_slice ht h with⟨q4,_⟩|⟨a,len,cap,elems,rest,n',hn',q4,hx,_,hl,hm,sG,nO,_⟩
 ·exact⟨[],none,0,q4,by simp,by simp,.inl rfl,by simp⟩
 rw[hx]at hw
 simp only[DataW.weights,ht,List.length_map]at hw
 have aZ:=hw _ (List.mem_cons_self)
 have aE:len<=1000000000000000:=by
  have h2:=reachBytes_lt
  have h3:(elems.length+rest.length)*1<=(elems.length+rest.length)*Tryz.prog.bytesOf e:=Nat.mul_le_mul_left _ hb
  omega
 rw[hc]at nO
 obtain⟨L,hL,hp⟩:=Zrz (p:=λi z=>(∀j v,(ZgJ z)[j]?=some v->W.cell? ((a.add (i*k)).add j)=some v)/\Q z) len (λi hi=>by
  have h1:=nO i hi
  rw[zA3 (by omega)]at h1
  obtain⟨cs',h2,h3⟩:=Option.bind_eq_some_iff.1 h1
  obtain⟨_,oq,vV⟩:=World.cells?_some h2
  obtain⟨z,rfl,hz⟩:=ih n' (by omega) _ _ h3 (λw gE=>hw w (List.mem_cons_of_mem _ (List.mem_append_left _ (Zo6 (List.mem_map.2 ⟨_,List.getElem_mem _,rfl⟩) w gE))))
  refine⟨z,λj v hj=>?_,hz⟩
  have aC:=(zA0 hj).1
  rw[vV j (by rw[oq]at aC;exact aC)];exact hj)
 refine⟨L,some a,cap,by rw[q4,hL],by omega,by omega,?_,λz hz=>?_⟩
 ·by_cases wC:len=0
  ·left
   obtain rfl:L=[]:=List.eq_nil_of_length_eq_zero (by omega)
   rfl
  ·right
   obtain⟨z,hz⟩:=Zaw (show 0 < L.length by omega)
   have h1:=(hp 0 z hz).1
   obtain⟨u,hu⟩:=Zaw (show 0 < (ZgJ z).length by rw[hk];exact h0)
   have h2:=h1 0 u hu
   rw[Nat.zero_mul]at h2
   have e0:∀b:Addr,(b.add 0).add 0=b.add 0:=λb=>by
    obtain⟨x1,x2,x3⟩:=b
    cases x3 <;> rfl
   rw[e0]at h2
   obtain⟨b,o,rfl⟩:=Zxw h2
   refine⟨b,o,rfl,Zry hk λi z hz j v hj=>?_⟩
   have:=(hp i z hz).1 j v hj
   rw[Zbt,Zbt]at this
   exact this
 ·obtain⟨i,hi⟩:=List.getElem?_of_mem hz
  exact(hp i z hi).2
end
theorem wu8{n:Int}(h:(Lit.int .u8 n).wf=true):0<=n/\n < 256:=by
 have:0<=n/\n<=255:=by simpa[Lit.wf,IntKind.min,IntKind.max,IntKind.signed,IntKind.bits]using h
 omega
theorem Zye{n:Int}(h:(Lit.int .u64 n).wf=true):0<=n/\n < 18446744073709551616:=by
 have:0<=n/\n<=18446744073709551615:=by simpa[Lit.wf,IntKind.min,IntKind.max,IntKind.signed,IntKind.bits]using h
 omega
def s5C(s:Nat×Nat×Nat):List Value:=[.int .u8 s.1,.int .u8 s.2.1,.int .u64 s.2.2]
def s8C(s:Nat×Nat×Nat):List Value:=[.int .u8 s.1,.int .u8 s.2.1,.int .u8 s.2.2]
theorem Zwn{m:Mem}{a:Option Addr}{l:List (Nat×Nat×Nat)}(hl:l.length<=1000000000000000)(h:rowRd m a (l.map s5C).flatten)(hb:∀s∈l,s.1 < 256/\s.2.1 < 256/\s.2.2 < 18446744073709551616):SmE m a l:=⟨by omega,hb,λi s hi=>Zal (cs:=s5C) (n:=3) (λ_=>rfl) h hi (by omega)⟩
theorem Zxx{m:Mem}{a:Option Addr}{l:List (Nat×Nat×Nat)}(hl:l.length<=1000000000000000)(h:rowRd m a (l.map s8C).flatten)(hb:∀s∈l,s.1 < 256/\s.2.1 < 256/\s.2.2 < 256):Sm m a l:=⟨by omega,hb,λi s hi=>Zal (cs:=s8C) (n:=3) (λ_=>rfl) h hi (by omega)⟩
section
variable {H:Type} {enc:TypeId×Value->H} {W:World} {bZ:Bool}
theorem ZrA(n:Nat)(cs:List Value)(x:DataW H×List MemPlace)(h:DataW.trod enc Tryz.prog W 0 (λ_=>true) bZ n 5 cs=some x):∃z:Nat,cs=[.int .u8 z]/\z < 256:=by
 obtain⟨k,q,_,w⟩:=DataW.trod_int Tryz.underlying5 h
 have b:=wu8 w
 obtain⟨z,rfl⟩:∃z:Nat,k=z:=⟨k.toNat,by omega⟩
 exact⟨z,q,by omega⟩
theorem ZwU:Tryz.prog.underlying 217=some (.struct #[⟨ "Kind",5,0,false, "", "",0⟩,⟨ "N",5,1,false, "", "",1⟩,⟨ "Bits",37,2,false, "", "",8⟩]):=by kernel_rfl
theorem ZuQ(n:Nat)(cs:List Value)(x:DataW H×List MemPlace)(h:DataW.trod enc Tryz.prog W 0 (λ_=>true) bZ n 217 cs=some x)(hw:∀w∈x.1.weights Tryz.prog 217,w<=reachBytes):∃s:Nat×Nat×Nat,cs=s5C s/\s.1 < 256/\s.2.1 < 256/\s.2.2 < 18446744073709551616:=by
 obtain⟨xs,k,hk,dx,aE,bQ,hx⟩:=DataW.trod_struct ZwU h
 have hc:Tryz.prog.cellsOf 217=3:=by kernel_rfl
 rw[hc]at aE
 obtain⟨c0,c1,c2,rfl⟩:∃c0 c1 c2,cs=[c0,c1,c2]:=by
  match cs,aE with
  | [c0,c1,c2],_=>exact⟨c0,c1,c2,rfl⟩
 obtain⟨z0,z1,z2,rfl⟩:∃z0 z1 z2,xs=[z0,z1,z2]:=by
  match xs,bQ with
  | [z0,z1,z2],_=>exact⟨z0,z1,z2,rfl⟩
 rw[dx]at hw
 simp only[DataW.weights,ZwU]at hw
 have g0:DataW.trod enc Tryz.prog W 0 (λ_=>true) bZ k 5 (List.take (Tryz.prog.cellsOf 5) (List.drop 0 [c0,c1,c2]))=some z0:=hx 0 _ rfl
 rw[show Tryz.prog.cellsOf 5=1 by kernel_rfl]at g0
 obtain⟨kk0,q0,_,w0⟩:=DataW.trod_int Tryz.underlying5 g0
 have b0:=wu8 w0
 obtain⟨kk,rfl⟩:∃z:Nat,kk0=z:=⟨kk0.toNat,by omega⟩
 have g1:DataW.trod enc Tryz.prog W 0 (λ_=>true) bZ k 5 (List.take (Tryz.prog.cellsOf 5) (List.drop 1 [c0,c1,c2]))=some z1:=hx 1 _ rfl
 rw[show Tryz.prog.cellsOf 5=1 by kernel_rfl]at g1
 obtain⟨nn0,q1,_,w1⟩:=DataW.trod_int Tryz.underlying5 g1
 have b1:=wu8 w1
 obtain⟨nn,rfl⟩:∃z:Nat,nn0=z:=⟨nn0.toNat,by omega⟩
 have g2:DataW.trod enc Tryz.prog W 0 (λ_=>true) bZ k 37 (List.take (Tryz.prog.cellsOf 37) (List.drop 2 [c0,c1,c2]))=some z2:=hx 2 _ rfl
 rw[show Tryz.prog.cellsOf 37=1 by kernel_rfl]at g2
 obtain⟨bb0,q2,_,w2⟩:=DataW.trod_int Tryz.underlying37 g2
 have b2:=Zye w2
 obtain⟨bb,rfl⟩:∃z:Nat,bb0=z:=⟨bb0.toNat,by omega⟩
 simp only[List.drop,List.take,List.cons.injEq,and_true]at q0 q1 q2
 subst q0
 subst q1
 subst q2
 exact⟨(kk,nn,bb),rfl,by show kk < 256;omega,by show nn < 256;omega,by show bb < 18446744073709551616;omega⟩
theorem ZwV:Tryz.prog.underlying 195=some (.struct #[⟨ "Kind",5,0,false, "", "",0⟩,⟨ "N",5,1,false, "", "",1⟩,⟨ "M",5,2,false, "", "",2⟩]):=by kernel_rfl
theorem ZuR(n:Nat)(cs:List Value)(x:DataW H×List MemPlace)(h:DataW.trod enc Tryz.prog W 0 (λ_=>true) bZ n 195 cs=some x)(hw:∀w∈x.1.weights Tryz.prog 195,w<=reachBytes):∃s:Nat×Nat×Nat,cs=s8C s/\s.1 < 256/\s.2.1 < 256/\s.2.2 < 256:=by
 obtain⟨xs,k,hk,dx,aE,bQ,hx⟩:=DataW.trod_struct ZwV h
 have hc:Tryz.prog.cellsOf 195=3:=by kernel_rfl
 rw[hc]at aE
 obtain⟨c0,c1,c2,rfl⟩:∃c0 c1 c2,cs=[c0,c1,c2]:=by
  match cs,aE with
  | [c0,c1,c2],_=>exact⟨c0,c1,c2,rfl⟩
 obtain⟨z0,z1,z2,rfl⟩:∃z0 z1 z2,xs=[z0,z1,z2]:=by
  match xs,bQ with
  | [z0,z1,z2],_=>exact⟨z0,z1,z2,rfl⟩
 rw[dx]at hw
 simp only[DataW.weights,ZwV]at hw
 have g0:DataW.trod enc Tryz.prog W 0 (λ_=>true) bZ k 5 (List.take (Tryz.prog.cellsOf 5) (List.drop 0 [c0,c1,c2]))=some z0:=hx 0 _ rfl
 rw[show Tryz.prog.cellsOf 5=1 by kernel_rfl]at g0
 obtain⟨kk0,q0,_,w0⟩:=DataW.trod_int Tryz.underlying5 g0
 have b0:=wu8 w0
 obtain⟨kk,rfl⟩:∃z:Nat,kk0=z:=⟨kk0.toNat,by omega⟩
 have g1:DataW.trod enc Tryz.prog W 0 (λ_=>true) bZ k 5 (List.take (Tryz.prog.cellsOf 5) (List.drop 1 [c0,c1,c2]))=some z1:=hx 1 _ rfl
 rw[show Tryz.prog.cellsOf 5=1 by kernel_rfl]at g1
 obtain⟨nn0,q1,_,w1⟩:=DataW.trod_int Tryz.underlying5 g1
 have b1:=wu8 w1
 obtain⟨nn,rfl⟩:∃z:Nat,nn0=z:=⟨nn0.toNat,by omega⟩
 have g2:DataW.trod enc Tryz.prog W 0 (λ_=>true) bZ k 5 (List.take (Tryz.prog.cellsOf 5) (List.drop 2 [c0,c1,c2]))=some z2:=hx 2 _ rfl
 rw[show Tryz.prog.cellsOf 5=1 by kernel_rfl]at g2
 obtain⟨bb0,q2,_,w2⟩:=DataW.trod_int Tryz.underlying5 g2
 have b2:=wu8 w2
 obtain⟨bb,rfl⟩:∃z:Nat,bb0=z:=⟨bb0.toNat,by omega⟩
 simp only[List.drop,List.take,List.cons.injEq,and_true]at q0 q1 q2
 subst q0
 subst q1
 subst q2
 exact⟨(kk,nn,bb),rfl,by show kk < 256;omega,by show nn < 256;omega,by show bb < 256;omega⟩
theorem ZrB:Tryz.prog.underlying 158=some (.struct #[⟨ "Kind",5,0,false, "", "",0⟩,⟨ "N",5,1,false, "", "",1⟩,⟨ "Parts",22,2,false, "", "",8⟩,⟨ "Expr",156,3,false, "", "",32⟩]):=by kernel_rfl
theorem Zqy(n:Nat)(cs:List Value)(x:DataW H×List MemPlace)(h:DataW.trod enc Tryz.prog W 0 (λ_=>true) bZ n 158 cs=some x)(hw:∀w∈x.1.weights Tryz.prog 158,w<=reachBytes):∃s:SAct,cs=s.cs/\RepSA (ZlQ W) s:=by
 obtain⟨xs,k,hk,dx,aE,bQ,hx⟩:=DataW.trod_struct ZrB h
 have hc:Tryz.prog.cellsOf 158=4:=by kernel_rfl
 rw[hc]at aE
 obtain⟨c0,c1,c2,c3,rfl⟩:∃c0 c1 c2 c3,cs=[c0,c1,c2,c3]:=by
  match cs,aE with
  | [c0,c1,c2,c3],_=>exact⟨c0,c1,c2,c3,rfl⟩
 obtain⟨z0,z1,z2,z3,rfl⟩:∃z0 z1 z2 z3,xs=[z0,z1,z2,z3]:=by
  match xs,bQ with
  | [z0,z1,z2,z3],_=>exact⟨z0,z1,z2,z3,rfl⟩
 rw[dx]at hw
 simp only[DataW.weights,ZrB]at hw
 have g0:DataW.trod enc Tryz.prog W 0 (λ_=>true) bZ k 5 (List.take (Tryz.prog.cellsOf 5) (List.drop 0 [c0,c1,c2,c3]))=some z0:=hx 0 _ rfl
 rw[show Tryz.prog.cellsOf 5=1 by kernel_rfl]at g0
 obtain⟨kk0,q0,_,w0⟩:=DataW.trod_int Tryz.underlying5 g0
 have b0:=wu8 w0
 obtain⟨kk,rfl⟩:∃z:Nat,kk0=z:=⟨kk0.toNat,by omega⟩
 have g1:DataW.trod enc Tryz.prog W 0 (λ_=>true) bZ k 5 (List.take (Tryz.prog.cellsOf 5) (List.drop 1 [c0,c1,c2,c3]))=some z1:=hx 1 _ rfl
 rw[show Tryz.prog.cellsOf 5=1 by kernel_rfl]at g1
 obtain⟨nn0,q1,_,w1⟩:=DataW.trod_int Tryz.underlying5 g1
 have b1:=wu8 w1
 obtain⟨nn,rfl⟩:∃z:Nat,nn0=z:=⟨nn0.toNat,by omega⟩
 have g2:DataW.trod enc Tryz.prog W 0 (λ_=>true) bZ k 22 (List.take (Tryz.prog.cellsOf 22) (List.drop 2 [c0,c1,c2,c3]))=some z2:=hx 2 _ rfl
 rw[show Tryz.prog.cellsOf 22=1 by kernel_rfl]at g2
 obtain⟨L2,a2,cap2,q2,lN,lO,cN,iZ⟩:=ZcT (ZgJ:=(λn:Nat=>[Value.int .u8 n])) (Q:=(λn:Nat=>n < 256)) (k:=1) (by kernel_rfl) (by kernel_rfl) (λ_=>rfl) (by decide) (zA6 (by kernel_rfl)) g2 (λw gE=>hw w (DataW.weights_mem_each (j:=2) (t:=22) rfl rfl w gE)) λn' _ cs' y hy i4=>ZrA n' cs' y hy
 have g3:DataW.trod enc Tryz.prog W 0 (λ_=>true) bZ k 156 (List.take (Tryz.prog.cellsOf 156) (List.drop 3 [c0,c1,c2,c3]))=some z3:=hx 3 _ rfl
 rw[show Tryz.prog.cellsOf 156=1 by kernel_rfl]at g3
 obtain⟨L3,a3,cap3,q3,rX,rY,iV,ov⟩:=ZcT (ZgJ:=s5C) (Q:=(λs:Nat×Nat×Nat=>s.1 < 256/\s.2.1 < 256/\s.2.2 < 18446744073709551616)) (k:=3) (by kernel_rfl) (by kernel_rfl) (λ_=>rfl) (by decide) (zA6 (by kernel_rfl)) g3 (λw gE=>hw w (DataW.weights_mem_each (j:=3) (t:=156) rfl rfl w gE)) λn' _ cs' y hy i4=>ZuQ n' cs' y hy i4
 simp only[List.drop,List.take,List.cons.injEq,and_true]at q0 q1 q2 q3
 subst q0
 subst q1
 subst q2
 subst q3
 exact⟨⟨kk,nn,a2,L2,cap2,a3,L3,cap3⟩,rfl,⟨by show kk < 256;omega,by show nn < 256;omega,⟨iZ,cN⟩,lO,lN,Zwn rY iV ov,rX⟩⟩
theorem ZrC:Tryz.prog.underlying 108=some (.struct #[⟨ "Kind",5,0,false, "", "",0⟩,⟨ "N",5,1,false, "", "",1⟩,⟨ "Ticks",5,2,false, "", "",2⟩,⟨ "Goto",5,3,false, "", "",3⟩,⟨ "Regex",105,4,false, "", "",8⟩,⟨ "Acts",106,5,false, "", "",32⟩]):=by kernel_rfl
theorem Zqz(n:Nat)(cs:List Value)(x:DataW H×List MemPlace)(h:DataW.trod enc Tryz.prog W 0 (λ_=>true) bZ n 108 cs=some x)(hw:∀w∈x.1.weights Tryz.prog 108,w<=reachBytes):∃s:SRul,cs=s.cs/\RepSR (ZlQ W) s:=by
 obtain⟨xs,k,hk,dx,aE,bQ,hx⟩:=DataW.trod_struct ZrC h
 have hc:Tryz.prog.cellsOf 108=6:=by kernel_rfl
 rw[hc]at aE
 obtain⟨c0,c1,c2,c3,c4,c5,rfl⟩:∃c0 c1 c2 c3 c4 c5,cs=[c0,c1,c2,c3,c4,c5]:=by
  match cs,aE with
  | [c0,c1,c2,c3,c4,c5],_=>exact⟨c0,c1,c2,c3,c4,c5,rfl⟩
 obtain⟨z0,z1,z2,z3,z4,z5,rfl⟩:∃z0 z1 z2 z3 z4 z5,xs=[z0,z1,z2,z3,z4,z5]:=by
  match xs,bQ with
  | [z0,z1,z2,z3,z4,z5],_=>exact⟨z0,z1,z2,z3,z4,z5,rfl⟩
 rw[dx]at hw
 simp only[DataW.weights,ZrC]at hw
 have g0:DataW.trod enc Tryz.prog W 0 (λ_=>true) bZ k 5 (List.take (Tryz.prog.cellsOf 5) (List.drop 0 [c0,c1,c2,c3,c4,c5]))=some z0:=hx 0 _ rfl
 rw[show Tryz.prog.cellsOf 5=1 by kernel_rfl]at g0
 obtain⟨kk0,q0,_,w0⟩:=DataW.trod_int Tryz.underlying5 g0
 have b0:=wu8 w0
 obtain⟨kk,rfl⟩:∃z:Nat,kk0=z:=⟨kk0.toNat,by omega⟩
 have g1:DataW.trod enc Tryz.prog W 0 (λ_=>true) bZ k 5 (List.take (Tryz.prog.cellsOf 5) (List.drop 1 [c0,c1,c2,c3,c4,c5]))=some z1:=hx 1 _ rfl
 rw[show Tryz.prog.cellsOf 5=1 by kernel_rfl]at g1
 obtain⟨nn0,q1,_,w1⟩:=DataW.trod_int Tryz.underlying5 g1
 have b1:=wu8 w1
 obtain⟨nn,rfl⟩:∃z:Nat,nn0=z:=⟨nn0.toNat,by omega⟩
 have g2:DataW.trod enc Tryz.prog W 0 (λ_=>true) bZ k 5 (List.take (Tryz.prog.cellsOf 5) (List.drop 2 [c0,c1,c2,c3,c4,c5]))=some z2:=hx 2 _ rfl
 rw[show Tryz.prog.cellsOf 5=1 by kernel_rfl]at g2
 obtain⟨tt0,q2,_,w2⟩:=DataW.trod_int Tryz.underlying5 g2
 have b2:=wu8 w2
 obtain⟨tt,rfl⟩:∃z:Nat,tt0=z:=⟨tt0.toNat,by omega⟩
 have g3:DataW.trod enc Tryz.prog W 0 (λ_=>true) bZ k 5 (List.take (Tryz.prog.cellsOf 5) (List.drop 3 [c0,c1,c2,c3,c4,c5]))=some z3:=hx 3 _ rfl
 rw[show Tryz.prog.cellsOf 5=1 by kernel_rfl]at g3
 obtain⟨gg0,q3,_,w3⟩:=DataW.trod_int Tryz.underlying5 g3
 have b3:=wu8 w3
 obtain⟨gg,rfl⟩:∃z:Nat,gg0=z:=⟨gg0.toNat,by omega⟩
 have g4:DataW.trod enc Tryz.prog W 0 (λ_=>true) bZ k 105 (List.take (Tryz.prog.cellsOf 105) (List.drop 4 [c0,c1,c2,c3,c4,c5]))=some z4:=hx 4 _ rfl
 rw[show Tryz.prog.cellsOf 105=1 by kernel_rfl]at g4
 obtain⟨L4,a4,cap4,q4,rZ,sb,cH,oz⟩:=ZcT (ZgJ:=s8C) (Q:=(λs:Nat×Nat×Nat=>s.1 < 256/\s.2.1 < 256/\s.2.2 < 256)) (k:=3) (by kernel_rfl) (by kernel_rfl) (λ_=>rfl) (by decide) (zA6 (by kernel_rfl)) g4 (λw gE=>hw w (DataW.weights_mem_each (j:=4) (t:=105) rfl rfl w gE)) λn' _ cs' y hy i4=>ZuR n' cs' y hy i4
 have g5:DataW.trod enc Tryz.prog W 0 (λ_=>true) bZ k 106 (List.take (Tryz.prog.cellsOf 106) (List.drop 5 [c0,c1,c2,c3,c4,c5]))=some z5:=hx 5 _ rfl
 rw[show Tryz.prog.cellsOf 106=1 by kernel_rfl]at g5
 obtain⟨L5,a5,cap5,q5,se,sf,bH,oA⟩:=ZcT (ZgJ:=SAct.cs) (Q:=RepSA (ZlQ W)) (k:=4) (by kernel_rfl) (by kernel_rfl) (λ_=>rfl) (by decide) (zA6 (by kernel_rfl)) g5 (λw gE=>hw w (DataW.weights_mem_each (j:=5) (t:=106) rfl rfl w gE)) λn' _ cs' y hy i4=>Zqy n' cs' y hy i4
 simp only[List.drop,List.take,List.cons.injEq,and_true]at q0 q1 q2 q3 q4 q5
 subst q0
 subst q1
 subst q2
 subst q3
 subst q4
 subst q5
 exact⟨⟨kk,nn,tt,gg,a4,L4,cap4,a5,L5,cap5⟩,rfl,⟨by show kk < 256;omega,by show nn < 256;omega,by show tt < 256;omega,by show gg < 256;omega,Zxx sb cH oz,rZ,sf,se,bH,oA⟩⟩
theorem ZqA(n:Nat)(cs:List Value)(x:DataW H×List MemPlace)(h:DataW.trod enc Tryz.prog W 0 (λ_=>true) bZ n 104 cs=some x)(hw:∀w∈x.1.weights Tryz.prog 104,w<=reachBytes):∃s:SSta,cs=s.cs/\RepSS (ZlQ W) s:=by
 obtain⟨L,a,cap,q,vW,oL,aA,cD⟩:=ZcT (ZgJ:=SRul.cs) (Q:=RepSR (ZlQ W)) (k:=6) (by kernel_rfl) (by kernel_rfl) (λ_=>rfl) (by decide) (zA6 (by kernel_rfl)) h hw λn' _ cs' y hy i4=>Zqz n' cs' y hy i4
 exact⟨⟨a,L,cap⟩,q,⟨oL,vW,aA,cD⟩⟩
theorem Zo7:Tryz.prog.underlying 25=some (.struct #[⟨ "Buffer",5,0,false, "", "",0⟩,⟨ "Values",22,1,false, "", "",8⟩,⟨ "States",23,2,false, "", "",32⟩]):=by kernel_rfl
theorem ZqB(n:Nat)(cs:List Value)(x:DataW H×List MemPlace)(h:DataW.trod enc Tryz.prog W 0 (λ_=>true) bZ n 25 cs=some x)(hw:∀w∈x.1.weights Tryz.prog 25,w<=reachBytes):∃s:SScr,cs=s.cs/\RepSC (ZlQ W) s:=by
 obtain⟨xs,k,hk,dx,aE,bQ,hx⟩:=DataW.trod_struct Zo7 h
 have hc:Tryz.prog.cellsOf 25=3:=by kernel_rfl
 rw[hc]at aE
 obtain⟨c0,c1,c2,rfl⟩:∃c0 c1 c2,cs=[c0,c1,c2]:=by
  match cs,aE with
  | [c0,c1,c2],_=>exact⟨c0,c1,c2,rfl⟩
 obtain⟨z0,z1,z2,rfl⟩:∃z0 z1 z2,xs=[z0,z1,z2]:=by
  match xs,bQ with
  | [z0,z1,z2],_=>exact⟨z0,z1,z2,rfl⟩
 rw[dx]at hw
 simp only[DataW.weights,Zo7]at hw
 have g0:DataW.trod enc Tryz.prog W 0 (λ_=>true) bZ k 5 (List.take (Tryz.prog.cellsOf 5) (List.drop 0 [c0,c1,c2]))=some z0:=hx 0 _ rfl
 rw[show Tryz.prog.cellsOf 5=1 by kernel_rfl]at g0
 obtain⟨kk0,q0,_,w0⟩:=DataW.trod_int Tryz.underlying5 g0
 have b0:=wu8 w0
 obtain⟨kk,rfl⟩:∃z:Nat,kk0=z:=⟨kk0.toNat,by omega⟩
 have g1:DataW.trod enc Tryz.prog W 0 (λ_=>true) bZ k 22 (List.take (Tryz.prog.cellsOf 22) (List.drop 1 [c0,c1,c2]))=some z1:=hx 1 _ rfl
 rw[show Tryz.prog.cellsOf 22=1 by kernel_rfl]at g1
 obtain⟨L1,a1,cap1,q1,vX,sg,oB,oC⟩:=ZcT (ZgJ:=(λn:Nat=>[Value.int .u8 n])) (Q:=(λn:Nat=>n < 256)) (k:=1) (by kernel_rfl) (by kernel_rfl) (λ_=>rfl) (by decide) (zA6 (by kernel_rfl)) g1 (λw gE=>hw w (DataW.weights_mem_each (j:=1) (t:=22) rfl rfl w gE)) λn' _ cs' y hy i4=>ZrA n' cs' y hy
 have g2:DataW.trod enc Tryz.prog W 0 (λ_=>true) bZ k 23 (List.take (Tryz.prog.cellsOf 23) (List.drop 2 [c0,c1,c2]))=some z2:=hx 2 _ rfl
 rw[show Tryz.prog.cellsOf 23=1 by kernel_rfl]at g2
 obtain⟨L2,a2,cap2,q2,lN,lO,cN,iZ⟩:=ZcT (ZgJ:=SSta.cs) (Q:=RepSS (ZlQ W)) (k:=1) (by kernel_rfl) (by kernel_rfl) (λ_=>rfl) (by decide) (zA6 (by kernel_rfl)) g2 (λw gE=>hw w (DataW.weights_mem_each (j:=2) (t:=23) rfl rfl w gE)) λn' _ cs' y hy i4=>ZqA n' cs' y hy i4
 simp only[List.drop,List.take,List.cons.injEq,and_true]at q0 q1 q2
 subst q0
 subst q1
 subst q2
 exact⟨⟨kk,a1,L1,cap1,a2,L2,cap2⟩,rfl,⟨by show kk < 256;omega,⟨oC,oB⟩,sg,lO,lN,cN,iZ⟩⟩
end
section
variable {H:Type} {enc:TypeId×Value->H} {W:World} {bZ:Bool}
theorem Zvt:Tryz.prog.underlying 27=some (.struct #[⟨ "Var",3,0,false, "", "",0⟩,⟨ "State",3,1,false, "", "",8⟩,⟨ "Rule",3,2,false, "", "",16⟩,⟨ "Action",3,3,false, "", "",24⟩,⟨ "Part",3,4,false, "", "",32⟩]):=by kernel_rfl
theorem ZrD(n:Nat)(cs:List Value)(x:DataW H×List MemPlace)(h:DataW.trod enc Tryz.prog W 0 (λ_=>true) bZ n 27 cs=some x):∃p:Pl,cs=p.cs:=by
 obtain⟨xs,k,hk,dx,aE,bQ,hx⟩:=DataW.trod_struct Zvt h
 have hc:Tryz.prog.cellsOf 27=5:=by kernel_rfl
 rw[hc]at aE
 obtain⟨c0,c1,c2,c3,c4,rfl⟩:∃c0 c1 c2 c3 c4,cs=[c0,c1,c2,c3,c4]:=by
  match cs,aE with
  | [c0,c1,c2,c3,c4],_=>exact⟨c0,c1,c2,c3,c4,rfl⟩
 obtain⟨z0,z1,z2,z3,z4,rfl⟩:∃z0 z1 z2 z3 z4,xs=[z0,z1,z2,z3,z4]:=by
  match xs,bQ with
  | [z0,z1,z2,z3,z4],_=>exact⟨z0,z1,z2,z3,z4,rfl⟩
 have g0:DataW.trod enc Tryz.prog W 0 (λ_=>true) bZ k 3 (List.take (Tryz.prog.cellsOf 3) (List.drop 0 [c0,c1,c2,c3,c4]))=some z0:=hx 0 _ rfl
 rw[show Tryz.prog.cellsOf 3=1 by kernel_rfl]at g0
 obtain⟨k0,q0,_,_⟩:=DataW.trod_int Tryz.underlying3 g0
 have g1:DataW.trod enc Tryz.prog W 0 (λ_=>true) bZ k 3 (List.take (Tryz.prog.cellsOf 3) (List.drop 1 [c0,c1,c2,c3,c4]))=some z1:=hx 1 _ rfl
 rw[show Tryz.prog.cellsOf 3=1 by kernel_rfl]at g1
 obtain⟨k1,q1,_,_⟩:=DataW.trod_int Tryz.underlying3 g1
 have g2:DataW.trod enc Tryz.prog W 0 (λ_=>true) bZ k 3 (List.take (Tryz.prog.cellsOf 3) (List.drop 2 [c0,c1,c2,c3,c4]))=some z2:=hx 2 _ rfl
 rw[show Tryz.prog.cellsOf 3=1 by kernel_rfl]at g2
 obtain⟨k2,q2,_,_⟩:=DataW.trod_int Tryz.underlying3 g2
 have g3:DataW.trod enc Tryz.prog W 0 (λ_=>true) bZ k 3 (List.take (Tryz.prog.cellsOf 3) (List.drop 3 [c0,c1,c2,c3,c4]))=some z3:=hx 3 _ rfl
 rw[show Tryz.prog.cellsOf 3=1 by kernel_rfl]at g3
 obtain⟨k3,q3,_,_⟩:=DataW.trod_int Tryz.underlying3 g3
 have g4:DataW.trod enc Tryz.prog W 0 (λ_=>true) bZ k 3 (List.take (Tryz.prog.cellsOf 3) (List.drop 4 [c0,c1,c2,c3,c4]))=some z4:=hx 4 _ rfl
 rw[show Tryz.prog.cellsOf 3=1 by kernel_rfl]at g4
 obtain⟨k4,q4,_,_⟩:=DataW.trod_int Tryz.underlying3 g4
 simp only[List.drop,List.take,List.cons.injEq,and_true]at q0 q1 q2 q3 q4
 subst q0
 subst q1
 subst q2
 subst q3
 subst q4
 exact⟨⟨k0,k1,k2,k3,k4⟩,rfl⟩
end
theorem Zwo:ownKnob Tryz.prog.godebug=none:=by kernel_rfl
theorem ZuS:laidOutB Tryz.prog=true:=by kernel_rfl
set_option maxHeartbeats 4000000 in
theorem Zgh(H:Type)(enc:TypeId×Value->H)(W:World)(base:Nat)(args:Array Value)(ds gs:List (DataW H))(before:List MemPlace)
  (ik:∀(j:Nat) t v,Tryz.f3.params[j]?=some t->args[j]?=some v->Value.okWide Tryz.prog W .any base t v)
  (hW:DataW.Whole enc Tryz.prog Tryz.f3.params.toList Rows.astPlacesSpec.vars false W args.toList ds gs before) (aZ:(DataW.weightsEach Tryz.prog (Tryz.f3.params.toList++Rows.astPlacesSpec.plain.varTypes Tryz.prog) (ds++gs)).all (λn=>decide (n<=reachBytes))=true):
  Calls Tryz.prog 3 args W λe W'=>∃v,e=.returned v/\Rows.astPlacesSpec.post enc Tryz.prog Tryz.f3 false true false false W args v W':=by
 have hW':=hW
 obtain⟨p,q,vY,hV,rfl,i5,dT⟩:=hW
 have hA:DataW.TrodAll enc Tryz.prog W 0 (λ_=>true) true Tryz.f3.params.toList args.toList ds p:=vY
 rw[Tryz.params3]at hA ik
 obtain⟨v0,vs0,d0,ds0,p0,q0,a0,rfl,rfl,h0,r0⟩:=trodAll_cons hA
 obtain⟨v1,vs1,d1,ds1,p1,q1,rfl,rfl,rfl,h1,r1⟩:=trodAll_cons r0
 obtain⟨v2,vs2,d2,ds2,p2,q2,rfl,rfl,rfl,h2,r2⟩:=trodAll_cons r1
 obtain⟨rfl,rfl,rfl⟩:=trodAll_nil r2
 obtain rfl:args=#[v0,v1,v2]:=by cases args;simp_all
 obtain⟨rfl,rfl⟩:=trodVars_none hV
 obtain⟨f0,g0⟩:=h0
 obtain⟨cs0,rfl,-⟩:=okWide_struct Zo7 (ik 0 _ v0 rfl rfl)
 obtain⟨Lc0,rfl⟩:∃L:List Value,cs0=L.toArray:=⟨cs0.toList,by simp⟩
 obtain⟨x,ig,oD⟩:=ZqB f0 _ _ g0 (λw gE=>by
  have:=List.all_eq_true.1 aZ w (DataW.weights_mem_each (j:=0) (t:=25) (d:=d0) (by rw[Tryz.params3];rfl) rfl w gE)
  simpa using this)
 replace ig:Lc0=x.cs:=ig
 subst ig
 obtain⟨f1,g1⟩:=h1
 obtain⟨cs1,rfl,-⟩:=okWide_struct Zvt (ik 1 _ v1 rfl rfl)
 obtain⟨Lc1,rfl⟩:∃L:List Value,cs1=L.toArray:=⟨cs1.toList,by simp⟩
 obtain⟨p,lP⟩:=ZrD f1 _ _ g1
 replace lP:Lc1=p.cs:=lP
 subst lP
 obtain⟨f2,g2⟩:=h2
 obtain⟨cs2,rfl,-⟩:=okWide_struct Zvt (ik 2 _ v2 rfl rfl)
 obtain⟨Lc2,rfl⟩:∃L:List Value,cs2=L.toArray:=⟨cs2.toList,by simp⟩
 obtain⟨q,lQ⟩:=ZrD f2 _ _ g2
 replace lQ:Lc2=q.cs:=lQ
 subst lQ
 exact ZpM (tb:=4) ZuS (by rw[Tryz.params3];intro t ht;simp at ht;rcases ht with rfl|rfl <;> exact⟨by kernel_rfl,zA6 (by kernel_rfl)⟩) hW' rfl rfl rfl rfl rfl Tryz.underlying4 (Zkz x p q (ZlQ W) oD)
theorem ZiI(os:Os)(started:os.Started)(H:Type)(enc:TypeId×Value->H):
  ReturnsInHanded {} Tryz.checked os 3 .any (Rows.astPlacesSpec.pre6 enc Tryz.prog Tryz.f3 Rows.astPlacesRow.domain false) (Rows.astPlacesSpec.post enc Tryz.prog Tryz.f3 false true false false):=by
 refine returnsInHanded_of_change_sized (C:=Tryz.checked) Zwo started (by kernel_rfl) Tryz.func3
  (ChangeSpec.witness6 (enc:=enc) (C:=Tryz.checked) false ⟨#[],#[.agg #[.int .u8 0,.slice none 0 0,.slice none 0 0],.agg #[.int .i64 0,.int .i64 0,.int .i64 0,.int .i64 0,.int .i64 0],.agg #[.int .i64 0,.int .i64 0,.int .i64 0,.int .i64 0,.int .i64 0]],[]⟩ 8 (by kernel_rfl) (by kernel_rfl) (by kernel_rfl) (by kernel_rfl)) ?_
 intro W base args ds gs before ik hW _ aZ _
 exact Zgh H enc W base args ds gs before ik hW aZ
theorem places_holds:Rows.AstPlacesSaid:=
 OpenClaim.holds_of_wide 3 Tryz.f3 rfl rfl rfl rfl rfl rfl rfl ⟨rfl,rfl,rfl,rfl,rfl⟩ rfl rfl rfl rfl rfl (by kernel_rfl) Tryz.func3 (by kernel_rfl)
  (zA6 (by kernel_rfl)) (by unfold Func.isWrapper;first|(rw[if_pos (by decide +kernel)];kernel_rfl)|(rw[if_neg (by decide +kernel)];exact⟨rfl,rfl⟩))
  (λos started H enc _=>ZiI os started H enc)
#print axioms places_holds
end Go.Proofs.YtpjepnkiiojgfaaGreat