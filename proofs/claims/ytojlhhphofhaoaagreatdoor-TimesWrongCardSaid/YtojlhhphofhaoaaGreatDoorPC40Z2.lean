/- Part of the proof: functions of the program. No condition. -/
import Derived.Test.YtojlhhphofhaoaaGreatDoorPVEW
import Derived.Test.YtojlhhphofhaoaaGreatDoorMc
import Derived.Test.YtojlhhphofhaoaaGreatDoorRows
import Derived.Test.YtojlhhphofhaoaaGreatDoorPC25MD
import Derived.Deep.Slices
import Derived.Laws.IdiomArrays
import Derived.SizedLaws
import Derived.Test.YtojlhhphofhaoaaGreatDoorCards
import Derived.Test.YtojlhhphofhaoaaGreatDoorTie
import Derived.LaidMore
import Derived.Lay
import Derived.SevenTiedAt
import Derived.OpenShut
import Derived.ProofKit
import Derived.Carry
set_option linter.unusedVariables false
set_option linter.unusedSimpArgs false
set_option linter.unusedSectionVars false
namespace Go.Proofs.YtojlhhphofhaoaaGreatDoor
open Go Go.Eng Go.Rx Go.Proofs Go.RowKit
set_option maxRecDepth 100000
def Zw1(e:Int):Value:=.tuple #[.agg #[.int .i64 0,.slice none 0 0,.slice none 0 0],.slice none 0 0,.int .i64 e]
theorem Zto{e}:∀(v:Value)(m':Mem) (css:List (List Value)),Ret (Zw1 e) v m' css->Shape.fits (.tup [.agg [.int .i64,.slice,.slice],.slice,.int .i64]) v=true:=λv _ _ e=>by rw[show v=_ from e];rfl
theorem ZqF(s:Sc)(m:Mem)(hr:RepC m s)(hb:okS s=false):CX Tryz.prog 15 #[s.v] m [] (Ret (Zw1 400)):=by
 apply Zkl
 intro b m1 aV _ b1
 refine Zai (Zk9 s m1 (hr.mono aV)) Zfv λa n c e m2 bA hv=>?_
 have hv:=ZhG hv
 rw[hb]at hv
 obtain⟨rfl,rfl,rfl,rfl⟩:=hv
 exact Zjr rfl (Zac (mLt aV bA) rfl)
theorem Zw2{s:Sc}(hl:s.light=true)(hn:s.n<=1):okS s=false:=by
 have h0:atS s top=300:=by
  have h1:Zbl s.n 2 256=false:=by
   cases h:Zbl s.n 2 256 with
   | false=>rfl
   | true=>
    unfold Zbl at h
    rw[Bool.and_eq_true,decide_eq_true_iff]at h
    omega
  unfold atS
  rw[if_neg (by decide),if_pos (by decide)]
  unfold Zqh
  rw[h1];rfl
 have h2:∃r,s.problems=(top,300)::r:=by
  unfold Sc.problems
  rw[Zg1 hl,List.filterMap_cons]
  rw[if_neg (by rw[h0];decide),h0]
  exact⟨_,rfl⟩
 obtain⟨r,hr⟩:=h2
 unfold okS Sc.check
 rw[if_pos hl,hr];rfl
theorem Zzb{s:Sc}(h:MkC s){i k:Nat}{x:Sta}{r:Ru}(hx:s.states[i]?=some x)(hk:toO x=some k)(hr:x.rules[k]?=some r):1<=r.n/\r.n<=8:=by
 obtain⟨_,y,hy,hc⟩:=Zcr hk
 rw[hr]at hy;cases hy
 have h4:r.k=4:=by unfold Zzl at hc;simpa using hc
 rcases((h.all i x hx).all r (List.mem_of_getElem? hr)).kind with⟨h1,_⟩|⟨_,⟨h1,_⟩|⟨h1,_⟩|⟨_,_,h2,h3⟩⟩
 ·omega
 ·omega
 ·omega
 ·exact⟨h2,h3⟩
theorem ZrE{s:Sc}(h:MkC s):∀n,0<=Zcs s n/\Zcs s n<=8
 | 0=>by simp[Zcs]
 | n+1=>by
  have ih:=ZrE h n
  rw[Zcs]
  split
  ·exact ih
  ·rename_i x hx
   split
   ·exact ih
   ·rename_i k hk
    split
    ·exact ih
    ·rename_i r hr
     have:=Zzb h hx hk hr
     split <;> omega
theorem ZqG(s:Sc)(n:Nat):Zcs s n<=Zcs s (n+1):=by
 rw[Zcs]
 split
 ·exact Int.le_refl _
 ·split
  ·exact Int.le_refl _
  ·split
   ·exact Int.le_refl _
   ·split <;> omega
theorem Zvn(s:Sc){i n:Nat}(h:i<=n):Zcs s i<=Zcs s n:=by
 induction n with
 | zero=>rw[show i=0 by omega];exact Int.le_refl _
 | succ n ih=>
  by_cases e:i=n+1
  ·rw[e];exact Int.le_refl _
  ·exact Int.le_trans (ih (by omega)) (ZqG s n)
theorem Zw3{s:Sc}{i k:Nat}{x:Sta}{r:Ru}(hx:s.states[i]?=some x)(hk:toO x=some k)(hr:x.rules[k]?=some r):r.n<=ZoC s:=by
 have h1:r.n<=Zcs s (i+1):=by
  rw[Zh5 hx,hk]
  show r.n<=(match x.rules[k]? with|none=>_|some r=>_)
  rw[hr]
  show r.n<=if r.n > Zcs s i then r.n else Zcs s i
  split <;> omega
 exact Int.le_trans h1 (Zvn s (List.getElem?_eq_some_iff.1 hx).1)
set_option maxHeartbeats 2000000 in
theorem Zld(x:SScr)(p:Int)(m:Mem)(hx:RepSC m x)(hp : -9223372036854775808<=p/\p<=9223372036854775807):CX Tryz.prog 6 #[.agg x.cs.toArray,.int .i64 p] m [] (Ret (.bool true)):=by
 apply Zet
 intro b m1 aV _
 refine Zag (ZqE m1) λm2 bA=>ZdE rfl ?_
 have eI:=mLt aV bA
 refine Zai (ZwT x m2 (hx.mono eI)) ZwR ?_
 rintro n a n1 c a1 n2 c1 m3 bR ⟨s,hv,hr,hk⟩
 simp only[Sc.v,Value.agg.injEq,Array.mk.injEq,List.cons.injEq,Value.int.injEq,Value.slice.injEq,true_and,and_true]at hv
 obtain⟨rfl,⟨rfl,rfl,rfl⟩,rfl,rfl,rfl⟩:=hv
 have eG:=mLt eI bR
 have cV:okS s=true:=by unfold okS;rw[hk.check];rfl
 have fP:=hk.len
 have bad:∀z:Int,(z < 0\/z ≥ s.states.length)->Zck s z=250:=λz hz=>by unfold Zck;rw[cV,if_pos rfl,if_pos hz]
 have good:∀k:Nat,k < s.states.length->Zck s k=0:=λk hk=>by unfold Zck;rw[cV,if_pos rfl,if_neg (by omega)]
 intro b2 b3 iT
 have fx:=Mem.le_add iT [Value.int .i64 (if(-1:Int) < p then(-1:Int)else p),.int .i64 (if(s.states.length:Int) > p then(s.states.length:Int)else p)]
 refine⟨λxs _ _ m' q=>∃j:Nat,j<=2/\xs=[.int .i64 j]/\q=2 - j,⟨2,0,by omega,rfl,rfl⟩,?_⟩
 rintro z m4 q cO ⟨j,hj,hz,rfl⟩
 obtain rfl:z=j:=by simpa using hz
 have pL:=mLt fx cO
 have sB:IntKind.i64.wrap ((j:Int)+1)=((j+1:Nat):Int):=by rw[Zal (by omega) (by omega)];rfl
 refine Zaw (λbB=>?_) (λdB=>?_)
 ·have bB:(j:Int) < ((2:Nat):Int):=bB
  obtain⟨z,hz,nN⟩:∃z:Int,[Value.int .i64 (if(-1:Int) < p then(-1:Int)else p),.int .i64 (if(s.states.length:Int) > p then(s.states.length:Int)else p)][Int.toNat (j:Int)*1]?=some (.int .i64 z)/\(z < 0\/z ≥ s.states.length):=by
   have:j=0\/j=1:=by omega
   rcases this with rfl|rfl
   ·exact⟨_,rfl,by split <;> omega⟩
   ·exact⟨_,rfl,by split <;> omega⟩
  have hb:=bad z nN
  refine⟨⟨by omega,bB⟩,Zao hz ?_⟩
  have e1:=Zd6 s z m4 (hr.mono pL)
  unfold Ze2 at e1
  rw[hb,if_neg (by decide)]at e1
  refine Zai e1 Zb2 λn5 b4 n6 m5 dY gP=>?_
  obtain⟨rfl,rfl,rfl⟩:=ZcD gP
  have e2:=ZwW s z m5 (hr.mono (mLt pL dY))
  unfold Ze2 at e2
  rw[hb,if_neg (by decide)]at e2
  refine Zai e2 Zb2 λn7 b5 n8 m6 gZ sF=>?_
  obtain⟨rfl,rfl,rfl⟩:=ZcD sF
  have e3:=Ztj s z 1 m6 (hr.mono (mLt pL (mLt dY gZ)))
  unfold Zvj at e3
  rw[hb,if_neg (by decide)]at e3
  refine Zai e3 Zb2 λn9 b6 n10 m7 iS kV=>?_
  obtain⟨rfl,rfl,rfl⟩:=ZcD kV
  refine⟨false,ZdE rfl (ZdE rfl (ZdE rfl (ZdE rfl (ZdE rfl ⟨rfl,rfl⟩)))),ZdE rfl ⟨rfl,2 - (j+1),by omega,j+1,by omega,by rw[sB],rfl⟩⟩
 have e0:=Zl3 s m4 (hr.mono pL)
 rw[cV]at e0
 refine Zai e0 Zpp λn5 n6 m5 dY gP=>?_
 obtain⟨rfl,rfl⟩:=ZrD gP
 have vZ:=mLt pL dY
 have wH:=ZrE hk s.states.length
 refine ZdE rfl ⟨λxs _ _ m' q=>∃k:Nat,k<=s.states.length/\xs=[.int .i64 (Zcs s k),.int .i64 k]/\q=s.states.length - k,⟨s.states.length,0,by omega,rfl,rfl⟩,?_⟩
 rintro z1 z2 m6 q gZ ⟨k,ia,j2,rfl⟩
 simp only[List.cons.injEq,Value.int.injEq,true_and,and_true]at j2
 obtain⟨rfl,rfl⟩:=j2
 have qB:=mLt vZ gZ
 have pC:IntKind.i64.wrap ((k:Int)+1)=((k+1:Nat):Int):=by rw[Zal (by omega) (by omega)];rfl
 have tK:IntKind.i64.wrap (ZoC s+1)=ZoC s+1:=by unfold ZoC;rw[Zal (by omega) (by omega)]
 refine Zaw (λbB=>?_) (λfM=>?_)
 ·obtain⟨y,hy⟩:=Zc9 (show k < s.states.length by omega)
  have dN:=Zh5 hy
  have hg:=good k (by omega)
  have hA:Zxd toO s k=toO y:=by unfold Zxd;rw[Int.toNat_natCast,hy]
  have e1:=Zd6 s k m6 (hr.mono qB)
  unfold Ze2 at e1
  rw[hg,if_pos rfl,hA]at e1
  refine Zai e1 Zb2 λn10 b4 n11 m7 iS kV=>?_
  obtain⟨rfl,rfl,rfl⟩:=ZcD kV
  have pM:=mLt qB iS
  rw[tK]
  generalize hT:(if ZoC s+1 > p then ZoC s+1 else p)=t
  have oN:t > ZoC s:=by rw[<-hT];split <;> omega
  have hD:Zxe s k t=false:=by
   unfold Zxe
   rw[Int.toNat_natCast,hy]
   show(match toO y with|some k=>_|none=>false)=false
   cases ht:toO y with
   | none=>rfl
   | some i=>
    obtain⟨_,r,dR,_⟩:=Zcr ht
    show(match y.rules[i]? with|some r=>r.n == t|none=>false)=false
    rw[dR]
    have:=Zw3 hy ht dR
    show(r.n == t)=false
    rw[beq_eq_false_iff_ne];omega
  have e2:=Ztj s k t m7 (hr.mono pM)
  unfold Zvj at e2
  rw[hg,if_pos rfl,hD]at e2
  refine Zai e2 Zb2 λn12 b5 n13 m8 gu l3=>?_
  obtain⟨rfl,rfl,rfl⟩:=ZcD l3
  have pN:=mLt pM gu
  cases ht:toO y with
  | none=>
   rw[ht]at dN
   exact⟨false,ZdE rfl (ZdE rfl (ZdE rfl (Zjr rfl ⟨rfl,rfl⟩))),ZdE rfl (ZdE rfl ⟨rfl,s.states.length - (k+1),by omega,k+1,by omega,by rw[dN,pC],rfl⟩)⟩
  | some i=>
   rw[ht]at dN
   obtain⟨_,r,dR,_⟩:=Zcr ht
   have tF:=(List.getElem?_eq_some_iff.1 dR).1
   obtain⟨b6,o6,iu,gU⟩:=Zam Sta.len (hr.mono pN).row hy (by omega)
   obtain⟨b7,o7,r5,fU⟩:=Zam Ru.len ((hr.mono pN).all y (List.mem_of_getElem? hy)).row dR (by omega)
   have dN:Zcs s (k+1)=if r.n > Zcs s k then r.n else Zcs s k:=by
    rw[dN];show(match y.rules[i]? with|none=>_|some r=>_)=_;rw[dR]
   refine⟨false,ZdE rfl (ZdE rfl (ZdE rfl (ZdE rfl ⟨rfl,rfl⟩))),ZdE rfl (Zjr rfl ⟨b6,o6,iu,⟨by omega,bB⟩,.slice y.ra y.rules.length y.rc,by rw[Int.toNat_natCast];exact gU 1 _ rfl,Zaa rfl ⟨b7,o7,r5,⟨by show(0:Int)<=(i:Nat);omega,by show((i:Nat):Int) < (y.rules.length:Nat);omega⟩,.int .i64 r.n,by show m8 _ (o7+Int.toNat ((i:Nat):Int)*16+12)=_;rw[Int.toNat_natCast];exact fU 12 _ rfl,Zaa rfl ⟨rfl,s.states.length - (k+1),by omega,k+1,by omega,by rw[dN,pC];rfl,rfl⟩⟩⟩)⟩
 ·have jV:k=s.states.length:=by omega
  subst jV
  generalize hQ:(if(1:Int) < p then(1:Int)else p)=pb
  have mr:pb<=1/\I64 pb:=by unfold I64;rw[<-hQ];split <;> omega
  have hr':∀{M:Mem},m3.le M->RepC M { s with n:=pb }:=λ{M} hM=>by
   have h:=hr.mono hM
   exact⟨mr.2,h.vlen,h.vrow,h.vall,h.len,h.row,h.all,h.vcap,h.scap⟩
  have hb:okS { s with n:=pb }=false:=Zw2 (s:={ s with n:=pb }) hk.light mr.1
  refine Zai (Zk9 { s with n:=pb } m6 (hr' qB)) Zfv λa7 n7 c7 e7 m7 iS kV=>?_
  have kV:=ZhG kV
  rw[hb]at kV
  obtain⟨rfl,rfl,rfl,rfl⟩:=kV
  have pM:=mLt qB iS
  refine Zai (ZqF { s with n:=pb } m7 (hr' pM) hb) Zto λq1 q2 q3 q4 q5 q6 q7 q8 q9 q10 q11 m8 gu l3=>?_
  have l3:Value.tuple _=Zw1 400:=l3
  simp only[Zw1,Value.tuple.injEq,Value.agg.injEq,Array.mk.injEq,List.cons.injEq,Value.int.injEq,Value.slice.injEq,true_and,and_true]at l3
  obtain⟨⟨rfl,⟨rfl,rfl,rfl⟩,rfl,rfl,rfl⟩,⟨rfl,rfl,rfl⟩,rfl⟩:=l3
  have pN:=mLt pM gu
  intro b4
  have e9:=Zpo { s with n:=pb } [] none 0 m8 (hr' pN) (by simp) (.inl rfl)
  rw[hb]at e9
  refine Zai e9 ZhH λb5 n15 m9 lT qA=>?_
  obtain⟨rfl,rfl⟩:=Zla qA
  have tZ:=mLt pN lT
  have e10:=Zl3 { s with n:=pb } m9 (hr' tZ)
  rw[hb]at e10
  refine Zai e10 Zpp λn16 n17 m10 lr sJ=>?_
  obtain⟨rfl,rfl⟩:=ZrD sJ
  have pO:=mLt tZ lr
  have e11:=Zd6 { s with n:=pb } 0 m10 (hr' pO)
  have rO:Zck { s with n:=pb } 0=400:=by unfold Zck;rw[hb];rfl
  unfold Ze2 at e11
  rw[rO,if_neg (by decide)]at e11
  refine Zai e11 Zb2 λn18 b6 n19 m11 lw sK=>?_
  obtain⟨rfl,rfl,rfl⟩:=ZcD sK
  refine⟨true,Zjr (by show(Zcs s s.states.length == ZoC s)=true;unfold ZoC;simp) (Zjr rfl (Zjr rfl (Zjr rfl (Zjr rfl ⟨rfl,rfl⟩)))),Zac (mLt eG (mLt pO lw)) rfl⟩
end Go.Proofs.YtojlhhphofhaoaaGreatDoor
namespace Go.Proofs.YtojlhhphofhaoaaGreatDoor
open Go Go.Eng Go.Rx Go.Proofs Go.RowKit Go.ChangeShapes Go.WideShapes Go.ChangeAt
set_option maxRecDepth 100000
theorem Zue{α:Type}{ZgL:α->List Value}{k:Nat}(hk:∀z,(ZgL z).length=k){m:Mem}{b:Nat}:∀{L:List α} {o:Nat},(∀i z,L[i]?=some z->m.reads b (o+i*k) (ZgL z))->m.reads b o (L.map ZgL).flatten
 | [],o,h=>λj v hj=>by simp at hj
 | x::L,o,h=>λj v hj=>by
  rw[List.map_cons,List.flatten_cons]at hj
  by_cases bB:j < k
  ·rw[List.getElem?_append_left (by rw[hk];exact bB)]at hj
   have:=h 0 x rfl j v hj
   rwa [Nat.zero_mul,Nat.add_zero]at this
  ·rw[List.getElem?_append_right (by rw[hk];omega),hk]at hj
   have:=Zue hk (L:=L) (o:=o+k) (λi z hz=>by
    have:=h (i+1) z (by simpa using hz)
    rwa [show o+(i+1)*k=o+k+i*k by rw[Nat.succ_mul];omega]at this) (j - k) v hj
   rwa [show o+k+(j - k)=o+j by omega]at this
theorem Zuf{α:Type}{p:Nat->α->Prop}:∀n,(∀i,i < n->∃z,p i z)->∃L:List α,L.length=n/\∀i z,L[i]?=some z->p i z
 | 0,_=>⟨[],rfl,λi z h=>by simp at h⟩
 | n+1,h=>by
  obtain⟨L,hL,hp⟩:=Zuf n λi hi=>h i (by omega)
  obtain⟨z,hz⟩:=h n (by omega)
  refine⟨L++[z],by rw[List.length_append,hL];rfl,λi y hy=>?_⟩
  by_cases hi:i < n
  ·rw[List.getElem?_append_left (by omega)]at hy;exact hp i y hy
  ·have bB:=(List.getElem?_eq_some_iff.1 hy).1
   rw[List.length_append,hL]at bB
   have bB:i < n+1:=bB
   obtain rfl:i=n:=by omega
   rw[List.getElem?_append_right (by omega),hL,Nat.sub_self]at hy
   obtain rfl:z=y:=by simpa using hy
   exact hz
theorem Zzc{w:World}{a:Addr}{v:Value}(h:w.cell? (a.add 0)=some v):∃b o,a=⟨b,o,none⟩:=by
 obtain⟨b,o,sp⟩:=a
 cases sp with
 | none=>exact⟨b,o,rfl⟩
 | some s=>
  exfalso
  have e:(Addr.add ⟨b,o,some s⟩ 0)=⟨b,o,some s⟩:=rfl
  rw[e]at h
  unfold World.cell? at h
  split at h
  ·simp at h
  ·cases h
section
variable {H:Type} {enc:TypeId×Value->H} {W:World} {eC:Bool}
theorem ZrF{P:Program}{e:TypeId}:∀{l:List (DataW H)} {d:DataW H},d∈l->∀n∈d.weights P e,n∈DataW.weightsAll P e l
 | x::l,d,hd,n,hn=>by
  simp only[DataW.weightsAll,List.mem_append]
  rcases List.mem_cons.1 hd with rfl|hd
  ·exact .inl hn
  ·exact .inr (ZrF hd n hn)
theorem ZdD{α:Type}{ZgL:α->List Value}{Q:α->Prop}{t e:TypeId}{k:Nat}(ht:Tryz.prog.underlying t=some (.slice e))(hc:Tryz.prog.cellsOf e=k)(hk:∀z,(ZgL z).length=k)(h0:0 < k)(hb:1<=Tryz.prog.bytesOf e){n:Nat}{cs:List Value}{x:DataW H×List MemPlace}
  (h:DataW.trod enc Tryz.prog W 0 (λ_=>true) eC n t cs=some x) (hw:∀w∈x.1.weights Tryz.prog t,w<=reachBytes)
  (ih:∀n',n' < n->∀(cs':List Value)(y:DataW H×List MemPlace),DataW.trod enc Tryz.prog W 0 (λ_=>true) eC n' e cs'=some y->(∀w∈y.1.weights Tryz.prog e,w<=reachBytes)->∃z,cs'=ZgL z/\Q z):
  ∃(L:List α)(a:Option Addr)(cap:Nat),cs=[.slice a L.length cap]/\L.length<=cap/\L.length<=1000000000000000/\rowRd (Zoj W) a (L.map ZgL).flatten/\∀z∈L,Q z:=by
 rcases DataW.trod_slice ht h with⟨q4,_⟩|⟨a,len,cap,elems,rest,n',hn',q4,hx,_,hl,hm,wI,lm,_⟩
 ·exact⟨[],none,0,q4,by simp,by simp,.inl rfl,by simp⟩
 rw[hx]at hw
 simp only[DataW.weights,ht,List.length_map]at hw
 have cE:=hw _ (List.mem_cons_self)
 have bT:len<=1000000000000000:=by
  have h2:=reachBytes_lt
  have h3:(elems.length+rest.length)*1<=(elems.length+rest.length)*Tryz.prog.bytesOf e:=Nat.mul_le_mul_left _ hb
  omega
 rw[hc]at lm
 obtain⟨L,hL,hp⟩:=Zuf (p:=λi z=>(∀j v,(ZgL z)[j]?=some v->W.cell? ((a.add (i*k)).add j)=some v)/\Q z) len (λi hi=>by
  have h1:=lm i hi
  rw[List.getElem?_eq_getElem (by omega)]at h1
  obtain⟨cs',h2,h3⟩:=Option.bind_eq_some_iff.1 h1
  obtain⟨_,pP,v3⟩:=World.cells?_some h2
  obtain⟨z,rfl,hz⟩:=ih n' (by omega) _ _ h3 (λw jh=>hw w (List.mem_cons_of_mem _ (List.mem_append_left _ (ZrF (List.mem_map.2 ⟨_,List.getElem_mem _,rfl⟩) w jh))))
  refine⟨z,λj v hj=>?_,hz⟩
  have bB:=(List.getElem?_eq_some_iff.1 hj).1
  rw[v3 j (by rw[pP]at bB;exact bB)];exact hj)
 refine⟨L,some a,cap,by rw[q4,hL],by omega,by omega,?_,λz hz=>?_⟩
 ·by_cases pX:len=0
  ·left
   obtain rfl:L=[]:=List.eq_nil_of_length_eq_zero (by omega)
   rfl
  ·right
   obtain⟨z,hz⟩:=Zbc (show 0 < L.length by omega)
   have h1:=(hp 0 z hz).1
   obtain⟨u,hu⟩:=Zbc (show 0 < (ZgL z).length by rw[hk];exact h0)
   have h2:=h1 0 u hu
   rw[Nat.zero_mul]at h2
   have e0:∀b:Addr,(b.add 0).add 0=b.add 0:=λb=>by
    obtain⟨x1,x2,x3⟩:=b
    cases x3 <;> rfl
   rw[e0]at h2
   obtain⟨b,o,rfl⟩:=Zzc h2
   refine⟨b,o,rfl,Zue hk λi z hz j v hj=>?_⟩
   have:=(hp i z hz).1 j v hj
   rw[ZbK,ZbK]at this
   exact this
 ·obtain⟨i,hi⟩:=List.getElem?_of_mem hz
  exact(hp i z hi).2
end
theorem wu8{n:Int}(h:(Lit.int .u8 n).wf=true):0<=n/\n < 256:=by
 have:0<=n/\n<=255:=by simpa[Lit.wf,IntKind.min,IntKind.max,IntKind.signed,IntKind.bits]using h
 omega
theorem ZzM{n:Int}(h:(Lit.int .u64 n).wf=true):0<=n/\n < 18446744073709551616:=by
 have:0<=n/\n<=18446744073709551615:=by simpa[Lit.wf,IntKind.min,IntKind.max,IntKind.signed,IntKind.bits]using h
 omega
theorem ZyC{n:Int}(h:(Lit.int .i64 n).wf=true) : -9223372036854775808<=n/\n<=9223372036854775807:=by
 simpa[Lit.wf,IntKind.min,IntKind.max,IntKind.signed,IntKind.bits]using h
def s5C(s:Nat×Nat×Nat):List Value:=[.int .u8 s.1,.int .u8 s.2.1,.int .u64 s.2.2]
def s8C(s:Nat×Nat×Nat):List Value:=[.int .u8 s.1,.int .u8 s.2.1,.int .u8 s.2.2]
theorem Zx3{m:Mem}{a:Option Addr}{l:List (Nat×Nat×Nat)}(hl:l.length<=1000000000000000)(h:rowRd m a (l.map s5C).flatten)(hb:∀s∈l,s.1 < 256/\s.2.1 < 256/\s.2.2 < 18446744073709551616):SmE m a l:=⟨by omega,hb,λi s hi=>Zam (cs:=s5C) (n:=3) (λ_=>rfl) h hi (by omega)⟩
theorem Zzd{m:Mem}{a:Option Addr}{l:List (Nat×Nat×Nat)}(hl:l.length<=1000000000000000)(h:rowRd m a (l.map s8C).flatten)(hb:∀s∈l,s.1 < 256/\s.2.1 < 256/\s.2.2 < 256):Sm m a l:=⟨by omega,hb,λi s hi=>Zam (cs:=s8C) (n:=3) (λ_=>rfl) h hi (by omega)⟩
section
variable {H:Type} {enc:TypeId×Value->H} {W:World} {eC:Bool}
theorem Zug(n:Nat)(cs:List Value)(x:DataW H×List MemPlace)(h:DataW.trod enc Tryz.prog W 0 (λ_=>true) eC n 5 cs=some x):∃z:Nat,cs=[.int .u8 z]/\z < 256:=by
 obtain⟨k,q,_,w⟩:=DataW.trod_int Tryz.underlying5 h
 have b:=wu8 w
 obtain⟨z,rfl⟩:∃z:Nat,k=z:=⟨k.toNat,by omega⟩
 exact⟨z,q,by omega⟩
theorem ZyD:Tryz.prog.underlying 204=some (.struct #[⟨ "Kind",5,0,false, "", "",0⟩,⟨ "N",5,1,false, "", "",1⟩,⟨ "Bits",47,2,false, "", "",8⟩]):=by kernel_rfl
theorem Zw4(n:Nat)(cs:List Value)(x:DataW H×List MemPlace)(h:DataW.trod enc Tryz.prog W 0 (λ_=>true) eC n 204 cs=some x)(hw:∀w∈x.1.weights Tryz.prog 204,w<=reachBytes):∃s:Nat×Nat×Nat,cs=s5C s/\s.1 < 256/\s.2.1 < 256/\s.2.2 < 18446744073709551616:=by
 obtain⟨xs,k,hk,eW,bT,eZ,hx⟩:=DataW.trod_struct ZyD h
 have hc:Tryz.prog.cellsOf 204=3:=by kernel_rfl
 rw[hc]at bT
 obtain⟨c0,c1,c2,rfl⟩:∃c0 c1 c2,cs=[c0,c1,c2]:=by
  match cs,bT with
  | [c0,c1,c2],_=>exact⟨c0,c1,c2,rfl⟩
 obtain⟨z0,z1,z2,rfl⟩:∃z0 z1 z2,xs=[z0,z1,z2]:=by
  match xs,eZ with
  | [z0,z1,z2],_=>exact⟨z0,z1,z2,rfl⟩
 rw[eW]at hw
 simp only[DataW.weights,ZyD]at hw
 have g0:DataW.trod enc Tryz.prog W 0 (λ_=>true) eC k 5 (List.take (Tryz.prog.cellsOf 5) (List.drop 0 [c0,c1,c2]))=some z0:=hx 0 _ rfl
 rw[show Tryz.prog.cellsOf 5=1 by kernel_rfl]at g0
 obtain⟨kk0,q0,_,w0⟩:=DataW.trod_int Tryz.underlying5 g0
 have b0:=wu8 w0
 obtain⟨kk,rfl⟩:∃z:Nat,kk0=z:=⟨kk0.toNat,by omega⟩
 have g1:DataW.trod enc Tryz.prog W 0 (λ_=>true) eC k 5 (List.take (Tryz.prog.cellsOf 5) (List.drop 1 [c0,c1,c2]))=some z1:=hx 1 _ rfl
 rw[show Tryz.prog.cellsOf 5=1 by kernel_rfl]at g1
 obtain⟨nn0,q1,_,w1⟩:=DataW.trod_int Tryz.underlying5 g1
 have b1:=wu8 w1
 obtain⟨nn,rfl⟩:∃z:Nat,nn0=z:=⟨nn0.toNat,by omega⟩
 have g2:DataW.trod enc Tryz.prog W 0 (λ_=>true) eC k 47 (List.take (Tryz.prog.cellsOf 47) (List.drop 2 [c0,c1,c2]))=some z2:=hx 2 _ rfl
 rw[show Tryz.prog.cellsOf 47=1 by kernel_rfl]at g2
 obtain⟨bb0,q2,_,w2⟩:=DataW.trod_int Tryz.underlying47 g2
 have b2:=ZzM w2
 obtain⟨bb,rfl⟩:∃z:Nat,bb0=z:=⟨bb0.toNat,by omega⟩
 simp only[List.drop,List.take,List.cons.injEq,and_true]at q0 q1 q2
 subst q0
 subst q1
 subst q2
 exact⟨(kk,nn,bb),rfl,by show kk < 256;omega,by show nn < 256;omega,by show bb < 18446744073709551616;omega⟩
theorem ZyE:Tryz.prog.underlying 183=some (.struct #[⟨ "Kind",5,0,false, "", "",0⟩,⟨ "N",5,1,false, "", "",1⟩,⟨ "M",5,2,false, "", "",2⟩]):=by kernel_rfl
theorem Zw5(n:Nat)(cs:List Value)(x:DataW H×List MemPlace)(h:DataW.trod enc Tryz.prog W 0 (λ_=>true) eC n 183 cs=some x)(hw:∀w∈x.1.weights Tryz.prog 183,w<=reachBytes):∃s:Nat×Nat×Nat,cs=s8C s/\s.1 < 256/\s.2.1 < 256/\s.2.2 < 256:=by
 obtain⟨xs,k,hk,eW,bT,eZ,hx⟩:=DataW.trod_struct ZyE h
 have hc:Tryz.prog.cellsOf 183=3:=by kernel_rfl
 rw[hc]at bT
 obtain⟨c0,c1,c2,rfl⟩:∃c0 c1 c2,cs=[c0,c1,c2]:=by
  match cs,bT with
  | [c0,c1,c2],_=>exact⟨c0,c1,c2,rfl⟩
 obtain⟨z0,z1,z2,rfl⟩:∃z0 z1 z2,xs=[z0,z1,z2]:=by
  match xs,eZ with
  | [z0,z1,z2],_=>exact⟨z0,z1,z2,rfl⟩
 rw[eW]at hw
 simp only[DataW.weights,ZyE]at hw
 have g0:DataW.trod enc Tryz.prog W 0 (λ_=>true) eC k 5 (List.take (Tryz.prog.cellsOf 5) (List.drop 0 [c0,c1,c2]))=some z0:=hx 0 _ rfl
 rw[show Tryz.prog.cellsOf 5=1 by kernel_rfl]at g0
 obtain⟨kk0,q0,_,w0⟩:=DataW.trod_int Tryz.underlying5 g0
 have b0:=wu8 w0
 obtain⟨kk,rfl⟩:∃z:Nat,kk0=z:=⟨kk0.toNat,by omega⟩
 have g1:DataW.trod enc Tryz.prog W 0 (λ_=>true) eC k 5 (List.take (Tryz.prog.cellsOf 5) (List.drop 1 [c0,c1,c2]))=some z1:=hx 1 _ rfl
 rw[show Tryz.prog.cellsOf 5=1 by kernel_rfl]at g1
 obtain⟨nn0,q1,_,w1⟩:=DataW.trod_int Tryz.underlying5 g1
 have b1:=wu8 w1
 obtain⟨nn,rfl⟩:∃z:Nat,nn0=z:=⟨nn0.toNat,by omega⟩
 have g2:DataW.trod enc Tryz.prog W 0 (λ_=>true) eC k 5 (List.take (Tryz.prog.cellsOf 5) (List.drop 2 [c0,c1,c2]))=some z2:=hx 2 _ rfl
 rw[show Tryz.prog.cellsOf 5=1 by kernel_rfl]at g2
 obtain⟨bb0,q2,_,w2⟩:=DataW.trod_int Tryz.underlying5 g2
 have b2:=wu8 w2
 obtain⟨bb,rfl⟩:∃z:Nat,bb0=z:=⟨bb0.toNat,by omega⟩
 simp only[List.drop,List.take,List.cons.injEq,and_true]at q0 q1 q2
 subst q0
 subst q1
 subst q2
 exact⟨(kk,nn,bb),rfl,by show kk < 256;omega,by show nn < 256;omega,by show bb < 256;omega⟩
theorem Zuh:Tryz.prog.underlying 147=some (.struct #[⟨ "Kind",5,0,false, "", "",0⟩,⟨ "N",5,1,false, "", "",1⟩,⟨ "Parts",22,2,false, "", "",8⟩,⟨ "Expr",145,3,false, "", "",32⟩]):=by kernel_rfl
theorem Ztp(n:Nat)(cs:List Value)(x:DataW H×List MemPlace)(h:DataW.trod enc Tryz.prog W 0 (λ_=>true) eC n 147 cs=some x)(hw:∀w∈x.1.weights Tryz.prog 147,w<=reachBytes):∃s:SAct,cs=s.cs/\RepSA (Zoj W) s:=by
 obtain⟨xs,k,hk,eW,bT,eZ,hx⟩:=DataW.trod_struct Zuh h
 have hc:Tryz.prog.cellsOf 147=4:=by kernel_rfl
 rw[hc]at bT
 obtain⟨c0,c1,c2,c3,rfl⟩:∃c0 c1 c2 c3,cs=[c0,c1,c2,c3]:=by
  match cs,bT with
  | [c0,c1,c2,c3],_=>exact⟨c0,c1,c2,c3,rfl⟩
 obtain⟨z0,z1,z2,z3,rfl⟩:∃z0 z1 z2 z3,xs=[z0,z1,z2,z3]:=by
  match xs,eZ with
  | [z0,z1,z2,z3],_=>exact⟨z0,z1,z2,z3,rfl⟩
 rw[eW]at hw
 simp only[DataW.weights,Zuh]at hw
 have g0:DataW.trod enc Tryz.prog W 0 (λ_=>true) eC k 5 (List.take (Tryz.prog.cellsOf 5) (List.drop 0 [c0,c1,c2,c3]))=some z0:=hx 0 _ rfl
 rw[show Tryz.prog.cellsOf 5=1 by kernel_rfl]at g0
 obtain⟨kk0,q0,_,w0⟩:=DataW.trod_int Tryz.underlying5 g0
 have b0:=wu8 w0
 obtain⟨kk,rfl⟩:∃z:Nat,kk0=z:=⟨kk0.toNat,by omega⟩
 have g1:DataW.trod enc Tryz.prog W 0 (λ_=>true) eC k 5 (List.take (Tryz.prog.cellsOf 5) (List.drop 1 [c0,c1,c2,c3]))=some z1:=hx 1 _ rfl
 rw[show Tryz.prog.cellsOf 5=1 by kernel_rfl]at g1
 obtain⟨nn0,q1,_,w1⟩:=DataW.trod_int Tryz.underlying5 g1
 have b1:=wu8 w1
 obtain⟨nn,rfl⟩:∃z:Nat,nn0=z:=⟨nn0.toNat,by omega⟩
 have g2:DataW.trod enc Tryz.prog W 0 (λ_=>true) eC k 22 (List.take (Tryz.prog.cellsOf 22) (List.drop 2 [c0,c1,c2,c3]))=some z2:=hx 2 _ rfl
 rw[show Tryz.prog.cellsOf 22=1 by kernel_rfl]at g2
 obtain⟨L2,a2,cap2,q2,ng,nh,kI,kJ⟩:=ZdD (ZgL:=(λn:Nat=>[Value.int .u8 n])) (Q:=(λn:Nat=>n < 256)) (k:=1) (by kernel_rfl) (by kernel_rfl) (λ_=>rfl) (by decide) (of_decide_eq_true (by kernel_rfl)) g2 (λw jh=>hw w (DataW.weights_mem_each (j:=2) (t:=22) rfl rfl w jh)) λn' _ cs' y hy kK=>Zug n' cs' y hy
 have g3:DataW.trod enc Tryz.prog W 0 (λ_=>true) eC k 145 (List.take (Tryz.prog.cellsOf 145) (List.drop 3 [c0,c1,c2,c3]))=some z3:=hx 3 _ rfl
 rw[show Tryz.prog.cellsOf 145=1 by kernel_rfl]at g3
 obtain⟨L3,a3,cap3,q3,sL,sM,pQ,pR⟩:=ZdD (ZgL:=s5C) (Q:=(λs:Nat×Nat×Nat=>s.1 < 256/\s.2.1 < 256/\s.2.2 < 18446744073709551616)) (k:=3) (by kernel_rfl) (by kernel_rfl) (λ_=>rfl) (by decide) (of_decide_eq_true (by kernel_rfl)) g3 (λw jh=>hw w (DataW.weights_mem_each (j:=3) (t:=145) rfl rfl w jh)) λn' _ cs' y hy kK=>Zw4 n' cs' y hy kK
 simp only[List.drop,List.take,List.cons.injEq,and_true]at q0 q1 q2 q3
 subst q0
 subst q1
 subst q2
 subst q3
 exact⟨⟨kk,nn,a2,L2,cap2,a3,L3,cap3⟩,rfl,⟨by show kk < 256;omega,by show nn < 256;omega,⟨kJ,kI⟩,nh,ng,Zx3 sM pQ pR,sL⟩⟩
theorem Zui:Tryz.prog.underlying 96=some (.struct #[⟨ "Kind",5,0,false, "", "",0⟩,⟨ "N",5,1,false, "", "",1⟩,⟨ "Ticks",5,2,false, "", "",2⟩,⟨ "Goto",5,3,false, "", "",3⟩,⟨ "Regex",93,4,false, "", "",8⟩,⟨ "Acts",94,5,false, "", "",32⟩]):=by kernel_rfl
theorem Ztq(n:Nat)(cs:List Value)(x:DataW H×List MemPlace)(h:DataW.trod enc Tryz.prog W 0 (λ_=>true) eC n 96 cs=some x)(hw:∀w∈x.1.weights Tryz.prog 96,w<=reachBytes):∃s:SRul,cs=s.cs/\RepSR (Zoj W) s:=by
 obtain⟨xs,k,hk,eW,bT,eZ,hx⟩:=DataW.trod_struct Zui h
 have hc:Tryz.prog.cellsOf 96=6:=by kernel_rfl
 rw[hc]at bT
 obtain⟨c0,c1,c2,c3,c4,c5,rfl⟩:∃c0 c1 c2 c3 c4 c5,cs=[c0,c1,c2,c3,c4,c5]:=by
  match cs,bT with
  | [c0,c1,c2,c3,c4,c5],_=>exact⟨c0,c1,c2,c3,c4,c5,rfl⟩
 obtain⟨z0,z1,z2,z3,z4,z5,rfl⟩:∃z0 z1 z2 z3 z4 z5,xs=[z0,z1,z2,z3,z4,z5]:=by
  match xs,eZ with
  | [z0,z1,z2,z3,z4,z5],_=>exact⟨z0,z1,z2,z3,z4,z5,rfl⟩
 rw[eW]at hw
 simp only[DataW.weights,Zui]at hw
 have g0:DataW.trod enc Tryz.prog W 0 (λ_=>true) eC k 5 (List.take (Tryz.prog.cellsOf 5) (List.drop 0 [c0,c1,c2,c3,c4,c5]))=some z0:=hx 0 _ rfl
 rw[show Tryz.prog.cellsOf 5=1 by kernel_rfl]at g0
 obtain⟨kk0,q0,_,w0⟩:=DataW.trod_int Tryz.underlying5 g0
 have b0:=wu8 w0
 obtain⟨kk,rfl⟩:∃z:Nat,kk0=z:=⟨kk0.toNat,by omega⟩
 have g1:DataW.trod enc Tryz.prog W 0 (λ_=>true) eC k 5 (List.take (Tryz.prog.cellsOf 5) (List.drop 1 [c0,c1,c2,c3,c4,c5]))=some z1:=hx 1 _ rfl
 rw[show Tryz.prog.cellsOf 5=1 by kernel_rfl]at g1
 obtain⟨nn0,q1,_,w1⟩:=DataW.trod_int Tryz.underlying5 g1
 have b1:=wu8 w1
 obtain⟨nn,rfl⟩:∃z:Nat,nn0=z:=⟨nn0.toNat,by omega⟩
 have g2:DataW.trod enc Tryz.prog W 0 (λ_=>true) eC k 5 (List.take (Tryz.prog.cellsOf 5) (List.drop 2 [c0,c1,c2,c3,c4,c5]))=some z2:=hx 2 _ rfl
 rw[show Tryz.prog.cellsOf 5=1 by kernel_rfl]at g2
 obtain⟨tt0,q2,_,w2⟩:=DataW.trod_int Tryz.underlying5 g2
 have b2:=wu8 w2
 obtain⟨tt,rfl⟩:∃z:Nat,tt0=z:=⟨tt0.toNat,by omega⟩
 have g3:DataW.trod enc Tryz.prog W 0 (λ_=>true) eC k 5 (List.take (Tryz.prog.cellsOf 5) (List.drop 3 [c0,c1,c2,c3,c4,c5]))=some z3:=hx 3 _ rfl
 rw[show Tryz.prog.cellsOf 5=1 by kernel_rfl]at g3
 obtain⟨gg0,q3,_,w3⟩:=DataW.trod_int Tryz.underlying5 g3
 have b3:=wu8 w3
 obtain⟨gg,rfl⟩:∃z:Nat,gg0=z:=⟨gg0.toNat,by omega⟩
 have g4:DataW.trod enc Tryz.prog W 0 (λ_=>true) eC k 93 (List.take (Tryz.prog.cellsOf 93) (List.drop 4 [c0,c1,c2,c3,c4,c5]))=some z4:=hx 4 _ rfl
 rw[show Tryz.prog.cellsOf 93=1 by kernel_rfl]at g4
 obtain⟨L4,a4,cap4,q4,sN,sO,eB,pS⟩:=ZdD (ZgL:=s8C) (Q:=(λs:Nat×Nat×Nat=>s.1 < 256/\s.2.1 < 256/\s.2.2 < 256)) (k:=3) (by kernel_rfl) (by kernel_rfl) (λ_=>rfl) (by decide) (of_decide_eq_true (by kernel_rfl)) g4 (λw jh=>hw w (DataW.weights_mem_each (j:=4) (t:=93) rfl rfl w jh)) λn' _ cs' y hy kK=>Zw5 n' cs' y hy kK
 have g5:DataW.trod enc Tryz.prog W 0 (λ_=>true) eC k 94 (List.take (Tryz.prog.cellsOf 94) (List.drop 5 [c0,c1,c2,c3,c4,c5]))=some z5:=hx 5 _ rfl
 rw[show Tryz.prog.cellsOf 94=1 by kernel_rfl]at g5
 obtain⟨L5,a5,cap5,q5,sP,sQ,eF,pT⟩:=ZdD (ZgL:=SAct.cs) (Q:=RepSA (Zoj W)) (k:=4) (by kernel_rfl) (by kernel_rfl) (λ_=>rfl) (by decide) (of_decide_eq_true (by kernel_rfl)) g5 (λw jh=>hw w (DataW.weights_mem_each (j:=5) (t:=94) rfl rfl w jh)) λn' _ cs' y hy kK=>Ztp n' cs' y hy kK
 simp only[List.drop,List.take,List.cons.injEq,and_true]at q0 q1 q2 q3 q4 q5
 subst q0
 subst q1
 subst q2
 subst q3
 subst q4
 subst q5
 exact⟨⟨kk,nn,tt,gg,a4,L4,cap4,a5,L5,cap5⟩,rfl,⟨by show kk < 256;omega,by show nn < 256;omega,by show tt < 256;omega,by show gg < 256;omega,Zzd sO eB pS,sN,sQ,sP,eF,pT⟩⟩
theorem Ztr(n:Nat)(cs:List Value)(x:DataW H×List MemPlace)(h:DataW.trod enc Tryz.prog W 0 (λ_=>true) eC n 92 cs=some x)(hw:∀w∈x.1.weights Tryz.prog 92,w<=reachBytes):∃s:SSta,cs=s.cs/\RepSS (Zoj W) s:=by
 obtain⟨L,a,cap,q,wa,p9,bF,cQ⟩:=ZdD (ZgL:=SRul.cs) (Q:=RepSR (Zoj W)) (k:=6) (by kernel_rfl) (by kernel_rfl) (λ_=>rfl) (by decide) (of_decide_eq_true (by kernel_rfl)) h hw λn' _ cs' y hy kK=>Ztq n' cs' y hy kK
 exact⟨⟨a,L,cap⟩,q,⟨p9,wa,bF,cQ⟩⟩
theorem ZrG:Tryz.prog.underlying 25=some (.struct #[⟨ "Buffer",5,0,false, "", "",0⟩,⟨ "Values",22,1,false, "", "",8⟩,⟨ "States",23,2,false, "", "",32⟩]):=by kernel_rfl
theorem Zts(n:Nat)(cs:List Value)(x:DataW H×List MemPlace)(h:DataW.trod enc Tryz.prog W 0 (λ_=>true) eC n 25 cs=some x)(hw:∀w∈x.1.weights Tryz.prog 25,w<=reachBytes):∃s:SScr,cs=s.cs/\RepSC (Zoj W) s:=by
 obtain⟨xs,k,hk,eW,bT,eZ,hx⟩:=DataW.trod_struct ZrG h
 have hc:Tryz.prog.cellsOf 25=3:=by kernel_rfl
 rw[hc]at bT
 obtain⟨c0,c1,c2,rfl⟩:∃c0 c1 c2,cs=[c0,c1,c2]:=by
  match cs,bT with
  | [c0,c1,c2],_=>exact⟨c0,c1,c2,rfl⟩
 obtain⟨z0,z1,z2,rfl⟩:∃z0 z1 z2,xs=[z0,z1,z2]:=by
  match xs,eZ with
  | [z0,z1,z2],_=>exact⟨z0,z1,z2,rfl⟩
 rw[eW]at hw
 simp only[DataW.weights,ZrG]at hw
 have g0:DataW.trod enc Tryz.prog W 0 (λ_=>true) eC k 5 (List.take (Tryz.prog.cellsOf 5) (List.drop 0 [c0,c1,c2]))=some z0:=hx 0 _ rfl
 rw[show Tryz.prog.cellsOf 5=1 by kernel_rfl]at g0
 obtain⟨kk0,q0,_,w0⟩:=DataW.trod_int Tryz.underlying5 g0
 have b0:=wu8 w0
 obtain⟨kk,rfl⟩:∃z:Nat,kk0=z:=⟨kk0.toNat,by omega⟩
 have g1:DataW.trod enc Tryz.prog W 0 (λ_=>true) eC k 22 (List.take (Tryz.prog.cellsOf 22) (List.drop 1 [c0,c1,c2]))=some z1:=hx 1 _ rfl
 rw[show Tryz.prog.cellsOf 22=1 by kernel_rfl]at g1
 obtain⟨L1,a1,cap1,q1,wb,sR,pU,pV⟩:=ZdD (ZgL:=(λn:Nat=>[Value.int .u8 n])) (Q:=(λn:Nat=>n < 256)) (k:=1) (by kernel_rfl) (by kernel_rfl) (λ_=>rfl) (by decide) (of_decide_eq_true (by kernel_rfl)) g1 (λw jh=>hw w (DataW.weights_mem_each (j:=1) (t:=22) rfl rfl w jh)) λn' _ cs' y hy kK=>Zug n' cs' y hy
 have g2:DataW.trod enc Tryz.prog W 0 (λ_=>true) eC k 23 (List.take (Tryz.prog.cellsOf 23) (List.drop 2 [c0,c1,c2]))=some z2:=hx 2 _ rfl
 rw[show Tryz.prog.cellsOf 23=1 by kernel_rfl]at g2
 obtain⟨L2,a2,cap2,q2,ng,nh,kI,kJ⟩:=ZdD (ZgL:=SSta.cs) (Q:=RepSS (Zoj W)) (k:=1) (by kernel_rfl) (by kernel_rfl) (λ_=>rfl) (by decide) (of_decide_eq_true (by kernel_rfl)) g2 (λw jh=>hw w (DataW.weights_mem_each (j:=2) (t:=23) rfl rfl w jh)) λn' _ cs' y hy kK=>Ztr n' cs' y hy kK
 simp only[List.drop,List.take,List.cons.injEq,and_true]at q0 q1 q2
 subst q0
 subst q1
 subst q2
 exact⟨⟨kk,a1,L1,cap1,a2,L2,cap2⟩,rfl,⟨by show kk < 256;omega,⟨pV,pU⟩,sR,nh,ng,kI,kJ⟩⟩
end
theorem Zx4:ownKnob Tryz.prog.godebug=none:=by kernel_rfl
theorem Zw6:laidOutB Tryz.prog=true:=by kernel_rfl
set_option maxHeartbeats 4000000 in
theorem ZhJ(H:Type)(enc:TypeId×Value->H)(W:World)(base:Nat)(args:Array Value)(ds gs:List (DataW H))(before:List MemPlace)
  (kL:∀(j:Nat) t v,Tryz.f6.params[j]?=some t->args[j]?=some v->Value.okWide Tryz.prog W .any base t v)
  (hW:DataW.Whole enc Tryz.prog Tryz.f6.params.toList Rows.timesWrongSpec.vars false W args.toList ds gs before) (cE:(DataW.weightsEach Tryz.prog (Tryz.f6.params.toList++Rows.timesWrongSpec.plain.varTypes Tryz.prog) (ds++gs)).all (λn=>decide (n<=reachBytes))=true):
  Calls Tryz.prog 6 args W λe W'=>∃v,e=.returned v/\Rows.timesWrongSpec.post enc Tryz.prog Tryz.f6 false true false false W args v W':=by
 have hW':=hW
 obtain⟨p,q,wc,hV,rfl,jt,eJ⟩:=hW
 have hA:DataW.TrodAll enc Tryz.prog W 0 (λ_=>true) true Tryz.f6.params.toList args.toList ds p:=wc
 rw[Tryz.params6]at hA kL
 obtain⟨v0,vs0,d0,ds0,p0,q0,a0,rfl,rfl,h0,r0⟩:=trodAll_cons hA
 obtain⟨v1,vs1,d1,ds1,p1,q1,rfl,rfl,rfl,h1,r1⟩:=trodAll_cons r0
 obtain⟨rfl,rfl,rfl⟩:=trodAll_nil r1
 obtain rfl:args=#[v0,v1]:=by cases args;simp_all
 obtain⟨rfl,rfl⟩:=trodVars_none hV
 obtain⟨f0,g0⟩:=h0
 obtain⟨cs0,rfl,-⟩:=okWide_struct ZrG (kL 0 _ v0 rfl rfl)
 obtain⟨Lc0,rfl⟩:∃L:List Value,cs0=L.toArray:=⟨cs0.toList,by simp⟩
 obtain⟨x,jG,pW⟩:=Zts f0 _ _ g0 (λw jh=>by
  have:=List.all_eq_true.1 cE w (DataW.weights_mem_each (j:=0) (t:=25) (d:=d0) (by rw[Tryz.params6];rfl) rfl w jh)
  simpa using this)
 replace jG:Lc0=x.cs:=jG
 subst jG
 obtain⟨n0,rfl,rfl,rfl,w1⟩:=open_int Tryz.underlying3 (kL 1 _ v1 rfl rfl) h1
 have b1:=ZyC w1
 obtain⟨n,rfl⟩:∃z:Int,n0=z:=⟨_,rfl⟩
 exact Zss (tb:=4) Zw6 (by rw[Tryz.params6];intro t ht;simp at ht;rcases ht with rfl|rfl <;> exact⟨by kernel_rfl,of_decide_eq_true (by kernel_rfl)⟩) hW' rfl rfl rfl rfl rfl Tryz.underlying4 (Zld x n0 (Zoj W) pW (ZyC w1))
theorem Zle(os:Os)(started:os.Started)(H:Type)(enc:TypeId×Value->H):
  ReturnsInHanded {} Tryz.checked os 6 .any (λw args=>(Rows.timesWrongSpec.pre enc Tryz.prog Tryz.f6 Rows.timesWrongRow.domain false w args/\laidMetH Tryz.prog Rows.timesWrongRow.laid w)/\sizedMet enc Tryz.prog Tryz.f6 (OpenSpec.ofChange Rows.timesWrongSpec) false w args)
   (Rows.timesWrongSpec.post enc Tryz.prog Tryz.f6 false true false false):=by
 refine returnsInHanded_of_change_and (C:=Tryz.checked) (X:=λw _=>laidMetH Tryz.prog Rows.timesWrongRow.laid w) (λ_ _ _ hh h=>h.of_heap hh) Zx4 started (by kernel_rfl) Tryz.func6
  (ChangeSpec.witness_shaped (enc:=enc) (C:=Tryz.checked) (os:=os) (X:=λw _=>laidMetH Tryz.prog Rows.timesWrongRow.laid w) false (World.laidAll Tryz.prog os Rows.timesWrongRow.laid) #[.agg #[.int .u8 0,.slice none 0 0,.slice none 0 0],.int .i64 0] 8 (World.laidAll_os _ _ _)
   (World.shaped_of_ZipB (by kernel_rfl) (by kernel_rfl)) (by kernel_rfl) (by kernel_rfl) (by kernel_rfl)
   (by rw[MakeChecks.laidMetH_plain _ _ _ (by kernel_rfl)];exact laidMet_laidAll _ (by kernel_rfl) (by kernel_rfl))) ?_
 intro W base args ds gs before kL hW _ cE _ _
 exact ZhJ H enc W base args ds gs before kL hW cE
theorem ZqH:Rows.TimesWrongSaid:=
 OpenClaim.holds_of_wide 6 Tryz.f6 rfl rfl rfl rfl rfl rfl rfl ⟨rfl,rfl,rfl,rfl,rfl⟩ rfl rfl rfl rfl rfl (by kernel_rfl) Tryz.func6 (by kernel_rfl)
  (of_decide_eq_true (by kernel_rfl)) (by unfold Func.isWrapper;first|(rw[if_pos (by decide +kernel)];kernel_rfl)|(rw[if_neg (by decide +kernel)];exact⟨rfl,rfl⟩))
  (λos started H enc _=>Zle os started H enc)
theorem twrong_holds:Rows.TimesWrongCardSaid:=
 Claim7.holds_tied_plain_at .later [] [.data,.pinned] true (true, "05205a6e7e1b52455f10cd97634c44fee2cb8ace980db511814d9064acc160a4") false ZqH (λ_ h=>by cases h) (by kernel_rfl) (λ_ h=>by cases h) timesWrong_row_tie rfl ⟨rfl,rfl⟩ (by kernel_rfl) rfl
  (λf fn hf kO=>by
   obtain rfl:f=6:=Option.some.inj ((show Tryz.prog.funcNamed "repartee/reparteelaw40.TimesWrong" = some 6 by kernel_rfl).symm.trans hf) |>.symm
   obtain rfl:fn=Tryz.f6:=(Option.some.inj (Tryz.func6.symm.trans kO)).symm
   exact⟨by kernel_rfl,λj t ht=>by
    rw[Tryz.params6]at ht
    have hm:t∈[25,3]:=by simpa using Array.mem_of_getElem? ht
    have cQ:([25,3].all λu=>!Tryz.prog.wantsStandIn u)=true:=by kernel_rfl
    exact(show Tryz.prog.wantsStandIn t=false by simpa using List.all_eq_true.1 cQ t hm)⟩)
  (by kernel_rfl)
#print axioms twrong_holds
end Go.Proofs.YtojlhhphofhaoaaGreatDoor