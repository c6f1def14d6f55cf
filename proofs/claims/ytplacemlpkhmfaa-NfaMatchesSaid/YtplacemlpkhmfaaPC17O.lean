/- Part of the proof: conditions and contracts of functions of this program. No condition of its own. -/
import Derived.Test.YtplacemlpkhmfaaPC17N
import Derived.Test.YtplacemlpkhmfaaMr
import Derived.Test.YtplacemlpkhmfaaMc
set_option linter.unusedVariables false
set_option linter.unusedSimpArgs false
namespace Go.Proofs.Ytplacemlpkhmfaa
open Go Go.Eng Go.Rx Go.Proofs Go.RowKit
set_option maxRecDepth 100000
theorem ZtO(f i:Nat)(h:i < 448)(b T cap:Nat)(m:Mem):CX Try.prog 115 #[.pointer (some ⟨b,0,none⟩),.int .i64 i] m [⟨b,bwL f,T,cap,false,true⟩] (fun v _ css=>v=.bool (f.testBit i)∧css=[bwL f]):=by
 apply Zhg
 unfold Zd2
 have hq:IntKind.i64.wrap (Int.tdiv (i:Int) 64)=((i / 64:Nat):Int):=by rw[Zsh];exact Zat (by omega) (by omega)
 simp only[hq,Int.toNat_natCast,Nat.mul_one]
 have eY:(wdN f (i / 64)).testBit (i % 64)=f.testBit i:=by
  rw[Ziy,show 64*(i / 64)+i % 64=i by omega];simp;omega
 refine⟨by omega,⟨by omega,by omega⟩,Zam (by rw[Nat.zero_add];exact ZiA (by omega)) ⟨by omega,Zaa rfl ⟨by rw[ZjO];omega,by trivial,m,Mem.le_refl _,Mem.le_refl _,?_,by trivial⟩⟩⟩
 rw[ZjO,Int.toNat_natCast,Nat.min_eq_left (by omega)]
 simp only[intOf]
 rw[ZlE _ _ (Zg5 _ _),eY]
def TailOf(a3:Option Addr)(n1 c1:Nat)(a:Option Addr)(n c:Nat):Prop:=n≤c∧((∃k,k≤n1∧n1≤c1∧a=ZaJ a3 k c1 1∧n=n1 - k∧c=c1 - k∧(k=0∨∃b o,a3=some ⟨b,o,none⟩))∨c=0)
theorem TailOf.self{a:Option Addr}{n c:Nat}(h:n≤c):TailOf a n c a n c:=⟨h,.inl ⟨0,Nat.zero_le _,h,by simp[ZaJ],rfl,rfl,.inl rfl⟩⟩
theorem TailOf.pop{a3:Option Addr}{n1 c1:Nat}{b o:Nat}{n c:Nat}(h:TailOf a3 n1 c1 (some ⟨b,o,none⟩) n c)(hn:0 < n):TailOf a3 n1 c1 (ZaJ (some ⟨b,o,none⟩) 1 c 1) (n - 1) (c - 1):=by
 obtain⟨iw,h|h⟩:=h
 ·obtain⟨k,h1,h2,h3,h4,h5,h6⟩:=h
  refine⟨by omega,?_⟩
  by_cases hc:c=1
  ·exact .inr (by omega)
  ·left
   refine⟨k+1,by omega,h2,?_,by omega,by omega,.inr ?_⟩
   ·have e1:ZaJ (some (Addr.mk b o none)) 1 c 1=some ⟨b,o+1,none⟩:=by
     simp only[ZaJ,Nat.beq,cond_false,Zaq hc,Option.map_some,Nat.mul_one]
     rw[Za9]
    rw[e1]
    by_cases hk:k=0
    ·subst hk
     have e2:a3=some ⟨b,o,none⟩:=by simpa[ZaJ]using h3.symm
     rw[e2]
     simp only[ZaJ,Zaq (show 0+1≠0 by omega),Zaq (show c1≠0+1 by omega),cond_false,Option.map_some]
     rw[Za9]
    ·obtain⟨b',o',rfl⟩:=h6.resolve_left hk
     have e2:ZaJ (some (Addr.mk b' o' none)) k c1 1=some ⟨b',o'+k,none⟩:=by
      simp only[ZaJ,Zaq hk,Zaq (show c1≠k by omega),cond_false,Option.map_some,Nat.mul_one]
      rw[Za9]
     rw[e2]at h3
     simp only[Option.some.injEq,Addr.mk.injEq,and_true]at h3
     obtain⟨rfl,rfl⟩:=h3
     simp only[ZaJ,Zaq (show k+1≠0 by omega),Zaq (show c1≠k+1 by omega),cond_false,Option.map_some,Nat.mul_one]
     rw[Za9,Nat.add_assoc]
   ·by_cases hk:k=0
    ·subst hk
     exact⟨b,o,by simpa[ZaJ]using h3.symm⟩
    ·exact h6.resolve_left hk
 ·omega
theorem ZvO{m:Mem}{b o c:Nat}{x:Int}{l:List Int}(h:m.reads b o (ZaA (x::l)))(hc:(x::l).length≤c):rowRd m (ZaJ (some ⟨b,o,none⟩) 1 c 1) (ZaA l):=by
 cases l with
 | nil=>exact .inl rfl
 | cons y l=>
  simp only[List.length_cons]at hc
  have e1:ZaJ (some (Addr.mk b o none)) 1 c 1=some ⟨b,o+1,none⟩:=by
   simp only[ZaJ,Nat.beq,cond_false,Zaq (show c≠1 by omega),Option.map_some,Nat.mul_one]
   rw[Za9]
  rw[e1]
  refine .inr ⟨b,o+1,rfl,fun j v hj=>?_⟩
  have:=h (j+1) v (by simpa[ZaA]using hj)
  rwa [show o+1+j=o+(j+1) by omega]
theorem Zrl(l:List Int)(a:Option Addr)(c:Nat)(m:Mem)(h1:rowRd m a (ZaA l))(h2:l.length≤1000000):CXT Try.prog 44 #[.slice a l.length c] m 1 (fun v m' _=>∃a c,v=.slice a l.length c∧rowRd m' a (ZaA l)∧l.length≤c):=by
 apply Zb0
 unfold Zbj
 refine Zab (fun hn=>?_) (fun hn=>⟨⟨rfl,Int.le_refl _,by decide,by decide⟩,fun b hb=>⟨.inl rfl,[],ZaA l,rfl,by rw[Zcr];omega,.inl rfl,h1,fun u hu=>?_,by omega,by omega,fun a' c' m' hm' hr lQ=>⟨rfl,a',c',by rw[Nat.zero_add],hr,by rw[Nat.zero_add]at lQ;exact lQ.1⟩⟩⟩)
 ·have:=ZjE h1 hn
  obtain rfl:l=[]:=by simpa[ZaA]using this
  exact⟨rfl,none,0,rfl,.inl rfl,Nat.le_refl _⟩
 ·obtain⟨i,_,rfl⟩:=List.mem_map.1 hu
  rfl
theorem Zm6{st:Bool}(A:Nf)(hA:A.Ok)(v:Value)(m:Mem)(h:NfR st A v m):CX Try.prog 69 #[v] m [] (fun v _ _=>∃f:Nat,v=bwV f∧∀i,f.testBit i=true↔A.Reach i):=by
 have hn:=hA.n
 have bX:=hA.len
 obtain⟨s,f,x,y,rfl,⟨sa,sc,rfl,hs',fB,jm⟩,⟨fa,fc,vs,rfl,hf,im,jJ,iK⟩,⟨xa,xc,rfl,hx,gq,iq⟩,⟨ya,yc,rfl,hy,eQ,jn⟩⟩:=h
 apply Zj8
 unfold ZgS
 intro b m1 bJ _ _ _ b1 b2
 refine⟨_,Zrl A.first xa xc m1 (hx.mono bJ) gq,(by rintro v m' css ⟨a,c,rfl,_⟩;rfl),?_⟩
 rintro a n c m2 bT ⟨a',c',hv,bZ,iw⟩
 simp only[Value.slice.injEq]at hv
 obtain⟨rfl,rfl,rfl⟩:=hv
 have ik:=Mem.le_trans bJ bT
 refine⟨fun xs css tvs m' q=>∃(todo:List Int)(f:Nat)(a:Option Addr)(c:Nat)(a3:Option Addr)(n1 c1:Nat),xs=[.slice a todo.length c]∧css=[bwL f]∧tvs=[.slice a3 n1 c1]∧m2.le m'∧rowRd m' a (ZaA todo)∧TailOf a3 n1 c1 a todo.length c∧Seek A todo f∧todo.length+1000001*Znu f≤1000000000∧q=todo.length+1000001*Znu f,
  ⟨_,A.first,0,a,c,a,A.first.length,c,rfl,by rw[ZkD],rfl,Mem.le_refl _,bZ,TailOf.self iw,Seek.start hA,by have:=Zth 0;omega,rfl⟩,?_⟩
 rintro a n c cs a3 n1 c1 m3 q _ ⟨todo,f,a',c',a3',n1',c1',hx,cK,dE,cH,iY,jv,jz,k7,hq⟩
 simp only[List.cons.injEq,Value.slice.injEq,and_true]at hx dE
 obtain⟨rfl,rfl,rfl⟩:=hx
 obtain⟨rfl,rfl,rfl⟩:=dE
 obtain rfl:cs=bwL f:=by simpa using cK
 subst hq
 have lf:=Mem.le_trans ik cH
 refine Zab (fun sF=>?_) (fun sF=>?_)
 ·have fV:0 < todo.length:=by have:=of_decide_eq_true sF;omega
  obtain⟨p,rest,rfl⟩:∃p rest,todo=p::rest:=by
   cases todo with
   | nil=>simp at fV
   | cons p rest=>exact⟨p,rest,rfl⟩
  rcases iY with h0|⟨tb,to_,rfl,cU⟩
  ·simp[ZaA]at h0
  have hp:=jz.rng p (by simp)
  obtain⟨i,rfl⟩:∃i:Nat,p=i:=⟨p.toNat,by omega⟩
  have hi:i < A.fol.length:=by have:=hp.2.1;unfold Nf.top at this;omega
  have nQ:=cU 0 (.int .i64 (i:Int)) rfl
  have iE:=jv.pop fV
  have cV:=ZvO cU jv.1
  have kd:((i:Int)::rest).length - 1=rest.length:=by simp
  have i7:((i:Int)::rest).length=rest.length+1:=by simp
  simp only[show Int.toNat 1=1 from rfl]
  refine⟨tb,to_,rfl,⟨by omega,by omega⟩,_,nQ,⟨by omega,by omega⟩,?_⟩
  refine⟨_,trivial,ZtO f i (by omega) b2 100 7 m3,(by rintro v m' css ⟨rfl,_⟩;rfl),?_⟩
  rintro bb m4 cQ cs4 ⟨gy,sG⟩
  simp only[Value.bool.injEq]at gy
  subst gy
  obtain rfl:cs4=bwL f:=by simpa using sG
  refine Zab (fun hb=>?_) (fun hb=>?_)
  ·have hb':f.testBit i=false:=by simpa using hb
   refine⟨_,trivial,Zk2 f i (by omega) b2 100 7 [] [] m4 (by omega),fun v _ _ h=>by rw[h.1];rfl,fun m5 cW cs5 jl=>?_⟩
   have lR:=jl.2
   simp only[List.nil_append,List.append_nil]at lR
   obtain rfl:cs5=bwL (f|||2 ^ i):=by simpa using lR
   obtain⟨l,hl⟩:=ZaF hi
   obtain⟨u,hu⟩:=ZaF (l:=vs) (k:=i) (by omega)
   have kJ:=Mem.le_trans cQ cW
   obtain⟨la,lc,rfl,gX,fN,_⟩:=(iK _ u l hu hl).mono (Mem.le_trans lf kJ)
   obtain⟨fb,fo,jE,gI⟩:=Zgi (hf.mono (Mem.le_trans lf kJ)) hu
   have iF:=jz.take hA (by simpa using hl)
   simp only[Int.toNat_natCast]at iF
   have iU:=ZqN (by omega) hb'
   refine Zaa rfl ⟨fb,fo,jE,⟨by show(0:Int)≤i;omega,by show(i:Int) < (A.fol.length:Nat);omega⟩,.slice la l.length lc,(show m5 fb (fo+(i:Int).toNat*1)=_ from gI),Zaa rfl (Zab (fun hz=>?_) (fun hz=>?_))⟩
   ·have k8:l=[]:=List.eq_nil_of_length_eq_zero (Nat.eq_of_beq_eq_true hz)
    subst k8
    rw[List.append_nil]at iF
    refine Zaa (by rw[Nat.ble_eq];exact iE.1) ⟨by trivial,by trivial,_,?_,rest,f|||2 ^ i,_,_,_,_,_,by rw[kd],rfl,rfl,Mem.le_trans cH kJ,cV.mono kJ,by rw[←kd];exact iE,iF,?_,rfl⟩
    ·rw[i7];omega
    ·rw[i7]at k7;omega
   ·have k8:l.length≠0:=fun e=>by simp only[slN]at hz;rw[e]at hz;cases hz
    refine⟨?_,ZaA rest,ZaA l,by rw[Zcr,kd];omega,by rw[Zcr];exact(Nat.mul_one _).symm,cV.mono kJ,gX,fun u hu=>?_,?_,?_,fun a' c' m6 eV sE lQ=>?_⟩
    ·obtain⟨wh,hk|hk⟩:=iE
     ·obtain⟨k,k1,k2,k3,k4,k5,_⟩:=hk
      exact .inl ⟨a3,n1,c1,k,rfl,k1,by rw[k3,k4,k5]⟩
     ·refine .inr (.inr ?_)
      rw[hk];show 0 < _+l.length;omega
    ·obtain⟨z,_,rfl⟩:=List.mem_map.1 hu
     rfl
    ·rw[kd];show(rest.length+l.length)*8≤_
     rw[i7]at k7;omega
    ·rw[kd];show rest.length+l.length≤_
     rw[i7]at k7;omega
    ·have jq:((i:Int)::rest).length - 1+slN (.slice la l.length lc)=(rest++l).length:=by rw[kd,List.length_append];rfl
     rw[jq]at lQ
     refine⟨by trivial,by trivial,_,?_,rest++l,f|||2 ^ i,a',c',a',(rest++l).length,c',by rw[jq],rfl,by rw[jq],Mem.le_trans cH (Mem.le_trans kJ eV),by rw[ZiI];exact sE,TailOf.self lQ.1,iF,?_,rfl⟩
     ·rw[i7,List.length_append];omega
     ·rw[i7]at k7;rw[List.length_append];omega
  ·have hb':f.testBit i=true:=by simpa using hb
   refine⟨by trivial,by trivial,_,?_,rest,f,_,_,_,_,_,by rw[kd],rfl,rfl,Mem.le_trans cH cQ,cV.mono cQ,by rw[←kd];exact iE,jz.skip (by simpa using hb'),?_,rfl⟩
   ·rw[i7];omega
   ·rw[i7]at k7;omega
 ·have h0:todo=[]:=List.eq_nil_of_length_eq_zero (by have:=of_decide_eq_false sF;omega)
  subst h0
  exact Zaa rfl ⟨m3,lf,Mem.le_refl _,f,rfl,jz.done hA⟩
theorem Zxf(f g j:Nat):wdN (f&&&g) j=wdN f j&&&wdN g j:=by
 apply Nat.eq_of_testBit_eq
 intro k
 simp only[Ziy,Nat.testBit_and]
 cases decide (k < 64) <;> simp
theorem ZtP(a b:Nat)(ha:a < 18446744073709551616)(hb:b < 18446744073709551616):IntKind.u64.wrap ((BitVec.ofInt 64 (a:Int)&&&BitVec.ofInt 64 (b:Int)).toNat:Int)=((a&&&b:Nat):Int):=by
 rw[BitVec.toNat_and,ZyC a ha,ZyC b hb]
 exact Zs4 _ (Nat.lt_of_le_of_lt Nat.and_le_left ha)
open Classical in
noncomputable def Zv3(A:Nf):List Int:=((List.range 448).filter fun i=>decide (A.Reach i∧A.turn.Reach i)).map fun i:Nat=>(i:Int)
theorem Zzh(f g:Nat):∀j,j < 7→IntKind.u64.wrap ((BitVec.ofInt 64 ((wdN f j:Nat):Int)&&&BitVec.ofInt 64 ((wdN g j:Nat):Int)).toNat:Int)=((wdN (f&&&g) j:Nat):Int):=by
 intro j _
 rw[ZtP _ _ (Zg5 _ _) (Zg5 _ _),Zxf]
def Zx9(f g k:Nat):List Value:=(List.range 7).map fun j=>.int .u64 ((if j < k then wdN (f&&&g) j else wdN f j:Nat):Int)
theorem ZvP{f g k j:Nat}(h:j < 7):(Zx9 f g k)[j]?=some (.int .u64 ((if j < k then wdN (f&&&g) j else wdN f j:Nat):Int)):=by
 simp[Zx9,h]
theorem ZtQ{f g k:Nat}(h:k < 7):Zan (Zx9 f g k) k [.int .u64 ((wdN (f&&&g) k:Nat):Int)]=Zx9 f g (k+1):=by
 have:k=0∨k=1∨k=2∨k=3∨k=4∨k=5∨k=6:=by omega
 rcases this with rfl|rfl|rfl|rfl|rfl|rfl|rfl <;> rfl
theorem ZgA{A:Nf}{e:Int}:∀(v:Value)(m':Mem) (css:List (List Value)),NfE A e v m' css→Shape.fits (.tup [.agg [.slice,.slice,.slice,.slice,.bool],.int .i64]) v=true:=by
 rintro v m' css ⟨w,rfl,s,f,x,y,rfl,⟨_,_,rfl,_⟩,⟨_,_,_,rfl,_⟩,⟨_,_,rfl,_⟩,⟨_,_,rfl,_⟩⟩;rfl
theorem ZuJ{φ:Nat→Prop}:∀(v:Value)(m':Mem) (css:List (List Value)),(∃f:Nat,v=bwV f∧φ f)→Shape.fits (.agg [.int .u64,.int .u64,.int .u64,.int .u64,.int .u64,.int .u64,.int .u64]) v=true:=by
 rintro v m' css ⟨f,rfl,_⟩;rfl
theorem Zrm(A:Nf)(v:Value)(m:Mem)(h:NfR true A v m)(hr:A.right=true):CX Try.prog 20 #[v] m [] (ZyE (Zv3 A) 0):=by
 have h':=h
 have hA:=Zgj.1 hr
 obtain⟨s,f,x,y,rfl,⟨sa,sc,rfl,hs',fB,jm⟩,⟨fa,fc,vs,rfl,hf,im,jJ,iK⟩,⟨xa,xc,rfl,hx,gq,iq⟩,⟨ya,yc,rfl,hy,eQ,jn⟩⟩:=h
 apply ZpQ
 unfold Zk1
 intro b m1 bJ _
 refine Zap (Zm4 A _ m1 (h'.mono bJ) hr) ZgA ?_
 rintro a0 n0 c0 a1 n1 c1 a2 n2 c2 a3 n3 c3 b5 e m2 bT ⟨w,hv,sd⟩
 simp only[Value.tuple.injEq,Array.mk.injEq,List.cons.injEq,Value.int.injEq,true_and,and_true]at hv
 obtain⟨rfl,rfl⟩:=hv
 have ik:=Mem.le_trans bJ bT
 intro b2
 refine Za7 rfl ⟨fun i _ _=>if i=1 then(fun v _ _=>∃f:Nat,v=bwV f∧∀i,f.testBit i=true↔A.Reach i)else(fun v _ _=>∃f:Nat,v=bwV f∧∀i,f.testBit i=true↔A.turn.Reach i),?_⟩
 refine⟨_,rfl,Zm6 A hA _ m2 (h'.mono ik),ZuJ,fun k0 k1 k2 k3 k4 k5 k6 m3 cH se=>?_⟩
 obtain⟨f1,lD,kC⟩:∃f:Nat,_=bwV f∧∀i,f.testBit i=true↔A.Reach i:=se
 simp only[bwV,Value.agg.injEq,Array.mk.injEq,List.cons.injEq,Value.int.injEq,true_and,and_true]at lD
 obtain⟨rfl,rfl,rfl,rfl,rfl,rfl,rfl⟩:=lD
 refine⟨_,rfl,Zm6 A.turn (ZwK hA) _ m3 (sd.mono cH),ZuJ,fun k0 k1 k2 k3 k4 k5 k6 m4 cQ sf=>?_⟩
 obtain⟨f2,kG,qa⟩:∃f:Nat,_=bwV f∧∀i,f.testBit i=true↔A.turn.Reach i:=sf
 simp only[bwV,Value.agg.injEq,Array.mk.injEq,List.cons.injEq,Value.int.injEq,true_and,and_true]at kG
 obtain⟨rfl,rfl,rfl,rfl,rfl,rfl,rfl⟩:=kG
 intro b3 b4 M dG gW eJ
 have wi:=Mem.le_trans ik dG
 refine⟨fun xs css _ m' q=>∃k:Nat,k≤7∧xs=[.int .i64 k]∧css=[Zx9 f1 f2 k]∧M.le m'∧q=7 - k,⟨_,0,by omega,rfl,rfl,Mem.le_refl _,rfl⟩,?_⟩
 rintro z cs m5 q cW ⟨k,hk,hz,cK,_,hq⟩
 obtain rfl:z=k:=by simpa using hz
 obtain rfl:cs=Zx9 f1 f2 k:=by simpa using cK
 subst hq
 refine Zab (fun bS=>?_) (fun cX=>?_)
 ·have bR:k < 7:=by have:=of_decide_eq_true bS;omega
  have h1:=ZvP (f:=f1) (g:=f2) (k:=k) bR
  rw[if_neg (by omega)]at h1
  have h2:=ZiA (f:=f2) bR
  simp only[Int.toNat_natCast,Nat.zero_add,Nat.mul_one]
  refine⟨⟨by omega,by omega⟩,Zam h1 ⟨⟨by omega,by omega⟩,Zam h2 (Zaa rfl ⟨⟨by omega,by omega⟩,Zaa (by rw[Nat.ble_eq];simp[Zx9];omega) ⟨by trivial,_,by omega,k+1,by omega,by rw[Zat (by omega) (by omega)];rfl,?_,cW,rfl⟩⟩)⟩⟩
  simp only[intOf]
  rw[Zzh f1 f2 k bR,ZtQ bR]
 ·have:k=7:=by have:=of_decide_eq_false cX;omega
  subst this
  intro m6 eV sm
  refine Zap (ZjF (f1&&&f2) b3 0 m6 sm) ZdG ?_
  intro a7 n7 c7 m7 jb mX
  refine⟨m7,Mem.le_trans wi (Mem.le_trans cW (Mem.le_trans eV jb)),Mem.le_refl _,_,rfl,?_⟩
  have e:Zv3 A=Zbn (f1&&&f2):=by
   classical
   unfold Zv3 Zbn ZcI
   congr 1
   apply List.filter_congr
   intro i _
   rw[Bool.eq_iff_iff,Nat.testBit_and,Bool.and_eq_true,kC,qa]
   exact @decide_eq_true_iff _ _
  rw[e]
  obtain⟨aa,cc,g1,g2,g3,_⟩:=(show SlI true (Zbn (f1&&&f2)) _ _ from mX)
  exact⟨aa,cc,g1,g2,g3,fun h=>by cases h⟩
end Go.Proofs.Ytplacemlpkhmfaa

