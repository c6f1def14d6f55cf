/- Part of the proof: functions of the program. No condition. -/
import Derived.Test.YtdopppmkbkkmiaaGreatDoorMc
import Derived.Test.YtdopppmkbkkmiaaGreatDoorRows
import Derived.Test.YtdopppmkbkkmiaaGreatDoorPC25MD
import Derived.Deep.Slices
import Derived.Laws.IdiomArrays
import Derived.SizedLaws
import Derived.Test.YtdopppmkbkkmiaaGreatDoorPC25RU
import Derived.Test.YtdopppmkbkkmiaaGreatDoorCards
import Derived.Test.YtdopppmkbkkmiaaGreatDoorTie
import Derived.LaidMore
import Derived.Lay
import Derived.SevenTiedAt
import Derived.OpenShut
import Derived.ProofKit
import Derived.Carry
set_option linter.unusedVariables false
set_option linter.unusedSimpArgs false
set_option linter.unusedSectionVars false
namespace Go.Proofs.YtdopppmkbkkmiaaGreatDoor
open Go Go.Eng Go.Rx Go.Proofs Go.RowKit Go.ChangeShapes Go.WideShapes Go.ChangeAt
set_option maxRecDepth 100000
theorem ZuT{α:Type}{Zgw:α->List Value}{k:Nat}(hk:∀z,(Zgw z).length=k){m:Mem}{b:Nat}:∀{L:List α} {o:Nat},(∀i z,L[i]?=some z->m.reads b (o+i*k) (Zgw z))->m.reads b o (L.map Zgw).flatten
 | [],o,h=>λj v hj=>by simp at hj
 | x::L,o,h=>λj v hj=>by
  rw[List.map_cons,List.flatten_cons]at hj
  by_cases aG:j < k
  ·rw[zA5 (by rw[hk];exact aG)]at hj
   have:=h 0 x rfl j v hj
   rwa [Nat.zero_mul,Nat.add_zero]at this
  ·rw[zA4 (by rw[hk];omega),hk]at hj
   have:=ZuT hk (L:=L) (o:=o+k) (λi z hz=>by
    have:=h (i+1) z (by simpa using hz)
    rwa [show o+(i+1)*k=o+k+i*k by rw[Nat.succ_mul];omega]at this) (j - k) v hj
   rwa [show o+k+(j - k)=o+j by omega]at this
theorem ZuU{α:Type}{p:Nat->α->Prop}:∀n,(∀i,i < n->∃z,p i z)->∃L:List α,L.length=n/\∀i z,L[i]?=some z->p i z
 | 0,_=>⟨[],rfl,λi z h=>by simp at h⟩
 | n+1,h=>by
  obtain⟨L,hL,hp⟩:=ZuU n λi hi=>h i (by omega)
  obtain⟨z,hz⟩:=h n (by omega)
  refine⟨L++[z],by rw[zA1,hL];rfl,λi y hy=>?_⟩
  by_cases hi:i < n
  ·rw[zA5 (by omega)]at hy;exact hp i y hy
  ·have aG:=(zA0 hy).1
   rw[zA1,hL]at aG
   have aG:i < n+1:=aG
   obtain rfl:i=n:=by omega
   rw[zA4 (by omega),hL,Nat.sub_self]at hy
   obtain rfl:z=y:=by simpa using hy
   exact hz
theorem ZAY{w:World}{a:Addr}{v:Value}(h:w.cell? (a.add 0)=some v):∃b o,a=⟨b,o,none⟩:=by
 obtain⟨b,o,sp⟩:=a
 cases sp with
 | none=>exact⟨b,o,rfl⟩
 | some s=>
  exfalso
  have e:(Addr.add ⟨b,o,some s⟩ 0)=⟨b,o,some s⟩:=rfl
  rw[e]at h
  unfold World.cell? at h
  split at h
  ·simp at h
  ·cases h
section
variable {H:Type} {enc:TypeId×Value->H} {W:World} {cV:Bool}
theorem Zr3{P:Program}{e:TypeId}:∀{l:List (DataW H)} {d:DataW H},d∈l->∀n∈d.weights P e,n∈DataW.weightsAll P e l
 | x::l,d,hd,n,hn=>by
  simp only[DataW.weightsAll,List.mem_append]
  rcases List.mem_cons.1 hd with rfl|hd
  ·exact .inl hn
  ·exact .inr (Zr3 hd n hn)
theorem ZdC{α:Type}{Zgw:α->List Value}{Q:α->Prop}{t e:TypeId}{k:Nat}(ht:Tryz.prog.underlying t=some (.slice e))(hc:Tryz.prog.cellsOf e=k)(hk:∀z,(Zgw z).length=k)(h0:0 < k)(hb:1<=Tryz.prog.bytesOf e){n:Nat}{cs:List Value}{x:DataW H×List MemPlace}
  (h:DataW.trod enc Tryz.prog W 0 (λ_=>true) cV n t cs=some x) (hw:∀w∈x.1.weights Tryz.prog t,w<=reachBytes)
  (ih:∀n',n' < n->∀(cs':List Value)(y:DataW H×List MemPlace),DataW.trod enc Tryz.prog W 0 (λ_=>true) cV n' e cs'=some y->(∀w∈y.1.weights Tryz.prog e,w<=reachBytes)->∃z,cs'=Zgw z/\Q z):
  ∃(L:List α)(a:Option Addr)(cap:Nat),cs=[.slice a L.length cap]/\L.length<=cap/\L.length<=1000000000000000/\rowRd (Zoa W) a (L.map Zgw).flatten/\∀z∈L,Q z:=by
 rcases DataW.trod_slice ht h with⟨q4,_⟩|⟨a,len,cap,elems,rest,n',hn',q4,hx,_,hl,hm,x6,lN,_⟩
 ·exact⟨[],none,0,q4,by simp,by simp,.inl rfl,by simp⟩
 rw[hx]at hw
 simp only[DataW.weights,ht,List.length_map]at hw
 have bI:=hw _ (List.mem_cons_self)
 have aT:len<=1000000000000000:=by
  have h2:=reachBytes_lt
  have h3:(elems.length+rest.length)*1<=(elems.length+rest.length)*Tryz.prog.bytesOf e:=Nat.mul_le_mul_left _ hb
  omega
 rw[hc]at lN
 obtain⟨L,hL,hp⟩:=ZuU (p:=λi z=>(∀j v,(Zgw z)[j]?=some v->W.cell? ((a.add (i*k)).add j)=some v)/\Q z) len (λi hi=>by
  have h1:=lN i hi
  rw[zA3 (by omega)]at h1
  obtain⟨cs',h2,h3⟩:=Option.bind_eq_some_iff.1 h1
  obtain⟨_,qJ,sK⟩:=World.cells?_some h2
  obtain⟨z,rfl,hz⟩:=ih n' (by omega) _ _ h3 (λw jz=>hw w (List.mem_cons_of_mem _ (List.mem_append_left _ (Zr3 (List.mem_map.2 ⟨_,List.getElem_mem _,rfl⟩) w jz))))
  refine⟨z,λj v hj=>?_,hz⟩
  have aG:=(zA0 hj).1
  rw[sK j (by rw[qJ]at aG;exact aG)];exact hj)
 refine⟨L,some a,cap,by rw[q4,hL],by omega,by omega,?_,λz hz=>?_⟩
 ·by_cases uW:len=0
  ·left
   obtain rfl:L=[]:=List.eq_nil_of_length_eq_zero (by omega)
   rfl
  ·right
   obtain⟨z,hz⟩:=ZaK (show 0 < L.length by omega)
   have h1:=(hp 0 z hz).1
   obtain⟨u,hu⟩:=ZaK (show 0 < (Zgw z).length by rw[hk];exact h0)
   have h2:=h1 0 u hu
   rw[Nat.zero_mul]at h2
   have e0:∀b:Addr,(b.add 0).add 0=b.add 0:=λb=>by
    obtain⟨x1,x2,x3⟩:=b
    cases x3 <;> rfl
   rw[e0]at h2
   obtain⟨b,o,rfl⟩:=ZAY h2
   refine⟨b,o,rfl,ZuT hk λi z hz j v hj=>?_⟩
   have:=(hp i z hz).1 j v hj
   rw[Zb3,Zb3]at this
   exact this
 ·obtain⟨i,hi⟩:=List.getElem?_of_mem hz
  exact(hp i z hi).2
end
theorem wu8{n:Int}(h:(Lit.int .u8 n).wf=true):0<=n/\n < 256:=by
 have:0<=n/\n<=255:=by simpa[Lit.wf,IntKind.min,IntKind.max,IntKind.signed,IntKind.bits]using h
 omega
theorem ZBv{n:Int}(h:(Lit.int .u64 n).wf=true):0<=n/\n < 18446744073709551616:=by
 have:0<=n/\n<=18446744073709551615:=by simpa[Lit.wf,IntKind.min,IntKind.max,IntKind.signed,IntKind.bits]using h
 omega
def s5C(s:Nat×Nat×Nat):List Value:=[.int .u8 s.1,.int .u8 s.2.1,.int .u64 s.2.2]
def s8C(s:Nat×Nat×Nat):List Value:=[.int .u8 s.1,.int .u8 s.2.1,.int .u8 s.2.2]
theorem ZzB{m:Mem}{a:Option Addr}{l:List (Nat×Nat×Nat)}(hl:l.length<=1000000000000000)(h:rowRd m a (l.map s5C).flatten)(hb:∀s∈l,s.1 < 256/\s.2.1 < 256/\s.2.2 < 18446744073709551616):SmE m a l:=⟨by omega,hb,λi s hi=>Zap (cs:=s5C) (n:=3) (λ_=>rfl) h hi (by omega)⟩
theorem ZAZ{m:Mem}{a:Option Addr}{l:List (Nat×Nat×Nat)}(hl:l.length<=1000000000000000)(h:rowRd m a (l.map s8C).flatten)(hb:∀s∈l,s.1 < 256/\s.2.1 < 256/\s.2.2 < 256):Sm m a l:=⟨by omega,hb,λi s hi=>Zap (cs:=s8C) (n:=3) (λ_=>rfl) h hi (by omega)⟩
section
variable {H:Type} {enc:TypeId×Value->H} {W:World} {cV:Bool}
theorem ZuV(n:Nat)(cs:List Value)(x:DataW H×List MemPlace)(h:DataW.trod enc Tryz.prog W 0 (λ_=>true) cV n 5 cs=some x):∃z:Nat,cs=[.int .u8 z]/\z < 256:=by
 obtain⟨k,q,_,w⟩:=DataW.trod_int Tryz.underlying5 h
 have b:=wu8 w
 obtain⟨z,rfl⟩:∃z:Nat,k=z:=⟨k.toNat,by omega⟩
 exact⟨z,q,by omega⟩
theorem ZAa:Tryz.prog.underlying 183=some (.struct #[⟨ "Kind",5,0,false, "", "",0⟩,⟨ "N",5,1,false, "", "",1⟩,⟨ "Bits",35,2,false, "", "",8⟩]):=by kernel_rfl
theorem Zym(n:Nat)(cs:List Value)(x:DataW H×List MemPlace)(h:DataW.trod enc Tryz.prog W 0 (λ_=>true) cV n 183 cs=some x)(hw:∀w∈x.1.weights Tryz.prog 183,w<=reachBytes):∃s:Nat×Nat×Nat,cs=s5C s/\s.1 < 256/\s.2.1 < 256/\s.2.2 < 18446744073709551616:=by
 obtain⟨xs,k,hk,dV,aT,cZ,hx⟩:=DataW.trod_struct ZAa h
 have hc:Tryz.prog.cellsOf 183=3:=by kernel_rfl
 rw[hc]at aT
 obtain⟨c0,c1,c2,rfl⟩:∃c0 c1 c2,cs=[c0,c1,c2]:=by
  match cs,aT with
  | [c0,c1,c2],_=>exact⟨c0,c1,c2,rfl⟩
 obtain⟨z0,z1,z2,rfl⟩:∃z0 z1 z2,xs=[z0,z1,z2]:=by
  match xs,cZ with
  | [z0,z1,z2],_=>exact⟨z0,z1,z2,rfl⟩
 rw[dV]at hw
 simp only[DataW.weights,ZAa]at hw
 have g0:DataW.trod enc Tryz.prog W 0 (λ_=>true) cV k 5 (List.take (Tryz.prog.cellsOf 5) (List.drop 0 [c0,c1,c2]))=some z0:=hx 0 _ rfl
 rw[show Tryz.prog.cellsOf 5=1 by kernel_rfl]at g0
 obtain⟨kk0,q0,_,w0⟩:=DataW.trod_int Tryz.underlying5 g0
 have b0:=wu8 w0
 obtain⟨kk,rfl⟩:∃z:Nat,kk0=z:=⟨kk0.toNat,by omega⟩
 have g1:DataW.trod enc Tryz.prog W 0 (λ_=>true) cV k 5 (List.take (Tryz.prog.cellsOf 5) (List.drop 1 [c0,c1,c2]))=some z1:=hx 1 _ rfl
 rw[show Tryz.prog.cellsOf 5=1 by kernel_rfl]at g1
 obtain⟨nn0,q1,_,w1⟩:=DataW.trod_int Tryz.underlying5 g1
 have b1:=wu8 w1
 obtain⟨nn,rfl⟩:∃z:Nat,nn0=z:=⟨nn0.toNat,by omega⟩
 have g2:DataW.trod enc Tryz.prog W 0 (λ_=>true) cV k 35 (List.take (Tryz.prog.cellsOf 35) (List.drop 2 [c0,c1,c2]))=some z2:=hx 2 _ rfl
 rw[show Tryz.prog.cellsOf 35=1 by kernel_rfl]at g2
 obtain⟨bb0,q2,_,w2⟩:=DataW.trod_int Tryz.underlying35 g2
 have b2:=ZBv w2
 obtain⟨bb,rfl⟩:∃z:Nat,bb0=z:=⟨bb0.toNat,by omega⟩
 simp only[List.drop,List.take,List.cons.injEq,and_true]at q0 q1 q2
 subst q0
 subst q1
 subst q2
 exact⟨(kk,nn,bb),rfl,by show kk < 256;omega,by show nn < 256;omega,by show bb < 18446744073709551616;omega⟩
theorem ZAb:Tryz.prog.underlying 162=some (.struct #[⟨ "Kind",5,0,false, "", "",0⟩,⟨ "N",5,1,false, "", "",1⟩,⟨ "M",5,2,false, "", "",2⟩]):=by kernel_rfl
theorem Zyn(n:Nat)(cs:List Value)(x:DataW H×List MemPlace)(h:DataW.trod enc Tryz.prog W 0 (λ_=>true) cV n 162 cs=some x)(hw:∀w∈x.1.weights Tryz.prog 162,w<=reachBytes):∃s:Nat×Nat×Nat,cs=s8C s/\s.1 < 256/\s.2.1 < 256/\s.2.2 < 256:=by
 obtain⟨xs,k,hk,dV,aT,cZ,hx⟩:=DataW.trod_struct ZAb h
 have hc:Tryz.prog.cellsOf 162=3:=by kernel_rfl
 rw[hc]at aT
 obtain⟨c0,c1,c2,rfl⟩:∃c0 c1 c2,cs=[c0,c1,c2]:=by
  match cs,aT with
  | [c0,c1,c2],_=>exact⟨c0,c1,c2,rfl⟩
 obtain⟨z0,z1,z2,rfl⟩:∃z0 z1 z2,xs=[z0,z1,z2]:=by
  match xs,cZ with
  | [z0,z1,z2],_=>exact⟨z0,z1,z2,rfl⟩
 rw[dV]at hw
 simp only[DataW.weights,ZAb]at hw
 have g0:DataW.trod enc Tryz.prog W 0 (λ_=>true) cV k 5 (List.take (Tryz.prog.cellsOf 5) (List.drop 0 [c0,c1,c2]))=some z0:=hx 0 _ rfl
 rw[show Tryz.prog.cellsOf 5=1 by kernel_rfl]at g0
 obtain⟨kk0,q0,_,w0⟩:=DataW.trod_int Tryz.underlying5 g0
 have b0:=wu8 w0
 obtain⟨kk,rfl⟩:∃z:Nat,kk0=z:=⟨kk0.toNat,by omega⟩
 have g1:DataW.trod enc Tryz.prog W 0 (λ_=>true) cV k 5 (List.take (Tryz.prog.cellsOf 5) (List.drop 1 [c0,c1,c2]))=some z1:=hx 1 _ rfl
 rw[show Tryz.prog.cellsOf 5=1 by kernel_rfl]at g1
 obtain⟨nn0,q1,_,w1⟩:=DataW.trod_int Tryz.underlying5 g1
 have b1:=wu8 w1
 obtain⟨nn,rfl⟩:∃z:Nat,nn0=z:=⟨nn0.toNat,by omega⟩
 have g2:DataW.trod enc Tryz.prog W 0 (λ_=>true) cV k 5 (List.take (Tryz.prog.cellsOf 5) (List.drop 2 [c0,c1,c2]))=some z2:=hx 2 _ rfl
 rw[show Tryz.prog.cellsOf 5=1 by kernel_rfl]at g2
 obtain⟨bb0,q2,_,w2⟩:=DataW.trod_int Tryz.underlying5 g2
 have b2:=wu8 w2
 obtain⟨bb,rfl⟩:∃z:Nat,bb0=z:=⟨bb0.toNat,by omega⟩
 simp only[List.drop,List.take,List.cons.injEq,and_true]at q0 q1 q2
 subst q0
 subst q1
 subst q2
 exact⟨(kk,nn,bb),rfl,by show kk < 256;omega,by show nn < 256;omega,by show bb < 256;omega⟩
theorem ZuW:Tryz.prog.underlying 135=some (.struct #[⟨ "Kind",5,0,false, "", "",0⟩,⟨ "N",5,1,false, "", "",1⟩,⟨ "Parts",22,2,false, "", "",8⟩,⟨ "Expr",133,3,false, "", "",32⟩]):=by kernel_rfl
theorem ZtW(n:Nat)(cs:List Value)(x:DataW H×List MemPlace)(h:DataW.trod enc Tryz.prog W 0 (λ_=>true) cV n 135 cs=some x)(hw:∀w∈x.1.weights Tryz.prog 135,w<=reachBytes):∃s:SAct,cs=s.cs/\RepSA (Zoa W) s:=by
 obtain⟨xs,k,hk,dV,aT,cZ,hx⟩:=DataW.trod_struct ZuW h
 have hc:Tryz.prog.cellsOf 135=4:=by kernel_rfl
 rw[hc]at aT
 obtain⟨c0,c1,c2,c3,rfl⟩:∃c0 c1 c2 c3,cs=[c0,c1,c2,c3]:=by
  match cs,aT with
  | [c0,c1,c2,c3],_=>exact⟨c0,c1,c2,c3,rfl⟩
 obtain⟨z0,z1,z2,z3,rfl⟩:∃z0 z1 z2 z3,xs=[z0,z1,z2,z3]:=by
  match xs,cZ with
  | [z0,z1,z2,z3],_=>exact⟨z0,z1,z2,z3,rfl⟩
 rw[dV]at hw
 simp only[DataW.weights,ZuW]at hw
 have g0:DataW.trod enc Tryz.prog W 0 (λ_=>true) cV k 5 (List.take (Tryz.prog.cellsOf 5) (List.drop 0 [c0,c1,c2,c3]))=some z0:=hx 0 _ rfl
 rw[show Tryz.prog.cellsOf 5=1 by kernel_rfl]at g0
 obtain⟨kk0,q0,_,w0⟩:=DataW.trod_int Tryz.underlying5 g0
 have b0:=wu8 w0
 obtain⟨kk,rfl⟩:∃z:Nat,kk0=z:=⟨kk0.toNat,by omega⟩
 have g1:DataW.trod enc Tryz.prog W 0 (λ_=>true) cV k 5 (List.take (Tryz.prog.cellsOf 5) (List.drop 1 [c0,c1,c2,c3]))=some z1:=hx 1 _ rfl
 rw[show Tryz.prog.cellsOf 5=1 by kernel_rfl]at g1
 obtain⟨nn0,q1,_,w1⟩:=DataW.trod_int Tryz.underlying5 g1
 have b1:=wu8 w1
 obtain⟨nn,rfl⟩:∃z:Nat,nn0=z:=⟨nn0.toNat,by omega⟩
 have g2:DataW.trod enc Tryz.prog W 0 (λ_=>true) cV k 22 (List.take (Tryz.prog.cellsOf 22) (List.drop 2 [c0,c1,c2,c3]))=some z2:=hx 2 _ rfl
 rw[show Tryz.prog.cellsOf 22=1 by kernel_rfl]at g2
 obtain⟨L2,a2,cap2,q2,oz,oA,dE,lg⟩:=ZdC (Zgw:=(λn:Nat=>[Value.int .u8 n])) (Q:=(λn:Nat=>n < 256)) (k:=1) (by kernel_rfl) (by kernel_rfl) (λ_=>rfl) (by decide) (zA6 (by kernel_rfl)) g2 (λw jz=>hw w (DataW.weights_mem_each (j:=2) (t:=22) rfl rfl w jz)) λn' _ cs' y hy lh=>ZuV n' cs' y hy
 have g3:DataW.trod enc Tryz.prog W 0 (λ_=>true) cV k 133 (List.take (Tryz.prog.cellsOf 133) (List.drop 3 [c0,c1,c2,c3]))=some z3:=hx 3 _ rfl
 rw[show Tryz.prog.cellsOf 133=1 by kernel_rfl]at g3
 obtain⟨L3,a3,cap3,q3,ua,ub,qK,qL⟩:=ZdC (Zgw:=s5C) (Q:=(λs:Nat×Nat×Nat=>s.1 < 256/\s.2.1 < 256/\s.2.2 < 18446744073709551616)) (k:=3) (by kernel_rfl) (by kernel_rfl) (λ_=>rfl) (by decide) (zA6 (by kernel_rfl)) g3 (λw jz=>hw w (DataW.weights_mem_each (j:=3) (t:=133) rfl rfl w jz)) λn' _ cs' y hy lh=>Zym n' cs' y hy lh
 simp only[List.drop,List.take,List.cons.injEq,and_true]at q0 q1 q2 q3
 subst q0
 subst q1
 subst q2
 subst q3
 exact⟨⟨kk,nn,a2,L2,cap2,a3,L3,cap3⟩,rfl,⟨by show kk < 256;omega,by show nn < 256;omega,⟨lg,dE⟩,oA,oz,ZzB ub qK qL,ua⟩⟩
theorem ZuX:Tryz.prog.underlying 104=some (.struct #[⟨ "Kind",5,0,false, "", "",0⟩,⟨ "N",5,1,false, "", "",1⟩,⟨ "Ticks",5,2,false, "", "",2⟩,⟨ "Goto",5,3,false, "", "",3⟩,⟨ "Regex",101,4,false, "", "",8⟩,⟨ "Acts",102,5,false, "", "",32⟩]):=by kernel_rfl
theorem ZtX(n:Nat)(cs:List Value)(x:DataW H×List MemPlace)(h:DataW.trod enc Tryz.prog W 0 (λ_=>true) cV n 104 cs=some x)(hw:∀w∈x.1.weights Tryz.prog 104,w<=reachBytes):∃s:SRul,cs=s.cs/\RepSR (Zoa W) s:=by
 obtain⟨xs,k,hk,dV,aT,cZ,hx⟩:=DataW.trod_struct ZuX h
 have hc:Tryz.prog.cellsOf 104=6:=by kernel_rfl
 rw[hc]at aT
 obtain⟨c0,c1,c2,c3,c4,c5,rfl⟩:∃c0 c1 c2 c3 c4 c5,cs=[c0,c1,c2,c3,c4,c5]:=by
  match cs,aT with
  | [c0,c1,c2,c3,c4,c5],_=>exact⟨c0,c1,c2,c3,c4,c5,rfl⟩
 obtain⟨z0,z1,z2,z3,z4,z5,rfl⟩:∃z0 z1 z2 z3 z4 z5,xs=[z0,z1,z2,z3,z4,z5]:=by
  match xs,cZ with
  | [z0,z1,z2,z3,z4,z5],_=>exact⟨z0,z1,z2,z3,z4,z5,rfl⟩
 rw[dV]at hw
 simp only[DataW.weights,ZuX]at hw
 have g0:DataW.trod enc Tryz.prog W 0 (λ_=>true) cV k 5 (List.take (Tryz.prog.cellsOf 5) (List.drop 0 [c0,c1,c2,c3,c4,c5]))=some z0:=hx 0 _ rfl
 rw[show Tryz.prog.cellsOf 5=1 by kernel_rfl]at g0
 obtain⟨kk0,q0,_,w0⟩:=DataW.trod_int Tryz.underlying5 g0
 have b0:=wu8 w0
 obtain⟨kk,rfl⟩:∃z:Nat,kk0=z:=⟨kk0.toNat,by omega⟩
 have g1:DataW.trod enc Tryz.prog W 0 (λ_=>true) cV k 5 (List.take (Tryz.prog.cellsOf 5) (List.drop 1 [c0,c1,c2,c3,c4,c5]))=some z1:=hx 1 _ rfl
 rw[show Tryz.prog.cellsOf 5=1 by kernel_rfl]at g1
 obtain⟨nn0,q1,_,w1⟩:=DataW.trod_int Tryz.underlying5 g1
 have b1:=wu8 w1
 obtain⟨nn,rfl⟩:∃z:Nat,nn0=z:=⟨nn0.toNat,by omega⟩
 have g2:DataW.trod enc Tryz.prog W 0 (λ_=>true) cV k 5 (List.take (Tryz.prog.cellsOf 5) (List.drop 2 [c0,c1,c2,c3,c4,c5]))=some z2:=hx 2 _ rfl
 rw[show Tryz.prog.cellsOf 5=1 by kernel_rfl]at g2
 obtain⟨tt0,q2,_,w2⟩:=DataW.trod_int Tryz.underlying5 g2
 have b2:=wu8 w2
 obtain⟨tt,rfl⟩:∃z:Nat,tt0=z:=⟨tt0.toNat,by omega⟩
 have g3:DataW.trod enc Tryz.prog W 0 (λ_=>true) cV k 5 (List.take (Tryz.prog.cellsOf 5) (List.drop 3 [c0,c1,c2,c3,c4,c5]))=some z3:=hx 3 _ rfl
 rw[show Tryz.prog.cellsOf 5=1 by kernel_rfl]at g3
 obtain⟨gg0,q3,_,w3⟩:=DataW.trod_int Tryz.underlying5 g3
 have b3:=wu8 w3
 obtain⟨gg,rfl⟩:∃z:Nat,gg0=z:=⟨gg0.toNat,by omega⟩
 have g4:DataW.trod enc Tryz.prog W 0 (λ_=>true) cV k 101 (List.take (Tryz.prog.cellsOf 101) (List.drop 4 [c0,c1,c2,c3,c4,c5]))=some z4:=hx 4 _ rfl
 rw[show Tryz.prog.cellsOf 101=1 by kernel_rfl]at g4
 obtain⟨L4,a4,cap4,q4,uc,ud,cO,qM⟩:=ZdC (Zgw:=s8C) (Q:=(λs:Nat×Nat×Nat=>s.1 < 256/\s.2.1 < 256/\s.2.2 < 256)) (k:=3) (by kernel_rfl) (by kernel_rfl) (λ_=>rfl) (by decide) (zA6 (by kernel_rfl)) g4 (λw jz=>hw w (DataW.weights_mem_each (j:=4) (t:=101) rfl rfl w jz)) λn' _ cs' y hy lh=>Zyn n' cs' y hy lh
 have g5:DataW.trod enc Tryz.prog W 0 (λ_=>true) cV k 102 (List.take (Tryz.prog.cellsOf 102) (List.drop 5 [c0,c1,c2,c3,c4,c5]))=some z5:=hx 5 _ rfl
 rw[show Tryz.prog.cellsOf 102=1 by kernel_rfl]at g5
 obtain⟨L5,a5,cap5,q5,ue,uf,bO,qN⟩:=ZdC (Zgw:=SAct.cs) (Q:=RepSA (Zoa W)) (k:=4) (by kernel_rfl) (by kernel_rfl) (λ_=>rfl) (by decide) (zA6 (by kernel_rfl)) g5 (λw jz=>hw w (DataW.weights_mem_each (j:=5) (t:=102) rfl rfl w jz)) λn' _ cs' y hy lh=>ZtW n' cs' y hy lh
 simp only[List.drop,List.take,List.cons.injEq,and_true]at q0 q1 q2 q3 q4 q5
 subst q0
 subst q1
 subst q2
 subst q3
 subst q4
 subst q5
 exact⟨⟨kk,nn,tt,gg,a4,L4,cap4,a5,L5,cap5⟩,rfl,⟨by show kk < 256;omega,by show nn < 256;omega,by show tt < 256;omega,by show gg < 256;omega,ZAZ ud cO qM,uc,uf,ue,bO,qN⟩⟩
theorem ZtY(n:Nat)(cs:List Value)(x:DataW H×List MemPlace)(h:DataW.trod enc Tryz.prog W 0 (λ_=>true) cV n 100 cs=some x)(hw:∀w∈x.1.weights Tryz.prog 100,w<=reachBytes):∃s:SSta,cs=s.cs/\RepSS (Zoa W) s:=by
 obtain⟨L,a,cap,q,xt,qY,aF,bL⟩:=ZdC (Zgw:=SRul.cs) (Q:=RepSR (Zoa W)) (k:=6) (by kernel_rfl) (by kernel_rfl) (λ_=>rfl) (by decide) (zA6 (by kernel_rfl)) h hw λn' _ cs' y hy lh=>ZtX n' cs' y hy lh
 exact⟨⟨a,L,cap⟩,q,⟨qY,xt,aF,bL⟩⟩
theorem Zr4:Tryz.prog.underlying 25=some (.struct #[⟨ "Buffer",5,0,false, "", "",0⟩,⟨ "Values",22,1,false, "", "",8⟩,⟨ "States",23,2,false, "", "",32⟩]):=by kernel_rfl
theorem ZtZ(n:Nat)(cs:List Value)(x:DataW H×List MemPlace)(h:DataW.trod enc Tryz.prog W 0 (λ_=>true) cV n 25 cs=some x)(hw:∀w∈x.1.weights Tryz.prog 25,w<=reachBytes):∃s:SScr,cs=s.cs/\RepSC (Zoa W) s:=by
 obtain⟨xs,k,hk,dV,aT,cZ,hx⟩:=DataW.trod_struct Zr4 h
 have hc:Tryz.prog.cellsOf 25=3:=by kernel_rfl
 rw[hc]at aT
 obtain⟨c0,c1,c2,rfl⟩:∃c0 c1 c2,cs=[c0,c1,c2]:=by
  match cs,aT with
  | [c0,c1,c2],_=>exact⟨c0,c1,c2,rfl⟩
 obtain⟨z0,z1,z2,rfl⟩:∃z0 z1 z2,xs=[z0,z1,z2]:=by
  match xs,cZ with
  | [z0,z1,z2],_=>exact⟨z0,z1,z2,rfl⟩
 rw[dV]at hw
 simp only[DataW.weights,Zr4]at hw
 have g0:DataW.trod enc Tryz.prog W 0 (λ_=>true) cV k 5 (List.take (Tryz.prog.cellsOf 5) (List.drop 0 [c0,c1,c2]))=some z0:=hx 0 _ rfl
 rw[show Tryz.prog.cellsOf 5=1 by kernel_rfl]at g0
 obtain⟨kk0,q0,_,w0⟩:=DataW.trod_int Tryz.underlying5 g0
 have b0:=wu8 w0
 obtain⟨kk,rfl⟩:∃z:Nat,kk0=z:=⟨kk0.toNat,by omega⟩
 have g1:DataW.trod enc Tryz.prog W 0 (λ_=>true) cV k 22 (List.take (Tryz.prog.cellsOf 22) (List.drop 1 [c0,c1,c2]))=some z1:=hx 1 _ rfl
 rw[show Tryz.prog.cellsOf 22=1 by kernel_rfl]at g1
 obtain⟨L1,a1,cap1,q1,xu,ug,jf,qO⟩:=ZdC (Zgw:=(λn:Nat=>[Value.int .u8 n])) (Q:=(λn:Nat=>n < 256)) (k:=1) (by kernel_rfl) (by kernel_rfl) (λ_=>rfl) (by decide) (zA6 (by kernel_rfl)) g1 (λw jz=>hw w (DataW.weights_mem_each (j:=1) (t:=22) rfl rfl w jz)) λn' _ cs' y hy lh=>ZuV n' cs' y hy
 have g2:DataW.trod enc Tryz.prog W 0 (λ_=>true) cV k 23 (List.take (Tryz.prog.cellsOf 23) (List.drop 2 [c0,c1,c2]))=some z2:=hx 2 _ rfl
 rw[show Tryz.prog.cellsOf 23=1 by kernel_rfl]at g2
 obtain⟨L2,a2,cap2,q2,oz,oA,dE,lg⟩:=ZdC (Zgw:=SSta.cs) (Q:=RepSS (Zoa W)) (k:=1) (by kernel_rfl) (by kernel_rfl) (λ_=>rfl) (by decide) (zA6 (by kernel_rfl)) g2 (λw jz=>hw w (DataW.weights_mem_each (j:=2) (t:=23) rfl rfl w jz)) λn' _ cs' y hy lh=>ZtY n' cs' y hy lh
 simp only[List.drop,List.take,List.cons.injEq,and_true]at q0 q1 q2
 subst q0
 subst q1
 subst q2
 exact⟨⟨kk,a1,L1,cap1,a2,L2,cap2⟩,rfl,⟨by show kk < 256;omega,⟨qO,jf⟩,ug,oA,oz,dE,lg⟩⟩
end
theorem ZzC:ownKnob Tryz.prog.godebug=none:=by kernel_rfl
theorem Zyo:laidOutB Tryz.prog=true:=by kernel_rfl
set_option maxHeartbeats 4000000 in
theorem ZiT(H:Type)(enc:TypeId×Value->H)(W:World)(base:Nat)(args:Array Value)(ds gs:List (DataW H))(before:List MemPlace)
  (li:∀(j:Nat) t v,Tryz.f3.params[j]?=some t->args[j]?=some v->Value.okWide Tryz.prog W .any base t v)
  (hW:DataW.Whole enc Tryz.prog Tryz.f3.params.toList Rows.checkCapturesSpec.vars false W args.toList ds gs before) (bI:(DataW.weightsEach Tryz.prog (Tryz.f3.params.toList++Rows.checkCapturesSpec.plain.varTypes Tryz.prog) (ds++gs)).all (λn=>decide (n<=reachBytes))=true):
  Calls Tryz.prog 3 args W λe W'=>∃v,e=.returned v/\Rows.checkCapturesSpec.post enc Tryz.prog Tryz.f3 false true false false W args v W':=by
 have hW':=hW
 obtain⟨p,q,xv,hV,rfl,jQ,fJ⟩:=hW
 have hA:DataW.TrodAll enc Tryz.prog W 0 (λ_=>true) true Tryz.f3.params.toList args.toList ds p:=xv
 rw[Tryz.params3]at hA li
 obtain⟨v0,vs0,d0,ds0,p0,q0,a0,rfl,rfl,h0,r0⟩:=trodAll_cons hA
 obtain⟨v1,vs1,d1,ds1,p1,q1,rfl,rfl,rfl,h1,r1⟩:=trodAll_cons r0
 obtain⟨rfl,rfl,rfl⟩:=trodAll_nil r1
 obtain rfl:args=#[v0,v1]:=by cases args;simp_all
 obtain⟨rfl,rfl⟩:=trodVars_none hV
 obtain⟨f0,g0⟩:=h0
 obtain⟨cs0,rfl,-⟩:=okWide_struct Zr4 (li 0 _ v0 rfl rfl)
 obtain⟨Lc0,rfl⟩:∃L:List Value,cs0=L.toArray:=⟨cs0.toList,by simp⟩
 obtain⟨x,jZ,qP⟩:=ZtZ f0 _ _ g0 (λw jz=>by
  have:=List.all_eq_true.1 bI w (DataW.weights_mem_each (j:=0) (t:=25) (d:=d0) (by rw[Tryz.params3];rfl) rfl w jz)
  simpa using this)
 replace jZ:Lc0=x.cs:=jZ
 subst jZ
 obtain⟨u0,rfl,rfl,rfl,w1⟩:=open_int Tryz.underlying5 (li 1 _ v1 rfl rfl) h1
 have b1:=wu8 w1
 obtain⟨u,rfl⟩:∃z:Nat,u0=z:=⟨u0.toNat,by omega⟩
 exact ZsK (tb:=4) Zyo (by rw[Tryz.params3];intro t ht;simp at ht;rcases ht with rfl|rfl <;> exact⟨by kernel_rfl,zA6 (by kernel_rfl)⟩) hW' rfl rfl rfl rfl rfl Tryz.underlying4 (Zgt x u (Zoa W) qP (by omega))
theorem ZmS(os:Os)(started:os.Started)(H:Type)(enc:TypeId×Value->H):
  ReturnsInHanded {} Tryz.checked os 3 .any (λw args=>(Rows.checkCapturesSpec.pre enc Tryz.prog Tryz.f3 Rows.checkCapturesRow.domain false w args/\laidMetH Tryz.prog Rows.checkCapturesRow.laid w)/\sizedMet enc Tryz.prog Tryz.f3 (OpenSpec.ofChange Rows.checkCapturesSpec) false w args)
   (Rows.checkCapturesSpec.post enc Tryz.prog Tryz.f3 false true false false):=by
 refine returnsInHanded_of_change_and (C:=Tryz.checked) (X:=λw _=>laidMetH Tryz.prog Rows.checkCapturesRow.laid w) (λ_ _ _ hh h=>h.of_heap hh) ZzC started (by kernel_rfl) Tryz.func3
  (ChangeSpec.witness_shaped (enc:=enc) (C:=Tryz.checked) (os:=os) (X:=λw _=>laidMetH Tryz.prog Rows.checkCapturesRow.laid w) false (World.laidAll Tryz.prog os Rows.checkCapturesRow.laid) #[.agg #[.int .u8 0,.slice none 0 0,.slice none 0 0],.int .u8 0] 8 (World.laidAll_os _ _ _)
   (World.shaped_of_ZipB (by kernel_rfl) (by kernel_rfl)) (by kernel_rfl) (by kernel_rfl) (by kernel_rfl)
   (by rw[MakeChecks.laidMetH_plain _ _ _ (by kernel_rfl)];exact laidMet_laidAll _ (by kernel_rfl) (by kernel_rfl))) ?_
 intro W base args ds gs before li hW _ bI _ _
 exact ZiT H enc W base args ds gs before li hW bI
theorem Zt0:Rows.CheckCapturesSaid:=
 OpenClaim.holds_of_wide 3 Tryz.f3 rfl rfl rfl rfl rfl rfl rfl ⟨rfl,rfl,rfl,rfl,rfl⟩ rfl rfl rfl rfl rfl (by kernel_rfl) Tryz.func3 (by kernel_rfl)
  (zA6 (by kernel_rfl)) (by unfold Func.isWrapper;first|(rw[if_pos (by decide +kernel)];kernel_rfl)|(rw[if_neg (by decide +kernel)];exact⟨rfl,rfl⟩))
  (λos started H enc _=>ZmS os started H enc)
theorem ccapt_holds:Rows.CheckCapturesCardSaid:=
 Claim7.holds_tied_plain_at .later [] [.data,.pinned] true (true, "328ead3d7af3ebcb053ef92b4b0109ec57961d9185e273863f116b202ad8655a") false Zt0 (λ_ h=>by cases h) (by kernel_rfl) (λ_ h=>by cases h) checkCaptures_row_tie rfl ⟨rfl,rfl⟩ (by kernel_rfl) rfl
  (λf fn hf lA=>by
   obtain rfl:f=3:=Option.some.inj ((show Tryz.prog.funcNamed "repartee/reparteelaw30.CheckCaptures" = some 3 by kernel_rfl).symm.trans hf) |>.symm
   obtain rfl:fn=Tryz.f3:=(Option.some.inj (Tryz.func3.symm.trans lA)).symm
   exact⟨by kernel_rfl,λj t ht=>by
    rw[Tryz.params3]at ht
    have hm:t∈[25,5]:=by simpa using Array.mem_of_getElem? ht
    have bL:([25,5].all λu=>!Tryz.prog.wantsStandIn u)=true:=by kernel_rfl
    exact(show Tryz.prog.wantsStandIn t=false by simpa using List.all_eq_true.1 bL t hm)⟩)
  (by kernel_rfl)
#print axioms ccapt_holds
end Go.Proofs.YtdopppmkbkkmiaaGreatDoor