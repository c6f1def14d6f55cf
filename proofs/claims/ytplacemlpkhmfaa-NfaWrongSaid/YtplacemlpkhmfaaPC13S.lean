/- Part of the proof: conditions and contracts of functions of this program. No condition of its own. -/
import Derived.Test.YtplacemlpkhmfaaMc
import Derived.Test.YtplacemlpkhmfaaRows
import Derived.Test.YtplacemlpkhmfaaPC13J
set_option linter.unusedVariables false
set_option linter.unusedSimpArgs false
namespace Go.Proofs.Ytplacemlpkhmfaa
open Go Go.Eng Go.Rx Go.Proofs Go.RowKit Go.ChangeShapes Go.WideShapes Go.ChangeAt
set_option maxRecDepth 100000
theorem ZvO:ownKnob Try.prog.godebug=none:=by kernel_rfl
theorem ZuE:laidOutB Try.prog=true:=by kernel_rfl
theorem ZuF{n:Int}(h:(Lit.int .u8 n).wf=true):0≤n∧n < 256:=by
 have:0≤n∧n≤255:=by simpa[Lit.wf,IntKind.min,IntKind.max,IntKind.signed,IntKind.bits]using h
 omega
theorem ZrC{w:World}{a:Addr}{v:Value}(h:w.cell? ((a.add (0*3)).add 0)=some v):∃b o,a=⟨b,o,none⟩:=by
 obtain⟨b,o,sp⟩:=a
 cases sp with
 | none=>exact⟨b,o,rfl⟩
 | some s=>
  exfalso
  have e:(Addr.add (Addr.add ⟨b,o,some s⟩ (0*3)) 0)=⟨b,o,some s⟩:=rfl
  rw[e]at h
  unfold World.cell? at h
  split at h
  ·simp at h
  ·cases h
theorem Zsx:Try.prog.cellsOf 32=1∧Try.prog.cellsOf 106=3:=⟨by kernel_rfl,by kernel_rfl⟩
theorem ZrD{H:Type}{enc:TypeId×Value→H}{w:World}{base:Nat}{sp:Nat→Bool}{gG:Bool}{n:Nat}{cs:List Value}{x:DataW H×List MemPlace}(h:DataW.trod enc Try.prog w base sp gG n 106 cs=some x):
  ∃s:Nat×Nat×Nat,cs=[.int .u8 s.1,.int .u8 s.2.1,.int .u8 s.2.2]∧s.1 < 256∧s.2.1 < 256∧s.2.2 < 256:=by
 obtain⟨xs,k,rfl,rfl,bO,eM,hx⟩:=DataW.trod_struct (fs:=(Try.prog.fieldsOf 106)) (by kernel_rfl) h
 rw[Zsx.2]at bO
 have hf:(Try.prog.fieldsOf 106)=#[⟨ "Kind",5,0,false, "", "",0⟩,⟨ "N",5,1,false, "", "",1⟩,⟨ "M",5,2,false, "", "",2⟩]:=by kernel_rfl
 rw[hf]at hx eM
 have hc:Try.prog.cellsOf 5=1:=by kernel_rfl
 obtain⟨c0,c1,c2,rfl⟩:∃a b c,cs=[a,b,c]:=by
  match cs,bO with
  | [a,b,c],_=>exact⟨a,b,c,rfl⟩
 have get:∀i,i < 3→∃z,xs[i]?=some z:=fun i hi=>⟨xs[i]'(by rw[eM];exact hi),List.getElem?_eq_getElem _⟩
 have h0:DataW.trod enc Try.prog w base sp gG k 5 (List.take (Try.prog.cellsOf 5) (List.drop 0 [c0,c1,c2]))=xs[0]?:=hx 0 _ rfl
 have h1:DataW.trod enc Try.prog w base sp gG k 5 (List.take (Try.prog.cellsOf 5) (List.drop 1 [c0,c1,c2]))=xs[1]?:=hx 1 _ rfl
 have h2:DataW.trod enc Try.prog w base sp gG k 5 (List.take (Try.prog.cellsOf 5) (List.drop 2 [c0,c1,c2]))=xs[2]?:=hx 2 _ rfl
 obtain⟨z0,e0⟩:=get 0 (by omega)
 obtain⟨z1,e1⟩:=get 1 (by omega)
 obtain⟨z2,e2⟩:=get 2 (by omega)
 rw[e0,hc]at h0
 rw[e1,hc]at h1
 rw[e2,hc]at h2
 have g0:DataW.trod enc Try.prog w base sp gG k 5 [c0]=some z0:=h0
 have g1:DataW.trod enc Try.prog w base sp gG k 5 [c1]=some z1:=h1
 have g2:DataW.trod enc Try.prog w base sp gG k 5 [c2]=some z2:=h2
 obtain⟨n0,k0,_,w0⟩:=DataW.trod_int Try.underlying5 g0
 obtain⟨n1,k1,_,w1⟩:=DataW.trod_int Try.underlying5 g1
 obtain⟨n2,k2,_,w2⟩:=DataW.trod_int Try.underlying5 g2
 simp at k0 k1 k2
 have:=ZuF w0
 have:=ZuF w1
 have:=ZuF w2
 obtain⟨m0,rfl⟩:∃k:Nat,n0=k:=⟨n0.toNat,by omega⟩
 obtain⟨m1,rfl⟩:∃k:Nat,n1=k:=⟨n1.toNat,by omega⟩
 obtain⟨m2,rfl⟩:∃k:Nat,n2=k:=⟨n2.toNat,by omega⟩
 exact⟨(m0,m1,m2),by rw[k0,k1,k2],by simp;omega,by simp;omega,by simp;omega⟩
theorem Zn1{H:Type}{enc:TypeId×Value→H}{W:World}{gG:Bool}{n:Nat}{cs:List Value}{x:DataW H×List MemPlace}(h:DataW.trod enc Try.prog W 0 (fun _=>true) gG n 32 cs=some x):
  ∃l a c,cs=[.slice a l.length c]∧Sm (Zug W) a l∧l.length≤c:=by
 rcases Go.Deep.open_slice Try.underlying32 h with⟨cH,_⟩|⟨a,len,m,m',n',D,Pl,cH,hb,hl,hm,gl,_,hx⟩
 ·exact⟨[],none,0,cH,⟨by simp,by simp,fun i s hi=>by simp at hi⟩,Nat.le_refl _⟩
 ·simp only[if_true]at gl
  subst gl
  rw[Zsx.2]at hx
  obtain⟨F,hF⟩:=Go.Deep.choose_lt (α:=Nat×Nat×Nat) (n:=m') (p:=fun i s=>(∀j v,[Value.int .u8 (s.1:Nat),.int .u8 (s.2.1:Nat),.int .u8 (s.2.2:Nat)][j]?=some v→W.cell? ((a.add (i*3)).add j)=some v)∧s.1 < 256∧s.2.1 < 256∧s.2.2 < 256) (fun i hi=>by
   obtain⟨cs,h1,h2⟩:=hx i hi
   obtain⟨s,rfl,hs⟩:=ZrD h2
   obtain⟨_,_,hc⟩:=World.cells?_some h1
   refine⟨s,fun j v hj=>?_,hs⟩
   have bK:=(List.getElem?_eq_some_iff.1 hj).1
   rw[hc j (by simpa using bK)];exact hj)
  refine⟨(List.range len).map F,some a,m',by rw[cH];simp,⟨by simp[maxLen]at hm ⊢;omega,?_,?_⟩,by simpa using hl⟩
  ·intro s hs
   obtain⟨i,hi,rfl⟩:=List.mem_map.1 hs
   exact(hF i (by have:=List.mem_range.1 hi;omega)).2
  ·intro i s hi
   rw[List.getElem?_map]at hi
   obtain⟨i',hi',rfl⟩:=Option.map_eq_some_iff.1 hi
   have bK:i < len:=by have:=(List.getElem?_eq_some_iff.1 hi').1;simpa using this
   have e:i'=i:=by rw[List.getElem?_range bK]at hi';exact(Option.some.inj hi').symm
   subst e
   obtain⟨h1,_⟩:=hF i' (by omega)
   obtain⟨b,o,rfl⟩:=ZrC ((hF 0 (by omega)).1 0 _ rfl)
   refine⟨b,o,rfl,fun j v hj=>?_⟩
   have:=h1 j v hj
   rw[Zcb,Zcb]at this
   exact this
theorem Zn2(a:Option Addr)(n c:Nat):(Value.slice a n c).cells.toList=[.slice a n c]:=rfl
theorem Zn3{H:Type}{enc:TypeId×Value→H}{W:World}{gG:Bool}{v:Value}{d:DataW H}{ps:List MemPlace}{r:Reach}{b0:Nat}(iD:Value.okWide Try.prog W r b0 32 v)(h:DataW.Trod enc Try.prog W 0 (fun _=>true) gG 32 v d ps):
  ∃l a c,v=.slice a l.length c∧Sm (Zug W) a l∧l.length≤c:=by
 obtain⟨n,h⟩:=h
 obtain⟨a0,len0,cap0,rfl⟩:=okWide_slice Try.underlying32 iD
 rw[Zn2]at h
 obtain⟨l,a,c,cH,h1,h2⟩:=Zn1 h
 exact⟨l,a,c,by simpa using cH,h1,h2⟩
end Go.Proofs.Ytplacemlpkhmfaa

