/- Part of the proof: conditions and contracts of functions of this program. No condition of its own. -/
import Derived.Test.YtplacemlpkhmfaaPVNR
import Derived.Test.YtplacemlpkhmfaaPC17RF
import Derived.Deep.Slices
import Derived.Laws.IdiomArrays
set_option linter.unusedVariables false
set_option linter.unusedSimpArgs false
namespace Go.Proofs.Ytplacemlpkhmfaa
open Go Go.Eng Go.Rx Go.Proofs Go.RowKit Go.ChangeShapes Go.WideShapes Go.ChangeAt
set_option maxRecDepth 100000
theorem ZsR{H:Type}(d:DataW H):1≤Rows.uptoBulk d:=by
 cases d with
 | lit l=>cases l <;> simp[Rows.uptoBulk]
 | nil=>simp[Rows.uptoBulk]
 | ptr d=>simp[Rows.uptoBulk]
 | slice elems spare=>simp[Rows.uptoBulk]
 | agg parts=>simp[Rows.uptoBulk]
 | iface t d=>simp[Rows.uptoBulk]
 | map entries=>simp[Rows.uptoBulk]
 | held h=>simp[Rows.uptoBulk]
theorem Zrr{H:Type}{d:DataW H}{l:List (DataW H)}(h:d∈l):Rows.uptoBulk d≤Rows.uptoBulkAll l:=by
 induction l with
 | nil=>cases h
 | cons x r ih=>
  simp only[Rows.uptoBulkAll]
  cases List.mem_cons.1 h with
  | inl e=>subst e;omega
  | inr e=>have:=ih e;omega
theorem Zmi{H:Type}(l:List (DataW H)):l.length≤Rows.uptoBulkAll l:=by
 induction l with
 | nil=>simp[Rows.uptoBulkAll]
 | cons x r ih=>have:=ZsR x;simp only[Rows.uptoBulkAll,List.length_cons];omega
theorem Zh9{H:Type}(elems spare:List (DataW H)):Rows.uptoBulkAll elems+Rows.uptoBulkAll spare+1=Rows.uptoBulk (.slice elems spare):=by simp[Rows.uptoBulk]
theorem ZuH{w:World}{a:Addr}{v:Value}(h:w.cell? (a.add 0)=some v):∃b o,a=⟨b,o,none⟩:=by
 obtain⟨b,o,sp⟩:=a
 cases sp with
 | none=>exact⟨b,o,rfl⟩
 | some s=>
  exfalso
  have e:(Addr.add ⟨b,o,some s⟩ 0)=⟨b,o,some s⟩:=rfl
  rw[e]at h
  unfold World.cell? at h
  split at h
  ·simp at h
  ·cases h
theorem Zrs{n:Int}(h:(Lit.int .u64 n).wf=true):0≤n∧n < 18446744073709551616:=by
 have:0≤n∧n≤18446744073709551615:=by simpa[Lit.wf,IntKind.min,IntKind.max,IntKind.signed,IntKind.bits]using h
 omega
section
variable {H:Type} {enc:TypeId×Value→H} {W:World} {held:Bool}
theorem ZhG{n:Nat}{cs:List Value}{x:DataW H×List MemPlace}(h:DataW.trod enc Try.prog W 0 (fun _=>true) held n 24 cs=some x):
  ∃l a c,cs=[.slice a l.length c]∧rowRd (Zoa W) a (Zaq l)∧l.length≤Rows.uptoBulk x.1:=by
 rcases Go.Deep.open_slice1 Try.underlying24 (by kernel_rfl) h with⟨cG,hx⟩|⟨a,len,m,m',n',V,D,Pl,cG,hb,hl,hm,fO,hx,lC⟩
 ·exact⟨[],none,0,cG,.inl rfl,by simp⟩
 ·simp only[if_true]at fO
  subst fO
  obtain⟨F,hF⟩:=Go.Deep.choose_lt (α:=Int) (n:=m') (p:=fun i s=>W.cell? (a.add i)=some (.int .i64 s)) (fun i hi=>by
   obtain⟨h1,h2⟩:=lC i hi
   obtain⟨k,hk,_,hw⟩:=DataW.trod_int Try.underlying3 h2
   simp at hk
   exact⟨k,by rw[h1,hk]⟩)
  refine⟨(List.range len).map F,some a,m',by rw[cG];simp,?_,?_⟩
  ·by_cases h0:len=0
   ·left;subst h0;rfl
   ·right
    obtain⟨b,o,rfl⟩:=ZuH (hF 0 (by omega))
    refine⟨b,o,rfl,fun j v hj=>?_⟩
    rw[Zaq,List.map_map,List.getElem?_map]at hj
    obtain⟨i',hi',rfl⟩:=Option.map_eq_some_iff.1 hj
    have bV:j < len:=by have:=(List.getElem?_eq_some_iff.1 hi').1;simpa using this
    have e:i'=j:=by rw[List.getElem?_range bV]at hi';exact(Option.some.inj hi').symm
    subst e
    have:=hF i' (by omega)
    rw[Zbp]at this
    exact this
  ·rw[hx,←Zh9]
   have:=Zmi ((List.range len).map D)
   simp at this ⊢;omega
theorem Zrt{n:Nat}{cs:List Value}{x:DataW H×List MemPlace}(h:DataW.trod enc Try.prog W 0 (fun _=>true) held n 23 cs=some x)(dG:Rows.uptoBulk x.1≤1048576):
  ∃(fol:List (List Int)) (a:Option Addr) (c:Nat) (vs:List Value),cs=[.slice a fol.length c]∧rowRd (Zoa W) a vs∧vs.length=fol.length∧fol.length≤c∧fol.length≤1048576∧∀(i:Nat)(v:Value)(l:List Int),vs[i]?=some v→fol[i]?=some l→∃a c,v=.slice a l.length c∧rowRd (Zoa W) a (Zaq l)∧l.length≤1048576:=by
 rcases Go.Deep.open_slice1 Try.underlying23 (by kernel_rfl) h with⟨cG,hx⟩|⟨a,len,m,m',n',V,D,Pl,cG,hb,hl,hm,fO,hx,lC⟩
 ·exact⟨[],none,0,[],cG,.inl rfl,rfl,Nat.le_refl _,by simp,fun i v l hv=>by simp at hv⟩
 ·simp only[if_true]at fO
  subst fO
  rw[hx,←Zh9]at dG
  have bY:=Zmi ((List.range len).map D)
  simp only[List.length_map,List.length_range]at bY
  obtain⟨F,hF⟩:=Go.Deep.choose_lt (α:=List Int) (n:=len) (p:=fun i l=>∃a1 c1,V i=.slice a1 l.length c1∧rowRd (Zoa W) a1 (Zaq l)∧l.length≤1048576) (fun i hi=>by
   obtain⟨h1,h2⟩:=lC i (by omega)
   obtain⟨l,a1,c1,e,h3,h4⟩:=ZhG h2
   simp at e
   have h5:D i∈(List.range len).map D:=List.mem_map.2 ⟨i,List.mem_range.2 hi,rfl⟩
   have h6:=Zrr h5
   exact⟨l,a1,c1,e,h3,by simp only at h4;omega⟩)
  refine⟨(List.range len).map F,some a,m',(List.range len).map V,by rw[cG];simp,?_,by simp,by simpa using hl,by simp;omega,?_⟩
  ·by_cases h0:len=0
   ·left;subst h0;rfl
   ·right
    obtain⟨b,o,rfl⟩:=ZuH (lC 0 (by omega)).1
    refine⟨b,o,rfl,fun j v hj=>?_⟩
    rw[List.getElem?_map]at hj
    obtain⟨i',hi',rfl⟩:=Option.map_eq_some_iff.1 hj
    have bV:j < len:=by have:=(List.getElem?_eq_some_iff.1 hi').1;simpa using this
    have e:i'=j:=by rw[List.getElem?_range bV]at hi';exact(Option.some.inj hi').symm
    subst e
    have:=(lC i' (by omega)).1
    rw[Zbp]at this
    exact this
  ·intro i v l hv hl'
   rw[List.getElem?_map]at hv hl'
   obtain⟨i1,h1,rfl⟩:=Option.map_eq_some_iff.1 hv
   obtain⟨i2,h2,rfl⟩:=Option.map_eq_some_iff.1 hl'
   rw[h1]at h2;cases h2
   have bV:i < len:=by have:=(List.getElem?_eq_some_iff.1 h1).1;simpa using this
   have e:i1=i:=by rw[List.getElem?_range bV]at h1;exact(Option.some.inj h1).symm
   subst e
   exact hF i1 bV
theorem ZsS{n:Nat}{cs:List Value}{x:DataW H×List MemPlace}(bY:cs.length=4)(h:DataW.trod enc Try.prog W 0 (fun _=>true) held n 38 cs=some x):∃q:QS,cs=qCs q∧QOk q:=by
 obtain⟨c0,c1,c2,c3,rfl⟩:∃a b c d,cs=[a,b,c,d]:=by
  match cs,bY with
  | [a,b,c,d],_=>exact⟨a,b,c,d,rfl⟩
 obtain⟨y0,y1,y2,y3,n',_,h0,h1,h2,h3⟩:=trod_array4 Try.underlying38 (by kernel_rfl) h
 obtain⟨n0,k0,_,w0⟩:=DataW.trod_int Try.underlying36 h0
 obtain⟨n1,k1,_,w1⟩:=DataW.trod_int Try.underlying36 h1
 obtain⟨n2,k2,_,w2⟩:=DataW.trod_int Try.underlying36 h2
 obtain⟨n3,k3,_,w3⟩:=DataW.trod_int Try.underlying36 h3
 simp at k0 k1 k2 k3
 exact⟨(n0,n1,n2,n3),by rw[k0,k1,k2,k3];rfl,Zrs w0,Zrs w1,Zrs w2,Zrs w3⟩
theorem Zru{n:Nat}{cs:List Value}{x:DataW H×List MemPlace}(h:DataW.trod enc Try.prog W 0 (fun _=>true) held n 22 cs=some x):
  ∃(l:List QS)(a:Option Addr)(c:Nat),cs=[.slice a l.length c]∧rowRd (Zoa W) a (Zby l)∧l.length≤Rows.uptoBulk x.1∧∀q∈l,QOk q:=by
 have v9:Try.prog.cellsOf 38=4:=by kernel_rfl
 rcases Go.Deep.open_slice Try.underlying22 h with⟨cG,hx⟩|⟨a,len,m,m',n',D,Pl,cG,hb,hl,hm,fO,hx,lC⟩
 ·exact⟨[],none,0,cG,.inl rfl,by simp,by simp⟩
 ·simp only[if_true]at fO
  subst fO
  rw[v9]at lC
  obtain⟨F,hF⟩:=Go.Deep.choose_lt (α:=QS) (n:=m') (p:=fun i q=>QOk q∧∀j v,(qCs q)[j]?=some v→W.cell? ((a.add (i*4)).add j)=some v) (fun i hi=>by
   obtain⟨cs,h1,h2⟩:=lC i hi
   obtain⟨_,bY,hc⟩:=World.cells?_some h1
   obtain⟨q,rfl,hq⟩:=ZsS bY h2
   refine⟨q,hq,fun j v hj=>?_⟩
   have bV:=(List.getElem?_eq_some_iff.1 hj).1
   rw[hc j (by simpa[qCs]using bV)];exact hj)
  refine⟨(List.range len).map F,some a,m',by rw[cG];simp,?_,?_,?_⟩
  ·by_cases h0:len=0
   ·left;subst h0;rfl
   ·right
    obtain⟨b,o,rfl⟩:=ZuH (a:=a) (v:=.int .u64 (F 0).1) (by
     have:=(hF 0 (by omega)).2 0 _ rfl
     rw[Nat.zero_mul]at this
     obtain⟨b,o,sp⟩:=a
     cases sp with
     | none=>rw[Zbp,Zbp]at this;rw[Zbp];exact this
     | some s=>exact this)
    refine⟨b,o,rfl,fun j v hj=>?_⟩
    have bV:j < ((List.range len).map F).length*4:=by
     have:=(List.getElem?_eq_some_iff.1 hj).1
     rwa [Zep]at this
    simp only[List.length_map,List.length_range]at bV
    have hq:((List.range len).map F)[j / 4]?=some (F (j / 4)):=by
     rw[List.getElem?_map,List.getElem?_range (by omega)];rfl
    obtain⟨u,hu⟩:=Zam (l:=qCs (F (j / 4))) (k:=j % 4) (by simp[qCs];omega)
    have h1:=Zma hq hu
    rw[show j / 4*4+j % 4=j by omega]at h1
    rw[show Zby ((List.range len).map F)=Rx.Zby ((List.range len).map F) from rfl]at hj
    rw[h1]at hj;cases hj
    have:=(hF (j / 4) (by omega)).2 (j % 4) _ hu
    rw[Zbp,Zbp,show o+j / 4*4+j % 4=o+j by omega]at this
    exact this
  ·rw[hx,←Zh9]
   have:=Zmi ((List.range len).map D)
   simp at this ⊢;omega
  ·intro q hq
   obtain⟨i,hi,rfl⟩:=List.mem_map.1 hq
   exact(hF i (by have:=List.mem_range.1 hi;omega)).1
theorem Zp4{v:Value}{d:DataW H}{ps:List MemPlace}{r:Reach}{b0:Nat}(gR:Value.okWide Try.prog W r b0 26 v)(h:DataW.Trod enc Try.prog W 0 (fun _=>true) held 26 v d ps)(dG:Rows.uptoBulk d≤1048576):
  ∃A sa sc fa fc xa xc ya yc vs,v=VN A sa sc fa fc xa xc ya yc∧NfW A (Zoa W) sa fa fc xa ya vs:=by
 obtain⟨n,h⟩:=h
 have hf:Try.prog.underlying 26=some (.struct #[⟨ "Sets",22,0,false, "", "",0⟩,⟨ "Follow",23,1,false, "", "",24⟩,⟨ "First",24,2,false, "", "",48⟩,⟨ "Last",24,3,false, "", "",72⟩,⟨ "Empty",4,4,false, "", "",96⟩]):=by kernel_rfl
 obtain⟨cs,rfl,cK⟩:=okWide_struct hf gR
 obtain⟨xs,k,rfl,wb,bY,ja,hx⟩:=DataW.trod_struct hf h
 have wd:Try.prog.cellsOf 26=5:=by kernel_rfl
 obtain⟨L,rfl⟩:∃L:List Value,cs=L.toArray:=⟨cs.toList,by simp⟩
 rw[wd]at bY
 replace bY:L.length=5:=bY
 obtain⟨c0,c1,c2,c3,c4,rfl⟩:∃a b c d e,L=[a,b,c,d,e]:=by
  match L,bY with
  | [a,b,c,d,e],_=>exact⟨a,b,c,d,e,rfl⟩
 obtain⟨z0,z1,z2,z3,z4,rfl⟩:∃a b c d e,xs=[a,b,c,d,e]:=by
  match xs,ja with
  | [a,b,c,d,e],_=>exact⟨a,b,c,d,e,rfl⟩
 have hd:=congrArg Prod.fst wb
 simp only at hd
 have k0:Try.prog.cellsOf 22=1:=by kernel_rfl
 have k1:Try.prog.cellsOf 23=1:=by kernel_rfl
 have k2:Try.prog.cellsOf 24=1:=by kernel_rfl
 have k4:Try.prog.cellsOf 4=1:=by kernel_rfl
 have g0:DataW.trod enc Try.prog W 0 (fun _=>true) held k 22 (List.take (Try.prog.cellsOf 22) (List.drop 0 [c0,c1,c2,c3,c4]))=some z0:=hx 0 _ rfl
 have g1:DataW.trod enc Try.prog W 0 (fun _=>true) held k 23 (List.take (Try.prog.cellsOf 23) (List.drop 1 [c0,c1,c2,c3,c4]))=some z1:=hx 1 _ rfl
 have g2:DataW.trod enc Try.prog W 0 (fun _=>true) held k 24 (List.take (Try.prog.cellsOf 24) (List.drop 2 [c0,c1,c2,c3,c4]))=some z2:=hx 2 _ rfl
 have g3:DataW.trod enc Try.prog W 0 (fun _=>true) held k 24 (List.take (Try.prog.cellsOf 24) (List.drop 3 [c0,c1,c2,c3,c4]))=some z3:=hx 3 _ rfl
 have g4:DataW.trod enc Try.prog W 0 (fun _=>true) held k 4 (List.take (Try.prog.cellsOf 4) (List.drop 4 [c0,c1,c2,c3,c4]))=some z4:=hx 4 _ rfl
 rw[k0]at g0
 rw[k1]at g1
 rw[k2]at g2 g3
 rw[k4]at g4
 replace g0:DataW.trod enc Try.prog W 0 (fun _=>true) held k 22 [c0]=some z0:=g0
 replace g1:DataW.trod enc Try.prog W 0 (fun _=>true) held k 23 [c1]=some z1:=g1
 replace g2:DataW.trod enc Try.prog W 0 (fun _=>true) held k 24 [c2]=some z2:=g2
 replace g3:DataW.trod enc Try.prog W 0 (fun _=>true) held k 24 [c3]=some z3:=g3
 replace g4:DataW.trod enc Try.prog W 0 (fun _=>true) held k 4 [c4]=some z4:=g4
 have hb:Rows.uptoBulk z0.1+(Rows.uptoBulk z1.1+(Rows.uptoBulk z2.1+(Rows.uptoBulk z3.1+(Rows.uptoBulk z4.1+0))))+1≤1048576:=by
  rw[hd]at dG
  simpa[Rows.uptoBulk,Rows.uptoBulkAll]using dG
 obtain⟨l0,a0,e0,q0,r0,s0,o0⟩:=Zru g0
 obtain⟨l1,a1,e1,vs,q1,r1,s1,t1,u1,o1⟩:=Zrt g1 (by omega)
 obtain⟨l2,a2,e2,q2,r2,s2⟩:=ZhG g2
 obtain⟨l3,a3,e3,q3,r3,s3⟩:=ZhG g3
 obtain⟨b,q4,_⟩:=DataW.trod_bool Try.underlying4 g4
 simp only[List.cons.injEq,and_true]at q0 q1 q2 q3 q4
 subst q0 q1 q2 q3 q4
 exact⟨⟨l0,l1,l2,l3,b⟩,a0,e0,a1,e1,a2,e2,a3,e3,vs,rfl,r0,r1,s1,t1,o1,r2,r3,by show l0.length≤_;omega,u1,by show l2.length≤_;omega,by show l3.length≤_;omega,o0⟩
theorem Zkq{v:Value}{d:DataW H}{ps:List MemPlace}{r:Reach}{b0:Nat}(gR:Value.okWide Try.prog W r b0 24 v)(h:DataW.Trod enc Try.prog W 0 (fun _=>true) held 24 v d ps):
  ∃l a c,v=.slice a l.length c∧rowRd (Zoa W) a (Zaq l)∧l.length≤Rows.uptoBulk d:=by
 obtain⟨n,h⟩:=h
 obtain⟨a0,len0,cap0,rfl⟩:=okWide_slice Try.underlying24 gR
 rw[ZnA]at h
 obtain⟨l,a,c,cG,h1,h2⟩:=ZhG h
 exact⟨l,a,c,by simpa using cG,h1,h2⟩
end
theorem Zn5(A B:Nf)(sa:Option Addr)(sc:Nat)(fa:Option Addr)(fc:Nat)(xa:Option Addr)(xc:Nat)(ya:Option Addr)(yc:Nat)(vs:List Value)(sb:Option Addr)(sd:Nat)(fb:Option Addr)(fd:Nat)(xb:Option Addr)(xd:Nat)(yb:Option Addr)(yd:Nat)(ws:List Value)
  (l:List Int) (la:Option Addr) (lc:Nat) (ch:Nat) (il:ch < 256) (m:Mem) (h:NfW A m sa fa fc xa ya vs) (k:NfW B m sb fb fd xb yb ws) (hl:rowRd m la (Zaq l)):
  CX Try.prog 3 #[VN A sa sc fa fc xa xc ya yc,VN B sb sd fb fd xb xd yb yd,.slice la l.length lc,.int .u8 ch] m [] (Ret (.bool true)):=by
 apply ZfS
 unfold Zdj
 intro b0 m1 bE _ b1 m2 bZ _
 have dE:=Mem.le_trans bE bZ
 refine⟨true,?_,Zad dE rfl⟩
 refine Zah (Zp2 A sa sc fa fc xa xc ya yc vs m2 (h.mono dE)) fun m3 cD=>Zab (fun h1=>Zah (ZfU m3) fun m4 cZ=>⟨by trivial,rfl⟩) (fun h1=>?_)
 have iB:=Mem.le_trans dE cD
 obtain⟨nA,fA⟩:=ZnY (sc:=sc) (xc:=xc) (yc:=yc) h (by simpa using h1)
 refine Zah (Zp2 B sb sd fb fd xb xd yb yd ws m3 (k.mono iB)) fun m4 cZ=>Zab (fun h2=>Zah (ZfU m4) fun m5 dB=>⟨by trivial,rfl⟩) (fun h2=>?_)
 have iC:=Mem.le_trans iB cZ
 obtain⟨nB,fB⟩:=ZnY (sc:=sd) (xc:=xd) (yc:=yd) k (by simpa using h2)
 refine Zab (fun h3=>Zah (ZfU m4) fun m5 dB=>⟨by trivial,rfl⟩) (fun h3=>?_)
 have dL:l.length≤70:=by have:=of_decide_eq_false h3;omega
 refine Zah (ZsQ A B h.ok k.ok _ _ m4 (nA.mono iC) (nB.mono iC) (by omega) l la lc (hl.mono iC) dL ch il) fun m5 dB=>ZvX rfl ?_
 exact Zah (ZfU m5) fun m6 gd=>⟨by trivial,rfl⟩
end Go.Proofs.Ytplacemlpkhmfaa
set_option linter.unusedVariables false
set_option linter.unusedSimpArgs false
namespace Go.Proofs.Ytplacemlpkhmfaa
open Go Go.Eng Go.Rx Go.Proofs Go.RowKit Go.ChangeShapes Go.WideShapes Go.ChangeAt
set_option maxRecDepth 100000
theorem ZiH(H:Type)(enc:TypeId×Value→H)(W:World)(base:Nat)(args:Array Value)(ds gs:List (DataW H))(before:List MemPlace)
  (gR:∀(j:Nat) t v,Try.f3.params[j]?=some t→args[j]?=some v→Value.okWide Try.prog W .any base t v)
  (hW:DataW.Whole enc Try.prog Try.f3.params.toList Rows.nfaStepsSpec.vars false W args.toList ds gs before) (hk:Rows.uptoSmall H (ds++gs)=true):
  Calls Try.prog 3 args W fun e W'=>∃v,e=.returned v∧Rows.nfaStepsSpec.post enc Try.prog Try.f3 false true false false W args v W':=by
 have hW':=hW
 obtain⟨p,q,we,hV,rfl,jD,dY⟩:=hW
 have hA:DataW.TrodAll enc Try.prog W 0 (fun _=>true) true Try.f3.params.toList args.toList ds p:=we
 rw[Try.params3]at hA gR
 obtain⟨v0,v1,v2,v3,d0,d1,d2,d3,p0,p1,p2,p3,rfl,rfl,rfl,h0,h1,h2,h3⟩:=trodAll_four hA
 obtain⟨rfl,rfl⟩:=trodVars_none hV
 have hb:Rows.uptoBulk d0+(Rows.uptoBulk d1+(Rows.uptoBulk d2+(Rows.uptoBulk d3+0)))≤1048576:=by
  simpa[Rows.uptoSmall,Rows.uptoBulkAll]using hk
 obtain⟨A,sa,sc,fa,fc,xa,xc,ya,yc,vs,rfl,wg⟩:=Zp4 (gR 0 _ v0 rfl rfl) h0 (by omega)
 obtain⟨B,sb,sd,fb,fd,xb,xd,yb,yd,ws,rfl,wh⟩:=Zp4 (gR 1 _ v1 rfl rfl) h1 (by omega)
 obtain⟨l,la,lc,rfl,hl,_⟩:=Zkq (gR 2 _ v2 rfl rfl) h2
 obtain⟨n3,rfl,rfl,rfl,w3⟩:=open_int Try.underlying5 (gR 3 _ v3 rfl rfl) h3
 have b3:=ZvN w3
 obtain⟨k3,rfl⟩:∃k:Nat,n3=k:=⟨n3.toNat,by omega⟩
 exact ZqF (tb:=4) ZtU (by rw[Try.params3];intro t ht;simp at ht;rcases ht with rfl|rfl|rfl <;> exact⟨by kernel_rfl,of_decide_eq_true (by kernel_rfl)⟩) hW' rfl rfl rfl rfl rfl Try.underlying4 (Zn5 A B sa sc fa fc xa xc ya yc vs sb sd fb fd xb xd yb yd ws l la lc k3 (by omega) (Zoa W) wg wh hl)
theorem ZlW(os:Os)(started:os.Started)(H:Type)(enc:TypeId×Value→H)(F:Stop.Interp):
  ReturnsInHanded {} Try.checked os 3 .any ((Rows.OpenSpec.upto Rows.nfaStepsSpec).pre6 enc Try.prog Try.f3 Rows.nfaStepsUptoRow.domain false) (((Rows.OpenSpec.upto Rows.nfaStepsSpec).at F).post enc Try.prog Try.f3 false true false false):=by
 refine returnsInHanded_of_cond (C:=Try.checked) (s:=Rows.OpenSpec.upto Rows.nfaStepsSpec) (k:=Rows.uptoSmall) rfl ZuV started (by kernel_rfl) Try.func3
  (OpenSpec.witness (enc:=enc) (C:=Try.checked) (s:=Rows.OpenSpec.upto Rows.nfaStepsSpec) (k:=Rows.uptoSmall) rfl false ⟨#[],#[.agg #[.slice none 0 0,.slice none 0 0,.slice none 0 0,.slice none 0 0,.bool false],.agg #[.slice none 0 0,.slice none 0 0,.slice none 0 0,.slice none 0 0,.bool false],.slice none 0 0,.int .u8 0],[]⟩ 8 (by kernel_rfl) (by kernel_rfl) (by kernel_rfl)
   (x:=([.agg [.nil,.nil,.nil,.nil,.lit (.bool false)],.agg [.nil,.nil,.nil,.nil,.lit (.bool false)],.nil,.lit (.int .u8 0)],[],[])) (by kernel_rfl) rfl (by kernel_rfl)) ?_
 intro W base args ds gs before gR hW _ hk _
 exact ZiH H enc W base args ds gs before gR hW hk
theorem steps_holds:Rows.NfaStepsUptoSaid:=
 OpenClaim.holds_of_cond 3 Try.f3 rfl rfl rfl rfl rfl rfl rfl ⟨rfl,rfl,rfl,rfl,rfl⟩ rfl rfl rfl rfl rfl (by kernel_rfl) Try.func3 (by kernel_rfl)
  (of_decide_eq_true (by kernel_rfl)) (by unfold Func.isWrapper;first|(rw[if_pos (by decide +kernel)];kernel_rfl)|(rw[if_neg (by decide +kernel)];exact⟨rfl,rfl⟩))
  (fun os started H enc _ F=>ZlW os started H enc F)
#print axioms steps_holds
end Go.Proofs.Ytplacemlpkhmfaa
