/- The engine: a reckoner over the code of a program in Lean, with its soundness; it names no program. No condition. -/
import Derived.Test.YtojlhhphofhaoaaGreatDoorMa
import Derived.RangeFuncNested
import Derived.RangeFuncLeaves
set_option linter.unusedVariables false
set_option linter.unusedSimpArgs false
set_option linter.unusedSectionVars false
namespace Go.Eng
open Go Go.RowKit
theorem ZcF{n:Int}(h0 : -9223372036854775808<=n)(h1:n<=9223372036854775807):IntKind.i64.wrap n=n:=by
 simp only[IntKind.wrap,IntKind.bits,IntKind.signed,Bool.true_and]
 split
 ·rename_i h;simp at h;omega
 ·rename_i h;simp at h;omega
def Zvr(E:Env)(S:St)(T:TypeId)(l c:Operand)(d:Option Tmp)(K:St->Prop):Prop:=match d with
 | none=>False
 | some d=>match Zay E T with
  | none=>False
  | some (e,j)=>match S.L d with
   | some _=>False
   | none=>wv S l λvl=>wv S c λvc=>chk (ZbJ vl&&ZbJ vc) ((0<=intOf vl/\intOf vl<=intOf vc/\intOf vc*j.bytes<=281474976710656/\intOf vc<=9223372036854775807)/\
     ∀b,K ((S.newL d { b:=b,cs:=(List.replicate (intOf vc).toNat j.zero.cells.toList).flatten,T:=e,cap:=(intOf vc).toNat*j.size,fz:=false,full:=true }).put (some d) (some (.sl d (intOf vl).toNat (intOf vc).toNat))))
def ZrT(E:Env)(S:St)(m:Mem)(T:TypeId)(l c:Operand)(d:Option Tmp)(K:St->Mem->Prop):Prop:=match d with
 | none=>False
 | some d=>match Zay E T with
  | none=>False
  | some (e,j)=>wv S l λvl=>wv S c λvc=>chk (ZbJ vl&&ZbJ vc) ((0<=intOf vl/\intOf vl<=intOf vc/\intOf vc*j.bytes<=281474976710656/\intOf vc<=9223372036854775807)/\
     ∀b,m.free b->K (S.put (some d) (some (.v (.slice (some ⟨b,0,none⟩) (intOf vl).toNat (intOf vc).toNat)))) (m.add b (List.replicate (intOf vc).toNat j.zero.cells.toList).flatten))
def ZtC(E:Env)(d:Option Tmp):Bool:=match d with
 | none=>false
 | some d=>E.mkM d
theorem ZjG(zs:List Value):∀(c:Nat),(List.range (c*zs.length)).map (λi=>zs.toArray[i % zs.toArray.size]!)=(List.replicate c zs).flatten
 | 0=>by simp
 | c+1=>by
  rw[Nat.add_mul,Nat.one_mul,List.replicate_succ',List.flatten_append,<-ZjG zs c,List.range_add,List.map_append]
  congr 1
  simp only[List.flatten_cons,List.flatten_nil,List.append_nil,List.map_map]
  refine List.ext_getElem (by simp) λi h1 h2=>?_
  simp only[List.length_map,List.length_range]at h1
  simp only[List.getElem_map,List.getElem_range,Function.comp,List.size_toArray]
  rw[Nat.mul_comm,Nat.mul_add_mod,Nat.mod_eq_of_lt h1]
  simp[h1]
section
variable {C:Ctx} {S:St} {m:Mem} {a:Act} {w:World}
theorem ZnG{E:Env}(hE:E.ok){T:TypeId}{l c:Operand}{d:Option Tmp}{K:St->Prop}(hd:∀t,d=some t->t < C.n)(hr:Rel C S m a w)(h:Zvr E S T l c d K):
  ∃S' v w',K S'/\Rel C S' m (a.put d v) w'/\(Instr.makeSlice T (a.eval l) (a.eval c)).run E.P w=.ok v w':=by
 unfold Zvr at h
 cases d with
 | none=>exact h.elim
 | some d=>
  simp only at h
  cases hs:Zay E T with
  | none=>simp[hs]at h
  | some ej=>
   obtain⟨e,j⟩:=ej
   simp only[hs]at h
   cases hL:S.L d with
   | some x=>simp[hL]at h
   | none=>
    simp only[hL]at h
    obtain⟨vl,fS,h⟩:=Zau h
    obtain⟨vc,mf,h⟩:=Zau h
    obtain⟨h1,⟨h2,h3,h4,h5⟩,hk⟩:=Zah h
    simp only[Bool.and_eq_true]at h1
    obtain⟨kl,jV⟩:=ZaW h1.1
    obtain⟨kc,nj⟩:=ZaW h1.2
    generalize sV:intOf vl=nl at *
    generalize iA:intOf vc=nc at *
    obtain⟨i,iV,ik,jP⟩:=ZaI hs
    have eH:=hE e j jP
    have hu:=(hE T i iV).run_und (w:=w)
    rw[ik]at hu
    have cE:=eH.run_size (w:=w)
    have hz:=eH.run_zero (w:=w)
    obtain⟨x,g1,_,_,g4⟩:=eH.run_info (w:=w)
    have iC:j.zero.cells.toList.length=j.size:=by simpa using eH.zsize
    have bT:((List.replicate nc.toNat j.zero.cells.toList).flatten).length=nc.toNat*j.size:=by simp[eH.zsize]
    have hb:=hr.newBox (d:=d) hL (x:={ b:=w.heap.size,cs:=(List.replicate nc.toNat j.zero.cells.toList).flatten,T:=e,cap:=nc.toNat*j.size,fz:=false,full:=true }) (m':=m) [] rfl (by simpa using bT) (λ_=>bT) (.inl ⟨rfl,rfl⟩)
    simp only[List.append_nil]at hb
    refine⟨_,.slice (some ⟨w.heap.size,0,none⟩) nl.toNat nc.toNat,_,hk w.heap.size,hb.put (some d) hd (by simp[St.den,St.newL]),?_⟩
    rw[hr.ev fS,hr.ev mf,jV,nj]
    have w1:IntKind.i64.wrap nl=nl:=ZcF (by omega) (by omega)
    have w2:IntKind.i64.wrap nc=nc:=ZcF (by omega) (by omega)
    have qM:0<=nc:=by omega
    have c1:¬(nc < 0):=by omega
    have c2:¬(nl < 0):=by omega
    have c3:¬(nc < nl):=by omega
    have c4:¬(281474976710656 < (x.bytes:Int)*nc):=by rw[g4,Int.mul_comm];omega
    have eK:(Array.map (λi=>(if nc.toNat*j.size=0 then(#[]:Array Value)else j.zero.cells)[i % (if nc.toNat*j.size=0 then(#[]:Array Value)else j.zero.cells).size]!) (Array.range (nc.toNat*j.size)))=(List.replicate nc.toNat j.zero.cells.toList).flatten.toArray:=by
     have:=ZjG j.zero.cells.toList nc.toNat
     rw[iC]at this
     apply Array.ext'
     by_cases h0:nc.toNat*j.size=0
     ·have jW:(List.replicate nc.toNat j.zero.cells.toList).flatten=[]:=List.eq_nil_of_length_eq_zero (by rw[bT,h0])
      simp[h0,jW]
     ·simp only[h0,if_false,Array.toList_map,Array.toList_range]
      rw[<-this]
    by_cases h0:nc.toNat*j.size=0
    ·simp only[h0,if_true]at eK
     simp[Instr.makeSlice,hu,asInt,asIntOf,g1,w1,w2,c1,c2,c3,c4,cE,h0,newRow,<-eK]
    ·simp only[h0,if_false]at eK
     simp[Instr.makeSlice,hu,asInt,asIntOf,g1,w1,w2,c1,c2,c3,c4,cE,h0,hz,newRow,<-eK]
theorem Zma{E:Env}(hE:E.ok){T:TypeId}{l c:Operand}{d:Option Tmp}{K:St->Mem->Prop}(hd:∀t,d=some t->t < C.n)(hr:Rel C S m a w)(h:ZrT E S m T l c d K):
  ∃S' m' v w',K S' m'/\Rel C S' m' (a.put d v) w'/\(Instr.makeSlice T (a.eval l) (a.eval c)).run E.P w=.ok v w':=by
 unfold ZrT at h
 cases d with
 | none=>exact h.elim
 | some d=>
  simp only at h
  cases hs:Zay E T with
  | none=>simp[hs]at h
  | some ej=>
   obtain⟨e,j⟩:=ej
   simp only[hs]at h
   obtain⟨vl,fS,h⟩:=Zau h
   obtain⟨vc,mf,h⟩:=Zau h
   obtain⟨h1,⟨h2,h3,h4,h5⟩,hk⟩:=Zah h
   simp only[Bool.and_eq_true]at h1
   obtain⟨kl,jV⟩:=ZaW h1.1
   obtain⟨kc,nj⟩:=ZaW h1.2
   generalize sV:intOf vl=nl at *
   generalize iA:intOf vc=nc at *
   obtain⟨i,iV,ik,jP⟩:=ZaI hs
   have eH:=hE e j jP
   have hu:=(hE T i iV).run_und (w:=w)
   rw[ik]at hu
   have cE:=eH.run_size (w:=w)
   have hz:=eH.run_zero (w:=w)
   obtain⟨x,g1,_,_,g4⟩:=eH.run_info (w:=w)
   have iC:j.zero.cells.toList.length=j.size:=by simpa using eH.zsize
   have bT:((List.replicate nc.toNat j.zero.cells.toList).flatten).length=nc.toNat*j.size:=by simp[eH.zsize]
   have fC:∀o,m w.heap.size o=none:=λo=>by
    cases he:m w.heap.size o with
    | none=>rfl
    | some u=>have:=hr.sub.lt he;omega
   have dO:Sub (m.add w.heap.size (List.replicate nc.toNat j.zero.cells.toList).flatten) (w.alloc (.cells ((List.replicate nc.toNat j.zero.cells.toList).flatten).toArray e (0,0))):=(hr.sub.alloc _).add λo v hv=>by
     have:(w.alloc (.cells ((List.replicate nc.toNat j.zero.cells.toList).flatten).toArray e (0,0))).heap[w.heap.size]?=some (.cells ((List.replicate nc.toNat j.zero.cells.toList).flatten).toArray e (0,0)):=by show(w.heap.push _)[w.heap.size]?=_;simp
     simp only[World.cell?,this]
     simpa using hv
   have jU:=hr.world (m':=m.add w.heap.size (List.replicate nc.toNat j.zero.cells.toList).flatten) (Keep.alloc (Nat.le_refl _) (Zex _ _)) dO (Mem.le_add fC _) (NewM.add _ _ ⟨Nat.le_refl _,Wr.new (Zex _ _)⟩)
   refine⟨_,_,.slice (some ⟨w.heap.size,0,none⟩) nl.toNat nc.toNat,_,hk w.heap.size fC,jU.put (some d) hd rfl,?_⟩
   rw[hr.ev fS,hr.ev mf,jV,nj]
   have w1:IntKind.i64.wrap nl=nl:=ZcF (by omega) (by omega)
   have w2:IntKind.i64.wrap nc=nc:=ZcF (by omega) (by omega)
   have qM:0<=nc:=by omega
   have c1:¬(nc < 0):=by omega
   have c2:¬(nl < 0):=by omega
   have c3:¬(nc < nl):=by omega
   have c4:¬(281474976710656 < (x.bytes:Int)*nc):=by rw[g4,Int.mul_comm];omega
   have eK:(Array.map (λi=>(if nc.toNat*j.size=0 then(#[]:Array Value)else j.zero.cells)[i % (if nc.toNat*j.size=0 then(#[]:Array Value)else j.zero.cells).size]!) (Array.range (nc.toNat*j.size)))=(List.replicate nc.toNat j.zero.cells.toList).flatten.toArray:=by
    have:=ZjG j.zero.cells.toList nc.toNat
    rw[iC]at this
    apply Array.ext'
    by_cases h0:nc.toNat*j.size=0
    ·have jW:(List.replicate nc.toNat j.zero.cells.toList).flatten=[]:=List.eq_nil_of_length_eq_zero (by rw[bT,h0])
     simp[h0,jW]
    ·simp only[h0,if_false,Array.toList_map,Array.toList_range]
     rw[<-this]
   by_cases h0:nc.toNat*j.size=0
   ·simp only[h0,if_true]at eK
    simp[Instr.makeSlice,hu,asInt,asIntOf,g1,w1,w2,c1,c2,c3,c4,cE,h0,newRow,<-eK]
   ·simp only[h0,if_false]at eK
    simp[Instr.makeSlice,hu,asInt,asIntOf,g1,w1,w2,c1,c2,c3,c4,cE,h0,hz,newRow,<-eK]
def frW(fr:Option Mem)(b:Nat)(p:Prop):Prop:=match fr with
 | none=>p
 | some m=>m.free b->p
theorem Zul{fr:Option Mem}{m:Mem}{b:Nat}{p:Prop}(ga:∀m',fr=some m'->m'=m)(hf:m.free b)(h:frW fr b p):p:=by
 cases fr with
 | none=>exact h
 | some m'=>exact h (by rw[ga m' rfl];exact hf)
theorem ZqN{fr:Option Mem}{b:Nat}{p q:Prop}(h:p->q)(hx:frW fr b p):frW fr b q:=by
 cases fr with
 | none=>exact h hx
 | some m=>exact λhf=>h (hx hf)
def Zmb(E:Env)(S:St)(fr:Option Mem)(T:TypeId)(l c:Operand)(d:Option Tmp)(key:Nat)(K:St->Prop):Prop:=match d with
 | none=>False
 | some d=>match Zay E T with
  | none=>False
  | some (e,j)=>wv S l λvl=>wv S c λvc=>chk (ZbJ vl&&ZbJ vc) ((intOf vl=0/\0<=intOf vc/\intOf vc*j.bytes<=281474976710656/\intOf vc<=9223372036854775807)/\
     ∀b,frW fr b (K (({ S with tok:=λk=>bif Nat.beq k key then some ⟨.slice (some ⟨b,0,none⟩) 0 (intOf vc).toNat,j.size⟩ else S.tok k,tkeys:=key::S.tkeys }:St).put (some d) (some (.v (.slice (some ⟨b,0,none⟩) 0 (intOf vc).toNat))))))
theorem ZgF{E:Env}(hE:E.ok){T:TypeId}{l c:Operand}{d:Option Tmp}{key:Nat}{K:St->Prop}{fr:Option Mem}(ga:∀m',fr=some m'->m'=m)(hd:∀t,d=some t->t < C.n)(hr:Rel C S m a w)(h:Zmb E S fr T l c d key K):
  ∃S' v w',K S'/\Rel C S' m (a.put d v) w'/\(Instr.makeSlice T (a.eval l) (a.eval c)).run E.P w=.ok v w'/\
   (c=.const (.int .i64 0)->∃i e,E.tt T=some i/\i.d=.slice e/\v=.slice (some ⟨w.heap.size,0,none⟩) 0 0/\w'=w.alloc (.cells #[] e (0,0))):=by
 unfold Zmb at h
 cases d with
 | none=>exact h.elim
 | some d=>
  simp only at h
  cases hs:Zay E T with
  | none=>simp[hs]at h
  | some ej=>
   obtain⟨e,j⟩:=ej
   simp only[hs]at h
   obtain⟨vl,fS,h⟩:=Zau h
   obtain⟨vc,mf,h⟩:=Zau h
   obtain⟨h1,⟨h2,h3,h4,h5⟩,hk⟩:=Zah h
   simp only[Bool.and_eq_true]at h1
   obtain⟨kl,jV⟩:=ZaW h1.1
   obtain⟨kc,nj⟩:=ZaW h1.2
   generalize sV:intOf vl=nl at *
   generalize iA:intOf vc=nc at *
   subst h2
   obtain⟨i,iV,ik,jP⟩:=ZaI hs
   have eH:=hE e j jP
   have hu:=(hE T i iV).run_und (w:=w)
   rw[ik]at hu
   have cE:=eH.run_size (w:=w)
   have hz:=eH.run_zero (w:=w)
   obtain⟨x,g1,_,_,g4⟩:=eH.run_info (w:=w)
   have iC:j.zero.cells.toList.length=j.size:=by simpa using eH.zsize
   have bT:((List.replicate nc.toNat j.zero.cells.toList).flatten).length=nc.toNat*j.size:=by simp[eH.zsize]
   have dO:Sub m (w.alloc (.cells ((List.replicate nc.toNat j.zero.cells.toList).flatten).toArray e (0,0))):=hr.sub.alloc _
   have jU:Rel C S m a (w.alloc (.cells ((List.replicate nc.toNat j.zero.cells.toList).flatten).toArray e (0,0))):=hr.world (Keep.alloc (Nat.le_refl _) (Zex _ _)) dO (Mem.le_refl m) (NewM.refl _ _)
   have fC:∀o,m w.heap.size o=none:=λo=>by
    cases he:m w.heap.size o with
    | none=>rfl
    | some u=>have:=hr.sub.lt he;omega
   have bX:TokOk m (w.alloc (.cells ((List.replicate nc.toNat j.zero.cells.toList).flatten).toArray e (0,0))) ⟨.slice (some ⟨w.heap.size,0,none⟩) 0 nc.toNat,j.size⟩:=
    .inr ⟨w.heap.size,0,0,nc.toNat,((List.replicate nc.toNat j.zero.cells.toList).flatten).toArray,e,(0,0),rfl,Nat.zero_le _,by show(w.heap.push _)[w.heap.size]?=_;simp,by show 0+nc.toNat*j.size<=((List.replicate nc.toNat j.zero.cells.toList).flatten).length;rw[bT,Nat.zero_add];exact Nat.le_refl _,λo _ ho=>by simp at ho,λo _ _=>fC o⟩
   have il:∀b,(Tok.mk (.slice (some ⟨w.heap.size,0,none⟩) 0 nc.toNat) j.size).blk=some b->b=w.heap.size:=λb hb=>by simp[Tok.blk]at hb;exact hb.symm
   have gV:=jU.tokUpd key _ bX (λb hb=>by
    have:=il b hb
    subst this
    refine⟨⟨λid x hx e=>?_,λo=>?_⟩,λk' t' _ hk' hb'=>?_⟩
    ·have:=(hr.own id x hx).lt;omega
    ·cases he:C.me w.heap.size o with
     | none=>rfl
     | some u=>have:=hr.sub.lt (hr.le _ _ _ he);omega
    ·have:=(hr.toks k' t' hk').1.lt hb';omega) (by
    obtain⟨M,hd'⟩:=hr.dom
    refine⟨_,hd'.step (m':=m) ((Keep.alloc (Nat.le_refl _) (Zex _ _):Keep w.heap.size [] w _).upd (by simp)) (NewM.refl _ _),λb hb=>?_⟩
    have:=il b hb
    subst this
    exact .inr ⟨Nat.le_refl _,by show w.heap.size < (w.heap.push _).size;simp,Wr.new (Zex _ _)⟩)
   have fl:=hk w.heap.size
   have gC:=Zul ga fC fl
   refine⟨_,.slice (some ⟨w.heap.size,0,none⟩) 0 nc.toNat,_,gC,gV.put (some d) hd rfl,?_,λhc=>⟨i,e,iV,ik,?_,?_⟩⟩
   rotate_left
   ·subst hc
    have:vc=.int .i64 0:=by simpa[St.val,St.ev,St.den]using mf.symm
    subst this
    simp only[intOf]at iA;subst iA;rfl
   ·subst hc
    have:vc=.int .i64 0:=by simpa[St.val,St.ev,St.den]using mf.symm
    subst this
    simp only[intOf]at iA;subst iA;rfl
   rw[hr.ev fS,hr.ev mf,jV,nj]
   have w1:IntKind.i64.wrap 0=0:=ZcF (by omega) (by omega)
   have w2:IntKind.i64.wrap nc=nc:=ZcF (by omega) (by omega)
   have c1:¬(nc < 0):=by omega
   have c2:¬((0:Int) < 0):=by omega
   have c4:¬(281474976710656 < (x.bytes:Int)*nc):=by rw[g4,Int.mul_comm];omega
   have eK:(Array.map (λi=>(if nc.toNat*j.size=0 then(#[]:Array Value)else j.zero.cells)[i % (if nc.toNat*j.size=0 then(#[]:Array Value)else j.zero.cells).size]!) (Array.range (nc.toNat*j.size)))=((List.replicate nc.toNat j.zero.cells.toList).flatten).toArray:=by
    have:=ZjG j.zero.cells.toList nc.toNat
    rw[iC]at this
    apply Array.ext'
    by_cases h0:nc.toNat*j.size=0
    ·have jW:(List.replicate nc.toNat j.zero.cells.toList).flatten=[]:=List.eq_nil_of_length_eq_zero (by rw[bT,h0])
     simp[h0,jW]
    ·simp only[h0,if_false,Array.toList_map,Array.toList_range]
     rw[<-this]
   by_cases h0:nc.toNat*j.size=0
   ·simp only[h0,if_true]at eK
    simp[Instr.makeSlice,hu,asInt,asIntOf,g1,w1,w2,c1,c2,c4,cE,h0,newRow,<-eK]
   ·simp only[h0,if_false]at eK
    simp[Instr.makeSlice,hu,asInt,asIntOf,g1,w1,w2,c1,c2,c4,cE,h0,hz,newRow,<-eK]
theorem Rel.freeze(h:Rel C S m a w){id:Nat}{x:Box}(hx:S.L id=some x)(n:Nat)(hn:∃cells T fr,w.heap[x.b]?=some (.cells cells T fr)/\cells.size=n):Rel C S m a (w.freeze ⟨x.b,n,none⟩ 1):=by
 obtain⟨sp,fr,hh,hc,hf⟩:=(h.own id x hx).cells
 obtain⟨cells,T,fr',hh',t7⟩:=hn
 rw[hh]at hh'
 simp only[Option.some.injEq,Obj.cells.injEq]at hh'
 obtain⟨e1,_,_⟩:=hh'
 have dW:n=x.cap:=by rw[<-t7,<-e1];simpa using hc
 have bY:∀k,k≠x.b->(w.freeze ⟨x.b,n,none⟩ 1).heap[k]?=w.heap[k]?:=λk hk=>by
  simp only[World.freeze,Nat.one_ne_zero,if_false,Array.getElem?_modify]
  rw[if_neg (by simpa using Ne.symm hk)]
 have dX:∃fr',(w.freeze ⟨x.b,n,none⟩ 1).heap[x.b]?=some (.cells (x.cs++sp).toArray x.T fr')/\(fr'.1=fr'.2\/x.cap<=fr'.1):=by
  obtain⟨lo,hi⟩:=fr
  refine⟨if lo == hi then(n,n+1)else(min lo n,max hi (n+1)),?_,?_⟩
  ·simp only[World.freeze,Nat.one_ne_zero,if_false,Array.getElem?_modify,if_true,hh,Option.map_some]
  ·split
   ·right;simp only;omega
   ·rename_i dU
    simp only at hf
    rcases hf with hf|hf
    ·simp[hf]at dU
    ·right;simp only;omega
 obtain⟨fr2,dX,kZ⟩:=dX
 have dP:∀(b o:Nat),(w.freeze ⟨x.b,n,none⟩ 1).cell? ⟨b,o,none⟩=w.cell? ⟨b,o,none⟩:=λb o=>by
  by_cases hb:b=x.b
  ·subst hb;simp only[World.cell?,dX,hh]
  ·exact Zb4 (bY b hb) o
 have nL:(w.freeze ⟨x.b,n,none⟩ 1).os=w.os/\(w.freeze ⟨x.b,n,none⟩ 1).tape=w.tape/\(w.freeze ⟨x.b,n,none⟩ 1).output=w.output/\(w.freeze ⟨x.b,n,none⟩ 1).heap.size=w.heap.size:=by
  simp[World.freeze]
 have:=h.upd (w':=w.freeze ⟨x.b,n,none⟩ 1) (m':=m) (L':=S.L) [x.b] ⟨nL.1,nL.2.1,nL.2.2.1,by omega,λk _ hk=>bY k (by simpa using hk),λk _ hk=>by
  by_cases gv:k=x.b
  ·subst gv
   intro c1 T1 fr1 qN i hi wd
   rw[dX]at qN
   simp only[Option.some.injEq,Obj.cells.injEq]at qN
   obtain⟨rfl,rfl,rfl⟩:=qN
   have:i < x.cap:=by rw[<-hc];simpa using hi
   omega
  ·exact hk.of_eq (bY k gv)⟩ (h.sub.wr1 (h.own id x hx).isC bY (λ_ _ h=>h) λb o v hv=>by rw[dP];exact h.sub b o v hv) (Mem.le_refl m) (NewM.refl _ _) (λ_=>rfl)
  (λi y hy=>by
   by_cases hi:i=id
   ·subst hi
    rw[hx]at hy;cases hy
    have ho:=(h.own _ x hx)
    exact .inr ⟨⟨sp,fr2,dX,hc,kZ⟩,ho.free,ho.known,ho.whole⟩
   ·refine .inl ⟨hy,?_⟩
    simp only[List.mem_singleton]
    exact λe=>hi (h.apart i id y x hy hx e))
  (λb hb=>⟨id,x,hx,by simp at hb;exact hb.symm⟩)
 exact this
theorem Zdf{P:Program}{w:World}(b o:Nat){cells:Array Value}{T:TypeId}{fr:Nat×Nat}(h:w.heap[b]?=some (.cells cells T fr)):
  (markStringish ⟨b,o,none⟩).run P w=.ok () (w.freeze ⟨b,cells.size,none⟩ 1):=by
 simp[markStringish,World.shape?,h]
end
def Za0(s:ByteArray):List Value:=s.data.toList.map λb=>.int .u8 b.toNat
def ZcM(E:Env)(s d:TypeId):Bool:=Zez E s&&(match Zay E d with
 | none=>false
 | some (_,j)=>match j.d with
  | .int .u8=>true
  | _=>false)
def Zxn(S:St)(m:Mem)(x:Operand)(d:Option Tmp)(K:St->Mem->Prop):Prop:=
 wv S x λv=>chk (Zgw v) (∀(b c:Nat),m.free b->(Zb9 v).size<=c->K (S.put d (some (.v (.slice (some ⟨b,0,none⟩) (Zb9 v).size c)))) (m.add b (Za0 (Zb9 v))))
section
variable {C:Ctx} {S:St} {m:Mem} {a:Act} {w:World}
theorem ZnH{E:Env}(hE:E.ok){s d:TypeId}(gj:ZcM E s d=true){x:Operand}{t:Option Tmp}{K:St->Mem->Prop}(hd:∀t',t=some t'->t' < C.n)(hr:Rel C S m a w)(h:Zxn S m x t K):
  ∃S' m' v w',K S' m'/\Rel C S' m' (a.put t v) w'/\(convert s d (a.eval x)).run E.P w=.ok v w':=by
 unfold Zxn at h
 obtain⟨v,hv,h⟩:=Zau h
 obtain⟨h1,hk⟩:=Zah h
 have he:=hr.ev hv
 have fu:=ZcJ h1
 generalize Zb9 v=bs at *
 subst fu
 unfold ZcM at gj
 rw[Bool.and_eq_true]at gj
 obtain⟨i,hi,dH⟩:=Zfx gj.1
 have gj:=gj.2
 cases hs:Zay E d with
 | none=>simp[hs]at gj
 | some ej=>
  obtain⟨e,j⟩:=ej
  simp only[hs]at gj
  obtain⟨k,gk,ia,qO⟩:=ZaI hs
  have iy:j.d=.int .u8:=by
   cases iy:j.d with
   | int kk=>cases kk <;> simp[iy]at gj <;> rfl
   | _=>simp[iy]at gj
  have nR:=(hE s i hi).run_und (w:=w)
  rw[dH]at nR
  have p6:=(hE d k gk).run_und (w:=w)
  rw[ia]at p6
  have mg:=(hE e j qO).run_und (w:=w)
  rw[iy]at mg
  generalize dW:grownCap w bs.size 0 e=cap
  have dB:bs.size<=cap:=by rw[<-dW];exact grownCap_ge w bs.size 0 e
  have cF:m.free w.heap.size:=λo=>by
   cases he:m w.heap.size o with
   | none=>rfl
   | some v=>have:=hr.sub.lt he;omega
  obtain⟨cells,jX⟩:∃cells,cells=(Za0 bs++List.replicate (cap - bs.size) (Value.int .u8 0)).toArray:=⟨_,rfl⟩
  obtain⟨w1,iK⟩:∃w1,w1=w.drew.alloc (.cells cells e (0,0)):=⟨_,rfl⟩
  have kN:w1.heap[w.heap.size]?=some (.cells cells e (0,0)):=by rw[iK];exact heap_alloc_new w.drew _
  obtain⟨w2,gR⟩:∃w2,w2=w1.freeze ⟨w.heap.size,cells.size,none⟩ 1:=⟨_,rfl⟩
  have bY:∀k,k≠w.heap.size->w2.heap[k]?=w1.heap[k]?:=λk hk=>by
   rw[gR]
   simp only[World.freeze,Nat.one_ne_zero,if_false,Array.getElem?_modify]
   rw[if_neg (by simpa using Ne.symm hk)]
  have dX:∃fr',w2.heap[w.heap.size]?=some (.cells cells e fr'):=by
   rw[gR]
   simp only[World.freeze,Nat.one_ne_zero,if_false,Array.getElem?_modify,if_true,kN,Option.map_some]
   exact⟨_,rfl⟩
  obtain⟨fr',dX⟩:=dX
  have nS:Wr w2 w.heap.size:=by
   intro c1 T1 fr1 hh i hi
   rw[gR]at hh
   simp[World.freeze,Array.getElem?_modify,kN]at hh
   obtain⟨rfl,rfl,rfl⟩:=hh
   simp only;omega
  have mh:Keep w.heap.size [] w w1:=(Keep.drew w).trans (by rw[iK];exact Keep.alloc (B:=w.heap.size) (w:=w.drew) (show w.heap.size<=w.drew.heap.size from Nat.le_refl _) (Zex _ _))
  have mj:Keep w.heap.size [] w1 w2:=by
   refine⟨by rw[gR];simp[World.freeze],by rw[gR];simp[World.freeze],by rw[gR];simp[World.freeze],by rw[gR];simp[World.freeze],λk hk _=>bY k (by omega),λk _ hk=>?_⟩
   by_cases gv:k=w.heap.size
   ·subst gv;exact nS
   ·exact hk.of_eq (bY k gv)
  have fN:=mh.trans mj
  have gB:Sub (m.add w.heap.size (Za0 bs)) w2:=by
   refine(hr.sub.below λb' bB=>fN.block b' bB (by simp)).add λo v hv=>?_
   have bB:=(List.getElem?_eq_some_iff.1 hv).1
   simp only[World.cell?,dX,Option.isSome_none,Bool.false_eq_true,if_false,jX,List.getElem?_toArray]
   rw[List.getElem?_append_left bB,hv]
  have bP:Rel C S (m.add w.heap.size (Za0 bs)) a w2:=hr.world fN gB (Mem.le_add cF _) (NewM.add _ _ ⟨Nat.le_refl _,nS⟩)
  refine⟨_,_,.slice (some ⟨w.heap.size,0,none⟩) bs.size cap,w2,hk w.heap.size cap cF dB,bP.put t hd rfl,?_⟩
  have qP:=Zdf (P:=E.P) (w:=w1) w.heap.size 0 kN
  have eK:(Array.map (λb:UInt8=>Value.int .u8 (b.toNat:Int)) bs.data++Array.replicate (cap - bs.size) (Value.int .u8 0))=cells:=by
   rw[jX]
   apply Array.ext'
   simp[Za0]
  have t8:(newRow e cells).run E.P w.drew=.ok ⟨w.heap.size,0,none⟩ w1:=by
   rw[iK];simp[newRow]
  rw[he]
  simp only[convert,Sem.run_bind,nR,Result.andThen_ok,p6,mg,Conv.stringToBytes]
  simp[Question.forced]
  rw[show(Question.appendCap bs.size 0 e).cut (w.tape w.drawn (Question.appendCap bs.size 0 e))=cap from dW,eK,t8]
  simp only[Result.andThen_ok,qP,<-gR]
end
def ZcN(E:Env)(s d:TypeId):Bool:=Zez E d&&(match Zay E s with
 | none=>false
 | some (_,j)=>match j.d with
  | .int .u8=>true
  | _=>false)
def ZbQ(S:St)(m:Mem)(x:Operand)(K:Value->Prop):Prop:=match S.ev x with
 | some (.sl id n c)=>match S.L id with
  | none=>False
  | some bx=>∃bs:ByteArray,Nat.beq bs.size n=true/\Za0 bs=bx.cs.take n/\K (.string bs)
 | _=>wv S x λv=>chk (Zbi v) (∃bs:ByteArray,bs.size=slN v/\rowRd m (slA v) (Za0 bs)/\K (.string bs))
def Zed(S:St)(m:Mem)(x:Operand)(K:Value->Prop):Prop:=match S.ev x with
 | some (.v v)=>chk (Zbi v) (∃bs:ByteArray,bs.size=slN v/\rowRd m (slA v) (Za0 bs)/\K (.string bs))
 | _=>False
theorem Zi8{S:St}{m:Mem}{x:Operand}{K:Value->Prop}(h:Zed S m x K):ZbQ S m x K:=by
 unfold Zed at h
 unfold ZbQ
 split at h
 ·rename_i v he
  simp only[he]
  unfold wv St.val
  simp only[he,St.den]
  exact h
 ·exact h.elim
def Zmc(E:Env)(S:St)(m:Mem)(x:Operand)(K:Value->Prop):Prop:=bif E.fix.isSome then Zed S m x K else ZbQ S m x K
theorem ZpK{E:Env}{S:St}{m:Mem}{x:Operand}{K:Value->Prop}(h:Zmc E S m x K):ZbQ S m x K:=by
 unfold Zmc at h
 cases hf:E.fix.isSome with
 | true=>rw[hf]at h;exact Zi8 h
 | false=>rw[hf]at h;exact h
theorem Zmd{S:St}{m:Mem}{x:Operand}{k k':Value->Prop}(h:∀v,k v->k' v)(hx:Zed S m x k):Zed S m x k':=by
 unfold Zed at *
 split at hx
 ·obtain⟨h1,bs,h2,h3,h4⟩:=Zah hx
  exact Zaa h1 ⟨bs,h2,h3,h _ h4⟩
 ·exact hx.elim
theorem Zcd(s:ByteArray):(Za0 s).length=s.size:=by
 unfold Za0 ByteArray.size
 rw[List.length_map,Array.length_toList]
theorem ZrU(ns:List UInt8):∀s:ByteArray,(ns.map λb:UInt8=>(b.toNat:Int)).foldl (λ(r:ByteArray)(n:Int)=>r.push (UInt8.ofNat n.toNat)) s=⟨s.data++ns.toArray⟩:=by
 induction ns with
 | nil=>intro s;simp
 | cons b l ih=>
  intro s
  rw[List.map_cons,List.foldl_cons,ih]
  congr 1
  apply Array.ext'
  simp[ByteArray.push]
theorem Zme{P:Program}{w:World}{s d e:TypeId}{a:Option Addr}{c:Nat}{bs:ByteArray}(hs:P.underlying s=some (.slice e))(he:P.underlying e=some (.int .u8))(hd:P.underlying d=some .string)
  (eA:∀j v,(Za0 bs)[j]?=some v->∃b o,a=some ⟨b,o,none⟩/\w.cell? ⟨b,o+j,none⟩=some v):(convert s d (.slice a bs.size c)).run P w=.ok (.string bs) w:=by
 rw[run_convert_bytes_string w s d e a bs.size c hs he hd]
 cases a with
 | none=>
  have h0:Za0 bs=[]:=by
   cases h:Za0 bs with
   | nil=>rfl
   | cons v l=>obtain⟨_,_,h1,_⟩:=eA 0 v (by rw[h];rfl);cases h1
  have hb:bs.size=0:=by rw[<-Zcd,h0];rfl
  have:bs=ByteArray.empty:=by
   cases bs with
   | mk data=>
    have:data=#[]:=Array.eq_empty_of_size_eq_zero hb
    subst this;rfl
  subst this
  simp[Conv.bytesToString]
 | some a=>
  have hl:(loadCells a bs.size).run P w=.ok (((bs.data.toList.map λb:UInt8=>(b.toNat:Int))).map (Value.int .u8)).toArray w:=by
   have ml:(bs.data.toList.map λb:UInt8=>(b.toNat:Int)).map (Value.int .u8)=Za0 bs:=by simp[Za0]
   rw[ml]
   by_cases h0:bs.size=0
   ·have:Za0 bs=[]:=List.eq_nil_of_length_eq_zero (by rw[Zcd,h0])
    rw[this,h0];rfl
   ·obtain⟨v,hv⟩:∃v,(Za0 bs)[0]?=some v:=⟨_,List.getElem?_eq_getElem (by rw[Zcd];omega)⟩
    obtain⟨b,o,ha,_⟩:=eA 0 v hv
    cases ha
    rw[<-Zcd]
    exact ZdF b o _ (λj u hu=>by obtain⟨_,_,h1,h2⟩:=eA j u hu;cases h1;exact h2)
  have gV:(⟨ByteArray.empty.data++bs.data.toList.toArray⟩:ByteArray)=bs:=by
   cases bs with
   | mk data=>
    congr 1
    apply Array.ext'
    show((#[]:Array UInt8)++data.toList.toArray).toList=data.toList
    simp
  rw[run_bytesToString w a bs.size c _ hl,ZrU,gV]
section
variable {C:Ctx} {S:St} {m:Mem} {a:Act} {w:World}
theorem ZgG{E:Env}(hE:E.ok){s d:TypeId}(gj:ZcN E s d=true){x:Operand}{K:Value->Prop}(hr:Rel C S m a w)(h:ZbQ S m x K):
  ∃v,K v/\(convert s d (a.eval x)).run E.P w=.ok v w:=by
 unfold ZcN at gj
 rw[Bool.and_eq_true]at gj
 obtain⟨i,hi,dH⟩:=Zfx gj.1
 have gj:=gj.2
 cases hs:Zay E s with
 | none=>simp[hs]at gj
 | some ej=>
  obtain⟨e,j⟩:=ej
  simp only[hs]at gj
  obtain⟨k,gk,ia,qO⟩:=ZaI hs
  have iy:j.d=.int .u8:=by
   cases iy:j.d with
   | int kk=>cases kk <;> simp[iy]at gj <;> rfl
   | _=>simp[iy]at gj
  have p6:E.P.underlying d=some .string:=by rw[(hE d i hi).und,dH]
  have nR:E.P.underlying s=some (.slice e):=by rw[(hE s k gk).und,ia]
  have mg:E.P.underlying e=some (.int .u8):=by rw[(hE e j qO).und,iy]
  have gen:∀{v:Value},S.val x=some v->(∃bs,Zbi v=true/\bs.size=slN v/\(∀j u,(Za0 bs)[j]?=some u->∃b o,slA v=some ⟨b,o,none⟩/\w.cell? ⟨b,o+j,none⟩=some u)/\K (.string bs))->∃v,K v/\(convert s d (a.eval x)).run E.P w=.ok v w:=by
   rintro v hv ⟨bs,h1,h2,h3,h4⟩
   obtain⟨ba,n,c,rfl⟩:∃ba n c,v=.slice ba n c:=⟨_,_,_,ZbW h1⟩
   simp only[slN,slA]at h2 h3
   subst h2
   exact⟨_,h4,by rw[hr.ev hv];exact Zme nR mg p6 h3⟩
  unfold ZbQ at h
  split at h
  ·rename_i id n c he
   cases hL:S.L id with
   | none=>simp[hL]at h
   | some bx=>
    simp only[hL]at h
    obtain⟨bs,h1,h2,h3⟩:=h
    have h1:=Nat.eq_of_beq_eq_true h1
    refine gen (v:=.slice (some ⟨bx.b,0,none⟩) n c) (by simp[St.val,he,St.den,hL]) ⟨bs,rfl,h1,λj u hu=>⟨bx.b,0,rfl,?_⟩,h3⟩
    rw[Nat.zero_add]
    refine(hr.own id bx hL).cell ?_
    rw[h2]at hu
    rw[List.getElem?_take]at hu
    split at hu
    ·exact hu
    ·cases hu
  ·obtain⟨v,hv,h⟩:=Zau h
   obtain⟨h1,bs,h2,h3,h4⟩:=Zah h
   refine gen hv ⟨bs,h1,h2,λj u hu=>?_,h4⟩
   rcases h3 with h3|⟨b,o,h5,h6⟩
   ·rw[h3]at hu;simp at hu
   ·exact⟨b,o,h5,hr.sub _ _ _ (h6 j u hu)⟩
end
def Mem.upd(m:Mem)(b o:Nat)(vs:List Value):Mem:=⟨λb' o'=>if b'=b/\o<=o'/\o' < o+vs.length then vs[o' - o]? else m b' o',m.k⟩
theorem Mem.upd_other(m:Mem){b b':Nat}(h:b'≠b)(o:Nat)(vs:List Value)(o':Nat):m.upd b o vs b' o'=m b' o':=by
 simp only[Mem.upd];rw[if_neg (λhc=>h hc.1)]
theorem Mem.le_upd{m0 m:Mem}(h:m0.le m){b:Nat}(hb:m0.free b)(o:Nat)(vs:List Value):m0.le (m.upd b o vs):=⟨λb' o' v hv=>by
 by_cases e:b'=b
 ·subst e;rw[hb o']at hv;cases hv
 ·rw[Mem.upd_other m e];exact h _ _ _ hv,h.k⟩
def ZnI(E:Env)(x:Operand):Option Nat:=bif E.thaw then(match x with
 | .tmp t=>E.stAt t
 | _=>none)else none
def ZgH(E:Env)(S:St)(m:Mem)(T:TypeId)(key:Nat)(x:Operand)(v:Value)(K:Mem->Prop):Prop:=wv S x λp=>match E.tt T with
 | none=>False
 | some i=>match S.tok key with
  | none=>match E.m0 with
   | none=>False
   | some m0=>chk (!S.fo&&Zh6 p&&(Nat.beq v.cells.size i.size&&Zdv v.cells.toList)) ((∃vs:List Value,vs.length=i.size/\m.reads (ZqI p) (ZqJ p) vs)/\Mem.free m0 (ZqI p)/\Nat.blt 0 i.size=true/\nfz S (ZqI p) S.ids (K (m.upd (ZqI p) (ZqJ p) v.cells.toList)))
  | some t=>chk (Zh6 p&&(Nat.beq v.cells.size i.size&&Zdv v.cells.toList)) (t.v=.slice (some ⟨ZqI p,0,none⟩) (slN t.v) (slC t.v)/\ZqJ p+i.size<=slN t.v*t.esz/\K (m.upd (ZqI p) (ZqJ p) v.cells.toList))
section
variable {C:Ctx} {S:St} {m:Mem} {a:Act} {w:World}
theorem Rel.storeOwn(hr:Rel C S m a w){b o:Nat}{vs:List Value}{cur:Array Value}{TT:TypeId}{fr:Nat×Nat}{w':World}(dD:w.heap[b]?=some (.cells cur TT fr))(iL:Wr w b)(cE:o+vs.length<=cur.size)
  (hw':w'=w.setRow b (ZaG cur.toList o vs).toArray) (hM:∀M,Dom C S m a w M->M b) (h0:C.me.free b) (qQ:∀id x,S.L id=some x->x.b≠b)
  (bX:∀k t o0 n c,S.tok k=some t->t.v=.slice (some ⟨b,o0,none⟩) n c->∀q,o<=q->q < o+vs.length->o0+n*t.esz<=q->q < o0+c*t.esz->False):Rel C S (m.upd b o vs) a w':=by
 have bY:∀k,k≠b->w'.heap[k]?=w.heap[k]?:=λk hk=>by rw[hw'];exact setRow_other w b k _ hk
 have dX:w'.heap[b]?=some (.cells (ZaG cur.toList o vs).toArray TT fr):=by rw[hw'];exact setRow_heap w b cur _ TT fr dD
 have fO:(ZaG cur.toList o vs).length=cur.size:=by
  rw[Zcm (by rw[Array.length_toList];omega),Array.length_toList]
 have fV:∀o,o < cur.size->¬(fr.1<=o/\o < fr.2):=iL cur TT fr dD
 have gB:Sub (m.upd b o vs) w':=by
  refine hr.sub.wr1 ⟨_,_,_,dD⟩ bY (λ_ _ h=>h) λb1 o1 u hu=>?_
  by_cases hb:b1=b
  ·subst hb
   simp only[Mem.upd,true_and]at hu
   simp only[World.cell?,dX,Option.isSome_none,Bool.false_eq_true,if_false,List.getElem?_toArray]
   have la:o+vs.length<=cur.toList.length:=by simp;omega
   have et:(List.take o cur.toList).length=o:=by simp;simp at la;omega
   by_cases iz:o<=o1/\o1 < o+vs.length
   ·rw[if_pos iz]at hu
    simp only[ZaG]
    rw[List.append_assoc,List.getElem?_append_right (by omega),et,List.getElem?_append_left (by omega)]
    exact hu
   ·rw[if_neg iz]at hu
    have jS:=hr.sub _ _ _ hu
    simp only[World.cell?,dD,Option.isSome_none,Bool.false_eq_true,if_false]at jS
    rw[<-Array.getElem?_toList]at jS
    simp only[ZaG]
    by_cases t9:o1 < o
    ·rw[List.append_assoc,List.getElem?_append_left (by omega),List.getElem?_take,if_pos t9];exact jS
    ·rw[List.getElem?_append_right (by simp at iz et ⊢;omega),List.getElem?_drop]
     have:o+vs.length+(o1 - (List.take o cur.toList++vs).length)=o1:=by
      rw[List.length_append,et];omega
     rw[this];exact jS
  ·rw[Mem.upd_other m hb]at hu
   rw[Zb4 (bY b1 hb)];exact hr.sub _ _ _ hu
 refine⟨?_,hr.size,hr.env,λid y hy=>?_,hr.apart,hr.ids,λk t' ht'=>?_,hr.tkeys,hr.tapart,gB,Mem.le_upd hr.le h0 _ _,?_,hr.fo⟩
 ·obtain⟨ms,d1,d2,d3⟩:=hr.defers
  refine⟨ms,d1,d2,λD hD=>?_⟩
  rw[bY D (λe=>by have:=d3 D hD;rw[e,dD]at this;cases this)];exact d3 D hD
 ·have ho:=hr.own id y hy
  have dU:=qQ id y hy
  exact⟨by rw[bY _ dU];exact ho.cells,λhz o1=>by rw[Mem.upd_other m dU];exact ho.free hz o1,λhz j u hu=>by rw[Mem.upd_other m dU];exact ho.known hz j u hu,ho.whole⟩
 ·obtain⟨q1,q2⟩:=hr.toks k t' ht'
  refine⟨?_,q2⟩
  by_cases fl:t'.blk=some b
  ·rcases q1 with q1|⟨b',o0,n,c,cur',TT',fr',hv,iA,hh,kY,ua,cF⟩
   ·exact .inl q1
   obtain rfl:b'=b:=by simpa[Tok.blk,hv]using fl
   rw[dD]at hh
   simp only[Option.some.injEq,Obj.cells.injEq]at hh
   obtain⟨rfl,rfl,rfl⟩:=hh
   have cJ:=bX k t' o0 n c ht' hv
   refine .inr ⟨b',o0,n,c,_,TT,fr,hv,iA,dX,by simp only[List.size_toArray,fO];exact kY,λo1 lA=>fV o1 (by simpa only[List.size_toArray,fO]using lA),λo1 lA iB=>?_⟩
   simp only[Mem.upd]
   rw[if_neg (λhc=>cJ o1 hc.2.1 hc.2.2 lA iB)];exact cF o1 lA iB
  ·have dU:∀b1,t'.blk=some b1->b1≠b:=λb1 dF e=>by subst e;exact fl dF
   exact q1.same (λb1 dF=>bY _ (dU b1 dF)) (λb1 o1 dF hn=>by rw[Mem.upd_other m (dU b1 dF)];exact hn)
 ·obtain⟨M,hd⟩:=hr.dom
  have hu:Upd M w w':=⟨by rw[hw'];rfl,by rw[hw'];rfl,by rw[hw'];rfl,by rw[hw'];simp,λk hk hn=>bY k (λe=>hn (e ▸ hM M hd)),λk _ hk=>by
   by_cases gv:k=b
   ·subst gv
    intro c1 T1 fr1 hh i hi
    rw[dX]at hh
    simp only[Option.some.injEq,Obj.cells.injEq]at hh
    obtain⟨rfl,rfl,rfl⟩:=hh
    exact fV i (by simpa only[List.size_toArray,fO]using hi)
   ·exact hk.of_eq (bY k gv)⟩
  exact⟨_,hd.step hu ⟨λb1 o1 u ni=>by
   by_cases hb:b1=b
   ·exact .inr (.inl (hb ▸ hM M hd))
   ·rw[Mem.upd_other m hb]at ni;exact .inl ni,λ_ _ h=>.inl h⟩⟩
theorem ZgI{E:Env}{T:TypeId}{i:TI}(cV:TOk E.P T i){w:World}{b o:Nat}{v:Value}{cur:Array Value}{TT:TypeId}{fr:Nat×Nat}(dD:w.heap[b]?=some (.cells cur TT fr))(iL:Wr w b)(cE:o+v.cells.toList.length<=cur.size)
  (h1:v.cells.size=i.size) (ge:v.cells.all Value.oneCell'=true):(Instr.storeAt T (ptr b o) v).run E.P w=.ok () (w.setRow b (ZaG cur.toList o v.cells.toList).toArray):=by
 have nT:=ZbN (P:=E.P) b o TT fr v.cells.toList 0 cur w dD (λo ho=>iL cur TT fr dD o ho) (by omega) (λu hu=>by
  rw[Array.all_eq_true_iff_forall_mem]at ge;exact ge u (by simpa using hu))
 have bS:(storeVar T ⟨b,o,none⟩ v).run E.P w=.ok () (w.setRow b (ZaG cur.toList o v.cells.toList).toArray):=by
  have hz:=cV.run_size (w:=w)
  simp only[storeVar,Sem.run_bind,hz,Result.andThen_ok,h1,ne_eq,not_true_eq_false,if_false]
  rw[nT]
  simp[ZaG]
 simp[Instr.storeAt,Instr.sureAddr,ptr,bS]
theorem ZgJ{E:Env}(hE:E.ok)(hY:YOk E C){T:TypeId}{key:Nat}{x:Operand}{v:Value}{K:Mem->Prop}(hr:Rel C S m a w)(h:ZgH E S m T key x v K):
  ∃m' w',K m'/\Rel C S m' a w'/\(Instr.storeAt T (a.eval x) v).run E.P w=.ok () w':=by
 unfold ZgH at h
 obtain⟨p,hp,h⟩:=Zau h
 have he:=hr.ev hp
 cases ht:E.tt T with
 | none=>simp[ht]at h
 | some i=>
  simp only[ht]at h
  have cV:=hE T i ht
  cases hk:S.tok key with
  | none=>
   simp only[hk]at h
   cases fy:E.m0 with
   | none=>simp[fy]at h
   | some mm=>
    simp only[fy]at h
    obtain⟨jl,hW⟩:=hY.m0 mm fy
    obtain⟨h1,⟨us,nR,eA⟩,h3,h5,h4⟩:=Zah h
    simp only[Bool.and_eq_true,Bool.not_eq_true']at h1
    obtain⟨⟨i6,iD⟩,np⟩:=h1
    have h1:=And.intro iD np
    have gc:=hr.fo i6
    have nU:=Zcl h1.1
    generalize ZqI p=b at *
    generalize ZqJ p=o at *
    have cE:=Nat.eq_of_beq_eq_true h1.2.1
    have ge:=Ze3 h1.2.2
    have bT:v.cells.toList.length=i.size:=by simpa using cE
    have gq:0 < i.size:=by simpa[Nat.blt_eq]using h5
    obtain⟨qR,ub⟩:=ZfE h4
    obtain⟨u,hu⟩:∃u,us[i.size - 1]?=some u:=⟨_,List.getElem?_eq_getElem (by omega)⟩
    have dP:=hr.sub _ _ _ (eA _ _ hu)
    obtain⟨cur,TT,fr,dD⟩:∃c T fr,w.heap[b]?=some (.cells c T fr):=by
     unfold World.cell? at dP
     split at dP
     ·rename_i c T fr hc;exact⟨c,T,fr,hc⟩
     ·cases dP
    have fY:o+(i.size - 1) < cur.size:=by
     simp only[World.cell?,dD,Option.isSome_none,Bool.false_eq_true,if_false]at dP
     exact(Array.getElem?_eq_some_iff.1 dP).1
    have jO:∀M,Dom C S m a w M->M b:=λM hd=>by
     rcases hd.new _ _ _ (eA _ _ hu)with h6|h6
     ·rw[gc,jl,h3]at h6;cases h6
     ·exact h6
    have iL:Wr w b:=by
     obtain⟨M,hd⟩:=hr.dom
     exact hW _ _ _ hd.p b (jO M hd)
    refine⟨_,_,qR,hr.storeOwn dD iL (by omega) rfl jO (by rw[gc,jl];exact h3) (λid y hy e=>?_) (λk t o0 n c iW hv q gD nq sW sX=>?_),?_⟩
    ·have ho:=hr.own id y hy
     cases hz:y.fz with
     | true=>exact ub id y (hr.ids id y hy) hy hz e
     | false=>
      have:=ho.free hz (o+(i.size - 1))
      rw[e,eA _ _ hu]at this;cases this
    ·rcases(hr.toks k t iW).1 with q0|⟨b',o',n',c',_,_,_,hv',_,_,_,_,cF⟩
     ·rw[hv]at q0;cases q0
     ·rw[hv]at hv'
      simp only[Value.slice.injEq,Option.some.injEq,Addr.mk.injEq,and_true]at hv'
      obtain⟨⟨rfl,rfl⟩,rfl,rfl⟩:=hv'
      have h7:=cF _ sW sX
      obtain⟨u7,uc⟩:∃u7,us[q - o]?=some u7:=⟨us[q - o]'(by omega),List.getElem?_eq_getElem _⟩
      have h8:=eA _ _ uc
      rw[show o+(q - o)=q by omega,h7]at h8;cases h8
    ·rw[he,nU];exact ZgI cV dD iL (by omega) cE ge
  | some t=>
   simp only[hk]at h
   obtain⟨h1,h2,h3,h4⟩:=Zah h
   simp only[Bool.and_eq_true]at h1
   have nU:=Zcl h1.1
   generalize ZqI p=b at *
   generalize ZqJ p=o at *
   have cE:=Nat.eq_of_beq_eq_true h1.2.1
   have ge:=Ze3 h1.2.2
   have bT:v.cells.toList.length=i.size:=by simpa using cE
   obtain⟨g1,g2⟩:=hr.toks key t hk
   have il:t.blk=some b:=by unfold Tok.blk;rw[h2]
   obtain⟨g2,g3⟩:=g2 b il
   rcases g1 with g1|⟨b',o0,n,c,cur,TT,fr,hv,iA,dD,kY,fV,cF⟩
   ·rw[g1]at h2;cases h2
   rw[hv]at h2
   simp only[Value.slice.injEq,Option.some.injEq,Addr.mk.injEq,and_true]at h2
   obtain⟨⟨rfl,rfl⟩,_,_⟩:=h2
   rw[hv]at h3
   simp only[slN]at h3
   have cJ:n*t.esz<=c*t.esz:=Nat.mul_le_mul_right _ iA
   have iL:Wr w b':=λc1 T1 fr1 hh o ho=>by
    rw[dD]at hh
    simp only[Option.some.injEq,Obj.cells.injEq]at hh
    obtain⟨rfl,rfl,rfl⟩:=hh
    exact fV o ho
   refine⟨_,_,h4,hr.storeOwn dD iL (by omega) rfl (λM hd=>hd.tok key t b' hk il) g3 g2 (λk t' o' n' c' iW hv' q gD nq sW sX=>?_),?_⟩
   ·have:k=key:=hr.tapart k key t' t b' iW hk (by simp[Tok.blk,hv']) il
    subst this
    rw[hk]at iW;cases iW
    rw[hv]at hv'
    simp only[Value.slice.injEq,Option.some.injEq,Addr.mk.injEq,and_true,true_and]at hv'
    obtain⟨rfl,rfl,rfl⟩:=hv'
    omega
   ·rw[he,nU];exact ZgI cV dD iL (by omega) cE ge
end
def Zpu(E:Env)(S:St)(m:Mem)(T:TypeId)(id:Nat)(vd vs:Value)(K:Int->St->Prop):Prop:=match Zay E T with
 | none=>False
 | some (e,j)=>match S.L id with
  | none=>False
  | some bx=>chk (Zbi vd&&(Zbi vs&&!bx.fz)) (m.free bx.b->∃(o:Nat)(xs:List Value),slA vd=some ⟨bx.b,o,none⟩/\xs.length=min (slN vs) (slN vd)*j.size/\o+xs.length<=bx.cs.length/\(∀u∈xs,u.oneCell'=true)/\
    (rowRd m (slA vs) xs\/∃o',slA vs=some ⟨bx.b,o',none⟩/\∀i u,xs[i]?=some u->bx.cs[o'+i]?=some u)/\K ((min (slN vs) (slN vd):Nat):Int) (S.setL id (some { bx with cs:=ZaG bx.cs o xs })))
theorem Zmf{P:Program}{w:World}{m:Mem}{x:Box}(hx:Own m w x)(o:Nat)(xs:List Value)(h1:∀u∈xs,u.oneCell'=true)(hb:o+xs.length<=x.cs.length):
  ∃w',(storeCells ⟨x.b,o,none⟩ xs 0).run P w=.ok () w'/\w'.os=w.os/\w'.tape=w.tape/\w'.output=w.output/\w'.heap.size=w.heap.size/\(∀k,k≠x.b->w'.heap[k]?=w.heap[k]?)/\
   (x.fz=false->Own m w' { x with cs:=ZaG x.cs o xs }):=by
 obtain⟨sp,fr,hh,hc,hf⟩:=hx.cells
 have h3:=ZbN (P:=P) x.b o x.T fr xs 0 _ w hh (λo ho=>by have ho':o < x.cap:=(by simpa[hc]using ho);omega) (by simp at hc ⊢;omega) h1
 have h4:(storeCells ⟨x.b,o,none⟩ xs 0).run P w=.ok () (w.setRow x.b (ZaG (x.cs++sp) o xs).toArray):=by
  rw[h3]
  simp[ZaG]
 refine⟨_,h4,rfl,rfl,rfl,by simp,λk hk=>setRow_other w x.b k _ hk,λhz=>?_⟩
 refine⟨⟨sp,fr,?_,?_,hf⟩,λ_=>hx.free hz,λhz'=>by simp[hz]at hz',λiI=>?_⟩
 ·rw[setRow_heap w x.b _ _ x.T fr hh,Zfw (by omega)]
 ·have:=Zcm (cs:=x.cs) (o:=o) (vs:=xs) (by omega)
  simp only[List.length_append]at hc ⊢
  omega
 ·have:=hx.whole iI
  show(ZaG x.cs o xs).length=x.cap
  rw[Zcm (by omega)];exact this
section
variable {C:Ctx} {S:St} {m:Mem} {a:Act} {w:World}
theorem ZnJ{E:Env}(hE:E.ok){T xT ty:TypeId}{id:Nat}{vd vs:Value}{K:Int->St->Prop}(hr:Rel C S m a w)(h:Zpu E S m T id vd vs K):
  ∃n S' w',K n S'/\Rel C S' m a w'/\(Builtin.copy_ #[T,xT] ty #[vd,vs]).run E.P w=.ok (.int .i64 n) w':=by
 unfold Zpu at h
 cases hs:Zay E T with
 | none=>simp[hs]at h
 | some ej=>
  obtain⟨e,j⟩:=ej
  simp only[hs]at h
  cases hL:S.L id with
  | none=>simp[hL]at h
  | some bx=>
   simp only[hL]at h
   obtain⟨h1,hq⟩:=Zah h
   simp only[Bool.and_eq_true,Bool.not_eq_true']at h1
   obtain⟨o,xs,h2,h3,h4,h5,h6,hk⟩:=hq ((hr.own id bx hL).free h1.2.2)
   clear hq h
   have nV:=ZbW h1.1
   have fu:=ZbW h1.2.1
   generalize slA vd=ad at *
   generalize slN vd=nd at *
   generalize slC vd=cd at *
   generalize slA vs=as at *
   generalize slN vs=ns at *
   generalize slC vs=cs at *
   subst nV fu h2
   obtain⟨i,iV,ik,jP⟩:=ZaI hs
   have eH:=hE e j jP
   have hu:=(hE T i iV).run_und (w:=w)
   rw[ik]at hu
   have cE:=eH.run_size (w:=w)
   have kX:=hr.own id bx hL
   have lB:(Builtin.firstCells j.size (min ns nd) (.slice as ns cs)).run E.P w=.ok xs.toArray w:=by
    rcases h6 with h6|⟨o',h6,h7⟩
    ·exact Zbp hr.sub h6 _ _ _ _ h3
    ·subst h6
     refine run_firstCells_some w j.size _ _ ns cs xs h3 (λi u hu=>?_)
     rw[ZbK]
     obtain⟨sp,fr,hh,_⟩:=kX.cells
     have h8:=h7 i u hu
     have h9:=(List.getElem?_eq_some_iff.1 h8).1
     simp only[World.cell?,hh,Option.isSome_none,Bool.false_eq_true,if_false,List.getElem?_toArray]
     rw[List.getElem?_append_left h9];exact h8
   obtain⟨w',bS,e1,e2,e3,e4,e5,e6⟩:=Zmf (P:=E.P) kX o xs h5 h4
   refine⟨_,_,w',hk,hr.store hL h1.2.2 rfl e1 e2 e3 e4 e5 (e6 h1.2.2),?_⟩
   have iM:Nat.min ns nd=min ns nd:=rfl
   simp[Builtin.copy_,hu,Builtin.lenOf,cE,iM,lB,bS,goInt]
end
def Mem.or(a b:Mem):Mem:=⟨λi o=>match a i o with
 | some v=>some v
 | none=>b i o,λi=>match a.k i with
 | some v=>some v
 | none=>b.k i⟩
theorem Mem.le_or(a b:Mem):a.le (a.or b):=⟨λi o v h=>by simp[Mem.or,h],λi v h=>by simp[Mem.or,h]⟩
theorem Mem.or_k{a b:Mem}{i:Nat}{v:List (Value×Value)}(h:(a.or b).k i=some v):a.k i=some v\/(a.k i=none/\b.k i=some v):=by
 unfold Mem.or at h
 cases ha:a.k i with
 | some u=>simp[ha]at h;exact .inl (by rw[h])
 | none=>simp[ha]at h;exact .inr ⟨rfl,h⟩
theorem Mem.or_some{a b:Mem}{i o:Nat}{v:Value}(h:a.or b i o=some v):a i o=some v\/(a i o=none/\b i o=some v):=by
 unfold Mem.or at h
 cases ha:a i o with
 | some u=>simp[ha]at h;exact .inl (by rw[h])
 | none=>simp[ha]at h;exact .inr ⟨rfl,h⟩
def MapFind(P:Program)(T:TypeId)(k:Value):List (Value×Value)->Option Value->Prop
 | [],r=>r=none
 | e::es,r=>(EqIs P T k e.1 true/\r=some e.2)\/(EqIs P T k e.1 false/\MapFind P T k es r)
def ZnK(P:Program)(T:TypeId)(k z:Value):List (Value×Value)->List (Value×Value)->Prop
 | [],r=>r=[(k,z)]
 | e::l,r=>(EqIs P T k e.1 true/\Instr.sameBits 10000 e.1 k=true/\r=(k,z)::l)\/(EqIs P T k e.1 false/\∃l',ZnK P T k z l l'/\r=e::l')
def Zx8(P:Program)(T:TypeId)(v:Value):Prop:=∀(b:Bool)(w:World),(Instr.checkKey b 10000 T v).run P w=.ok () w
def LookIs(P:Program)(T:TypeId)(k:Value)(es:List (Value×Value))(z v:Value)(ok:Bool):Prop:=∃r,MapFind P T k es r/\v=r.getD z/\ok=r.isSome
def Mem.updK(m:Mem)(b:Nat)(e:List (Value×Value)):Mem:=⟨m.c,λi=>if i=b then some e else m.k i⟩
theorem Mem.updK_same(m:Mem)(b:Nat)(e:List (Value×Value)):(m.updK b e).k b=some e:=by simp[Mem.updK]
theorem Mem.updK_other(m:Mem){b b':Nat}(h:b'≠b)(e:List (Value×Value)):(m.updK b e).k b'=m.k b':=by simp[Mem.updK,h]
theorem Mem.le_updK{m0 m:Mem}(h:m0.le m){b:Nat}(hb:m0.k b=none)(e:List (Value×Value)):m0.le (m.updK b e):=⟨h.c,λi x hx=>by
 by_cases hi:i=b
 ·subst hi;rw[hb]at hx;cases hx
 ·rw[Mem.updK_other m hi];exact h.k i x hx⟩
def Mem.newC(m mi:Mem)(b:Nat):Prop:=∃o v,mi b o=some v/\m b o=none
def Mem.newK(m mi:Mem)(b:Nat):Prop:=∃e,mi.k b=some e/\m.k b=none
noncomputable def Mem.less(m m0 mi:Mem):Mem:=⟨λb o=>open Classical in if m0.newC mi b then none else m b o,λb=>open Classical in if m0.newK mi b then none else m.k b⟩
theorem Mem.less_at{m m0 mi:Mem}{b:Nat}(h:¬m0.newC mi b)(o:Nat):m.less m0 mi b o=m b o:=by unfold Mem.less;dsimp only;rw[if_neg h]
theorem Mem.less_free{m m0 mi:Mem}{b:Nat}(h:m0.newC mi b)(o:Nat):m.less m0 mi b o=none:=by unfold Mem.less;dsimp only;rw[if_pos h]
theorem Mem.less_k{m m0 mi:Mem}{b:Nat}(h:¬m0.newK mi b):(m.less m0 mi).k b=m.k b:=by unfold Mem.less;dsimp only;rw[if_neg h]
theorem Mem.less_kn{m m0 mi:Mem}{b:Nat}(h:m0.newK mi b):(m.less m0 mi).k b=none:=by unfold Mem.less;dsimp only;rw[if_pos h]
theorem Mem.less_le(m m0 mi:Mem):(m.less m0 mi).le m:=⟨λb o v h=>by
 by_cases hz:m0.newC mi b
 ·rw[Mem.less_free hz]at h;cases h
 ·rw[Mem.less_at hz]at h;exact h,λb e h=>by
 by_cases hz:m0.newK mi b
 ·rw[Mem.less_kn hz]at h;cases h
 ·rw[Mem.less_k hz]at h;exact h⟩
theorem Sub.le_or{a b:Mem}{w:World}(ha:Sub a w)(hb:Sub b w):b.le (a.or b):=⟨λi o v h=>by
 cases he:a i o with
 | none=>simp[Mem.or,he,h]
 | some u=>
  have h1:=ha.c i o u he
  rw[hb.c i o v h]at h1
  simp[Mem.or,he,Option.some.inj h1],λi e h=>by
 cases he:a.k i with
 | none=>simp[Mem.or,he,h]
 | some u=>
  obtain⟨es,c,h1,h2⟩:=ha.k i u he
  obtain⟨es',c',h3,h4⟩:=hb.k i e h
  rw[h1]at h3;cases h3
  simp[Mem.or,he,<-h2,<-h4]⟩
def Zpv(E:Env)(T:TypeId):Option (TypeId×TI):=match E.tt T with
 | none=>none
 | some i=>match i.d with
  | .map k e=>match E.tt k,E.tt e with
   | some ki,some ei=>(match ki.d with
    | .struct _=>some (k,ei)
    | _=>none)
   | _,_=>none
  | _=>none
theorem Zll{E:Env}{T k:TypeId}{ei:TI}(h:Zpv E T=some (k,ei)):∃i e ki fs,E.tt T=some i/\i.d=.map k e/\E.tt k=some ki/\E.tt e=some ei/\ki.d=.struct fs:=by
 unfold Zpv at h
 cases ht:E.tt T with
 | none=>simp[ht]at h
 | some i=>
  simp only[ht]at h
  cases hd:i.d with
  | map k' e=>
   simp only[hd]at h
   cases hk:E.tt k' with
   | none=>simp[hk]at h
   | some ki=>
    cases he:E.tt e with
    | none=>simp[hk,he]at h
    | some ei'=>
     simp only[hk,he]at h
     cases hs:ki.d with
     | struct fs=>
      simp only[hs,Option.some.injEq,Prod.mk.injEq]at h
      obtain⟨rfl,rfl⟩:=h
      exact⟨i,e,ki,fs,rfl,hd,hk,he,hs⟩
     | _=>simp[hs]at h
  | _=>simp[hd]at h
def Zvs(E:Env)(S:St)(m:Mem)(T:TypeId)(x y:Operand)(ok:Bool)(K:Value->Prop):Prop:=wv S x λvm=>wv S y λvk=>match Zpv E T with
 | none=>False
 | some (k,ei)=>∃(b:Nat) (es:List (Value×Value)) (v:Value) (o:Bool),vm=.map (some b)/\m.k b=some es/\Zx8 E.P k vk/\LookIs E.P k vk es ei.zero v o/\K (bif ok then .tuple #[v,.bool o]else v)
def ZrV(E:Env)(S:St)(m:Mem)(T:TypeId)(x y z:Operand)(K:Mem->Prop):Prop:=wv S x λvm=>wv S y λvk=>wv S z λvz=>match Zpv E T with
 | none=>False
 | some (k,_)=>match E.m0 with
  | none=>False
  | some m0=>chk (!S.fo) (∃(b:Nat) (es es':List (Value×Value)),vm=.map (some b)/\m.k b=some es/\Zx8 E.P k vk/\ZnK E.P k vk vz es es'/\m0.k b=none/\K (m.updK b es'))
def Zum(S:St)(m:Mem)(r:Option Operand)(d:Option Tmp)(K:St->Mem->Prop):Prop:=match r with
 | some _=>False
 | none=>∀b,m.free b->m.k b=none->K (S.put d (some (.v (.map (some b))))) (m.updK b [])
section
variable {C:Ctx} {S:St} {m:Mem} {a:Act} {w:World}
theorem ZqO{P:Program}{k:TypeId}{kv:Value}{w:World}:∀{l:List MapEntry} {r:Option Value} {i:Nat},MapFind P k kv (l.map λx=>(x.key,x.val)) r->∃q:Option (Nat×Value),(Instr.findAsking k kv l i).run P w=.ok q w/\q.map (·.2)=r
 | [],r,i,h=>⟨none,rfl,by simp only[List.map_nil,MapFind]at h;rw[h];rfl⟩
 | e::l,r,i,h=>by
  simp only[List.map_cons,MapFind]at h
  rcases h with⟨h1,rfl⟩|⟨h1,h2⟩
  ·exact⟨some (i,e.val),by simp[Instr.findAsking,h1.1 w,Result.andThen],rfl⟩
  ·obtain⟨q,h3,h4⟩:=ZqO (w:=w) (i:=i+1) h2
   exact⟨q,by simp[Instr.findAsking,h1.1 w,Result.andThen,h3],h4⟩
theorem ZnL{P:Program}{k:TypeId}{fs:Array Field}{kv:Value}{w:World}{l:List MapEntry}{r:Option Value}(hu:P.underlying k=some (.struct fs))(h:MapFind P k kv (l.map λx=>(x.key,x.val)) r):
  ∃q:Option (Nat×Value),(Instr.findKey k kv l).run P w=.ok q w/\q.map (·.2)=r:=by
 obtain⟨q,h1,h2⟩:=ZqO (w:=w) (i:=0) h
 refine⟨q,?_,h2⟩
 cases l with
 | nil=>
  simp only[Instr.findAsking]at h1
  simp only[Instr.findKey,Sem.run_bind,run_underlying hu,Result.andThen,Instr.findNow]
  exact h1
 | cons e l=>
  simp only[Instr.findKey,Sem.run_bind,run_underlying hu,Result.andThen,Instr.findNow,Instr.sameNow]
  exact h1
theorem ZtD{P:Program}{k:TypeId}{kv z:Value}{w:World}:∀{l:List MapEntry} {r:List (Value×Value)} {i:Nat},ZnK P k kv z (l.map λx=>(x.key,x.val)) r->∃q:Option (Nat×Value),(Instr.findAsking k kv l i).run P w=.ok q w/\(match q with
  | none=>r=(l.map λx=>(x.key,x.val))++[(kv,z)]
  | some (j,_)=>∃(d:Nat)(e:MapEntry),j=i+d/\l[d]?=some e/\Instr.sameBits 10000 e.key kv=true/\r=(l.modify d λe=>{ e with key:=kv,val:=z }).map λx=>(x.key,x.val))
 | [],r,i,h=>⟨none,rfl,by simp only[List.map_nil,ZnK]at h;simpa using h⟩
 | e::l,r,i,h=>by
  simp only[List.map_cons,ZnK]at h
  rcases h with⟨h1,h2,rfl⟩|⟨h1,l',h2,rfl⟩
  ·exact⟨some (i,e.val),by simp[Instr.findAsking,h1.1 w,Result.andThen],0,e,by simp,by simp,h2,by simp⟩
  ·obtain⟨q,h3,h4⟩:=ZtD (w:=w) (i:=i+1) h2
   refine⟨q,by simp[Instr.findAsking,h1.1 w,Result.andThen,h3],?_⟩
   cases q with
   | none=>simp only at h4 ⊢;simp[h4]
   | some q=>
    obtain⟨j,u⟩:=q
    simp only at h4 ⊢
    obtain⟨d,e',g1,g2,g3,g4⟩:=h4
    exact⟨d+1,e',by omega,by simpa using g2,g3,by simp[g4]⟩
theorem ZpL{P:Program}{k:TypeId}{fs:Array Field}{kv z:Value}{w:World}{l:List MapEntry}{r:List (Value×Value)}(hu:P.underlying k=some (.struct fs))(h:ZnK P k kv z (l.map λx=>(x.key,x.val)) r):
  ∃q:Option (Nat×Value),(Instr.findKey k kv l).run P w=.ok q w/\(match q with
  | none=>r=(l.map λx=>(x.key,x.val))++[(kv,z)]
  | some (j,_)=>∃(e:MapEntry),l[j]?=some e/\Instr.sameBits 10000 e.key kv=true/\r=(l.modify j λe=>{ e with key:=kv,val:=z }).map λx=>(x.key,x.val)):=by
 obtain⟨q,h1,h2⟩:=ZtD (w:=w) (i:=0) h
 refine⟨q,?_,?_⟩
 ·cases l with
  | nil=>
   simp only[Instr.findAsking]at h1
   simp only[Instr.findKey,Sem.run_bind,run_underlying hu,Result.andThen,Instr.findNow]
   exact h1
  | cons e l=>
   simp only[Instr.findKey,Sem.run_bind,run_underlying hu,Result.andThen,Instr.findNow,Instr.sameNow]
   exact h1
 ·cases q with
  | none=>exact h2
  | some q=>
   obtain⟨j,u⟩:=q
   simp only at h2 ⊢
   obtain⟨d,e,g1,g2,g3,g4⟩:=h2
   rw[Nat.zero_add]at g1
   subst g1
   exact⟨e,g2,g3,g4⟩
theorem ZnM{E:Env}(hE:E.ok)(hr:Rel C S m a w){T:TypeId}{x y:Operand}{ok:Bool}{K:Value->Prop}(h:Zvs E S m T x y ok K):∃v,K v/\(Instr.lookup T (a.eval x) (a.eval y) ok).run E.P w=.ok v w:=by
 unfold Zvs at h
 obtain⟨vm,qS,h⟩:=Zau h
 obtain⟨vk,nW,h⟩:=Zau h
 cases hm:Zpv E T with
 | none=>simp[hm]at h
 | some q=>
  obtain⟨k,ei⟩:=q
  simp only[hm]at h
  obtain⟨b,es,v,o,rfl,h1,h2,⟨r,h3,h4,h5⟩,h6⟩:=h
  obtain⟨i,e,ki,fs,g1,g2,g3,g4,g5⟩:=Zll hm
  obtain⟨arr,cl,h7,h8⟩:=hr.sub.k b es h1
  refine⟨_,h6,?_⟩
  rw[hr.ev qS,hr.ev nW]
  have hu:E.P.underlying T=some (.map k e):=by rw[(hE T i g1).und,g2]
  have qT:E.P.underlying k=some (.struct fs):=by rw[(hE k ki g3).und,g5]
  obtain⟨q,h9,iD⟩:=ZnL (w:=w) (l:=arr.toList) qT (by rw[h8];exact h3)
  have hz:=(hE e ei g4).run_zero (w:=w)
  have hg:(getObj b).run E.P w=.ok (.map arr cl) w:=MapKept.run_getObj_map h7
  simp only[Instr.lookup,Sem.run_bind,run_underlying hu,Result.andThen,hg,h2 arr.isEmpty w,h9]
  cases q with
  | none=>
   simp only[Option.map_none]at iD
   subst iD
   simp only[Option.getD_none]at h4;subst h4
   simp only[Option.isSome_none]at h5;subst h5
   cases ok <;> simp[hz,Result.andThen,h2 arr.isEmpty w,h9]
  | some q=>
   simp only[Option.map_some]at iD
   subst iD
   simp only[Option.getD_some]at h4;subst h4
   simp only[Option.isSome_some]at h5;subst h5
   cases ok <;> simp[Result.andThen,h2 arr.isEmpty w,h9]
theorem Rel.storeMap(hr:Rel C S m a w){b:Nat}{es0:Array MapEntry}{cl0:Nat}{arr:Array MapEntry}{cl:Nat}(hb:w.heap[b]?=some (.map es0 cl0))(hM:∀M,Dom C S m a w M->M b)(h0:C.me.k b=none):
  Rel C S (m.updK b (arr.toList.map λx=>(x.key,x.val))) a (w.putObj b (.map arr cl)):=by
 have bB:=(Array.getElem?_eq_some_iff.1 hb).1
 have bY:∀k,k≠b->(w.putObj b (.map arr cl)).heap[k]?=w.heap[k]?:=λk hk=>World.putObj_heap_other hk
 have dX:(w.putObj b (.map arr cl)).heap[b]?=some (.map arr cl):=World.putObj_heap_same bB
 have dP:∀(k:Nat) c T fr,w.heap[k]?=some (Obj.cells c T fr)->k≠b:=λk c T fr hk e=>by rw[e,hb]at hk;cases hk
 obtain⟨es,q1,q2,q3⟩:=hr.defers
 have p7:∀k t b',S.tok k=some t->t.blk=some b'->b'≠b:=λk t b' ht hb' e=>by
  rcases(hr.toks k t ht).1 with q0|⟨b1,o0,n,c,cur,T,fr,hv,_,hh,_⟩
  ·simp[Tok.blk,q0]at hb'
  ·simp[Tok.blk,hv]at hb';subst hb';exact dP _ _ _ _ hh e
 refine⟨⟨es,q1,q2,λD hD=>?_⟩,hr.size,hr.env,λid x hx=>?_,hr.apart,hr.ids,λk t ht=>?_,hr.tkeys,hr.tapart,⟨λb' o v hv=>?_,λb' e he=>?_⟩,Mem.le_updK hr.le h0 _,?_,hr.fo⟩
 ·rw[bY D (λe=>by have:=q3 D hD;rw[e,hb]at this;cases this)];exact q3 D hD
 ·have ho:=hr.own id x hx
  obtain⟨c,T,fr,hh⟩:=ho.isC
  exact⟨by rw[bY _ (dP _ _ _ _ hh)];exact ho.cells,ho.free,ho.known,ho.whole⟩
 ·obtain⟨g1,g2⟩:=hr.toks k t ht
  exact⟨g1.same (λb' hb'=>bY _ (p7 k t b' ht hb')) (λ_ _ _ h=>h),g2⟩
 ·have h1:=hr.sub.c b' o v hv
  have h2:∃c T fr,w.heap[b']?=some (Obj.cells c T fr):=by
   unfold World.cell? at h1
   split at h1
   ·rename_i c T fr hc;exact⟨c,T,fr,hc⟩
   ·cases h1
  obtain⟨c,T,fr,hh⟩:=h2
  rw[Zb4 (bY _ (dP _ _ _ _ hh))];exact h1
 ·by_cases jj:b'=b
  ·subst jj
   rw[Mem.updK_same]at he;cases he
   exact⟨arr,cl,dX,rfl⟩
  ·rw[Mem.updK_other m jj]at he
   exact(hr.sub.k b' e he).same (bY b' jj)
 ·obtain⟨M,hd⟩:=hr.dom
  have jO:=hM M hd
  have hu:Upd M w (w.putObj b (.map arr cl)):=⟨rfl,rfl,rfl,by simp[World.putObj],λk hk hn=>bY k (λe=>hn (e ▸ jO)),λk _ hk=>by
   by_cases gv:k=b
   ·subst gv
    intro c1 T1 fr1 hh i hi
    rw[dX]at hh;cases hh
   ·exact hk.of_eq (bY k gv)⟩
  exact⟨_,hd.step hu ⟨λ_ _ _ h=>.inl h,λb' e he=>by
   by_cases jj:b'=b
   ·exact .inr (.inl (jj ▸ jO))
   ·rw[Mem.updK_other m jj]at he;exact .inl he⟩⟩
theorem Zmg{E:Env}(hE:E.ok)(hY:YOk E C)(hr:Rel C S m a w){T:TypeId}{x y z:Operand}{K:Mem->Prop}(h:ZrV E S m T x y z K):
  ∃m' w',K m'/\Rel C S m' a w'/\(Instr.mapUpdate T (a.eval x) (a.eval y) (a.eval z)).run E.P w=.ok () w':=by
 unfold ZrV at h
 obtain⟨vm,qS,h⟩:=Zau h
 obtain⟨vk,nW,h⟩:=Zau h
 obtain⟨vz,ud,h⟩:=Zau h
 cases hm:Zpv E T with
 | none=>simp[hm]at h
 | some q=>
  obtain⟨k,ei⟩:=q
  simp only[hm]at h
  cases fy:E.m0 with
  | none=>simp[fy]at h
  | some mm=>
   simp only[fy]at h
   obtain⟨h1,b,es,es',rfl,h2,h3,h4,h5,h6⟩:=Zah h
   have i6:S.fo=false:=by simpa using h1
   have gc:C.me=mm:=(hr.fo i6).trans (hY.m0 mm fy).1
   obtain⟨i,e,ki,fs,g1,g2,g3,g4,g5⟩:=Zll hm
   obtain⟨arr,cl,h7,h8⟩:=hr.sub.k b es h2
   have hu:E.P.underlying T=some (.map k e):=by rw[(hE T i g1).und,g2]
   have qT:E.P.underlying k=some (.struct fs):=by rw[(hE k ki g3).und,g5]
   obtain⟨q,h9,iD⟩:=ZpL (w:=w) (l:=arr.toList) qT (by rw[h8];exact h4)
   have hM:∀M,Dom C S m a w M->M b:=λM hd=>by
    rcases hd.new.k b es h2 with np|np
    ·rw[gc,h5]at np;cases np
    ·exact np
   rw[hr.ev qS,hr.ev nW,hr.ev ud]
   have hg:(getObj b).run E.P w=.ok (.map arr cl) w:=MapKept.run_getObj_map h7
   cases q with
   | none=>
    have dN:=hr.storeMap (arr:=arr.push { key:=vk,val:=vz,born:=cl }) (cl:=cl+1) h7 hM (by rw[gc];exact h5)
    have e1:(arr.push { key:=vk,val:=vz,born:=cl }).toList.map (λx=>(x.key,x.val))=es':=by simp only at iD;rw[iD];simp
    rw[e1]at dN
    refine⟨_,_,h6,dN,?_⟩
    have hs:(setObj b (.map (arr.push { key:=vk,val:=vz,born:=cl }) (cl+1))).run E.P w=.ok () (w.putObj b (.map (arr.push { key:=vk,val:=vz,born:=cl }) (cl+1))):=MapKept.run_setObj_map _ h7
    simp only[Instr.mapUpdate,Sem.run_bind,run_underlying hu,Result.andThen,hg,h3 false w,h9]
    exact hs
   | some q=>
    obtain⟨j,u⟩:=q
    simp only at iD
    obtain⟨e0,q1,q2,q3⟩:=iD
    have dN:=hr.storeMap (arr:=arr.modify j λe=>{ e with key:=vk,val:=vz }) (cl:=cl) h7 hM (by rw[gc];exact h5)
    have e1:(arr.modify j λe=>{ e with key:=vk,val:=vz }).toList.map (λx=>(x.key,x.val))=es':=by rw[q3];simp
    rw[e1]at dN
    refine⟨_,_,h6,dN,?_⟩
    have hs:(setObj b (.map (arr.modify j λe=>{ e with key:=vk,val:=vz }) cl)).run E.P w=.ok () (w.putObj b (.map (arr.modify j λe=>{ e with key:=vk,val:=vz }) cl)):=MapKept.run_setObj_map _ h7
    have hk:(Instr.keyThatStays (((arr[j]?).map (·.key)).getD vk) vk).run E.P w=.ok vk w:=by
     have:arr[j]?=some e0:=by simpa using q1
     simp[Instr.keyThatStays,this,q2]
    simp only[Instr.mapUpdate,Sem.run_bind,run_underlying hu,Result.andThen,hg,h3 false w,h9,hk]
    exact hs
theorem Zmh{E:Env}{T:TypeId}{r:Option Operand}{d:Option Tmp}(hd:∀t,d=some t->t < C.n){K:St->Mem->Prop}(hr:Rel C S m a w)(h:Zum S m r d K):
  ∃S' m' v w',K S' m'/\Rel C S' m' (a.put d v) w'/\(Instr.makeMap T (r.map a.eval)).run E.P w=.ok v w':=by
 cases r with
 | some r=>exact h.elim
 | none=>
  have bB:∀e,m.k w.heap.size≠some e:=λe he=>by have:=(hr.sub.k _ e he).lt;omega
  have hk:m.k w.heap.size=none:=by
   cases he:m.k w.heap.size with
   | none=>rfl
   | some e=>exact(bB e he).elim
  have cF:m.free w.heap.size:=λo=>by
   cases he:m w.heap.size o with
   | none=>rfl
   | some v=>have:=hr.sub.lt he;omega
  have h1:=h w.heap.size cF hk
  have hs:Sub (m.updK w.heap.size []) (w.alloc (.map #[] 0)):=⟨(hr.sub.alloc _).c,λb e he=>by
   by_cases hb:b=w.heap.size
   ·subst hb
    rw[Mem.updK_same]at he;cases he
    exact⟨#[],0,heap_alloc_new w _,rfl⟩
   ·rw[Mem.updK_other m hb]at he
    exact(hr.sub.alloc _).k b e he⟩
  have hw:=hr.world (w':=w.alloc (.map #[] 0)) (m':=m.updK w.heap.size []) (Keep.alloc (Nat.le_refl _) (λc T fr e=>by cases e)) hs (Mem.le_updK (Mem.le_refl m) hk _) ⟨λ_ _ _ h=>.inl h,λb e he=>by
   by_cases hb:b=w.heap.size
   ·exact .inr ⟨Nat.le_of_eq hb.symm,by rw[hb];exact Wr.new (λc T fr e=>by cases e)⟩
   ·rw[Mem.updK_other m hb]at he;exact .inl he⟩
  exact⟨_,_,.map (some w.heap.size),_,h1,hw.put d hd rfl,by simp[Instr.makeMap,Result.andThen]⟩
end
def ZfH(E:Env)(s d:TypeId):Bool:=match E.tt s with
 | none=>false
 | some i=>match i.d with
  | .slice e=>Nat.beq s d&&(match E.tt e with
   | none=>false
   | some j=>match j.d with
    | .int .u8=>true
    | _=>false)
  | _=>false
def opW(E:Env)(S:St)(m:Mem)(o:Oper)(K:St->Mem->Prop):Prop:=match o.op with
 | .move x=>K (S.put o.dst (S.ev x)) m
 | .assign x=>K (S.put o.dst (S.ev x)) m
 | .pick c x y=>wv S c λv=>chk (Zgz v) (br (ZcW v) (K (S.put o.dst (S.ev x)) m) (K (S.put o.dst (S.ev y)) m))
 | .load T x=>match ZrO E o.dst with
  | none=>Zea E S m T x λv=>K (S.put o.dst (some (.v v))) m
  | some y=>Zea E S m T x λv=>ldW y v λv=>K (S.put o.dst (some (.v v))) m
 | .store T x y=>wv S y λv=>match ZnI E x with
  | none=>Zf9 E S T x v λS'=>K (S'.put o.dst none) m
  | some key=>bif E.fix.isSome then False else ZgH E S m T key x v λm'=>K (S.put o.dst none) m'
 | .alloc T=>ZrR E S T o.dst λS'=>K S' m
 | .box T x=>wv S x λv=>bif ZfB E o.dst then(bif E.fix.isSome then False else Zxl E S m T v o.dst K)else ZyN E S T v o.dst λS'=>K S' m
 | .buildSlice T len parts=>match ZcL E o.dst with
  | none=>Zde E S m T len parts.toList o.dst K
  | some ke=>bif E.fix.isSome then False else match len,parts.toList with
   | 0,[]=>Zmb E S (some m) T (.const (.int .i64 0)) (.const (.int .i64 0)) o.dst ke.1 λS'=>K S' m
   | _,_=>False
 | .makeSlice T l c=>match ZcL E o.dst with
  | none=>bif ZtC E o.dst then(bif E.fix.isSome then False else ZrT E S m T l c o.dst K)else Zvr E S T l c o.dst λS'=>K S' m
  | some ke=>bif E.fix.isSome then False else Zmb E S none T l c o.dst ke.1 λS'=>K S' m
 | .lookup T x y ok=>Zvs E S m T x y ok λv=>K (S.put o.dst (some (.v v))) m
 | .mapUpdate T x y z=>bif E.fix.isSome||!E.thaw then False else ZrV E S m T x y z λm'=>K (S.put o.dst none) m'
 | .makeMap T r=>bif E.fix.isSome then False else Zum S m r o.dst K
 | .convert s d x=>bif ZfH E s d then(match S.ev x with
   | some (.sl id n c)=>K (S.put o.dst (some (.sl id n c))) m
   | _=>False)
  else bif ZcM E s d then(bif E.fix.isSome then False else Zxn S m x o.dst K)
  else bif ZcN E s d then(Zmc E S m x λv=>K (S.put o.dst (some (.v v))) m)
  else Zca E S o λsv=>K (S.put o.dst (some sv)) m
 | .call c=>match c.callee with
  | .value f=>Zvo E o.dst S m (Zvq E o.type o.dst f c.args.toList K)
  | .builtin .append=>match c.args.toList,c.argTypes.toList,o.dst with
   | [s,x],[T,xT],some d=>Zvo E (some d) S m λS m=>wv S s λvs=>wv S x λvx=>ZeV E S m T xT (E.tokOf d) vs vx λv tk m'=>K ({ S with tok:=tk,tkeys:=E.tokOf d::S.tkeys }.put (some d) (some (.v v))) m'
   | _,_,_=>False
  | .builtin .copy=>match c.args.toList,c.argTypes.toList with
   | [d,s],[T,xT]=>(match ZeA E d with
    | none=>False
    | some id=>wv S d λvd=>wv S s λvs=>Zpu E S m T id vd vs λn S'=>K (S'.put o.dst (some (.v (.int .i64 n)))) m)
   | _,_=>False
  | _=>Zca E S o λsv=>K (S.put o.dst (some sv)) m
 | _=>Zca E S o λsv=>K (S.put o.dst (some sv)) m
section
variable {C:Ctx} {S:St} {m:Mem} {a:Act} {w:World}
theorem ZgK{E:Env}(hE:E.ok){o:Oper}(hd:∀t,o.dst=some t->t < C.n)(hr:Rel C S m a w){K:St->Mem->Prop}(h:Zca E S o λsv=>K (S.put o.dst (some sv)) m){F:Fence}{n:Nat}{next:Act->World->Prop}{Q:Exit->Act->World->Prop}
  (hK:∀S' m' a' w',K S' m'->Rel C S' m' a' w'->next a' w'):o.uponIn F n E.P a next Q ((execOp a.eval o).run E.P w):=by
 obtain⟨sv,v,hk,qU,bS⟩:=Zfy hE hr h
 rw[bS]
 exact hK _ _ _ _ hk (hr.put o.dst hd qU)
theorem ZpM{C:Ctx}{S:St}{m:Mem}{a:Act}{w:World}{E:Env}{g:FuncId}{args:List Value}{d:Option Tmp}{K:St->SV->Prop}(hd:∀t,d=some t->t < C.n)(hr:Rel C S m a w)(h:Zx7 E S g args d K):
  ∃S' sv v w',K S' sv/\Rel C (S'.put d (some sv)) m (a.put d v) w'/\(callFunc g args.toArray).run E.P w=.ok (.value v) w':=by
 unfold Zx7 at h
 cases he:Zxm E d with
 | true=>
  simp only[he,cond_true]at h
  obtain⟨v,h1,h2⟩:=h
  exact⟨S,.v v,v,w,h2,hr.put d hd (by simp[St.den]),h1 w⟩
 | false=>
 simp only[he,cond_false]at h
 split at h
 ·rename_i d v
  cases hL:S.L d with
  | some x=>simp only[hL]at h
  | none=>
   simp only[hL]at h
   obtain⟨n,e,rfl,hn,gE,hk⟩:=h
   obtain⟨cs,bS,cJ⟩:=gE n w hn
   have hb:=hr.drew.drew.newBox (d:=d) hL (x:={ b:=w.heap.size,cs:=cs.toList,T:=e,cap:=cs.toList.length,fz:=false,full:=true }) (m':=m) [] rfl (by simp) (λ_=>rfl) (.inl ⟨rfl,rfl⟩)
   simp only[List.append_nil,Array.toArray_toList]at hb
   exact⟨_,_,.slice (some ⟨w.heap.size,0,none⟩) n cs.size,_,hk w.heap.size cs.toList (by simpa using cJ),hb.put (some d) hd (by simp[St.den,St.newL]),by simpa using bS⟩
 ·exact h.elim
theorem Zmi{C:Ctx}{S:St}{m:Mem}{a:Act}{w:World}{E:Env}{rt:TypeId}{g:FuncId}{args:List Value}{key esz:Nat}{K:Value->St->Mem->Prop}(hr:Rel C S m a w)(h:ZjD E S m rt g args key esz K):
  Ze4 E.P g/\Calls E.P g args.toArray w λe w'=>∃v S' m',e=.returned v/\K v S' m'/\Rel C S' m' a w':=by
 obtain⟨R,h⟩:=h
 obtain⟨hU,eX,cQ⟩:=ZrM h
 refine⟨hU.1,(hU.2 w hr.sub).mono ?_⟩
 rintro e w' ⟨v,m',rfl,cJ,dO,dA,fN,bX,il,hR⟩
 have hk:=Shape.all_fits _ _ cQ v (eX _ _ _ hR) m' cJ hR
 have jU:=hr.world fN dO cJ dA
 refine⟨v,_,m',rfl,hk,jU.tokUpd key ⟨v,esz⟩ bX (λb hb=>?_) ?_⟩
 ·have dB:=il b hb
  refine⟨⟨λid x hx e=>?_,λo=>?_⟩,λk' t' _ hk' hb'=>?_⟩
  ·have:=(hr.own id x hx).lt;omega
  ·cases he:C.me b o with
   | none=>rfl
   | some u=>have:=hr.sub.lt (hr.le _ _ _ he);omega
  ·have:=(hr.toks k' t' hk').1.lt hb';omega
 ·obtain⟨M,hd⟩:=hr.dom
  refine⟨_,hd.step (m':=m') (fN.upd (by simp)) (dA.grown dO _),λb hb=>?_⟩
  exact .inr ⟨il b hb,bX.lt hb,bX.wr hb⟩
theorem Zmj{C:Ctx}{S:St}{m:Mem}{a:Act}{w:World}{E:Env}{rt:TypeId}{g:FuncId}{args:List Value}{ids:List Nat}{ks:List (Nat×Nat)}{K:Value->St->Mem->Prop}(hY:YOk E C)(hr:Rel C S m a w)(h:Zie E S m rt g args ids ks K):
  Ze4 E.P g/\Calls E.P g args.toArray w λe w'=>∃v S' m',e=.returned v/\K v S' m'/\Rel C S' m' a w':=by
 unfold Zie at h
 cases hb:ZbP S ids with
 | none=>simp[hb]at h
 | some bxs=>
 simp only[hb]at h
 cases fy:E.m0 with
 | none=>simp[fy]at h
 | some mm=>
 simp only[fy]at h
 obtain⟨h1,Y,R,hU,c1,c2,eX,cQ⟩:=Zah h
 simp only[Bool.and_eq_true,List.all_eq_true,Bool.not_eq_true']at h1
 obtain⟨i6,h1⟩:=h1
 have gc:=hr.fo i6
 obtain⟨jl,hW⟩:=hY.m0 mm fy
 obtain⟨bT,cP⟩:=Zcc hb
 obtain⟨tlen,tmem⟩:=Zi7 (S:=S) (ks:=ks)
 generalize Ze5 S ks=tks at *
 have tlen:tks.length=(ks.map (·.1)).length:=by rw[List.length_map];exact tlen
 have jV:(ks.map (·.1)).length=ks.length:=List.length_map _
 generalize lb:ks.map (·.1)=kl at *
 have eJ:=ZaB h1.2.1
 have sY:=ZaB h1.2.2
 have tk_of:∀t∈tks,∀b,t.blk=some b->∃k∈kl,S.tok k=some t:=λt ht b hb=>by
  obtain⟨i,hi⟩:=List.getElem?_of_mem ht
  obtain⟨k,q1,q2⟩:=tmem i t hi
  rcases q2 with q2|q2
  ·exact⟨k,List.mem_of_getElem? q1,q2⟩
  ·simp[Tok.blk,q2]at hb
 have im:∀b,Y b->b < w.heap.size/\(∀D,w.heap[b]?≠some (.deferred D))/\C.me.free b/\(∀M,Dom C S m a w M->M b)/\(∀id x,S.L id=some x->x.b≠b)/\(∀k t,S.tok k=some t->t.blk=some b->k∈kl):=λb p8=>by
  rcases c2 b p8 with⟨t,ht,eV⟩|⟨⟨q1,q1k⟩,q2,q3⟩
  ·obtain⟨k,hk,iW⟩:=tk_of t ht b eV
   obtain⟨g1,g2⟩:=hr.toks k t iW
   refine⟨g1.lt eV,λD e=>?_,(g2 b eV).2,λM hd=>hd.tok k t b iW eV,(g2 b eV).1,λk' t' hk' hb'=>?_⟩
   ·rcases g1 with g1|⟨b',o0,n,c,cur,T,fr,hv,_,hh,_⟩
    ·simp[Tok.blk,g1]at eV
    ·simp[Tok.blk,hv]at eV;subst eV;rw[hh]at e;cases e
   ·rw[hr.tapart k' k t' t b hk' iW hb' eV];exact hk
  ·rcases q2 with⟨o,v,q2⟩|⟨e0,q2⟩
   ·obtain⟨q4,q5⟩:=ZfE q3
    have hs:=hr.sub b o v q2
    refine⟨hr.sub.lt q2,λD e=>?_,by rw[gc,jl];exact q1,λM hd=>?_,λid x hx e=>?_,λk t iW eV=>?_⟩
    ·unfold World.cell? at hs
     rw[e]at hs
     simp at hs
    ·rcases hd.new b o v q2 with h6|h6
     ·rw[gc,jl,q1]at h6;cases h6
     ·exact h6
    ·have ho:=hr.own id x hx
     cases hz:x.fz with
     | true=>exact q5 id x (hr.ids id x hx) hx hz e
     | false=>
      have:=ho.free hz o
      rw[e,q2]at this;cases this
    ·exact Classical.byContradiction λhn=>ZhP q4 k t (hr.tkeys k t iW) iW hn eV
   ·have hs:=hr.sub.k b e0 q2
    obtain⟨es,cl,g1,_⟩:=hs
    refine⟨(hr.sub.k b e0 q2).lt,λD e=>?_,by rw[gc,jl];exact q1,λM hd=>?_,λid x hx e=>?_,λk t iW eV=>?_⟩
    ·rw[e]at g1;cases g1
    ·rcases hd.new.k b e0 q2 with h6|h6
     ·rw[gc,jl,q1k]at h6;cases h6
     ·exact h6
    ·obtain⟨c,T,fr,h0⟩:=(hr.own id x hx).isC
     rw[e,g1]at h0;cases h0
    ·rcases(hr.toks k t iW).1 with q0|⟨b',o0,n,c,cur,T,fr,hv,_,hh,_⟩
     ·simp[Tok.blk,q0]at eV
     ·simp[Tok.blk,hv]at eV;subst eV;rw[hh]at g1;cases g1
 have gd:∀x∈bxs,Own m w x/\x.fz=false/\¬Y x.b:=λx hx=>by
  obtain⟨i,hi⟩:=List.getElem?_of_mem hx
  obtain⟨id,_,hL⟩:=cP i x hi
  exact⟨hr.own id x hL,by simpa using h1.1 x hx,λhy=>(im _ hy).2.2.2.2.1 id x hL rfl⟩
 have l7:(bxs.map (·.b)).Nodup:=ZfA hr.apart hb eJ
 have jH:Zvp tks:=λi j t t' b hi hj dF fD=>by
  obtain⟨k,q1,q2⟩:=tmem i t hi
  obtain⟨k',q3,q4⟩:=tmem j t' hj
  have q2:S.tok k=some t:=q2.resolve_right λe=>by simp[Tok.blk,e]at dF
  have q4:S.tok k'=some t':=q4.resolve_right λe=>by simp[Tok.blk,e]at fD
  have:=hr.tapart k k' t t' b q2 q4 dF fD
  subst this
  have hi':=(List.getElem?_eq_some_iff.1 q1).1
  exact(List.getElem?_inj (l:=kl) (i:=i) (j:=j) hi' sY).1 (by rw[q1,q3])
 refine⟨hU.1,(hU.2 w hr.sub gd l7 (λt ht=>?_) jH (λb p8=>⟨(im b p8).1,?_⟩)).mono ?_⟩
 ·refine⟨?_,c1 t ht⟩
  obtain⟨i,hi⟩:=List.getElem?_of_mem ht
  obtain⟨k,_,q2⟩:=tmem i t hi
  rcases q2 with q2|q2
  ·exact(hr.toks k t q2).1
  ·exact .inl q2
 ·obtain⟨M,hd⟩:=hr.dom
  exact hW _ _ _ hd.p b ((im b p8).2.2.2.1 M hd)
 rintro e w' ⟨v,m',css,tvs,rfl,cJ,dO,dA,hu,fO,dM,gT,lc,qV,hR⟩
 have fP:∀u∈tvs,Zbi u=true:=λu hu=>by
  obtain⟨i,hi⟩:=List.getElem?_of_mem hu
  have bB:=(List.getElem?_eq_some_iff.1 hi).1
  exact(lc i (tks[i]'(by omega)) u (List.getElem?_eq_getElem (by omega)) hi).1
 have hk:=Zli (ZgC (Shape.all_fits _ _ cQ v (eX _ _ _ _ hR) m' cJ (dA.mono λb h=>h.imp_right λh o=>by
  cases he:m b o with
  | none=>rfl
  | some u=>have:=hr.sub.lt he;omega)) css (by omega)) tvs (by omega) fP hR
 refine⟨v,_,m',rfl,hk,?_⟩
 have nX:∀b,b < w.heap.size->¬Y b->∀o,m b o=none->m' b o=none:=λb bB hn o ho=>by
  cases he:m' b o with
  | none=>rfl
  | some u=>
   rcases dA b o u he with h|h|h
   ·rw[ho]at h;cases h
   ·exact absurd h hn
   ·omega
 have fN:∀b,¬Y b->∀o u,m b o=some u->m' b o=some u:=λb hn o u h=>cJ b o u (by rw[Mem.off_at hn];exact h)
 have nr:∀id y,(ZdG S ids bxs css).L id=some y->∃x,S.L id=some x/\x.b=y.b:=λid y hy=>by
  rcases Zec (S:=S) eJ bT (by omega:css.length=ids.length) id with⟨_,h4⟩|⟨i,x,cs,h3,h4,h5,h6⟩
  ·exact⟨y,by rw[<-h4];exact hy,rfl⟩
  ·obtain⟨id',g1,g2⟩:=cP i x h4
   rw[h3]at g1;cases g1
   rw[h6]at hy;cases hy
   exact⟨x,g2,rfl⟩
 have p9:∀id x,S.L id=some x->∃y,(ZdG S ids bxs css).L id=some y/\y.b=x.b:=λid x hx=>by
  rcases Zec (S:=S) eJ bT (by omega:css.length=ids.length) id with⟨_,h4⟩|⟨i,x',cs,h3,h4,h5,h6⟩
  ·exact⟨x,by rw[h4];exact hx,rfl⟩
  ·obtain⟨id',g1,g2⟩:=cP i x' h4
   rw[h3]at g1;cases g1
   rw[hx]at g2;cases g2
   exact⟨_,h6,rfl⟩
 have ue:∀M,Dom C S m a w M->∀b,b∈bxs.map (·.b)->M b:=λM hd b hb=>by
  obtain⟨z,hz,rfl⟩:=List.mem_map.1 hb
  obtain⟨i,hi⟩:=List.getElem?_of_mem hz
  obtain⟨id',_,g2⟩:=cP i z hi
  exact hd.own id' z g2
 have sZ:∀b,b∈bxs.map (·.b)->∃id x,S.L id=some x/\x.b=b:=λb hb=>by
  obtain⟨z,hz,rfl⟩:=List.mem_map.1 hb
  obtain⟨i,hi⟩:=List.getElem?_of_mem hz
  obtain⟨id',_,g2⟩:=cP i z hi
  exact⟨id',z,g2,rfl⟩
 have jm:(ZdG S ids bxs css).env=S.env/\(ZdG S ids bxs css).ids=S.ids/\(ZdG S ids bxs css).tkeys=S.tkeys/\(ZdG S ids bxs css).gh=S.gh/\(ZdG S ids bxs css).fo=S.fo:=by rw[Zdn];exact⟨rfl,rfl,rfl,rfl,rfl⟩
 have mo:∀k t,Zpt S.tok kl tks tvs k=some t->(k ∉ kl/\S.tok k=some t)\/∃(q:Nat)(t0:Tok)(tv:Value),kl[q]?=some k/\tks[q]?=some t0/\tvs[q]?=some tv/\t=⟨tv,t0.esz⟩:=λk t ht=>by
  rcases Zlj (tok:=S.tok) sY tlen (by omega:tvs.length=kl.length) k with⟨q1,q2⟩|⟨q,t0,tv,q1,q2,q3,q4⟩
  ·exact .inl ⟨q1,by rw[<-q2];exact ht⟩
  ·rw[ht]at q4;cases q4
   exact .inr ⟨q,t0,tv,q1,q2,q3,rfl⟩
 refine⟨?_,hr.size,λi sv he=>?_,λid y hy=>?_,λid id' y y' hy hy' e=>?_,λid y hy=>?_,λk t ht=>?_,λk t ht=>?_,λk k' t t' b ht ht' dF fD=>?_,dO,⟨λb o u qW=>?_,λb e qX=>?_⟩,?_,λh'=>hr.fo (by simpa only[jm.2.2.2.2]using h')⟩
 ·obtain⟨ms,q1,q2,q3⟩:=hr.defers
  refine⟨ms,q1,q2,λD hD=>?_⟩
  rw[hu.block D (Array.getElem?_eq_some_iff.1 (q3 D hD)).1 (λhm=>?_)]
  ·exact q3 D hD
  ·rcases hm with hm|hm
   ·obtain⟨id,x,g1,g2⟩:=sZ D hm
    obtain⟨sp,fr,g3,_⟩:=(hr.own id x g1).cells
    have:=q3 D hD
    rw[<-g2,g3]at this;cases this
   ·exact(im D hm).2.1 _ (q3 D hD)
 ·simp only[jm.1]at he
  obtain⟨u,q1,q2⟩:=hr.env i sv he
  refine⟨u,?_,q2⟩
  cases sv with
  | v x=>exact q1
  | loc id off=>
   simp only[St.den]at q1 ⊢
   cases hx:S.L id with
   | none=>simp[hx]at q1
   | some x=>
    obtain⟨y,g1,g2⟩:=p9 id x hx
    simp only[hx]at q1
    simp only[g1,g2];exact q1
  | sl id n c=>
   simp only[St.den]at q1 ⊢
   cases hx:S.L id with
   | none=>simp[hx]at q1
   | some x=>
    obtain⟨y,g1,g2⟩:=p9 id x hx
    simp only[hx]at q1
    simp only[g1,g2];exact q1
 ·rcases Zec (S:=S) eJ bT (by omega:css.length=ids.length) id with⟨h3,h4⟩|⟨i,x,cs,h3,h4,h5,h6⟩
  ·have hy':S.L id=some y:=by rw[<-h4];exact hy
   have ho:=hr.own id y hy'
   have hn:¬Y y.b:=λhh=>(im _ hh).2.2.2.2.1 id y hy' rfl
   have dD:w'.heap[y.b]?=w.heap[y.b]?:=hu.block _ ho.lt (λhm=>by
    rcases hm with hm|hm
    ·obtain⟨z,hz,nN⟩:=List.mem_map.1 hm
     obtain⟨i,hi⟩:=List.getElem?_of_mem hz
     obtain⟨id',g1,g2⟩:=cP i z hi
     have:=hr.apart _ _ _ _ g2 hy' nN
     subst this
     exact h3 (List.mem_of_getElem? g1)
    ·exact hn hm)
   exact⟨by rw[dD];exact ho.cells,λhz o=>nX _ ho.lt hn o (ho.free hz o),λhz j u hu=>fN _ hn _ _ (ho.known hz j u hu),ho.whole⟩
  ·simp only[h6,Option.some.injEq]at hy
   subst hy
   exact dM i x cs h4 h5
 ·obtain⟨x,g1,g2⟩:=nr id y hy
  obtain⟨x',g3,g4⟩:=nr id' y' hy'
  exact hr.apart _ _ _ _ g1 g3 (by rw[g2,g4,e])
 ·obtain⟨x,g1,g2⟩:=nr id y hy
  simp only[jm.2.1];exact hr.ids id x g1
 ·rcases mo k t ht with⟨q1,q2⟩|⟨q,t0,tv,q1,q2,q3,rfl⟩
  ·obtain⟨g1,g2⟩:=hr.toks k t q2
   have hn:∀b,t.blk=some b->¬Y b:=λb hb hh=>q1 ((im b hh).2.2.2.2.2 k t q2 hb)
   refine⟨g1.same (λb hb=>hu.block b (g1.lt hb) (λhm=>?_)) (λb o hb=>nX b (g1.lt hb) (hn b hb) o),λb hb=>⟨λid y hy=>?_,(g2 b hb).2⟩⟩
   ·rcases hm with hm|hm
    ·obtain⟨id,x,g3,g4⟩:=sZ b hm
     exact(g2 b hb).1 id x g3 g4
    ·exact hn b hb hm
   ·obtain⟨x,g3,g4⟩:=nr id y hy
    rw[<-g4];exact(g2 b hb).1 id x g3
  ·obtain⟨g1,g2,g3⟩:=lc q t0 tv q2 q3
   refine⟨g2,λb hb=>⟨λid y hy=>?_,?_⟩⟩
   ·obtain⟨x,g4,g5⟩:=nr id y hy
    rw[<-g5]
    rcases(g3 b hb).1 with h|h
    ·exact(im b h).2.2.2.2.1 id x g4
    ·have:=(hr.own id x g4).lt;omega
   ·rcases(g3 b hb).1 with h|h
    ·exact(im b h).2.2.1
    ·intro o
     cases he:C.me b o with
     | none=>rfl
     | some u=>have:=hr.sub.lt (hr.le _ _ _ he);omega
 ·rcases mo k t ht with⟨q1,q2⟩|⟨q,t0,tv,q1,q2,q3,rfl⟩
  ·exact List.mem_append_right _ (hr.tkeys k t q2)
  ·exact List.mem_append_left _ (List.mem_of_getElem? q1)
 ·have cross:∀(k k':Nat)(t t':Tok),(k ∉ kl/\S.tok k=some t)->(∃(q:Nat)(t0:Tok)(tv:Value),kl[q]?=some k'/\tks[q]?=some t0/\tvs[q]?=some tv/\t'=⟨tv,t0.esz⟩)->t.blk=some b->t'.blk=some b->False:=by
   rintro k k' t t' ⟨q1,q2⟩ ⟨q,t0,tv,q3,q4,q5,rfl⟩ e1 e2
   rcases((lc q t0 tv q4 q5).2.2 b e2).1 with h|h
   ·exact q1 ((im b h).2.2.2.2.2 k t q2 e1)
   ·have:=(hr.toks k t q2).1.lt e1;omega
  rcases mo k t ht with h3|h3 <;> rcases mo k' t' ht' with h4|h4
  ·exact hr.tapart k k' t t' b h3.2 h4.2 dF fD
  ·exact(cross k k' t t' h3 h4 dF fD).elim
  ·exact(cross k' k t' t h4 h3 fD dF).elim
  ·obtain⟨q,t0,tv,q1,q2,q3,rfl⟩:=h3
   obtain⟨q',t0',tv',q1',q2',q3',rfl⟩:=h4
   have hz:∀(q:Nat)(t0:Tok)(tv:Value),tks[q]?=some t0->tvs[q]?=some tv->((tks.zip tvs).map λq=>(⟨q.2,q.1.esz⟩:Tok))[q]?=some ⟨tv,t0.esz⟩:=λq t0 tv h5 h6=>by
    rw[List.getElem?_map,(List.getElem?_zip_eq_some (z:=(t0,tv))).2 ⟨h5,h6⟩];rfl
   have:=qV q q' _ _ b (hz q t0 tv q2 q3) (hz q' t0' tv' q2' q3') dF fD
   subst this
   rw[q1]at q1';cases q1';rfl
 ·refine fN b (λhh=>?_) o u (hr.le b o u qW)
  rw[(im b hh).2.2.1 o]at qW;cases qW
 ·have h5:=hr.le.k b e qX
  by_cases hh:Y b
  ·rcases c2 b hh with⟨t,ht,eV⟩|⟨⟨q1,q1k⟩,q2,q3⟩
   ·obtain⟨k,hk,iW⟩:=tk_of t ht b eV
    obtain⟨es,cl,g1,_⟩:=hr.sub.k b e h5
    rcases(hr.toks k t iW).1 with q0|⟨b',o0,n,c,cur,T,fr,hv,_,uf,_⟩
    ·simp[Tok.blk,q0]at eV
    ·simp[Tok.blk,hv]at eV;subst eV;rw[uf]at g1;cases g1
   ·rw[gc,jl,q1k]at qX;cases qX
  ·exact cJ.k b e (by rw[Mem.off_k hh];exact h5)
 ·obtain⟨M,hd⟩:=hr.dom
  have hu':Upd M w w':=⟨hu.os,hu.tape,hu.output,hu.size,λk hk hn=>hu.block k hk (λhm=>hn (by
   rcases hm with hm|hm
   ·exact ue M hd k hm
   ·exact(im k hm).2.2.2.1 M hd)),hu.wr⟩
  have dN:=hd.step (m':=m') hu' ⟨λb o u h=>by
   rcases dA b o u h with h|h|h
   ·exact .inl h
   ·exact .inr (.inl ((im b h).2.2.2.1 M hd))
   ·exact .inr (.inr ⟨h.1,dO.lt (by assumption),h.2⟩),λb e h=>by
   rcases dA.k b e h with h|h|h
   ·exact .inl h
   ·exact .inr (.inl ((im b h).2.2.2.1 M hd))
   ·exact .inr (.inr ⟨h.1,(dO.k b e (by assumption)).lt,h.2⟩)⟩
  refine⟨_,by simpa only[jm.2.2.2.1]using dN.p,dN.lt,λid y hy=>?_,λk t b ht hb=>?_,dN.mks,dN.new⟩
  ·obtain⟨x,g1,g2⟩:=nr id y hy
   rw[<-g2];exact dN.own id x g1
  ·rcases mo k t ht with⟨q1,q2⟩|⟨q,t0,tv,q1,q2,q3,rfl⟩
   ·exact dN.tok k t b q2 hb
   ·obtain⟨g1,g2,g3⟩:=lc q t0 tv q2 q3
    rcases(g3 b hb).1 with h|h
    ·exact .inl ((im b h).2.2.2.1 M hd)
    ·exact .inr ⟨h,g2.lt hb,g2.wr hb⟩
theorem ZpN{C:Ctx}{S:St}{m:Mem}{a:Act}{w:World}{E:Env}{rt:TypeId}{g:FuncId}{args:List Value}{K:Value->Int->Prop}(hY:YOk E C)(hr:Rel C S m a w)(h:Zx5 E rt g args K S m):
  Ze4 E.P g/\Calls E.P g args.toArray w λe w'=>∃v gh,e=.returned v/\K v gh/\Rel C { S with gh:=gh } m a w':=by
 unfold Zx5 at h
 split at h
 ·exact h.elim
 rename_i Y gA
 obtain⟨l,xs,go,stop,iX,mq,eX,cQ⟩:=h
 have ug:=hY.y Y gA
 obtain⟨M0,hd⟩:=hr.dom
 let at':Int->Int:=λj=>if j < 0 then -1 else S.gh+j
 let p:Int->(Nat->Prop)->World->Prop:=λj M w1=>C.p (at' j) (λk=>M0 k\/M k) w1/\(∀k,M k->w.heap.size<=k)/\w.heap.size<=w1.heap.size/\(∀k,M0 k->w1.heap[k]?=w.heap[k]?)/\Sub m w1
 have qY:∀b o v,m b o=some v->b < w.heap.size:=λb o v hv=>hr.sub.lt hv
 have hp:Zty p:=by
  rintro j M M' w1 w2 ⟨h1,h2,h3,h4,h5⟩ hu hM'
  have io:∀k,M' k->w.heap.size<=k:=λk hk=>by
   rcases hM' k hk with hk|hk
   ·exact h2 k hk
   ·exact Nat.le_trans h3 hk.1
  have dN:∀k,k < w.heap.size->w2.heap[k]?=w1.heap[k]?:=λk hk=>hu.block k (Nat.lt_of_lt_of_le hk h3) λhm=>by have:=h2 k hm;omega
  refine⟨C.st _ _ _ _ _ h1 ⟨hu.os,hu.tape,hu.output,hu.size,λk hk hn=>hu.block k hk λhm=>hn (.inr hm),hu.wr⟩ (λk hk=>?_),io,Nat.le_trans h3 hu.size,λk hk=>by rw[dN k (hd.lt k hk)];exact h4 k hk,⟨λb o v hv=>?_,λb e he=>(h5.k b e he).same (dN b (hr.sub.k b e he).lt)⟩⟩
  ·rcases hk with hk|hk
   ·exact .inl (.inl hk)
   ·rcases hM' k hk with hk|hk
    ·exact .inl (.inr hk)
    ·exact .inr hk
  ·rw[Zb4 (dN b (qY b o v hv))];exact h5 b o v hv
 have nY:p 0 (λ_=>False) w:=by
  refine⟨?_,λ_ h=>h.elim,Nat.le_refl _,λ_ _=>rfl,hr.sub⟩
  have e1:at' 0=S.gh:=by simp[at']
  have e2:(λk=>M0 k\/False)=M0:=by funext k;simp
  rw[e1]
  show C.p S.gh (λk=>M0 k\/False) w
  rw[e2];exact hd.p
 have uh:Zlh E.P m p (λl' g v=>l'=l/\0<=g/\xs[g.toNat]?=some v):=by
  rintro F n l' j v M w1 hF nZ ⟨rfl,hj,eZ⟩ ⟨h1,h2,h3,h4,h5⟩ dO
  have e1:at' j=S.gh+((j.toNat:Nat):Int):=by
   show(if j < 0 then -1 else S.gh+j)=_
   rw[if_neg (by omega)];omega
  rw[e1]at h1
  have bB:∀k,M0 k\/M k->k < w1.heap.size:=λk hk=>by
   rcases hk with hk|hk
   ·exact Nat.lt_of_lt_of_le (hd.lt k hk) h3
   ·exact nZ k hk
  have ui:=ug F n l' _ v (λk=>M0 k\/M k) w1 hF bB (mq _ _ eZ) h1 (dO.less hr.le)
  obtain⟨fn,tmps,asg,bdy,jY,fm⟩:=ui
  refine⟨fn,tmps,asg,bdy,jY,fm.mono ?_⟩
  rintro e w2 ⟨b,rfl,mr,ga⟩
  have lE:Sub m w2:=⟨λb o v hv=>by
   rcases hd.new b o v hv with h6|h6
   ·exact ga.sub b o v h6
   ·have hb:=ga.block b (Nat.lt_of_lt_of_le (hd.lt b h6) h3) (.inl h6)
    rw[Zb4 hb];exact dO b o v hv,λb e he=>by
   rcases hd.new.k b e he with h6|h6
   ·exact ga.sub.k b e h6
   ·exact(dO.k b e he).same (ga.block b (Nat.lt_of_lt_of_le (hd.lt b h6) h3) (.inl h6))⟩
  refine⟨b,rfl,⟨?_,h2,Nat.le_trans h3 ga.size,λk hk=>?_,lE⟩,⟨ga.size,λk hk hm=>ga.block k hk (.inr hm),lE⟩⟩
  ·cases b with
   | true=>
    have e2:at' (j+1)=S.gh+((j.toNat:Nat):Int)+1:=by
     show(if j+1 < 0 then -1 else S.gh+(j+1))=_
     rw[if_neg (by omega)];omega
    simp only[if_true]at mr ⊢
    rw[e2];exact mr
   | false=>
    simp only[Bool.false_eq_true,if_false]at mr ⊢
    exact mr
  ·rw[ga.block k (Nat.lt_of_lt_of_le (hd.lt k hk) h3) (.inl hk)];exact h4 k hk
 refine⟨iX.1,(iX.2 p hp w hr.sub nY uh).mono ?_⟩
 rintro e w' ⟨v,M,rfl,nZ,ld⟩
 have fin:∀j,p j M w'->Rel C { S with gh:=at' j } m a w':=by
  rintro j ⟨h1,h2,h3,h4,h5⟩
  refine hr.yielded hd (C.st _ _ _ _ _ h1 (Upd.refl _ _) λk hk=>.inl (.inl hk)) ⟨h3,λk _ hk=>h4 k hk,h5.less hr.le⟩
 have hv:go v\/stop v:=by
  rcases ld with h|h
  ·exact .inl h.1
  ·exact .inr h.1
 have hk:=Shape.all_fits _ _ cQ v (eX v hv)
 rcases ld with⟨h1,h2⟩|⟨h1,h2⟩
 ·have:=fin _ h2
  have e1:at' (xs.length:Int)=S.gh+(xs.length:Int):=by
   show(if((xs.length:Nat):Int) < 0 then -1 else S.gh+((xs.length:Nat):Int))=_
   rw[if_neg (by omega)]
  rw[e1]at this
  exact⟨v,_,rfl,hk.1 h1,this⟩
 ·have:=fin _ h2
  have e1:at' (-1)=-1:=rfl
  rw[e1]at this
  exact⟨v,_,rfl,hk.2 h1,this⟩
theorem ZrW{E:Env}(hE:E.ok){F:Fence}(hF:FOk F)(hY:YOk E C){o:Oper}(hd:∀t,o.dst=some t->t < C.n)(hr:Rel C S m a w){K:St->Mem->Prop}(h:opW E S m o K){n:Nat}{next:Act->World->Prop}{Q:Exit->Act->World->Prop}
  (hK:∀S' m' a' w',K S' m'->Rel C S' m' a' w'->next a' w'):o.uponIn F n E.P a next Q ((execOp a.eval o).run E.P w):=by
 obtain⟨dst,op,type,pos,after,guard⟩:=o
 cases op with
 | move x=>exact hK _ _ _ _ h (hr.putEv' dst hd x)
 | assign x=>exact hK _ _ _ _ h (hr.putEv' dst hd x)
 | pick c x y=>
  obtain⟨v,hv,h⟩:=Zau h
  obtain⟨h1,h2⟩:=Zah h
  have he:=hr.ev hv
  obtain⟨b,rfl⟩:∃b,v=.bool b:=⟨_,ZbT h1⟩
  have bS:(execOp a.eval ⟨dst,.pick c x y,type,pos,after,guard⟩).run E.P w=.ok (.value (if b then a.eval x else a.eval y)) w:=by
   simp[execOp,he,asBool]
  rw[bS]
  simp only[ZcW]at h2
  cases b
  ·exact hK _ _ _ _ h2 (hr.putEv' dst hd y)
  ·exact hK _ _ _ _ h2 (hr.putEv' dst hd x)
 | load T x=>
  have h':∃v,K (S.put dst (some (.v v))) m/\(Instr.loadAt T (a.eval x)).run E.P w=.ok v w:=by
   simp only[opW]at h
   cases nt:ZrO E dst with
   | none=>
    simp only[nt]at h
    exact Zeb hE hr h
   | some y=>
    simp only[nt]at h
    obtain⟨v,hk,bS⟩:=Zeb hE hr h
    exact⟨v,ZqK hk,bS⟩
  obtain⟨v,hk,bS⟩:=h'
  have dJ:(execOp a.eval ⟨dst,.load T x,type,pos,after,guard⟩).run E.P w=.ok (.value v) w:=by simp[execOp,bS]
  rw[dJ]
  exact hK _ _ _ _ hk (hr.put dst hd rfl)
 | store T x y=>
  obtain⟨v,hv,h⟩:=Zau h
  have he:=hr.ev hv
  cases lf:ZnI E x with
  | none=>
   simp only[lf]at h
   obtain⟨S',w',hk,bP,bS⟩:=Zl7 hE hr h
   have dJ:(execOp a.eval ⟨dst,.store T x y,type,pos,after,guard⟩).run E.P w=.ok .skip w':=by simp[execOp,he,bS]
   rw[dJ]
   exact hK _ _ _ _ hk (bP.putNone dst _)
  | some key=>
   simp only[lf]at h
   cases cX:E.fix with
   | some f=>simp[cX]at h
   | none=>
    simp only[cX,Option.isSome_none,cond_false]at h
    obtain⟨m',w',hk,bP,bS⟩:=ZgJ hE hY hr h
    have dJ:(execOp a.eval ⟨dst,.store T x y,type,pos,after,guard⟩).run E.P w=.ok .skip w':=by simp[execOp,he,bS]
    rw[dJ]
    exact hK _ _ _ _ hk (bP.putNone dst _)
 | alloc T=>
  simp only[opW,ZrR]at h
  cases dst with
  | none=>exact h.elim
  | some d=>
   simp only at h
   cases ht:E.tt T with
   | none=>simp[ht]at h
   | some i=>
    simp only[ht]at h
    cases hL:S.L d with
    | some x=>simp[hL]at h
    | none=>
     simp only[hL]at h
     have cV:=hE T i ht
     have hz:=cV.run_zero (w:=w)
     have iC:i.zero.cells.toList.length=i.size:=by simpa using cV.zsize
     have hb:=hr.newBox (d:=d) hL (x:={ b:=w.heap.size,cs:=i.zero.cells.toList,T:=T,cap:=i.size,fz:=false,full:=true }) (m':=m) [] rfl (by simpa using iC) (λ_=>iC) (.inl ⟨rfl,rfl⟩)
     simp only[List.append_nil,Array.toArray_toList]at hb
     have bS:(execOp a.eval ⟨some d,.alloc T,type,pos,after,guard⟩).run E.P w=.ok (.value (.pointer (some ⟨w.heap.size,0,none⟩))) (w.alloc (.cells i.zero.cells T (0,0))):=by
      simp[execOp,Instr.alloc,hz,newVar,newRow]
     rw[bS]
     exact hK _ _ _ _ (h w.heap.size) (hb.put (some d) hd (by simp[St.den,St.newL]))
 | box T x=>
  obtain⟨v,hv,h⟩:=Zau h
  have he:=hr.ev hv
  cases kO:ZfB E dst with
  | true=>
   simp only[kO,cond_true]at h
   cases cX:E.fix with
   | some f=>simp[cX]at h
   | none=>
    simp only[cX,Option.isSome_none,cond_false,Zxl]at h
    cases dst with
    | none=>exact h.elim
    | some d=>
     simp only at h
     cases ht:E.tt T with
     | none=>simp[ht]at h
     | some i=>
      simp only[ht]at h
      cases hL:S.L d with
      | some x=>simp[hL]at h
      | none=>
       simp only[hL]at h
       obtain⟨h1,h2⟩:=Zah h
       have cE:=Nat.eq_of_beq_eq_true h1
       have iC:v.cells.toList.length=i.size:=by simpa using cE
       have cF:m.free w.heap.size:=λo=>by
        cases he:m w.heap.size o with
        | none=>rfl
        | some v=>have:=hr.sub.lt he;omega
       have hb:=hr.newBox (d:=d) hL (x:={ b:=w.heap.size,cs:=v.cells.toList,T:=T,cap:=i.size,fz:=true,full:=true }) (m':=m.add w.heap.size v.cells.toList) [] rfl (by simpa using iC) (λ_=>iC) (.inr ⟨rfl,rfl⟩)
       simp only[List.append_nil,Array.toArray_toList]at hb
       have bS:(execOp a.eval ⟨some d,.box T x,type,pos,after,guard⟩).run E.P w=.ok (.value (.pointer (some ⟨w.heap.size,0,none⟩))) (w.alloc (.cells v.cells T (0,0))):=by
        simp[execOp,he,Instr.box,newVar,newRow]
       rw[bS]
       exact hK _ _ _ _ (ZpI (h2 w.heap.size _ (Mem.le_add cF _) (λj v hv=>by rw[Mem.add_same];simpa using hv)) cF (λb' o u hu=>by
        by_cases e:b'=w.heap.size
        ·exact .inr e
        ·rw[Mem.add_other _ e]at hu;exact .inl hu) (by
        cases he:m.k w.heap.size with
        | none=>rfl
        | some e=>have:=(hr.sub.k _ e he).lt;omega)) (hb.put (some d) hd (by simp[St.den,St.newL]))
  | false=>
  simp only[kO,cond_false]at h
  simp only[ZyN]at h
  cases dst with
  | none=>exact h.elim
  | some d=>
   simp only at h
   cases ht:E.tt T with
   | none=>simp[ht]at h
   | some i=>
    simp only[ht]at h
    cases hL:S.L d with
    | some x=>simp[hL]at h
    | none=>
     simp only[hL]at h
     obtain⟨h1,h2⟩:=Zah h
     have cE:=Nat.eq_of_beq_eq_true h1
     have iC:v.cells.toList.length=i.size:=by simpa using cE
     have hb:=hr.newBox (d:=d) hL (x:={ b:=w.heap.size,cs:=v.cells.toList,T:=T,cap:=i.size,fz:=false,full:=true }) (m':=m) [] rfl (by simpa using iC) (λ_=>iC) (.inl ⟨rfl,rfl⟩)
     simp only[List.append_nil,Array.toArray_toList]at hb
     have bS:(execOp a.eval ⟨some d,.box T x,type,pos,after,guard⟩).run E.P w=.ok (.value (.pointer (some ⟨w.heap.size,0,none⟩))) (w.alloc (.cells v.cells T (0,0))):=by
      simp[execOp,he,Instr.box,newVar,newRow]
     rw[bS]
     exact hK _ _ _ _ (h2 w.heap.size) (hb.put (some d) hd (by simp[St.den,St.newL]))
 | buildSlice T len parts=>
  simp only[opW]at h
  cases iE:ZcL E dst with
  | some ke=>
   simp only[iE]at h
   cases cX:E.fix with
   | some f=>simp[cX]at h
   | none=>
    simp only[cX,Option.isSome_none,cond_false]at h
    split at h
    ·rename_i hp
     have uj:parts=#[]:=by rw[<-Array.toArray_toList (xs:=parts),hp]
     subst uj
     obtain⟨S',v,w',hk,bP,_,hx⟩:=ZgF hE (λm' e=>by cases e;rfl) hd hr h
     obtain⟨i,e,g1,g2,rfl,rfl⟩:=hx rfl
     have hu:=(hE T i g1).run_und (w:=w)
     rw[g2]at hu
     have cE:∃n,(Go.sizeOf e).run E.P w=.ok n w:=by
      unfold Zmb at h
      cases dst with
      | none=>exact h.elim
      | some d=>
       simp only at h
       cases hs:Zay E T with
       | none=>simp[hs]at h
       | some ej=>
        obtain⟨e',j⟩:=ej
        obtain⟨i',q1,q2,q3⟩:=ZaI hs
        rw[g1]at q1;cases q1
        rw[g2]at q2;cases q2
        exact⟨_,(hE _ j q3).run_size (w:=w)⟩
     obtain⟨n0,cE⟩:=cE
     have bS:(execOp a.eval ⟨dst,.buildSlice T 0 #[],type,pos,after,guard⟩).run E.P w=.ok (.value (.slice (some ⟨w.heap.size,0,none⟩) 0 0)) (w.alloc (.cells #[] e (0,0))):=by
      simp[execOp,Instr.buildSlice,hu,cE,newRow,Instr.fill]
      congr 2
      apply Array.ext'
      simp
     rw[bS]
     exact hK _ _ _ _ hk bP
    ·exact h.elim
  | none=>
  simp only[iE,Zde]at h
  cases dst with
  | none=>exact h.elim
  | some d=>
   simp only at h
   cases ht:E.tt T with
   | none=>simp[ht]at h
   | some t=>
    simp only[ht]at h
    have fA:=hE T t ht
    cases jv:t.d with
    | slice e=>
     simp only[jv]at h
     cases hi:E.tt e with
     | none=>simp[hi]at h
     | some i=>
      simp only[hi]at h
      have cV:=hE e i hi
      cases hL:S.L d with
      | some x=>simp[hL]at h
      | none=>
       simp only[hL]at h
       obtain⟨h1,h2⟩:=Zah h
       simp only[Bool.and_eq_true,Nat.ble_eq]at h1
       have h3:=ZbO hr h2
       obtain⟨h4,h5⟩:=Zah h3
       generalize fu:List.map a.eval (List.map (λx=>x.2) parts.toList)=vs at *
       have bT:parts.toList.length=len:=Nat.eq_of_beq_eq_true h1.2.1
       have fS:vs.length=len:=by rw[<-fu];simpa using bT
       have fO:(ZbL vs).length=len*i.size:=by rw[ZnE h4,fS]
       have cF:m.free w.heap.size:=λo=>by
        cases he:m w.heap.size o with
        | none=>rfl
        | some v=>have:=hr.sub.lt he;omega
       have hb:=hr.newBox (d:=d) hL (x:={ b:=w.heap.size,cs:=ZbL vs,T:=e,cap:=len*i.size,fz:=true,full:=true }) (m':=m.add w.heap.size (ZbL vs)) [] rfl (by simpa using fO) (λ_=>fO) (.inr ⟨rfl,rfl⟩)
       simp only[List.append_nil]at hb
       have hu:=fA.run_und (w:=w)
       rw[jv]at hu
       have cE:=cV.run_size (w:=w)
       have hz:=cV.run_zero (w:=w)
       have mt:(parts.map λx=>(x.1,a.eval x.2)).toList=(List.range' 0 vs.length).zip vs:=by
        have e1:=ZgD h1.1
        simp only[List.length_map]at e1
        rw[bT,<-fS]at e1
        rw[<-e1,<-fu,List.map_map,List.zip_map']
        simp
       have iC:i.zero.cells.toList.length=i.size:=by simpa using cV.zsize
       have oa:∀zz:Array Value,((Array.range (len*i.size)).map (λq=>zz[q % zz.size]!)).toList.length=vs.length*i.size:=λzz=>by simp[fS]
       have lF:∀zz:Array Value,Instr.fill (λq=>some (q*i.size,i.size)) ((Array.range (len*i.size)).map (λq=>zz[q % zz.size]!)) (parts.map λx=>(x.1,a.eval x.2)).toList=some (ZbL vs).toArray:=λzz=>by
        have:=Zlk i.size vs 0 [] ((Array.range (len*i.size)).map (λq=>zz[q % zz.size]!)).toList h4 (by simp) (oa zz)
        rw[mt]
        simpa only[List.nil_append,Array.toArray_toList]using this
       have cJ:¬(16777216 < len*i.size):=by omega
       have bS:(execOp a.eval ⟨some d,.buildSlice T len parts,type,pos,after,guard⟩).run E.P w=.ok (.value (.slice (some ⟨w.heap.size,0,none⟩) len len)) (w.alloc (.cells (ZbL vs).toArray e (0,0))):=by
        by_cases h0:len*i.size=0
        ·have:=lF #[]
         simp only[h0]at this
         simp[execOp,Instr.buildSlice,hu,cE,h0,newRow]
         simp at this
         simp[this]
        ·have:=lF i.zero.cells
         simp[execOp,Instr.buildSlice,hu,cE,cJ,h0,hz,newRow]
         simp at this
         simp[this]
       rw[bS]
       exact hK _ _ _ _ (h5 w.heap.size cF) (hb.put (some d) hd (by simp[St.den,St.newL]))
    | _=>simp[jv]at h
 | makeSlice T l c=>
  have h':∃S' m' v w',K S' m'/\Rel C S' m' (a.put dst v) w'/\(Instr.makeSlice T (a.eval l) (a.eval c)).run E.P w=.ok v w':=by
   simp only[opW]at h
   cases iE:ZcL E dst with
   | none=>
    simp only[iE]at h
    cases gE:ZtC E dst with
    | false=>
     simp only[gE,cond_false]at h
     obtain⟨S',v,w',g⟩:=ZnG hE hd hr h
     exact⟨S',m,v,w',g⟩
    | true=>
     simp only[gE,cond_true]at h
     cases cX:E.fix with
     | some f=>simp[cX]at h
     | none=>
      simp only[cX,Option.isSome_none,cond_false]at h
      exact Zma hE hd hr h
   | some ke=>
    simp only[iE]at h
    cases cX:E.fix with
    | some f=>simp[cX]at h
    | none=>
     simp only[cX,Option.isSome_none,cond_false]at h
     obtain⟨S',v,w',g1,g2,g3,_⟩:=ZgF hE (λm' e=>by cases e) hd hr h
     exact⟨S',m,v,w',g1,g2,g3⟩
  obtain⟨S',m',v,w',hk,bP,bS⟩:=h'
  have dJ:(execOp a.eval ⟨dst,.makeSlice T l c,type,pos,after,guard⟩).run E.P w=.ok (.value v) w':=by simp[execOp,bS]
  rw[dJ]
  exact hK _ _ _ _ hk bP
 | lookup T x y ok=>
  simp only[opW]at h
  obtain⟨v,hk,bS⟩:=ZnM hE hr h
  have dJ:(execOp a.eval ⟨dst,.lookup T x y ok,type,pos,after,guard⟩).run E.P w=.ok (.value v) w:=by simp[execOp,bS]
  rw[dJ]
  exact hK _ _ _ _ hk (hr.put dst hd rfl)
 | mapUpdate T x y z=>
  simp only[opW]at h
  cases cX:E.fix with
  | some f=>simp[cX]at h
  | none=>
   simp only[cX,Option.isSome_none,Bool.false_or]at h
   cases gS:E.thaw with
   | false=>simp[gS]at h
   | true=>
   simp only[gS,Bool.not_true,cond_false]at h
   obtain⟨m',w',hk,bP,bS⟩:=Zmg hE hY hr h
   have dJ:(execOp a.eval ⟨dst,.mapUpdate T x y z,type,pos,after,guard⟩).run E.P w=.ok .skip w':=by simp[execOp,bS]
   rw[dJ]
   exact hK _ _ _ _ hk (bP.putNone dst _)
 | makeMap T r=>
  simp only[opW]at h
  cases cX:E.fix with
  | some f=>simp[cX]at h
  | none=>
   simp only[cX,Option.isSome_none,cond_false]at h
   obtain⟨S',m',v,w',hk,bP,bS⟩:=Zmh (E:=E) (T:=T) hd hr h
   have dJ:(execOp a.eval ⟨dst,.makeMap T r,type,pos,after,guard⟩).run E.P w=.ok (.value v) w':=by simp[execOp,bS]
   rw[dJ]
   exact hK _ _ _ _ hk bP
 | convert s d x=>
  simp only[opW]at h
  cases jI:ZfH E s d with
  | false=>
   simp only[jI,cond_false]at h
   cases gj:ZcM E s d with
   | false=>
    simp only[gj,cond_false]at h
    cases oe:ZcN E s d with
    | false=>
     simp only[oe,cond_false]at h
     exact ZgK hE hd hr h hK
    | true=>
     simp only[oe,cond_true]at h
     obtain⟨v,hk,bS⟩:=ZgG hE oe hr (ZpK h)
     have dJ:(execOp a.eval ⟨dst,.convert s d x,type,pos,after,guard⟩).run E.P w=.ok (.value v) w:=by simp[execOp,bS]
     rw[dJ]
     exact hK _ _ _ _ hk (hr.put dst hd rfl)
   | true=>
    simp only[gj,cond_true]at h
    cases cX:E.fix with
    | some f=>simp[cX]at h
    | none=>
     simp only[cX,Option.isSome_none,cond_false]at h
     obtain⟨S',m',v,w',hk,bP,bS⟩:=ZnH hE gj hd hr h
     have dJ:(execOp a.eval ⟨dst,.convert s d x,type,pos,after,guard⟩).run E.P w=.ok (.value v) w':=by simp[execOp,bS]
     rw[dJ]
     exact hK _ _ _ _ hk bP
  | true=>
   simp only[jI,cond_true]at h
   cases he:S.ev x with
   | none=>simp[he]at h
   | some sv=>
    cases sv with
    | v u=>simp[he]at h
    | loc id off=>simp[he]at h
    | sl id n' c=>
     simp only[he]at h
     obtain⟨v,h1,h2,h3⟩:=hr.ev_val he
     simp only[St.den]at h1
     cases hL:S.L id with
     | none=>simp[hL]at h1
     | some bx=>
      simp only[hL,Option.some.injEq]at h1
      unfold ZfH at jI
      cases ht:E.tt s with
      | none=>simp[ht]at jI
      | some i=>
       simp only[ht]at jI
       cases dH:i.d with
       | slice e=>
        simp only[dH,Bool.and_eq_true]at jI
        have s4:s=d:=Nat.eq_of_beq_eq_true jI.1
        subst s4
        cases hj:E.tt e with
        | none=>simp[hj]at jI
        | some j=>
         simp only[hj]at jI
         have hu:=(hE s i ht).run_und (w:=w)
         have mg:=(hE e j hj).run_und (w:=w)
         rw[dH]at hu
         obtain⟨sp,fr,hh,hc,hf⟩:=(hr.own id bx hL).cells
         have qP:=Zdf (P:=E.P) bx.b 0 hh
         have bP:=hr.freeze hL _ ⟨_,_,_,hh,rfl⟩
         have iy:j.d=.int .u8:=by
          cases iy:j.d with
          | int kk=>cases kk <;> simp[iy]at jI <;> rfl
          | _=>simp[iy]at jI
         rw[iy]at mg
         have bS:(execOp a.eval ⟨dst,.convert s s x,type,pos,after,guard⟩).run E.P w=.ok (.value (.slice (some ⟨bx.b,0,none⟩) n' c)) (w.freeze ⟨bx.b,(bx.cs++sp).toArray.size,none⟩ 1):=by
          simp only[execOp,h3,<-h1]
          simp only[convert,Sem.run_bind,hu,Result.andThen_ok,beq_self_eq_true,mg,qP,Sem.run_pure]
         rw[bS]
         exact hK _ _ _ _ h (bP.put dst hd (by simp[St.den,hL]))
       | _=>simp[dH]at jI
 | call c=>
  obtain⟨callee,args,argTypes⟩:=c
  cases callee with
  | value f=>
   simp only[opW]at h
   obtain⟨S,m,hr,h⟩:=ZhO hr h
   simp only[Zvq]at h
   cases he:S.ev f with
   | none=>simp[he]at h
   | some sv=>
    obtain⟨v,h1,h2,h3⟩:=hr.ev_val he
    cases sv with
    | v fv=>
     cases fv with
     | func fn first captured=>
      cases fn with
      | func g=>
       simp only[he]at h
       simp only[St.den,Option.some.injEq]at h1
       have fQ:(first++Array.map a.eval args++captured)=(first.toList++List.map a.eval args.toList++captured.toList).toArray:=Array.ext' (by simp)
       cases jx:ZqM E dst with
       | true=>
        simp only[jx,cond_true]at h
        cases cX:E.fix with
        | some f=>simp[cX]at h
        | none=>
         simp only[cX,Option.isSome_none,cond_false]at h
         obtain⟨S',sv,v,w',hk,bP,bS⟩:=ZpM hd hr (ZbO hr h)
         have dJ:(execOp a.eval ⟨dst,.call ⟨.value f,args,argTypes⟩,type,pos,after,guard⟩).run E.P w=.ok (.value v) w':=by
          simp only[execOp,resolve,h3,<-h1,Deferred.ofValue]
          simp only[Sem.run_bind,Sem.run_pure,Result.andThen_ok,invoke,fQ]
          exact bS
         rw[dJ]
         exact hK _ _ _ _ hk bP
       | false=>
       simp only[jx,cond_false]at h
       have uk:Ze4 E.P g/\Calls E.P g (first.toList++List.map a.eval args.toList++captured.toList).toArray w λe w'=>∃v S' m',e=.returned v/\K (S'.put dst (some (.v v))) m'/\Rel C S' m' a w':=by
        cases iX:ZdI E dst with
        | some ks=>
         simp only[iX]at h
         cases cX:E.fix with
         | some f=>simp[cX]at h
         | none=>
          simp only[cX,Option.isSome_none,cond_false]at h
          have h4:=ZbO hr h
          exact Zmj hY hr h4
        | none=>
        simp only[iX]at h
        cases nu:Ztz E dst with
        | true=>
         simp only[nu,cond_true]at h
         cases cX:E.fix with
         | some f=>simp[cX]at h
         | none=>
          simp only[cX,Option.isSome_none,cond_false]at h
          have h4:=ZbO hr h
          obtain⟨h5,h6⟩:=ZpN hY hr h4
          refine⟨h5,h6.mono ?_⟩
          rintro e w' ⟨v,gh,rfl,h7,h8⟩
          exact⟨v,_,m,rfl,h7,h8⟩
        | false=>
        simp only[nu,cond_false]at h
        cases iE:ZcL E dst with
        | none=>
         simp only[iE]at h
         have h4:=ZbO hr h
         exact ZnB hr h4
        | some ke=>
         simp only[iE]at h
         split at h
         ·have h4:=ZbO hr h
          exact Zmi hr h4
         ·exact h.elim
       obtain⟨jZ,ib⟩:=uk
       have bS:(execOp a.eval ⟨dst,.call ⟨.value f,args,argTypes⟩,type,pos,after,guard⟩).run E.P w=.ok (.enter g (first.toList++List.map a.eval args.toList++captured.toList).toArray) w:=by
        simp only[execOp,resolve,h3,<-h1,Deferred.ofValue]
        simp only[Sem.run_bind,Sem.run_pure,Result.andThen_ok,invoke,fQ]
        exact jZ _ _
       rw[bS]
       refine⟨λhs=>by rw[hF.depth]at hs;simp at hs,?_⟩
       refine hF.calls (ib.mono ?_)
       rintro e w' ⟨v,S',m',rfl,hk,bP⟩
       exact hK _ _ _ _ hk (bP.put dst hd rfl)
      | yield l=>
       simp only[he]at h
       cases cX:E.fix with
       | some f=>simp[cX]at h
       | none=>
        simp only[cX,Option.isSome_none,cond_false]at h
        cases gA:E.yl with
        | none=>
         cases lg:first.toList with
         | cons x l=>simp[gA,lg]at h
         | nil=>
          cases mu:captured.toList with
          | cons x l=>simp[gA,lg,mu]at h
          | nil=>
           simp only[gA,lg,mu]at h
           cases qZ:E.ylY with
           | none=>simp[qZ]at h
           | some Y=>
            simp only[qZ]at h
            obtain⟨hy,gk⟩:=ZbO hr h
            have mw:first=#[]:=by rw[<-Array.toArray_toList (xs:=first),lg]
            have my:captured=#[]:=by rw[<-Array.toArray_toList (xs:=captured),mu]
            subst mw my
            obtain⟨M,hd'⟩:=hr.dom
            obtain⟨fn,tmps,asg,bdy,jY,fm⟩:=hY.yY Y qZ F (n - 1) l S.gh _ M w m hF hd'.lt hy hr.le hd'.new hd'.p hr.sub
            simp only[St.den,Option.some.injEq]at h1
            have bS:(execOp a.eval ⟨dst,.call ⟨.value f,args,argTypes⟩,type,pos,after,guard⟩).run E.P w=.ok (.round l fn tmps asg bdy) w:=by
             have fQ:(#[]++Array.map a.eval args)=(List.map a.eval args.toList).toArray:=Array.ext' (by simp)
             simp only[execOp,resolve,h3,<-h1,Deferred.ofValue]
             simp only[Sem.run_bind,Sem.run_pure,Result.andThen_ok,invoke,fQ]
             simpa using jY
            rw[bS]
            refine⟨λhs=>by rw[hF.depth]at hs;simp at hs,fm.mono ?_⟩
            rintro e w' ⟨rfl,hp,ga⟩
            exact hK _ _ _ _ gk ((hr.yielded hd' hp ga).put dst hd rfl)
        | some Y=>
         cases lg:first.toList with
         | cons x l=>simp[gA,lg]at h
         | nil=>
          cases mu:captured.toList with
          | cons x l=>simp[gA,lg,mu]at h
          | nil=>
           simp only[gA,lg,mu]at h
           obtain⟨hy,gk,ia⟩:=ZbO hr h
           have mw:first=#[]:=by rw[<-Array.toArray_toList (xs:=first),lg]
           have my:captured=#[]:=by rw[<-Array.toArray_toList (xs:=captured),mu]
           subst mw my
           obtain⟨M,hd'⟩:=hr.dom
           obtain⟨fn,tmps,asg,bdy,jY,fm⟩:=hY.y Y gA F (n - 1) l S.gh _ M w hF hd'.lt hy hd'.p (hr.sub.less hr.le)
           simp only[St.den,Option.some.injEq]at h1
           have bS:(execOp a.eval ⟨dst,.call ⟨.value f,args,argTypes⟩,type,pos,after,guard⟩).run E.P w=.ok (.round l fn tmps asg bdy) w:=by
            have fQ:(#[]++Array.map a.eval args)=(List.map a.eval args.toList).toArray:=Array.ext' (by simp)
            simp only[execOp,resolve,h3,<-h1,Deferred.ofValue]
            simp only[Sem.run_bind,Sem.run_pure,Result.andThen_ok,invoke,fQ]
            simpa using jY
           rw[bS]
           refine⟨λhs=>by rw[hF.depth]at hs;simp at hs,fm.mono ?_⟩
           rintro e w' ⟨b,rfl,hp,ga⟩
           cases b with
           | true=>exact hK _ _ _ _ gk ((hr.yielded hd' hp ga).put dst hd rfl)
           | false=>exact hK _ _ _ _ ia ((hr.yielded hd' hp ga).put dst hd rfl)
      | _=>simp[he]at h
     | _=>simp[he]at h
    | _=>simp[he]at h
  | invoke r m=>exact ZgK hE hd hr h hK
  | builtin b=>
   cases b with
   | append=>
    simp only[opW]at h
    split at h
    ·rename_i s x T xT d hA hT
     obtain⟨S,m,hr,h⟩:=ZhO hr h
     obtain⟨vs,fu,h⟩:=Zau h
     obtain⟨vx,ul,h⟩:=Zau h
     have ha:args=#[s,x]:=by rw[<-Array.toArray_toList (xs:=args),hA]
     have f9:argTypes=#[T,xT]:=by rw[<-Array.toArray_toList (xs:=argTypes),hT]
     subst ha f9
     obtain⟨v,tk,m',w',hk,bP,bS⟩:=ZjF (ty:=type) hE hr h
     have dJ:(execOp a.eval ⟨some d,.call ⟨.builtin .append,#[s,x],#[T,xT]⟩,type,pos,after,guard⟩).run E.P w=.ok (.value v) w':=by
      simp[execOp,resolve,invoke,builtin,hr.ev fu,hr.ev ul,bS]
     rw[dJ]
     exact hK _ _ _ _ hk (bP.put (some d) hd rfl)
    ·exact h.elim
   | copy=>
    simp only[opW]at h
    split at h
    ·rename_i d s T xT hA hT
     cases hh:ZeA E d with
     | none=>simp[hh]at h
     | some id=>
      simp only[hh]at h
      obtain⟨vd,nV,h⟩:=Zau h
      obtain⟨vs,fu,h⟩:=Zau h
      have ha:args=#[d,s]:=by rw[<-Array.toArray_toList (xs:=args),hA]
      have f9:argTypes=#[T,xT]:=by rw[<-Array.toArray_toList (xs:=argTypes),hT]
      subst ha f9
      obtain⟨n,S',w',hk,bP,bS⟩:=ZnJ (ty:=type) (xT:=xT) hE hr h
      have dJ:(execOp a.eval ⟨dst,.call ⟨.builtin .copy,#[d,s],#[T,xT]⟩,type,pos,after,guard⟩).run E.P w=.ok (.value (.int .i64 n)) w':=by
       simp[execOp,resolve,invoke,builtin,hr.ev nV,hr.ev fu,bS]
      rw[dJ]
      exact hK _ _ _ _ hk (bP.put dst hd rfl)
    ·exact h.elim
   | _=>exact ZgK hE hd hr h hK
 | _=>exact ZgK hE hd hr h hK
end
mutual
def Shape.ex:Shape->(Value->Prop)->Prop
 | .any,k=>∃v,k v
 | .int ki,k=>∃n:Int,k (.int ki n)
 | .bool,k=>∃b:Bool,k (.bool b)
 | .str,k=>∃s:ByteArray,k (.string s)
 | .slice,k=>∃(a:Option Addr)(n c:Nat),k (.slice a n c)
 | .agg l,k=>Shape.exL l λvs=>k (.agg vs.toArray)
 | .tup l,k=>Shape.exL l λvs=>k (.tuple vs.toArray)
 | .fn,k=>∃(g:Nat)(fi ca:List Value),k (.func (.func g) fi.toArray ca.toArray)
 | .cells,k=>∃cs:List Value,k (.agg cs.toArray)
 | .ptr,k=>∃b o:Nat,k (.pointer (some ⟨b,o,none⟩))
def Shape.exL:List Shape->(List Value->Prop)->Prop
 | [],k=>k []
 | s::l,k=>Shape.ex s λv=>Shape.exL l λvs=>k (v::vs)
end
mutual
theorem Shape.ex_elim:∀(s:Shape)(k:Value->Prop),s.ex k->∃v,k v
 | .any,k,h=>h
 | .int ki,k,h=>by simp only[Shape.ex]at h;obtain⟨n,h⟩:=h;exact⟨_,h⟩
 | .bool,k,h=>by simp only[Shape.ex]at h;obtain⟨n,h⟩:=h;exact⟨_,h⟩
 | .str,k,h=>by simp only[Shape.ex]at h;obtain⟨n,h⟩:=h;exact⟨_,h⟩
 | .slice,k,h=>by simp only[Shape.ex]at h;obtain⟨a,n,c,h⟩:=h;exact⟨_,h⟩
 | .agg l,k,h=>by
  simp only[Shape.ex]at h
  obtain⟨vs,_,h⟩:=Shape.exL_elim l _ h
  exact⟨_,h⟩
 | .tup l,k,h=>by
  simp only[Shape.ex]at h
  obtain⟨vs,_,h⟩:=Shape.exL_elim l _ h
  exact⟨_,h⟩
 | .fn,k,h=>by simp only[Shape.ex]at h;obtain⟨_,_,_,h⟩:=h;exact⟨_,h⟩
 | .cells,k,h=>by simp only[Shape.ex]at h;obtain⟨_,h⟩:=h;exact⟨_,h⟩
 | .ptr,k,h=>by simp only[Shape.ex]at h;obtain⟨_,_,h⟩:=h;exact⟨_,h⟩
theorem Shape.exL_elim:∀(l:List Shape)(k:List Value->Prop),Shape.exL l k->∃vs,vs.length=l.length/\k vs
 | [],k,h=>⟨[],rfl,h⟩
 | s::l,k,h=>by
  simp only[Shape.exL]at h
  obtain⟨v,h⟩:=Shape.ex_elim s _ h
  obtain⟨vs,hl,h⟩:=Shape.exL_elim l _ h
  exact⟨v::vs,by simp[hl],h⟩
end
def ZdJ:Value->Bool
 | .tuple _=>true
 | _=>false
def opG(E:Env)(ops:Array Oper)(o:Oper)(S:St)(m:Mem)(K:St->Mem->Prop):Prop:=match o.guard with
 | none=>opW E S m o K
 | some (j,want)=>match ops.toList[j]? with
  | none=>False
  | some oj=>match oj.dst with
   | none=>False
   | some t=>match S.env t with
    | some (.v v)=>bif ZdJ v then K (S.put o.dst (some (.v undef))) m else chk (Zgz v) (match want with
     | true=>br (ZcW v) (opW E S m o K) (K (S.put o.dst (some (.v undef))) m)
     | false=>br (ZcW v) (K (S.put o.dst (some (.v undef))) m) (opW E S m o K))
    | _=>False
def Zee(ops:Array Oper)(o:Oper):Option Nat:=match o.guard with
 | none=>none
 | some (j,_)=>match ops.toList[j]? with
  | none=>none
  | some oj=>oj.dst
def ZvO(E:Env)(ops:Array Oper)(o:Oper)(S:St)(m:Mem)(K:St->Mem->Prop):Prop:=match Zee ops o with
 | none=>opG E ops o S m K
 | some t=>match S.env t with
  | some (.v v)=>bif ZdJ v then opG E ops o S m K else chk (Zgz v) (br (ZcW v) (opG E ops o (S.put (some t) (some (.v (.bool true)))) m K) (opG E ops o (S.put (some t) (some (.v (.bool false)))) m K))
  | _=>False
def ZvF(E:Env)(ops:Array Oper):List Nat->(St->Mem->Prop)->St->Mem->Prop
 | [],K,S,m=>K S m
 | i::l,K,S,m=>match ops.toList[i]? with
  | none=>False
  | some o=>ZvO E ops o S m (ZvF E ops l K)
def Zx9(n:Nat)(o:Oper):Bool:=match o.dst with
 | none=>true
 | some d=>Nat.blt d n
def Zlm(n:Nat):List Oper->Bool
 | []=>true
 | o::l=>Zx9 n o&&Zlm n l
def Zbk(n:Nat):Code->Bool
 | .region _ ops _=>Zlm n ops.toList
 | .seq a b=>Zbk n a&&Zbk n b
 | .cond _ a b=>Zbk n a&&Zbk n b
 | .block _ a=>Zbk n a
 | .loop a=>Zbk n a
 | .scope a=>Zbk n a
 | .rangeFunc _ ps a b=>ps.toList.all (Nat.blt · n)&&(Zbk n a&&Zbk n b)
 | _=>true
def ZaD:List Oper->List Nat
 | []=>[]
 | o::l=>match o.dst with
  | none=>ZaD l
  | some d=>d::ZaD l
def Zh7:Code->List Nat
 | .region _ ops _=>ZaD ops.toList
 | .seq a b=>Zh7 a++Zh7 b
 | .cond _ a b=>Zh7 a++Zh7 b
 | .block _ a=>Zh7 a
 | .loop a=>Zh7 a
 | .scope a=>Zh7 a
 | .rangeFunc _ ps a b=>ps.toList++(Zh7 a++Zh7 b)
 | _=>[]
def Zaz:Code->Nat
 | .region id _ _=>id
 | .seq a _=>Zaz a
 | .cond _ a _=>Zaz a
 | .block _ a=>Zaz a
 | .loop a=>Zaz a
 | .scope a=>Zaz a
 | .rangeFunc _ _ a _=>Zaz a
 | _=>0
def Zga(S:St):List (Nat×Shape)->(List Value->Prop)->Prop
 | [],k=>k []
 | (t,sh)::l,k=>wv S (.tmp t) λv=>chk (sh.fits v) (Zga S l λvs=>k (v::vs))
def ZgL(S:St):List Nat->(List (List Value)->Prop)->Prop
 | [],k=>k []
 | id::l,k=>match S.L id with
  | none=>False
  | some x=>ZgL S l λcss=>k (x.cs::css)
def ZrX(S:St)(k:Nat):Value:=match S.tok k with
 | some t=>t.v
 | none=>.slice none 0 0
def ZdO(S:St):List (Nat×Nat)->(List Value->Prop)->Prop
 | [],k=>k []
 | (q,esz)::l,k=>chk (Zbi (ZrX S q)&&(match S.tok q with
  | some t=>Nat.beq t.esz esz
  | none=>true)) (ZdO S l λvs=>k (ZrX S q::vs))
def ZbD(e:Nat->Option SV):List (Nat×Shape)->List Value->(Nat->Option SV)
 | (t,_)::l,v::vs=>λi=>bif Nat.beq i t then some (.v v)else ZbD e l vs i
 | _,_=>e
def Zi9(L:Nat->Option Box):List Nat->List (List Value)->(Nat->Option Box)
 | id::l,cs::css=>λi=>bif Nat.beq i id then(match L i with
  | some x=>some { x with cs:=cs }
  | none=>none)else Zi9 L l css i
 | _,_=>L
def ZeW(tk:Nat->Option Tok):List (Nat×Nat)->List Value->(Nat->Option Tok)
 | (q,esz)::l,v::vs=>λi=>bif Nat.beq i q then some ⟨v,esz⟩ else ZeW tk l vs i
 | _,_=>tk
def Za1(S:St)(ds:List Nat)(A:LoopAnn)(g:Int)(xs:List Value)(css:List (List Value))(tvs:List Value):St:=
 {env:=ZbD (λi=>bif ds.any (Nat.beq i ·)then none else S.env i) A.slots xs
  L:=Zi9 S.L A.boxes css
  ids:=S.ids
  tok:=ZeW S.tok A.toks tvs
  tkeys:=A.toks.map (·.1)++S.tkeys
  gh:=g
  fo:=S.fo }
def ghs(b:Bool)(g:Int)(xs:List Value):List Value:=bif b then .int .i64 g::xs else xs
def ZvG(b:Bool)(g:Int)(k:Int->Prop):Prop:=bif b then ∀y,k y else k g
def Zja(b:Bool)(x y:Int)(f g:Bool)(p:Prop):Prop:=bif Bool.xor f g then False else bif b then p else match x,y with
 | .ofNat 0,.ofNat 0=>p
 | x,y=>x=y/\p
theorem Zdg{b:Bool}{x y:Int}{f g:Bool}{p:Prop}(h:Zja b x y f g p):(b=false->x=y)/\f=g/\p:=by
 unfold Zja at h
 cases hx:Bool.xor f g with
 | true=>simp[hx]at h
 | false=>
 have og:f=g:=by cases f <;> cases g <;> first|rfl|cases hx
 simp only[hx,cond_false]at h
 cases b with
 | true=>exact⟨λh=>(by cases h),og,h⟩
 | false=>
  simp only[cond_false]at h
  split at h
  ·exact⟨λ_=>rfl,og,h⟩
  ·exact⟨λ_=>h.1,og,h.2⟩
theorem Zef{b:Bool}{g:Int}{k:Int->Prop}(h:ZvG b g k){y:Int}(hy:b=false->y=g):k y:=by
 cases b with
 | true=>exact h y
 | false=>rw[hy rfl];exact h
def ZjH:List Nat->(List (List Value)->Prop)->Prop
 | [],k=>k []
 | _::l,k=>∀cs,ZjH l λcss=>k (cs::css)
def ZjI:List (Nat×Nat)->(List Value->Prop)->Prop
 | [],k=>k []
 | _::l,k=>∀(a:Option Addr)(n c:Nat),ZjI l λvs=>k (.slice a n c::vs)
def Zby(S:St)(A:LoopAnn)(ids:List Nat):List (Option Box):=ids.map λid=>bif A.boxes.any (Nat.beq id ·)then(match S.L id with
 | some x=>some { x with cs:=[] }
 | none=>none)else S.L id
def ZaX(S:St)(A:LoopAnn)(ks:List Nat):List (Option Tok):=ks.map λk=>bif A.toks.any (λq=>Nat.beq k q.1)then none else S.tok k
def ZjJ(a b:List (Option Box))(p:Prop):Prop:=match a,b with
 | [],[]=>p
 | a,b=>a=b/\p
def ZjK(a b:List (Option Tok))(p:Prop):Prop:=match a,b with
 | [],[]=>p
 | a,b=>a=b/\p
theorem Zcw{a b:List (Option Box)}{p:Prop}:ZjJ a b p↔a=b/\p:=by
 unfold ZjJ
 split
 ·simp
 ·exact Iff.rfl
theorem Zcx{a b:List (Option Tok)}{p:Prop}:ZjK a b p↔a=b/\p:=by
 unfold ZjK
 split
 ·simp
 ·exact Iff.rfl
abbrev KT:=Exit->St->Mem->Prop
def leT(th:Bool)(m m':Mem):Prop:=bif th then True else m.le m'
theorem leT.of{th:Bool}{m m':Mem}(h:m.le m'):leT th m m':=by
 cases th with
 | true=>trivial
 | false=>exact h
theorem leT.refl(th:Bool)(m:Mem):leT th m m:=.of (Mem.le_refl m)
theorem leT.trans{th:Bool}{a b c:Mem}(h:leT th a b)(k:leT th b c):leT th a c:=by
 cases th with
 | true=>trivial
 | false=>exact mLt h k
def Env.cold(E:Env):Env:={ E with thaw:=false }
def ZyO(th:Bool)(A:LoopAnn)(ds:List Nat)(body:KT->St->Mem->Prop)(K:KT)(S:St)(m:Mem):Prop:=
 ∃I:List Value->List (List Value)->List Value->Mem->Nat->Prop,
  (Zga S A.slots λxs=>ZgL S A.boxes λcss=>ZdO S A.toks λtvs=>∃n,I (ghs A.gh S.gh xs) css tvs m n)/\
  ZvG A.gh S.gh λy=>Shape.allL (A.slots.map (·.2)) λxs=>ZjH A.boxes λcss=>ZjI A.toks λtvs=>∀(m':Mem)(n:Nat),leT th m m'->I (ghs A.gh y xs) css tvs m' n->
   body (λe S' m''=>match e with
    | .normal=>Zja A.gh S'.gh S.gh S'.fo S.fo (ZjJ (Zby S' A S.ids) (Zby S A S.ids) (ZjK (ZaX S' A S.tkeys) (ZaX S A S.tkeys) (Zga S' A.slots λxs'=>ZgL S' A.boxes λcss'=>ZdO S' A.toks λtvs'=>∃n',n' < n/\I (ghs A.gh S'.gh xs') css' tvs' m'' n')))
    | e=>K e S' m'') (Za1 S ds A y xs css tvs) m'
def ZzB(th:Bool)(A:LoopAnn)(ds:List Nat)(x y:KT->St->Mem->Prop)(K:KT)(S:St)(m:Mem):Prop:=
 ∃J:List Value->List (List Value)->List Value->Mem->Prop,
  x (λe S' m'=>match e with
   | .normal=>Zja A.gh S'.gh S.gh S'.fo S.fo (ZjJ (Zby S' A S.ids) (Zby S A S.ids) (ZjK (ZaX S' A S.tkeys) (ZaX S A S.tkeys) (Zga S' A.slots λxs=>ZgL S' A.boxes λcss=>ZdO S' A.toks λtvs=>J (ghs A.gh S'.gh xs) css tvs m')))
   | e=>K e S' m') S m/\
  ZvG A.gh S.gh λg=>Shape.allL (A.slots.map (·.2)) λxs=>ZjH A.boxes λcss=>ZjI A.toks λtvs=>∀m':Mem,leT th m m'->J (ghs A.gh g xs) css tvs m'->y K (Za1 S ds A g xs css tvs) m'
def ZfI:LoopAnn:=⟨[],[],[],false⟩
def ZyP(outs:List (Nat×Shape))(ds:List Nat)(body:(St->Mem->Prop)->St->Mem->Prop)(K:St->Mem->Prop)(S:St)(m:Mem):Prop:=
 Shape.exL (outs.map (·.2)) λxs=>(body (λS' _=>Zja false S'.gh S.gh S'.fo S.fo (ZjJ (Zby S' ZfI S.ids) (Zby S ZfI S.ids) (ZjK (ZaX S' ZfI S.tkeys) (ZaX S ZfI S.tkeys) (Zga S' outs λxs'=>xs'=xs)))) S m)/\
  K { S with env:=ZbD (λi=>bif ds.any (Nat.beq i ·)then none else S.env i) outs xs } m
def IX(P:Program)(g:FuncId)(first captured:List Value)(m:Mem)(xs:List (List Value)):Prop:=
 Ze4 P g/\∀(p:Int->(Nat->Prop)->World->Prop),Zty p->∀(l:Nat)(w:World),Sub m w->p 0 (λ_=>False) w->
  Zlh P m p (λl' g v=>l'=l/\0<=g/\xs[g.toNat]?=some v)->
  Calls P g (first++.func (.yield l) #[] #[]::captured).toArray w λe w'=>∃v M,e=.returned v/\(∀k,M k->k < w'.heap.size)/\(p xs.length M w'\/p (-1) M w')
def Zif:List Nat->List Nat->Bool
 | [],[]=>true
 | a::l,b::l'=>Nat.beq a b&&Zif l l'
 | _,_=>false
def ZnN(K:KT)(e:Exit)(S:St)(m:Mem):Prop:=match e with
 | .ret=>K .ret S m
 | .exit id=>K (.exit id) S m
 | .goto l=>K (.goto l) S m
 | _=>False
def ZyQ(th:Bool)(m:Mem)(k:Mem->Prop):Prop:=bif th then ∃mi,Mem.le mi m/\k mi else k m
def ZyF(th:Bool)(mi m:Mem)(p:Prop):Prop:=bif th then(mi.le m/\p)else p
theorem ZrY{th:Bool}{m:Mem}{k:Mem->Prop}(h:ZyQ th m k):∃mi:Mem,mi.le m/\(th=false->mi=m)/\k mi:=by
 cases th with
 | true=>obtain⟨mi,h1,h2⟩:=h;exact⟨mi,h1,λe=>(by cases e),h2⟩
 | false=>exact⟨m,Mem.le_refl m,λ_=>rfl,h⟩
theorem ZrZ{th:Bool}{mi m:Mem}{p:Prop}(h:ZyF th mi m p):(th=true->mi.le m)/\p:=by
 cases th with
 | true=>exact⟨λ_=>h.1,h.2⟩
 | false=>exact⟨λe=>(by cases e),h⟩
theorem Zr0{th:Bool}{m:Mem}{k k':Mem->Prop}(h:∀mi:Mem,mi.le m->(th=false->mi=m)->k mi->k' mi)(hx:ZyQ th m k):ZyQ th m k':=by
 cases th with
 | true=>obtain⟨mi,h1,h2⟩:=hx;exact⟨mi,h1,h mi h1 (λe=>(by cases e)) h2⟩
 | false=>exact h m (Mem.le_refl m) (λ_=>rfl) hx
theorem Zr1{th:Bool}{mi m:Mem}{p q:Prop}(h:p->q)(hx:ZyF th mi m p):ZyF th mi m q:=by
 cases th with
 | true=>exact⟨hx.1,h hx.2⟩
 | false=>exact h hx
def ZnO(th:Bool)(P:Program)(A:LoopAnn)(f:Operand)(ps:List Nat)(assign body:KT->St->Mem->Prop)(K:KT)(S:St)(m:Mem):Prop:=match S.ev f with
 | some (.v (.func (.func g) first captured))=>chk (Zif ps (A.slots.map (·.1))&&Zbd ps) (ZyQ th m λmi=>∃xs:List (List Value),IX P g first.toList captured.toList mi xs/\(∀x∈xs,Shape.fitsL (A.slots.map (·.2)) x=true)/\
   ∃I:List Value->List (List Value)->List Value->Mem->Nat->Prop,
    (ZgL S A.boxes λcss=>ZdO S A.toks λtvs=>I (ghs A.gh S.gh []) css tvs m 0)/\
    (ZvG A.gh S.gh λy=>Shape.allL (A.slots.map (·.2)) λx=>ZjH A.boxes λcss=>ZjI A.toks λtvs=>∀(m':Mem)(n:Nat),mi.le m'->xs[n]?=some x->I (ghs A.gh y []) css tvs m' n->
     assign (λe S1 m1=>match e with
      | .normal=>body (λe S' m''=>ZyF th mi m'' (Zja A.gh S'.gh S.gh S'.fo S.fo (ZjJ (Zby S' A S.ids) (Zby S A S.ids) (ZjK (ZaX S' A S.tkeys) (ZaX S A S.tkeys) (ZgL S' A.boxes λcss'=>ZdO S' A.toks λtvs'=>match e with
       | .normal=>I (ghs A.gh S'.gh []) css' tvs' m'' (n+1)
       | e=>ZnN K e (Za1 S [] { A with slots:=[] } S'.gh [] css' tvs') m''))))) S1 m1
      | _=>False) (Za1 S [] A y x css tvs) m')/\
    (ZvG A.gh S.gh λy=>ZjH A.boxes λcss=>ZjI A.toks λtvs=>∀m':Mem,mi.le m'->I (ghs A.gh y []) css tvs m' xs.length->K .normal (Za1 S [] { A with slots:=[] } y [] css tvs) m'))
 | _=>False
def IXY(P:Program)(g:FuncId)(first captured:List Value)(m:Mem)(Y:Nat->Prop)(n:Nat)(V:Nat->List Value->Mem->Prop)(R:Mem->Prop):Prop:=
 Ze4 P g/\∀(p:Int->(Nat->Prop)->World->Prop),Zty p->∀(l:Nat)(w:World),Sub m w->(∀b,Y b->b < w.heap.size/\Wr w b)->p 0 Y w->
  Znl P (m.off Y) p (λl' g v mi=>l'=l/\∃i:Nat,g=(i:Int)/\i < n/\V i v mi)->
  Calls P g (first++.func (.yield l) #[] #[]::captured).toArray w λe w'=>∃v M m',e=.returned v/\(∀k,M k->k < w'.heap.size)/\p n M w'/\Sub m' w'/\(m.off Y).le m'/\NewM (m.off Y) m' M/\R m'
def Zjb(E:Env)(A:LoopAnn)(f:Operand)(ps:List Nat)(assign body:KT->St->Mem->Prop)(K:KT)(S:St)(m:Mem):Prop:=match S.ev f,E.m0 with
 | some (.v (.func (.func g) first captured)),some m0=>chk ((E.thaw&&!S.fo)&&(Zif ps (A.slots.map (·.1))&&Zbd ps)) (∃(Y:Nat->Prop)(n:Nat)(V:Nat->List Value->Mem->Prop)(R:Mem->Prop),IXY E.P g first.toList captured.toList m Y n V R/\
   (∀b,Y b->m0.k b=none/\∃e,m.k b=some e)/\(∀i x mi,V i x mi->Shape.fitsL (A.slots.map (·.2)) x=true)/\
   ∃I:List Value->List (List Value)->List Value->Mem->Nat->Prop,
    (ZgL S A.boxes λcss=>ZdO S A.toks λtvs=>I (ghs A.gh S.gh []) css tvs (m.off Y) 0)/\
    (ZvG A.gh S.gh λy=>Shape.allL (A.slots.map (·.2)) λx=>ZjH A.boxes λcss=>ZjI A.toks λtvs=>∀(m' mi:Mem)(k:Nat),k < n->(m.off Y).le m'->(m.off Y).le mi->mi.le (m'.or mi)->(∀b,(m.off Y).newC mi b->m'.free b)->V k x mi->I (ghs A.gh y []) css tvs m' k->
     assign (λe S1 m1=>match e with
      | .normal=>body (λe S' m''=>match e with
       | .normal=>Zja A.gh S'.gh S.gh S'.fo true (ZjJ (Zby S' A S.ids) (Zby S A S.ids) (ZjK (ZaX S' A S.tkeys) (ZaX S A S.tkeys) (ZgL S' A.boxes λcss'=>ZdO S' A.toks λtvs'=>(m.off Y).le m''/\I (ghs A.gh S'.gh []) css' tvs' (m''.less (m.off Y) mi) (k+1))))
       | _=>False) S1 m1
      | _=>False) (Za1 { S with fo:=true } [] A y x css tvs) (m'.or mi))/\
    (ZvG A.gh S.gh λy=>ZjH A.boxes λcss=>ZjI A.toks λtvs=>∀m' me:Mem,(m.off Y).le m'->(m.off Y).le me->me.le (m'.or me)->I (ghs A.gh y []) css tvs m' n->R me->K .normal (Za1 S [] { A with slots:=[] } y [] css tvs) (m'.or me)))
 | _,_=>False
def Mem.cutA(m:Mem)(a:Option Addr)(o:Nat):Mem:=match a with
 | some ⟨b,_,_⟩=>⟨λb' o'=>if b'=b/\o<=o' then none else m b' o',m.k⟩
 | none=>m
def Mem.addA(m:Mem)(a:Option Addr)(o:Nat)(zs:List Value):Mem:=match a with
 | some ⟨b,o0,_⟩=>m.addAt b (o0+o) zs
 | none=>m
def Zzn(m m0:Mem)(esz:Nat)(a:Option Addr)(n c:Nat):Prop:=
 (a=none/\n=0/\c=0)\/∃b,a=some ⟨b,0,none⟩/\n<=c/\0 < c*esz/\(∀o,o < c*esz->∃v,m b o=some v)/\m0.free b
def ZvP(E:Env)(kz:Option (Nat×Nat))(f:(St->Mem->Prop)->St->Mem->Prop)(K:St->Mem->Prop)(S:St)(m:Mem):Prop:=match kz with
 | none=>f K S m
 | some (key,esz)=>chk (E.thaw&&E.fix.isNone) (match E.m0 with
  | none=>False
  | some m0=>S.fo=false/\∃(a:Option Addr)(n c:Nat),Zzn m m0 esz a n c/\(∀b,(Tok.mk (.slice a n c) esz).blk=some b->nfz S b S.ids (ntk S b [key] S.tkeys))/\
    f (λS' m'=>match S'.tok key with
     | none=>False
     | some t=>chk (Zbi t.v) (∀zs:List Value,zs.length=(slC t.v - slN t.v)*t.esz->K { S' with tok:=λk=>bif Nat.beq k key then none else S'.tok k } (m'.addA (slA t.v) (slN t.v*t.esz) zs)))
     {S with tok:=λk=>bif Nat.beq k key then some ⟨.slice a n c,esz⟩ else S.tok k,tkeys:=key::S.tkeys } (m.cutA a (n*esz)))
def W(E:Env)(Zba:Nat->Array Oper->(St->Mem->Prop)->St->Mem->Prop):Code->KT->St->Mem->Prop
 | .skip,K,S,m=>K .normal S m
 | .label _,K,S,m=>K .normal S m
 | .region id ops draw,K,S,m=>match E.joins id with
  | none=>bif draw then Zba id ops (K .normal) S m else ZvP E (E.acq id) (ZvF E ops (List.range ops.size)) (K .normal) S m
  | some outs=>ZyP outs (ZaD ops.toList) (λk S m=>bif draw then(bif E.last id then False else Zba id ops k S m)else ZvF E.cold ops (List.range ops.size) k S m) (K .normal) S m
 | .seq x y,K,S,m=>match E.cuts (Zaz y)with
  | none=>W E Zba x (λe S' m'=>match e with
   | .normal=>W E Zba y K S' m'
   | e=>K e S' m') S m
  | some A=>ZzB E.thaw A (Zh7 x) (W E Zba x) (W E Zba y) K S m
 | .cond c x y,K,S,m=>wv S c λv=>chk (Zgz v) (br (ZcW v) (W E Zba x K S m) (W E Zba y K S m))
 | .block id x,K,S,m=>W E Zba x (λe S' m'=>match e with
  | .exit id'=>bif Nat.beq id' id then K .normal S' m' else K (.exit id') S' m'
  | e=>K e S' m') S m
 | .loop x,K,S,m=>ZyO E.thaw (E.loops (Zaz x)) (Zh7 x) (W E Zba x) K S m
 | .exit id,K,S,m=>K (.exit id) S m
 | .ret,K,S,m=>K .ret S m
 | .rangeFunc f ps x y,K,S,m=>bif E.rgY (Zaz y)then Zjb E (E.loops (Zaz y)) f ps.toList (W E Zba x) (W E Zba y) K S m else ZnO E.thaw E.P (E.loops (Zaz y)) f ps.toList (W E Zba x) (W E Zba y) K S m
 | .scope x,K,S,m=>W E Zba x (λe S' m'=>match e with
  | .goto _=>False
  | e=>K e S' m') S m
 | _,_,_,_=>False
section
variable {C:Ctx} {S:St} {m:Mem} {a:Act} {w:World}
theorem Zeg{E:Env}(hE:E.ok){F:Fence}(hF:FOk F)(hY:YOk E C){ops:Array Oper}{o:Oper}(hd:∀t,o.dst=some t->t < C.n)(hr:Rel C S m a w){K:St->Mem->Prop}(h:opG E ops o S m K){n:Nat}{next:Act->World->Prop}{Q:Exit->Act->World->Prop}
  (hK:∀S' m' a' w',K S' m'->Rel C S' m' a' w'->next a' w'):
  if Region.wanted o (yielded ops a.tmps)then o.wpIn F n E.P a w next Q else(∀f,o.about E.P w a.eval=some f->F.fn f)/\next (a.put o.dst undef) w:=by
 have jx:opW E S m o K->o.wpIn F n E.P a w next Q:=λhh=>by
  have gF:∀c,o.op≠.defer c:=λc e=>by
   obtain⟨dst,op,type,pos,after,guard⟩:=o
   simp only at e;subst e
   simp[opW,Zca]at hh
  refine⟨λf _=>hF.fn f,?_⟩
  rw[Oper.semAt_eq _ _ _ gF]
  exact ZrW hE hF hY hd hr hh hK
 have lf:K (S.put o.dst (some (.v undef))) m->(∀f,o.about E.P w a.eval=some f->F.fn f)/\next (a.put o.dst undef) w:=λhh=>
  ⟨λf _=>hF.fn f,hK _ _ _ _ hh (hr.put o.dst hd rfl)⟩
 unfold opG at h
 cases hg:o.guard with
 | none=>
  simp only[hg]at h
  simp only[Region.wanted,hg,if_true]
  exact jx h
 | some jw=>
  obtain⟨j,want⟩:=jw
  simp only[hg]at h
  cases hj:ops.toList[j]? with
  | none=>simp[hj]at h
  | some oj=>
   simp only[hj]at h
   have hj':ops[j]?=some oj:=by simpa using hj
   cases ht:oj.dst with
   | none=>simp[ht]at h
   | some t=>
    simp only[ht]at h
    cases he:S.env t with
    | none=>simp[he]at h
    | some sv=>
     cases sv with
     | loc id off=>simp[he]at h
     | sl id n' c=>simp[he]at h
     | v v=>
      simp only[he]at h
      obtain⟨v',h1,h2⟩:=hr.env t _ he
      simp only[St.den,Option.some.injEq]at h1
      subst h1
      cases hu:ZdJ v with
      | true=>
       simp only[hu,cond_true]at h
       have:Region.wanted o (yielded ops a.tmps)=false:=by
        cases v <;> simp[ZdJ]at hu
        simp[Region.wanted,hg,yielded,hj',ht,h2]
       simp only[this,Bool.false_eq_true,if_false]
       exact lf h
      | false=>
       simp only[hu,cond_false]at h
       obtain⟨h3,h4⟩:=Zah h
       obtain⟨b,rfl⟩:∃b,v=.bool b:=⟨_,ZbT h3⟩
       have hw:Region.wanted o (yielded ops a.tmps)=(b == want):=by
        simp[Region.wanted,hg,yielded,hj',ht,h2]
       rw[hw]
       simp only[ZcW]at h4
       cases b <;> cases want <;> simp only[br]at h4 <;> simp <;> first
        | exact jx h4
        | exact lf h4
theorem Rel.refine{t:Nat}{v:Value}(hr:Rel C S m a w)(he:S.env t=some (.v v)):Rel C (S.put (some t) (some (.v v))) m a w:=by
 have:S.put (some t) (some (.v v))=S:=by
  unfold St.put
  have:(λi=>bif Nat.beq i t then some (SV.v v)else S.env i)=S.env:=by
   funext i
   by_cases hi:i=t
   ·subst hi;simp[he]
   ·simp[Zar hi]
  simp only[this]
 rw[this];exact hr
theorem Zln{E:Env}(hE:E.ok){F:Fence}(hF:FOk F)(hY:YOk E C){ops:Array Oper}{o:Oper}(hd:∀t,o.dst=some t->t < C.n)(hr:Rel C S m a w){K:St->Mem->Prop}(h:ZvO E ops o S m K){n:Nat}{next:Act->World->Prop}{Q:Exit->Act->World->Prop}
  (hK:∀S' m' a' w',K S' m'->Rel C S' m' a' w'->next a' w'):
  if Region.wanted o (yielded ops a.tmps)then o.wpIn F n E.P a w next Q else(∀f,o.about E.P w a.eval=some f->F.fn f)/\next (a.put o.dst undef) w:=by
 unfold ZvO at h
 split at h
 ·exact Zeg hE hF hY hd hr h hK
 ·rename_i t _
  split at h
  ·rename_i v he
   cases hu:ZdJ v with
   | true=>simp only[hu,cond_true]at h;exact Zeg hE hF hY hd hr h hK
   | false=>
    simp only[hu,cond_false]at h
    obtain⟨h1,h2⟩:=Zah h
    obtain⟨b,rfl⟩:∃b,v=.bool b:=⟨_,ZbT h1⟩
    have gt:=hr.refine he
    cases b
    ·exact Zeg hE hF hY hd gt h2 hK
    ·exact Zeg hE hF hY hd gt h2 hK
  ·exact h.elim
theorem Zdh{n:Nat}:∀{l:List Oper},Zlm n l=true->∀(i:Nat) o,l[i]?=some o->∀t,o.dst=some t->t < n
 | [],_,i,o,h,_,_=>by simp at h
 | x::l,hl,i,o,h,t,ht=>by
  simp only[Zlm,Bool.and_eq_true]at hl
  cases i with
  | zero=>
   simp at h;subst h
   simp[Zx9,ht]at hl
   exact hl.1
  | succ i=>exact Zdh hl.2 i o (by simpa using h) t ht
theorem ZhR{E:Env}(hE:E.ok){F:Fence}(hF:FOk F)(hY:YOk E C){ops:Array Oper}(bB:Zlm C.n ops.toList=true){n:Nat}{Q:Exit->Act->World->Prop}:∀(l:List Nat){K:St->Mem->Prop}{S:St}{m:Mem}{a:Act}{w:World},Rel C S m a w->ZvF E ops l K S m->
  (∀S' m' a' w',K S' m'->Rel C S' m' a' w'->Q .normal a' w')->wpOpsIn F n E.P ops Q l a w
 | [],K,S,m,a,w,hr,h,hK=>hK _ _ _ _ h hr
 | i::l,K,S,m,a,w,hr,h,hK=>by
  simp only[ZvF]at h
  cases ho:ops.toList[i]? with
  | none=>simp[ho]at h
  | some o=>
   simp only[ho]at h
   have ho':ops[i]?=some o:=by simpa using ho
   have:=Zln hE hF hY (Zdh bB i o ho) hr h (n:=n) (Q:=Q) (next:=wpOpsIn F n E.P ops Q l) (λS' m' a' w' hk bP=>ZhR hE hF hY bB l bP hk hK)
   simp only[wpOpsIn,ho']
   exact this
end
def SameOut(ds:List Nat)(S S':St):Prop:=∀i,i ∉ ds->S'.env i=S.env i
theorem SameOut.refl(ds:List Nat)(S:St):SameOut ds S S:=λ_ _=>rfl
theorem SameOut.trans{ds:List Nat}{a b c:St}(h:SameOut ds a b)(k:SameOut ds b c):SameOut ds a c:=λi hi=>(k i hi).trans (h i hi)
theorem SameOut.mono{ds ds':List Nat}{a b:St}(h:SameOut ds a b)(k:∀i,i∈ds->i∈ds'):SameOut ds' a b:=λi hi=>h i (λhm=>hi (k i hm))
theorem SameOut.put{ds:List Nat}{S S':St}(h:SameOut ds S S'){d:Option Tmp}(hd:∀t,d=some t->t∈ds)(x:Option SV):SameOut ds S (S'.put d x):=by
 cases d with
 | none=>exact h
 | some d=>
  intro i hi
  have dU:i≠d:=λe=>hi (e ▸ hd d rfl)
  simp[St.put,Zar dU,h i hi]
theorem ZgM{b:Bool}{p q p' q':Prop}(h:p->p')(k:q->q')(x:br b p q):br b p' q':=by
 cases b
 ·exact k x
 ·exact h x
theorem Zaj{b:Bool}{p p':Prop}(h:p->p')(x:chk b p):chk b p':=ZgM h id x
theorem Zas{S:St}{x:Operand}{k k':Value->Prop}(h:∀v,k v->k' v)(hx:wv S x k):wv S x k':=by
 unfold wv at *
 split at hx
 ·exact h _ hx
 ·exact hx
theorem ZbU{S:St}:∀{l:List Operand} {k k':List Value->Prop},(∀v,k v->k' v)->wvs S l k->wvs S l k'
 | [],k,k',h,hx=>h _ hx
 | x::l,k,k',h,hx=>Zas (λv hv=>ZbU (λvs fu=>h _ fu) hv) hx
theorem ZgN{l:List Value}{n:Nat}{k k':Value->Prop}(h:∀v,k v->k' v)(hx:Ztt l n k):Ztt l n k':=by
 unfold Ztt at *
 split at hx
 ·exact h _ hx
 ·exact hx
theorem ZqP:∀{n:Nat} {k k':List Value->Prop},(∀v,k v->k' v)->exN n k->exN n k'
 | 0,k,k',h,hx=>h _ hx
 | n+1,k,k',h,⟨v,hx⟩=>⟨v,ZqP (λl hl=>h _ hl) hx⟩
theorem allL_mono:∀{n:Nat} {k k':List (List Value)->Prop},(∀v,k v->k' v)->allL n k->allL n k'
 | 0,k,k',h,hx=>h _ hx
 | n+1,k,k',h,hx=>λcs=>allL_mono (λl hl=>h _ hl) (hx cs)
mutual
theorem Shape.all_mono:∀(s:Shape){k k':Value->Prop},(∀v,k v->k' v)->s.all k->s.all k'
 | .any,k,k',h,hx=>by simp only[Shape.all]at *;exact λv=>h _ (hx v)
 | .int ki,k,k',h,hx=>by simp only[Shape.all]at *;exact λv=>h _ (hx v)
 | .bool,k,k',h,hx=>by simp only[Shape.all]at *;exact λv=>h _ (hx v)
 | .str,k,k',h,hx=>by simp only[Shape.all]at *;exact λv=>h _ (hx v)
 | .slice,k,k',h,hx=>by simp only[Shape.all]at *;exact λa n c=>h _ (hx a n c)
 | .agg l,k,k',h,hx=>by simp only[Shape.all]at *;exact Shape.allL_mono l (λvs fu=>h _ fu) hx
 | .tup l,k,k',h,hx=>by simp only[Shape.all]at *;exact Shape.allL_mono l (λvs fu=>h _ fu) hx
 | .fn,k,k',h,hx=>by simp only[Shape.all]at *;exact λg fi ca=>h _ (hx g fi ca)
 | .cells,k,k',h,hx=>by simp only[Shape.all]at *;exact λcs=>h _ (hx cs)
 | .ptr,k,k',h,hx=>by simp only[Shape.all]at *;exact λb o=>h _ (hx b o)
theorem Shape.allL_mono:∀(l:List Shape){k k':List Value->Prop},(∀v,k v->k' v)->Shape.allL l k->Shape.allL l k'
 | [],k,k',h,hx=>by simp only[Shape.allL]at *;exact h _ hx
 | s::l,k,k',h,hx=>by simp only[Shape.allL]at *;exact Shape.all_mono s (λv hv=>Shape.allL_mono l (λvs fu=>h _ fu) hv) hx
end
mutual
theorem Shape.ex_mono:∀(s:Shape){k k':Value->Prop},(∀v,k v->k' v)->s.ex k->s.ex k'
 | .any,k,k',h,hx=>by simp only[Shape.ex]at *;obtain⟨v,hx⟩:=hx;exact⟨v,h _ hx⟩
 | .int ki,k,k',h,hx=>by simp only[Shape.ex]at *;obtain⟨v,hx⟩:=hx;exact⟨v,h _ hx⟩
 | .bool,k,k',h,hx=>by simp only[Shape.ex]at *;obtain⟨v,hx⟩:=hx;exact⟨v,h _ hx⟩
 | .str,k,k',h,hx=>by simp only[Shape.ex]at *;obtain⟨v,hx⟩:=hx;exact⟨v,h _ hx⟩
 | .slice,k,k',h,hx=>by simp only[Shape.ex]at *;obtain⟨a,n,c,hx⟩:=hx;exact⟨a,n,c,h _ hx⟩
 | .agg l,k,k',h,hx=>by simp only[Shape.ex]at *;exact Shape.exL_mono l (λvs fu=>h _ fu) hx
 | .tup l,k,k',h,hx=>by simp only[Shape.ex]at *;exact Shape.exL_mono l (λvs fu=>h _ fu) hx
 | .fn,k,k',h,hx=>by simp only[Shape.ex]at *;obtain⟨g,fi,ca,hx⟩:=hx;exact⟨g,fi,ca,h _ hx⟩
 | .cells,k,k',h,hx=>by simp only[Shape.ex]at *;obtain⟨cs,hx⟩:=hx;exact⟨cs,h _ hx⟩
 | .ptr,k,k',h,hx=>by simp only[Shape.ex]at *;obtain⟨b,o,hx⟩:=hx;exact⟨b,o,h _ hx⟩
theorem Shape.exL_mono:∀(l:List Shape){k k':List Value->Prop},(∀v,k v->k' v)->Shape.exL l k->Shape.exL l k'
 | [],k,k',h,hx=>by simp only[Shape.exL]at *;exact h _ hx
 | s::l,k,k',h,hx=>by simp only[Shape.exL]at *;exact Shape.ex_mono s (λv hv=>Shape.exL_mono l (λvs fu=>h _ fu) hv) hx
end
theorem Zr2{op:BinOp}{k:IntKind}{a b:Int}{r r':Value->Prop}(h:∀v,r v->r' v)(x:Zxg op k a b r):Zxg op k a b r':=by
 cases op <;> simp only[Zxg]at * <;> first
  | exact h _ x
  | exact⟨x.1,h _ x.2⟩
  | exact x
theorem ZnP{op:BinOp}{k:IntKind}{a b:Int}{r r':Value->Prop}(h:∀v,r v->r' v)(x:Zjw op k a b r):Zjw op k a b r':=by
 cases op <;> simp only[Zjw]at * <;> first
  | exact⟨x.1,h _ x.2⟩
  | exact x
theorem Zr3{op:BinOp}{a b:ByteArray}{r r':Value->Prop}(h:∀v,r v->r' v)(x:Zxh op a b r):Zxh op a b r':=by
 cases op <;> simp only[Zxh]at * <;> first
  | exact h _ x
  | exact⟨x.1,h _ x.2⟩
  | exact x
theorem ZjL{op:BinOp}{b:Bool}{r r':Value->Prop}(h:∀v,r v->r' v)(x:Ztu op b r):Ztu op b r':=by
 cases op <;> simp only[Ztu]at * <;> first
  | exact h _ x
  | exact x
theorem ZnQ{E:Env}{op:BinOp}{T:TypeId}{x y:Value}{r r':Value->Prop}(h:∀v,r v->r' v)(hx:Zw7 E op T x y r):Zw7 E op T x y r':=by
 unfold Zw7 at *
 cases ht:E.tt T with
 | none=>simp[ht]at hx
 | some i=>
  simp only[ht]at *
  cases hd:i.d <;> simp only[hd]at * <;> first
   | exact hx.elim
   | exact Zaj (λy=>Zr3 h y) hx
   | exact Zaj (ZjL h) hx
   | exact Zaj (λ⟨b,hb,y⟩=>⟨b,hb,ZjL h y⟩) hx
   | (cases hc:ZvL op <;> simp only[hc,cond_true,cond_false]at * <;> exact hx.elim λv y=>⟨v,y.1,h _ y.2⟩)
   | (cases hs:Zi4 op <;> simp only[hs,cond_true,cond_false]at * <;> first
     | exact Zaj (Zr2 h) hx
     | exact Zaj (ZnP h) hx)
theorem Zlo{place:Nat->Option (Nat×Nat)}:∀{parts:List (Nat×Value)} {cs:List Value} {k k':List Value->Prop},(∀v,k v->k' v)->Zne place cs parts k->Zne place cs parts k'
 | [],cs,k,k',h,hx=>h _ hx
 | (i,v)::rest,cs,k,k',h,hx=>by
  simp only[Zne]at *
  cases hp:place i with
  | none=>simp[hp]at hx
  | some os=>simp only[hp]at *;exact Zaj (Zlo h) hx
theorem ZbE{x:Option Value}{d y:Nat}{r r':Nat->Prop}(h:∀v,r v->r' v)(hx:ZgB x d y r):ZgB x d y r':=by
 cases x with
 | none=>exact h _ hx
 | some v=>exact Zaj (λ⟨a,b⟩=>⟨a,h _ b⟩) hx
theorem ZjM{S:St}{x:Option Operand}{r r':Option Value->Prop}(h:∀v,r v->r' v)(hx:Zxk S x r):Zxk S x r':=by
 cases x with
 | none=>exact h _ hx
 | some v=>exact Zas (λv hv=>h _ hv) hx
theorem Zjc{E:Env}{T:TypeId}{v:Value}{lo hi mx:Option Value}{r r':Value->Prop}(h:∀v,r v->r' v)(hx:Zid E T v lo hi mx r):Zid E T v lo hi mx r':=by
 unfold Zid at *
 cases he:ZhL E T with
 | some sz=>simp only[he]at *;exact Zaj (λy=>ZbE (λm y=>ZbE (λh' y=>ZbE (λl y=>Zaj (h _) y) y) y) y) hx
 | none=>
  simp only[he]at *
  cases hs:Zez E T <;> simp only[hs,cond_true,cond_false]at *
  exact Zaj (λy=>ZbE (λh' y=>ZbE (λl y=>h _ y) y) y) hx
theorem ZhS{E:Env}{S:St}{o:Oper}{k k':SV->Prop}(h:∀v,k v->k' v)(hx:Zca E S o k):Zca E S o k':=by
 obtain⟨dst,op,type,pos,after,guard⟩:=o
 cases op <;> simp only[Zca]at * <;> try exact hx.elim
 case unOp op T x=>
  refine Zas (λv y=>?_) hx
  cases op <;> simp only at *
  ·split at y <;> first|exact Zaj (h _) y|exact y.elim
  ·split at y <;> first|exact Zaj (h _) y|exact y.elim
  ·exact Zaj (h _) y
 case binOp=>exact Zas (λv y=>Zas (λv' y=>ZnQ (λr y=>h _ y) y) y) hx
 case convert=>
  refine Zas (λv y=>?_) hx
  unfold ZrK at *
  (repeat' split at y) <;> first|exact(y:False).elim|exact Zaj (h _) y|exact y.elim λu z=>⟨u,z.1,h _ z.2⟩
 case makeFunc=>exact ZbU (λv y=>ZbU (λv' y=>h _ y) y) hx
 case fieldAddr=>
  (repeat' split at hx) <;> first|exact hx.elim|exact h _ hx|exact Zaj (h _) hx
 case indexAddr=>
  refine Zas (λv y=>Zaj (λy=>?_) y) hx
  split at y
  ·exact y.elim
  ·refine⟨y.1,?_⟩
   have y2:=y.2
   (repeat' split at y2) <;> first|exact y2.elim|exact h _ y2|exact Zaj (h _) y2
  ·(repeat' split at y) <;> first
    | exact y.elim
    | exact⟨y.1,h _ y.2⟩
    | exact Zaj (λ⟨b,o,h1,h2,h3⟩=>⟨b,o,h1,h2,h _ h3⟩) y
 case index=>
  refine Zas (λv y=>Zas (λv' y=>Zaj (λy=>?_) y) y) hx
  cases hs:Zez E _ <;> simp only[hs,cond_true,cond_false]at *
  ·split at y
   ·exact Zaj (λ⟨a,b⟩=>⟨a,ZgN (λu hu=>h _ hu) b⟩) y
   ·exact y.elim
  ·exact Zaj (λ⟨a,b⟩=>⟨a,h _ b⟩) y
 case build=>
  split at hx
  ·exact hx.elim
  ·exact ZbU (λvs y=>Zlo (λr y=>h _ y) y) hx
 case extract=>exact Zas (λv y=>Zaj (λy=>ZgN (λu hu=>h _ hu) y) y) hx
 case makeInterface=>exact Zas (λv y=>Zaj (h _) y) hx
 case nilCheck=>(repeat' split at hx) <;> first|exact hx.elim|exact h _ hx|exact Zaj (h _) hx
 case slice=>exact Zas (λv y=>ZjM (λl y=>ZjM (λh' y=>ZjM (λm y=>Zjc (λr y=>h _ y) y) y) y) y) hx
 case call c=>
  split at hx
  ·split at hx
   ·refine Zas (λv y=>?_) hx
    unfold ZxE at *
    (repeat' split at y) <;> first|exact y.elim|exact Zaj (h _) y|exact h _ y
   ·exact hx.elim
  ·split at hx
   ·refine Zas (λv y=>Zas (λv' y=>?_) y) hx
    split at y
    ·exact Zaj (h _) y
    ·exact y.elim
   ·exact hx.elim
  ·split at hx
   ·refine Zas (λv y=>Zas (λv' y=>?_) y) hx
    split at y
    ·exact Zaj (h _) y
    ·exact y.elim
   ·refine Zas (λv y=>Zas (λv' y=>Zas (λv'' y=>?_) y) y) hx
    split at y
    ·exact Zaj (h _) y
    ·exact y.elim
   ·exact hx.elim
  ·exact hx.elim
def dl(d:Option Tmp):List Nat:=match d with
 | none=>[]
 | some t=>[t]
theorem ZxG{d:Option Tmp}{t:Nat}(h:d=some t):t∈dl d:=by subst h;simp[dl]
theorem Zce(S:St)(d:Option Tmp)(x:Option SV):SameOut (dl d) S (S.put d x):=(SameOut.refl _ S).put (λt ht=>ZxG ht) x
theorem Zdi{ds:List Nat}{S S':St}(h:S'.env=S.env):SameOut ds S S':=λi _=>by rw[h]
theorem ZgO{i:TI}{m:Mem}{b o:Nat}{k k':Value->Prop}(h:∀v,k v->k' v)(hx:ZcZ i m b o k):ZcZ i m b o k':=by
 unfold ZcZ at *
 cases ha:i.agg <;> simp only[ha,cond_true,cond_false]at *
 ·obtain⟨v,h1,h2⟩:=hx;exact⟨v,h1,h _ h2⟩
 ·cases hb:Nat.ble i.size 16 <;> simp only[hb,cond_true,cond_false]at *
  ·obtain⟨vs,h1,h2,h3⟩:=hx;exact⟨vs,h1,h2,h _ h3⟩
  ·exact ZqP (λvs ⟨a,b⟩=>⟨a,h _ b⟩) hx
theorem Zdw{i:TI}{x:Box}{off:Nat}{k k':Value->Prop}(h:∀v,k v->k' v)(hx:ZcE i x off k):ZcE i x off k':=by
 unfold ZcE at *
 cases ha:i.agg <;> simp only[ha,cond_true,cond_false]at *
 ·exact ZgN h hx
 ·cases hb:(x.full&&(Nat.beq x.cap i.size&&Nat.beq off 0)) <;> simp only[hb,cond_true,cond_false]at *
  ·exact Zaj (h _) hx
  ·exact h _ hx
theorem Zdj{E:Env}{S:St}{m:Mem}{T:TypeId}{x:Operand}{k k':Value->Prop}(h:∀v,k v->k' v)(hx:Zea E S m T x k):Zea E S m T x k':=by
 unfold Zea at *
 split at hx
 ·exact hx.elim
 ·split at hx
  ·split at hx
   ·exact hx.elim
   ·exact Zdw h hx
  ·split at hx
   ·exact Zaj (ZgO h) hx
   ·split at hx
    ·exact hx.elim
    ·exact Zaj (λ⟨a,b⟩=>⟨a,Zdw h b⟩) hx
  ·exact hx.elim
theorem Zlp{E:Env}{S:St}{m:Mem}{T:TypeId}{id:Nat}{vd vs:Value}{k k':Int->St->Prop}(h:∀n S',S'.env=S.env->k n S'->k' n S')(hx:Zpu E S m T id vd vs k):Zpu E S m T id vd vs k':=by
 unfold Zpu at *
 split at hx
 ·exact hx.elim
 ·split at hx
  ·exact hx.elim
  ·exact Zaj (λg hf=>by
   obtain⟨o,xs,h1,h2,h3,h4,h5,h6⟩:=g hf
   exact⟨o,xs,h1,h2,h3,h4,h5,h _ _ rfl h6⟩) hx
theorem ZfJ{E:Env}{S:St}{T:TypeId}{x:Operand}{v:Value}{k k':St->Prop}(h:∀S',S'.env=S.env->k S'->k' S')(hx:Zf9 E S T x v k):Zf9 E S T x v k':=by
 unfold Zf9 at *
 split at hx
 ·exact hx.elim
 ·split at hx
  ·split at hx
   ·exact hx.elim
   ·refine Zaj (λy=>?_) hx
    cases hb:(_&&(Nat.beq _ _&&Nat.beq _ 0)) <;> simp only[hb,cond_true,cond_false]at *
    ·exact Zaj (h _ rfl) y
    ·exact h _ rfl y
  ·split at hx
   ·exact hx.elim
   ·split at hx
    ·exact hx.elim
    ·exact Zaj (λ⟨a,b,c⟩=>⟨a,b,h _ rfl c⟩) hx
  ·exact hx.elim
theorem ZnR(S:St)(ids:List Nat)(bxs:List Box)(css:List (List Value)):(ZdG S ids bxs css).env=S.env:=by
 rw[Zdn]
theorem Zjd{E:Env}{S:St}{m:Mem}{rt:TypeId}{g:FuncId}{args:List Value}{key esz:Nat}{K K':Value->St->Mem->Prop}(h:∀v S' m',S'.env=S.env->m.le m'->K v S' m'->K' v S' m')(hx:ZjD E S m rt g args key esz K):ZjD E S m rt g args key esz K':=by
 obtain⟨R,hx⟩:=hx
 exact⟨R,ZrN (λ⟨h1,h2,h3⟩=>⟨h1,h2,Shape.all_mono _ (λv y m' hm hr=>h v _ m' rfl hm (y m' hm hr)) h3⟩) hx⟩
theorem Zlq{E:Env}{S:St}{m:Mem}{rt:TypeId}{g:FuncId}{args:List Value}{ids:List Nat}{K K':Value->St->Mem->Prop}(h:∀v S' m',S'.env=S.env->m.le m'->K v S' m'->K' v S' m')(hx:Znf E S m rt g args ids K):Znf E S m rt g args ids K':=by
 unfold Znf at *
 split at hx
 ·exact hx.elim
 ·refine Zaj (λ⟨R,h0,h1,h2,h3⟩=>⟨R,h0,h1,h2,Shape.all_mono _ (λv y m' hm=>allL_mono (λcss y hR=>h _ _ _ (ZnR _ _ _ _) hm (y hR)) (y m' hm)) h3⟩) hx
theorem Zje{E:Env}{S:St}{m:Mem}{rt:TypeId}{g:FuncId}{args:List Value}{ids:List Nat}{ks:List (Nat×Nat)}{K K':Value->St->Mem->Prop}(h:∀v S' m',S'.env=S.env->K v S' m'->K' v S' m')(hx:Zie E S m rt g args ids ks K):Zie E S m rt g args ids ks K':=by
 unfold Zie at *
 split at hx
 ·exact hx.elim
 ·split at hx
  ·exact hx.elim
  ·exact Zaj (λ⟨Y,R,h1,h2,h3,h4,h5⟩=>⟨Y,R,h1,h2,h3,h4,Shape.all_mono _ (λv y m' hm hn=>allL_mono (λcss y=>ZhQ (λtvs y hR=>h _ _ _ (ZnR S _ _ _) (y hR)) y) (y m' hm hn)) h5⟩) hx
theorem ZeX{S:St}{m:Mem}{x:Operand}{k k':Value->Prop}(h:∀v,k v->k' v)(hx:ZbQ S m x k):ZbQ S m x k':=by
 unfold ZbQ at *
 split at hx
 ·split at hx
  ·exact hx.elim
  ·obtain⟨bs,h1,h2,h3⟩:=hx
   exact⟨bs,h1,h2,h _ h3⟩
 ·exact Zas (λv y=>Zaj (λ⟨bs,h1,h2,h3⟩=>⟨bs,h1,h2,h _ h3⟩) y) hx
theorem Zr4{E:Env}{rt:TypeId}{g:FuncId}{args:List Value}{K K':Value->Int->Prop}{S:St}{m:Mem}(h:∀v gh,K v gh->K' v gh)(hx:Zx5 E rt g args K S m):Zx5 E rt g args K' S m:=by
 unfold Zx5 at *
 split at hx
 ·exact hx.elim
 ·obtain⟨l,xs,go,stop,h1,h2,h3,h4⟩:=hx
  exact⟨l,xs,go,stop,h1,h2,h3,Shape.all_mono _ (λv hv=>⟨λhg=>h _ _ (hv.1 hg),λhs=>h _ _ (hv.2 hs)⟩) h4⟩
theorem ZeC{E:Env}{S:St}{m:Mem}{T xT:TypeId}{key:Nat}{vs vx:Value}{K K':Value->(Nat->Option Tok)->Mem->Prop}(h:∀v tk m',m.le m'->K v tk m'->K' v tk m')(hx:ZeV E S m T xT key vs vx K):ZeV E S m T xT key vs vx K':=by
 unfold ZeV at *
 split at hx
 ·exact hx.elim
 ·split at hx
  ·exact hx.elim
  ·have hb:∀{j:TI},Zw8 E S m j key vs vx K->Zw8 E S m j key vs vx K':=λ⟨ht,xs,ys,a1,a2,a3,a4,a5,a6,a7,a8⟩=>⟨ht,xs,ys,a1,a2,a3,a4,a5,a6,a7,λa' c' m' h1 h2=>ZnF (h _ _ _ h1) (a8 a' c' m' h1 h2)⟩
   refine Zaj (λy=>?_) hx
   cases gT:E.tails with
   | false=>rw[gT]at y;exact hb y
   | true=>rw[gT]at y;exact ZgM (Zaj (h _ _ _ (Mem.le_refl m))) hb y
def ZnS(E:Env)(o:Oper):Prop:=(∀T x y,o.op=.store T x y->ZnI E x=none)/\(∀f as ats,o.op=.call ⟨.value f,as,ats⟩->ZdI E o.dst=none)/\(∀T x y z,o.op=.mapUpdate T x y z->E.thaw=false)
theorem Zun(E:Env)(o:Oper):E.thaw=true\/ZnS E o:=by
 cases h:E.thaw with
 | true=>exact .inl rfl
 | false=>exact .inr ⟨λT x y _=>by simp[ZnI,h],λ_ _ _ _=>by simp[ZdI,h],λ_ _ _ _ _=>h⟩
theorem Znn{th:Bool}{E:Env}{S:St}{m:Mem}{o:Oper}(gS:th=true\/ZnS E o){K K':St->Mem->Prop}(h0:∀S' m',SameOut (dl o.dst) S S'->leT th m m'->K S' m'->K' S' m')(hx:opW E S m o K):opW E S m o K':=by
 have h:∀S' m',SameOut (dl o.dst) S S'->m.le m'->K S' m'->K' S' m':=λS' m' hs hm=>h0 S' m' hs (.of hm)
 have hp:∀x,K (S.put o.dst x) m->K' (S.put o.dst x) m:=λx=>h _ _ (Zce S _ x) (Mem.le_refl m)
 have gw:∀(S1:St) x m',S1.env=S.env->m.le m'->K (S1.put o.dst x) m'->K' (S1.put o.dst x) m':=λS1 x m' he hm=>h _ _ ((Zdi he).trans (Zce S1 _ x)) hm
 obtain⟨dst,op,type,pos,after,guard⟩:=o
 simp only at hp gw
 have fZ:∀(o:Oper),o.dst=dst->Zca E S o (λsv=>K (S.put dst (some sv)) m)->Zca E S o (λsv=>K' (S.put dst (some sv)) m):=λo ho y=>ZhS (λsv y=>hp _ y) y
 cases op with
 | move x=>exact hp _ hx
 | assign x=>exact hp _ hx
 | pick c x y=>exact Zas (λv y=>Zaj (λy=>ZgM (hp _) (hp _) y) y) hx
 | load T x=>
  simp only[opW]at hx ⊢
  cases nt:ZrO E dst with
  | none=>simp only[nt]at hx ⊢;exact Zdj (λv y=>hp _ y) hx
  | some y=>
   simp only[nt]at hx ⊢
   exact Zdj (λv y=>ZqL (λv y=>hp _ y) y) hx
 | store T x y=>
  refine Zas (λv y=>?_) hx
  cases lf:ZnI E x with
  | none=>
   simp only[lf]at y ⊢
   exact ZfJ (λS' he y=>gw S' _ _ he (Mem.le_refl m) y) y
  | some key=>
   simp only[lf]at y ⊢
   have gS:th=true:=by
    rcases gS with h|h
    ·exact h
    ·have:=h.1 T x _ rfl;rw[lf]at this;cases this
   cases cX:E.fix with
   | some f=>simp[cX]at y
   | none=>
    simp only[cX,Option.isSome_none,cond_false]at y ⊢
    unfold ZgH at *
    refine Zas (λp y=>?_) y
    split at y
    ·exact y.elim
    ·split at y
     ·split at y
      ·exact y.elim
      ·exact Zaj (λ⟨y1,y2,y3,y4⟩=>⟨y1,y2,y3,ZjE (h0 _ _ (Zce S _ _) (by rw[gS];trivial)) y4⟩) y
     ·exact Zaj (λ⟨y1,y2,y3⟩=>⟨y1,y2,h0 _ _ (Zce S _ _) (by rw[gS];trivial) y3⟩) y
 | alloc T=>
  simp only[opW,ZrR]at *
  split at hx
  ·exact hx.elim
  ·split at hx
   ·exact hx.elim
   ·split at hx
    ·exact hx.elim
    ·exact λb=>gw _ _ _ rfl (Mem.le_refl m) (hx b)
 | box T x=>
  refine Zas (λv y=>?_) hx
  simp only at y ⊢
  cases kO:ZfB E dst with
  | true=>
   simp only[kO,cond_true]at y ⊢
   cases cX:E.fix with
   | some f=>simp[cX]at y
   | none=>
    simp only[cX,Option.isSome_none,cond_false,Zxl]at y ⊢
    split at y
    ·exact y.elim
    ·split at y
     ·exact y.elim
     ·split at y
      ·exact y.elim
      ·exact Zaj (λy b m' hm hb=>ZpJ (gw _ _ _ rfl hm) (y b m' hm hb)) y
  | false=>
  simp only[kO,cond_false]at y ⊢
  simp only[ZyN]at *
  split at y
  ·exact y.elim
  ·split at y
   ·exact y.elim
   ·split at y
    ·exact y.elim
    ·exact Zaj (λy b=>gw _ _ _ rfl (Mem.le_refl m) (y b)) y
 | buildSlice T len parts=>
  cases iE:ZcL E dst with
  | some ke=>
   simp only[opW,iE]at hx ⊢
   cases cX:E.fix with
   | some f=>simp[cX]at hx
   | none=>
    simp only[cX,Option.isSome_none,cond_false]at hx ⊢
    split at hx
    ·simp only[Zmb]at hx ⊢
     split at hx
     ·exact hx.elim
     ·split at hx
      ·exact hx.elim
      ·exact Zas (λv y=>Zas (λv' y=>Zaj (λ⟨a,y⟩=>⟨a,λb=>ZqN (gw _ _ _ rfl (Mem.le_refl m)) (y b)⟩) y) y) hx
    ·exact hx.elim
  | none=>
  simp only[opW,iE,Zde]at hx ⊢
  split at hx
  ·exact hx.elim
  ·split at hx
   ·exact hx.elim
   ·split at hx
    ·split at hx
     ·exact hx.elim
     ·split at hx
      ·exact hx.elim
      ·exact Zaj (λy=>ZbU (λvs y=>Zaj (λy b hf=>gw _ _ _ rfl (Mem.le_add hf _) (y b hf)) y) y) hx
    ·exact hx.elim
 | lookup T x y ok=>
  simp only[opW,Zvs]at hx ⊢
  refine Zas (λv y=>Zas (λv' y=>?_) y) hx
  split at y
  ·exact y
  ·obtain⟨b,es,u,o,h1,h2,h3,h4,h5⟩:=y
   exact⟨b,es,u,o,h1,h2,h3,h4,gw _ _ _ rfl (Mem.le_refl m) h5⟩
 | mapUpdate T x y z=>
  simp only[opW]at hx ⊢
  cases cX:E.fix with
  | some f=>simp[cX]at hx
  | none=>
   simp only[cX,Option.isSome_none,Bool.false_or]at hx ⊢
   cases qa:E.thaw with
   | false=>simp[qa]at hx
   | true=>
    simp only[qa,Bool.not_true,cond_false,ZrV]at hx ⊢
    have rb:th=true:=by
     rcases gS with gS|gS
     ·exact gS
     ·rw[gS.2.2 T x y z rfl]at qa;cases qa
    refine Zas (λv y=>Zas (λv' y=>Zas (λv2 y=>?_) y) y) hx
    split at y
    ·exact y
    ·split at y
     ·exact y
     ·refine Zaj (λy=>?_) y
      obtain⟨b,es,es',h1,h2,h3,h4,h5,h6⟩:=y
      exact⟨b,es,es',h1,h2,h3,h4,h5,h0 _ _ (Zce S _ none) (by rw[rb];trivial) h6⟩
 | makeMap T r=>
  simp only[opW]at hx ⊢
  cases cX:E.fix with
  | some f=>simp[cX]at hx
  | none=>
   simp only[cX,Option.isSome_none,cond_false,Zum]at hx ⊢
   split at hx
   ·exact hx.elim
   ·exact λb h1 h2=>gw _ _ _ rfl (Mem.le_updK (Mem.le_refl m) h2 _) (hx b h1 h2)
 | makeSlice T l c=>
  simp only[opW]at hx ⊢
  cases iE:ZcL E dst with
  | none=>
   simp only[iE]at hx ⊢
   cases gE:ZtC E dst with
   | true=>
    simp only[gE,cond_true]at hx ⊢
    cases cX:E.fix with
    | some f=>simp[cX]at hx
    | none=>
     simp only[cX,Option.isSome_none,cond_false,ZrT]at hx ⊢
     split at hx
     ·exact hx.elim
     ·split at hx
      ·exact hx.elim
      ·exact Zas (λv y=>Zas (λv' y=>Zaj (λ⟨a,y⟩=>⟨a,λb hf=>gw _ _ _ rfl (Mem.le_add hf _) (y b hf)⟩) y) y) hx
   | false=>
   simp only[gE,cond_false,Zvr]at hx ⊢
   split at hx
   ·exact hx.elim
   ·split at hx
    ·exact hx.elim
    ·split at hx
     ·exact hx.elim
     ·exact Zas (λv y=>Zas (λv' y=>Zaj (λ⟨a,y⟩=>⟨a,λb=>gw _ _ _ rfl (Mem.le_refl m) (y b)⟩) y) y) hx
  | some ke=>
   simp only[iE]at hx ⊢
   cases cX:E.fix with
   | some f=>simp[cX]at hx
   | none=>
    simp only[cX,Option.isSome_none,cond_false,Zmb]at hx ⊢
    split at hx
    ·exact hx.elim
    ·split at hx
     ·exact hx.elim
     ·exact Zas (λv y=>Zas (λv' y=>Zaj (λ⟨a,y⟩=>⟨a,λb=>ZqN (gw _ _ _ rfl (Mem.le_refl m)) (y b)⟩) y) y) hx
 | convert s d x=>
  simp only[opW]at *
  cases hb:ZfH E s d <;> simp only[hb,cond_true,cond_false]at *
  ·cases gj:ZcM E s d <;> simp only[gj,cond_true,cond_false]at *
   ·cases oe:ZcN E s d <;> simp only[oe,cond_true,cond_false]at *
    ·exact fZ _ rfl hx
    ·unfold Zmc at *
     cases cX:E.fix.isSome with
     | true=>simp only[cX,cond_true]at hx ⊢;exact Zmd (λv y=>hp _ y) hx
     | false=>simp only[cX,cond_false]at hx ⊢;exact ZeX (λv y=>hp _ y) hx
   ·cases cX:E.fix with
    | some f=>simp[cX]at hx
    | none=>
     simp only[cX,Option.isSome_none,cond_false]at hx ⊢
     exact Zas (λv y=>Zaj (λy b c hf hc=>gw _ _ _ rfl (Mem.le_add hf _) (y b c hf hc)) y) hx
  ·split at hx
   ·exact hp _ hx
   ·exact hx.elim
 | call c=>
  obtain⟨callee,args,argTypes⟩:=c
  cases callee with
  | value f=>
   simp only[opW]at *
   refine ZjC (λS2 m2 dS bA hx=>?_) hx
   simp only[Zvq]at hx ⊢
   split at hx
   ·cases jx:ZqM E dst with
    | true=>
     simp only[jx,cond_true]at hx ⊢
     cases cX:E.fix with
     | some f=>simp[cX]at hx
     | none=>
      simp only[cX,Option.isSome_none,cond_false]at hx ⊢
      exact ZbU (λvs y=>ZrQ (λS' sv he y=>gw S' _ _ (he.trans dS) bA y) y) hx
    | false=>
    simp only[jx,cond_false]at hx ⊢
    cases iX:ZdI E dst with
    | some ks=>
     simp only[iX]at hx ⊢
     have gS:th=true:=by
      rcases gS with h|h
      ·exact h
      ·have:=h.2.1 _ _ _ rfl;simp only at this;rw[iX]at this;cases this
     cases cX:E.fix with
     | some f=>simp[cX]at hx
     | none=>
      simp only[cX,Option.isSome_none,cond_false]at hx ⊢
      exact ZbU (λvs y=>Zje (λv S' m' he y=>h0 _ _ ((Zdi (he.trans dS)).trans (Zce S' _ _)) (by rw[gS];trivial) y) y) hx
    | none=>
    simp only[iX]at hx ⊢
    cases nu:Ztz E dst with
    | true=>
     simp only[nu,cond_true]at hx ⊢
     cases cX:E.fix with
     | some f=>simp[cX]at hx
     | none=>
      simp only[cX,Option.isSome_none,cond_false]at hx ⊢
      exact ZbU (λvs y=>Zr4 (λv gh y=>gw _ _ _ dS bA y) y) hx
    | false=>
    simp only[nu,cond_false]at hx ⊢
    split at hx
    ·exact ZbU (λvs y=>Zlq (λv S' m' he hm y=>gw S' _ _ (he.trans dS) (mLt bA hm) y) y) hx
    ·split at hx
     ·exact ZbU (λvs y=>Zjd (λv S' m' he hm y=>gw S' _ _ (he.trans dS) (mLt bA hm) y) y) hx
     ·exact hx.elim
   ·cases cX:E.fix with
    | some f=>simp[cX]at hx
    | none=>
     simp only[cX,Option.isSome_none,cond_false]at hx ⊢
     split at hx
     ·exact ZbU (λvs ⟨y1,y2,y3⟩=>⟨y1,gw _ _ _ dS bA y2,gw _ _ _ dS bA y3⟩) hx
     ·split at hx
      ·exact hx.elim
      ·exact ZbU (λvs ⟨y1,y2⟩=>⟨y1,gw _ _ _ dS bA y2⟩) hx
     ·exact hx.elim
   ·exact hx.elim
  | invoke r mm=>
   simp only[opW]at *
   exact fZ _ rfl hx
  | builtin b=>
   cases b with
   | append=>
    simp only[opW]at *
    split at hx
    ·exact ZjC (λS2 m2 dS bA hx=>Zas (λv y=>Zas (λv' y=>ZeC (λv tk m' hm y=>gw _ _ _ dS (mLt bA hm) y) y) y) hx) hx
    ·exact hx.elim
   | copy=>
    simp only[opW]at *
    split at hx
    ·split at hx
     ·exact hx.elim
     ·exact Zas (λv y=>Zas (λv' y=>Zlp (λn S' he y=>gw S' _ _ he (Mem.le_refl m) y) y) y) hx
    ·exact hx.elim
   | _=>
    simp only[opW]at *
    exact fZ _ rfl hx
 | _=>
  simp only[opW]at *
  exact fZ _ rfl hx
theorem Zdo{th:Bool}{E:Env}{ops:Array Oper}{S:St}{m:Mem}{o:Oper}(gS:th=true\/ZnS E o){K K':St->Mem->Prop}(h:∀S' m',SameOut (dl o.dst) S S'->leT th m m'->K S' m'->K' S' m')(hx:opG E ops o S m K):opG E ops o S m K':=by
 unfold opG at *
 have hs:K (S.put o.dst (some (.v undef))) m->K' (S.put o.dst (some (.v undef))) m:=h _ _ (Zce S _ _) (leT.refl _ m)
 split at hx
 ·exact Znn gS h hx
 ·split at hx
  ·exact hx.elim
  ·split at hx
   ·exact hx.elim
   ·split at hx
    ·rename_i v _
     cases hu:ZdJ v <;> simp only[hu,cond_true,cond_false]at *
     ·refine Zaj (λy=>?_) hx
      split at y
      ·exact ZgM (Znn gS h) hs y
      ·exact ZgM hs (Znn gS h) y
     ·exact hs hx
    ·exact hx.elim
theorem ZaO:∀{l:List Oper} {i:Nat} {o:Oper} {t:Nat},l[i]?=some o->o.dst=some t->t∈ZaD l
 | [],i,o,t,h,_=>by simp at h
 | x::l,0,o,t,h,ht=>by simp at h;subst h;simp[ZaD,ht]
 | x::l,i+1,o,t,h,ht=>by
  have:=ZaO (l:=l) (by simpa using h) ht
  simp only[ZaD]
  cases x.dst with
  | none=>exact this
  | some d=>simp[this]
theorem ZjN{ops:Array Oper}{o:Oper}{t:Nat}(h:Zee ops o=some t):t∈ZaD ops.toList:=by
 unfold Zee at h
 split at h
 ·cases h
 ·split at h
  ·cases h
  ·rename_i hj;exact ZaO hj h
theorem ZgP{E:Env}{ops:Array Oper}{S:St}{m:Mem}{o:Oper}(ho:∀t,o.dst=some t->t∈ZaD ops.toList){K K':St->Mem->Prop}(h:∀S' m',SameOut (ZaD ops.toList) S S'->leT E.thaw m m'->K S' m'->K' S' m')(hx:ZvO E ops o S m K):ZvO E ops o S m K':=by
 have hm:∀{S':St},SameOut (dl o.dst) S S'->SameOut (ZaD ops.toList) S S':=λhs=>hs.mono λq hq=>by
  cases hd:o.dst with
  | none=>simp[hd,dl]at hq
  | some t=>simp[hd,dl]at hq;subst hq;exact ho _ hd
 unfold ZvO at *
 split at hx
 ·exact Zdo (Zun E o) (λS' m' hs hm' y=>h _ _ (hm hs) hm' y) hx
 ·rename_i t ht
  have qb:=ZjN ht
  have hb:∀b:Bool,opG E ops o (S.put (some t) (some (.v (.bool b)))) m K->opG E ops o (S.put (some t) (some (.v (.bool b)))) m K':=λb=>Zdo (Zun E o) (λS' m' hs hm' y=>h _ _ (by
   have h1:SameOut (ZaD ops.toList) S (S.put (some t) (some (.v (.bool b)))):=(SameOut.refl _ S).put (λt' e=>by cases e;exact qb) _
   refine h1.trans (hs.mono λq hq=>?_)
   cases hd:o.dst with
   | none=>simp[hd,dl]at hq
   | some t=>simp[hd,dl]at hq;subst hq;exact ho _ hd) hm' y)
  split at hx
  ·rename_i v _
   cases hu:ZdJ v with
   | true=>simp only[hu,cond_true]at hx ⊢;exact Zdo (Zun E o) (λS' m' hs hm' y=>h _ _ (hm hs) hm' y) hx
   | false=>simp only[hu,cond_false]at hx ⊢;exact Zaj (ZgM (hb true) (hb false)) hx
  ·exact hx.elim
theorem ZgQ{E:Env}{ops:Array Oper}:∀{l:List Nat} {S:St} {m:Mem} {K K':St->Mem->Prop},(∀S' m',SameOut (ZaD ops.toList) S S'->leT E.thaw m m'->K S' m'->K' S' m')->ZvF E ops l K S m->ZvF E ops l K' S m
 | [],S,m,K,K',h,hx=>h _ _ (SameOut.refl _ S) (leT.refl _ m) hx
 | i::l,S,m,K,K',h,hx=>by
  simp only[ZvF]at *
  cases ho:ops.toList[i]? with
  | none=>simp[ho]at hx
  | some o=>
   simp only[ho]at hx ⊢
   exact ZgP (λt ht=>ZaO ho ht) (λS' m' hs hm y=>ZgQ (λS'' m'' hs' hm' y=>h _ _ (SameOut.trans hs hs') (leT.trans hm hm') y) y) hx
theorem ZnT{S:St}:∀{l:List Nat} {k k':List (List Value)->Prop},(∀v,k v->k' v)->ZgL S l k->ZgL S l k'
 | [],k,k',h,hx=>h _ hx
 | id::l,k,k',h,hx=>by
  simp only[ZgL]at *
  split at hx
  ·exact hx.elim
  ·exact ZnT (λvs fu=>h _ fu) hx
theorem Zjf{S:St}:∀{l:List (Nat×Nat)} {k k':List Value->Prop},(∀v,k v->k' v)->ZdO S l k->ZdO S l k'
 | [],k,k',h,hx=>h _ hx
 | (q,e)::l,k,k',h,hx=>Zaj (λy=>Zjf (λvs fu=>h _ fu) y) hx
theorem Zdk:∀{l:List Nat} {k k':List (List Value)->Prop},(∀v,k v->k' v)->ZjH l k->ZjH l k'
 | [],k,k',h,hx=>h _ hx
 | _::l,k,k',h,hx=>λcs=>Zdk (λvs fu=>h _ fu) (hx cs)
theorem Zdl:∀{l:List (Nat×Nat)} {k k':List Value->Prop},(∀v,k v->k' v)->ZjI l k->ZjI l k'
 | [],k,k',h,hx=>h _ hx
 | _::l,k,k',h,hx=>λa n c=>Zdl (λvs fu=>h _ fu) (hx a n c)
theorem Zjg:∀{A:List (Nat×Shape)} {xs:List Value} {e:Nat->Option SV} {i:Nat},(∀q∈A,q.1≠i)->ZbD e A xs i=e i
 | [],xs,e,i,h=>by simp[ZbD]
 | (t,s)::A,[],e,i,h=>by simp[ZbD]
 | (t,s)::A,v::xs,e,i,h=>by
  have h1:i≠t:=λe=>h (t,s) (by simp) e.symm
  simp only[ZbD,Zar h1,cond_false]
  exact Zjg (λq hq=>h q (by simp[hq]))
theorem ZeY{ds:List Nat}{i:Nat}:ds.any (Nat.beq i ·)=true↔i∈ds:=by
 rw[List.any_eq_true]
 constructor
 ·rintro⟨x,hx,he⟩;rw[Nat.eq_of_beq_eq_true he];exact hx
 ·intro h;exact⟨i,h,Nat.beq_refl i⟩
theorem ZfK{ds:List Nat}{i:Nat}(h:i ∉ ds):ds.any (Nat.beq i ·)=false:=by
 cases hh:ds.any (Nat.beq i ·)with
 | false=>rfl
 | true=>exact absurd (ZeY.1 hh) h
def Zvt(ds:List Nat)(A:List (Nat×Shape)):Bool:=A.all λq=>ds.any (Nat.beq q.1 ·)
theorem Zdx{ds:List Nat}{A:List (Nat×Shape)}(hA:Zvt ds A=true){S S':St}{xs:List Value}(h:S'.env=ZbD (λi=>bif ds.any (Nat.beq i ·)then none else S.env i) A xs):SameOut ds S S':=by
 intro i hi
 rw[h,Zjg]
 ·simp[ZfK hi]
 ·intro q hq e
  simp only[Zvt,List.all_eq_true]at hA
  exact hi (e ▸ ZeY.1 (hA q hq))
def Zav(E:Env):Code->Bool
 | .region id ops draw=>(match E.joins id with
  | none=>true
  | some outs=>Zvt (ZaD ops.toList) outs)
 | .seq a b=>Zav E a&&Zav E b&&(match E.cuts (Zaz b)with
  | none=>true
  | some A=>Zvt (Zh7 a) A.slots)
 | .cond _ a b=>Zav E a&&Zav E b
 | .block _ a=>Zav E a
 | .loop a=>Zav E a&&Zvt (Zh7 a) (E.loops (Zaz a)).slots
 | .rangeFunc _ _ a b=>Zav E a&&Zav E b
 | .scope a=>Zav E a
 | _=>true
def leD(E:Env)(id:Nat)(m m':Mem):Prop:=match E.last id with
 | true=>leT E.thaw m m'
 | false=>m.le m'
theorem leD.leT{E:Env}{id:Nat}{m m':Mem}(h:leD E id m m'):leT E.thaw m m':=by
 unfold leD at h
 cases hl:E.last id with
 | true=>rw[hl]at h;exact h
 | false=>rw[hl]at h;exact .of h
theorem leD.le{E:Env}{id:Nat}{m m':Mem}(hl:E.last id=false)(h:leD E id m m'):m.le m':=by
 unfold leD at h;rw[hl]at h;exact h
def ZeD(E:Env)(Zba:Nat->Array Oper->(St->Mem->Prop)->St->Mem->Prop):Prop:=
 ∀(id:Nat)(ops:Array Oper)(K K':St->Mem->Prop)(S:St)(m:Mem),(∀S' m',SameOut (ZaD ops.toList) S S'->leD E id m m'->K S' m'->K' S' m')->Zba id ops K S m->Zba id ops K' S m
theorem Ze6{b:Bool}{g:Int}{k k':Int->Prop}(h:∀y,k y->k' y)(hx:ZvG b g k):ZvG b g k':=by
 cases b with
 | true=>exact λy=>h y (hx y)
 | false=>exact h g hx
theorem ZpO{b:Bool}{x y:Int}{f g:Bool}{p q:Prop}(h:p->q)(hx:Zja b x y f g p):Zja b x y f g q:=by
 unfold Zja at *
 cases hf:Bool.xor f g with
 | true=>simp[hf]at hx
 | false=>
 simp only[hf,cond_false]at *
 cases b with
 | true=>exact h hx
 | false=>
  simp only[cond_false]at *
  split at hx
  ·exact h hx
  ·exact⟨hx.1,h hx.2⟩
theorem ZpP{a b:List (Option Box)}{p q:Prop}(h:p->q)(hx:ZjJ a b p):ZjJ a b q:=Zcw.2 ⟨(Zcw.1 hx).1,h (Zcw.1 hx).2⟩
theorem ZpQ{a b:List (Option Tok)}{p q:Prop}(h:p->q)(hx:ZjK a b p):ZjK a b q:=Zcx.2 ⟨(Zcx.1 hx).1,h (Zcx.1 hx).2⟩
theorem Zmk{K K':KT}{e:Exit}{S:St}{m:Mem}(h:∀e,K e S m->K' e S m)(hx:ZnN K e S m):ZnN K' e S m:=by
 cases e with
 | ret=>exact h _ hx
 | exit id=>exact h _ hx
 | goto l=>exact h _ hx
 | _=>exact hx
theorem leT.up{th:Bool}{mi m m':Mem}(hc:th=false->mi=m)(h:mi.le m'):leT th m m':=by
 cases th with
 | true=>trivial
 | false=>rw[hc rfl]at h;exact h
theorem ZnU{th:Bool}{P:Program}{A:LoopAnn}{f:Operand}{ps:List Nat}{assign body:KT->St->Mem->Prop}{ds:List Nat}
  (ha:∀{S:St} {m:Mem} {K K':KT},(∀e S' m',leT th m m'->K e S' m'->K' e S' m')->assign K S m->assign K' S m)
  (hb:∀{S:St} {m:Mem} {K K':KT},(∀e S' m',leT th m m'->K e S' m'->K' e S' m')->body K S m->body K' S m)
  {S:St} {m:Mem} {K K':KT} (h:∀e S' m',SameOut ds S S'->leT th m m'->K e S' m'->K' e S' m') (hx:ZnO th P A f ps assign body K S m):ZnO th P A f ps assign body K' S m:=by
 unfold ZnO at *
 split at hx
 ·refine Zaj (Zr0 λmi j0 lG ⟨xs,h1,h2,I,h3,h4,h5⟩=>⟨xs,h1,h2,I,h3,?_,?_⟩) hx
  all_goals have up:∀{m':Mem},mi.le m'->leT th m m':=λhm=>leT.up lG hm
  ·refine Ze6 (λy z=>Shape.allL_mono _ (λx z=>Zdk (λcss z=>Zdl (λtvs z m' n hm hn hI=>?_) z) z) z) h4
   refine ha (λe S1 m1 aV k=>?_) (z m' n hm hn hI)
   cases e with
   | normal=>
    refine hb (λe S' m'' bA k=>Zr1 (ZpO (ZpP (ZpQ (ZnT λcss' k=>?_ )))) k) k
    refine Zjf (λtvs' k=>?_) k
    cases e with
    | normal=>exact k
    | _=>exact Zmk (λe=>h e _ _ (SameOut.refl _ _) (leT.trans (up hm) (leT.trans aV bA))) k
   | _=>exact k
  ·exact Ze6 (λy z=>Zdk (λcss z=>Zdl (λtvs z m' hm hI=>h _ _ _ (SameOut.refl _ _) (up hm) (z m' hm hI)) z) z) h5
 ·exact hx.elim
theorem Zml{E:Env}{A:LoopAnn}{f:Operand}{ps:List Nat}{assign body:KT->St->Mem->Prop}{ds:List Nat}
  {S:St} {m:Mem} {K K':KT} (h:∀e S' m',SameOut ds S S'->leT E.thaw m m'->K e S' m'->K' e S' m') (hx:Zjb E A f ps assign body K S m):Zjb E A f ps assign body K' S m:=by
 unfold Zjb at *
 split at hx
 ·obtain⟨c1,hx⟩:=Zah hx
  refine Zaa c1 ?_
  simp only[Bool.and_eq_true]at c1
  obtain⟨Y,n,V,R,h1,h2,h3,I,h4,h5,h6⟩:=hx
  refine⟨Y,n,V,R,h1,h2,h3,I,h4,h5,?_⟩
  exact Ze6 (λy z=>Zdk (λcss z=>Zdl (λtvs z m' me a b c hI hR=>h _ _ _ (SameOut.refl _ _) (by rw[c1.1.1];trivial) (z m' me a b c hI hR)) z) z) h6
 ·exact hx.elim
theorem Zr5{E:Env}{kz:Option (Nat×Nat)}{ops:Array Oper}{l:List Nat}{S:St}{m:Mem}{K K':St->Mem->Prop}(h:∀S' m',SameOut (ZaD ops.toList) S S'->leT E.thaw m m'->K S' m'->K' S' m')
  (y:ZvP E kz (ZvF E ops l) K S m):ZvP E kz (ZvF E ops l) K' S m:=by
 unfold ZvP at *
 split at y
 ·exact ZgQ h y
 ·obtain⟨y1,y2⟩:=Zah y
  refine Zaa y1 ?_
  simp only[Bool.and_eq_true]at y1
  split at y2
  ·exact y2
  ·obtain⟨z0,a,n,c,z1,z2,z3⟩:=y2
   refine⟨z0,a,n,c,z1,z2,ZgQ (λS' m' hs _ z=>?_) z3⟩
   split at z
   ·exact z
   ·exact Zaj (λz zs hz=>h _ _ (λt ht=>hs t ht) (by rw[y1.1];trivial) (z zs hz)) z
theorem ZdP{E:Env}{Zba:Nat->Array Oper->(St->Mem->Prop)->St->Mem->Prop}(hD:ZeD E Zba):∀(c:Code),Zav E c=true->∀{S:St} {m:Mem} {K K':KT},(∀e S' m',SameOut (Zh7 c) S S'->leT E.thaw m m'->K e S' m'->K' e S' m')->W E Zba c K S m->W E Zba c K' S m
 | .skip,_,S,m,K,K',h,hx=>h _ _ _ (SameOut.refl _ S) (leT.refl _ m) hx
 | .label _,_,S,m,K,K',h,hx=>h _ _ _ (SameOut.refl _ S) (leT.refl _ m) hx
 | .exit _,_,S,m,K,K',h,hx=>h _ _ _ (SameOut.refl _ S) (leT.refl _ m) hx
 | .ret,_,S,m,K,K',h,hx=>h _ _ _ (SameOut.refl _ S) (leT.refl _ m) hx
 | .region id ops draw,hc,S,m,K,K',h,hx=>by
  simp only[W]at *
  cases hj:E.joins id with
  | none=>
   simp only[hj]at hx ⊢
   cases draw with
   | true=>simp only[cond_true]at *;exact hD _ _ _ _ _ _ (λS' m' hs hm y=>h _ _ _ hs (leD.leT hm) y) hx
   | false=>
    simp only[cond_false]at *
    exact Zr5 (λS' m' hs hm y=>h _ _ _ hs hm y) hx
  | some outs=>
   simp only[hj]at hx ⊢
   refine Shape.exL_mono _ (λxs ⟨h1,h2⟩=>⟨h1,h _ _ _ ?_ (leT.refl _ m) h2⟩) hx
   simp only[Zav,hj]at hc
   exact Zdx hc rfl
 | .seq x y,hc,S,m,K,K',h,hx=>by
  simp only[Zav,Bool.and_eq_true]at hc
  simp only[W,Zh7]at *
  cases j1:E.cuts (Zaz y)with
  | none=>
   simp only[j1]at hx ⊢
   refine ZdP hD x hc.1.1 (λe S' m' hs hm hy=>?_) hx
   have hs':SameOut (Zh7 x++Zh7 y) S S':=hs.mono (λi hi=>by simp[hi])
   cases e with
   | normal=>exact ZdP hD y hc.1.2 (λe S'' m'' iY bA hy=>h _ _ _ (hs'.trans (iY.mono (λi hi=>by simp[hi]))) (leT.trans hm bA) hy) hy
   | _=>exact h _ _ _ hs' hm hy
  | some A=>
   simp only[j1]at hx ⊢ hc
   obtain⟨J,h1,h2⟩:=hx
   refine⟨J,ZdP hD x hc.1.1 (λe S' m' hs hm hy=>?_) h1,Ze6 (λg z=>Shape.allL_mono _ (λxs z=>Zdk (λcss z=>Zdl (λtvs z m' hm hJ=>?_) z) z) z) h2⟩
   ·cases e with
    | normal=>exact hy
    | _=>exact h _ _ _ (hs.mono (λi hi=>by simp[hi])) hm hy
   ·refine ZdP hD y hc.1.2 (λe S' m'' hs bA hy=>h _ _ _ ?_ (leT.trans hm bA) hy) (z m' hm hJ)
    have h3:SameOut (Zh7 x) S (Za1 S (Zh7 x) A g xs css tvs):=Zdx (S':=Za1 S (Zh7 x) A g xs css tvs) hc.2 rfl
    exact(h3.mono (λi hi=>by simp[hi])).trans (hs.mono (λi hi=>by simp[hi]))
 | .cond c x y,hc,S,m,K,K',h,hx=>by
  simp only[Zav,Bool.and_eq_true]at hc
  simp only[W,Zh7]at *
  exact Zas (λv hy=>Zaj (λhy=>ZgM (ZdP hD x hc.1 (λe S' m' hs hm hy=>h _ _ _ (hs.mono (λi hi=>by simp[hi])) hm hy)) (ZdP hD y hc.2 (λe S' m' hs hm hy=>h _ _ _ (hs.mono (λi hi=>by simp[hi])) hm hy)) hy) hy) hx
 | .block id x,hc,S,m,K,K',h,hx=>by
  simp only[Zav]at hc
  simp only[W,Zh7]at *
  refine ZdP hD x hc (λe S' m' hs hm hy=>?_) hx
  cases e with
  | exit id'=>
   simp only at *
   cases hb:Nat.beq id' id <;> simp only[hb,cond_true,cond_false]at *
   ·exact h _ _ _ hs hm hy
   ·exact h _ _ _ hs hm hy
  | _=>exact h _ _ _ hs hm hy
 | .loop x,hc,S,m,K,K',h,hx=>by
  simp only[Zav,Bool.and_eq_true]at hc
  simp only[W,Zh7]at *
  obtain⟨I,h1,h2⟩:=hx
  refine⟨I,h1,Ze6 (λg y=>Shape.allL_mono _ (λxs y=>Zdk (λcss y=>Zdl (λtvs y m' n hm hI=>?_) y) y) y) h2⟩
  refine ZdP hD x hc.1 (λe S' m'' hs bA hy=>?_) (y m' n hm hI)
  have hs':SameOut (Zh7 x) S S':=(Zdx (S':=Za1 S (Zh7 x) (E.loops (Zaz x)) g xs css tvs) hc.2 rfl).trans hs
  cases e with
  | normal=>exact hy
  | _=>exact h _ _ _ hs' (leT.trans hm bA) hy
 | .goto _,_,S,m,K,K',h,hx=>by simp[W]at hx
 | .scope x,hc,S,m,K,K',h,hx=>by
  simp only[Zav]at hc
  simp only[W,Zh7]at *
  refine ZdP hD x hc (λe S' m' hs hm hy=>?_) hx
  cases e with
  | goto l=>exact hy
  | _=>exact h _ _ _ hs hm hy
 | .rangeFunc f ps x y,hc,S,m,K,K',h,hx=>by
  simp only[Zav,Bool.and_eq_true]at hc
  simp only[W]at *
  cases oh:E.rgY (Zaz y)with
  | true=>
   simp only[oh,cond_true]at hx ⊢
   exact Zml (λe S' m' hs hm=>h e S' m' hs hm) hx
  | false=>
  simp only[oh,cond_false]at hx ⊢
  exact ZnU (assign:=W E Zba x) (body:=W E Zba y) (λh'=>ZdP hD x hc.1 λe S' m' _ hm hy=>h' e S' m' hm hy) (λh'=>ZdP hD y hc.2 λe S' m' _ hm hy=>h' e S' m' hm hy) (λe S' m' hs hm=>h e S' m' hs hm) hx
 | .refuse _,_,S,m,K,K',h,hx=>by simp[W]at hx
section
variable {C:Ctx} {m:Mem} {a:Act} {w:World}
theorem Rel.restrict{S S2:St}(h:Rel C S m a w)(hg:S2.gh=S.gh)(hf:S2.fo=S.fo)(hL:∀id x,S2.L id=some x->S.L id=some x)(hT:∀k t,S2.tok k=some t->S.tok k=some t\/t.v=.slice none 0 0)
  (dS:∀i sv,S2.env i=some sv->∃v,S2.den sv=some v/\a.tmps[i]?=some v) (eL:∀id x,S2.L id=some x->id∈S2.ids) (oi:∀k t,S2.tok k=some t->k∈S2.tkeys):Rel C S2 m a w:=by
 refine⟨h.defers,h.size,dS,λid x hx=>h.own id x (hL id x hx),λid id' x x' hx hx'=>h.apart id id' x x' (hL _ _ hx) (hL _ _ hx'),eL,?_,oi,?_,h.sub,h.le,h.dom.imp λM d=>d.cut hg (λid x hx=>⟨id,x,hL id x hx,rfl⟩) (λk t b ht hb=>?_) rfl (Mem.le_refl _),λh'=>h.fo (hf ▸ h')⟩
 ·intro k t ht
  rcases hT k t ht with h1|h1
  ·obtain⟨h2,h3⟩:=h.toks k t h1
   exact⟨h2,λb hb=>⟨λid x hx=>(h3 b hb).1 id x (hL _ _ hx),(h3 b hb).2⟩⟩
  ·exact⟨.inl h1,λb hb=>by simp[Tok.blk,h1]at hb⟩
 ·intro k k' t t' b ht ht' hb hb'
  rcases hT k t ht with h1|h1
  ·rcases hT k' t' ht' with h2|h2
   ·exact h.tapart k k' t t' b h1 h2 hb hb'
   ·simp[Tok.blk,h2]at hb'
  ·simp[Tok.blk,h1]at hb
 ·rcases hT k t ht with h1|h1
  ·exact⟨k,t,h1,hb⟩
  ·simp[Tok.blk,h1]at hb
theorem Rel.forget{S:St}{m':Mem}(h:Rel C S m' a w)(hm:m.le m')(h0:C.me.le m)(hz:∀id x,S.L id=some x->x.fz=true->m.reads x.b 0 x.cs):Rel C S m a w:=by
 have hn:∀b o,m' b o=none->m b o=none:=λb o ho=>by
  cases he:m b o with
  | none=>rfl
  | some v=>rw[hm _ _ _ he]at ho;cases ho
 refine⟨h.defers,h.size,h.env,λid x hx=>?_,h.apart,h.ids,λk t ht=>?_,h.tkeys,h.tapart,h.sub.less hm,h0,h.dom.imp λM d=>d.cut rfl (λid x hx=>⟨id,x,hx,rfl⟩) (λk t b ht hb=>⟨k,t,ht,hb⟩) rfl hm,h.fo⟩
 ·have h1:=h.own id x hx
  exact⟨h1.cells,λhf o=>hn _ _ (h1.free hf o),hz id x hx,h1.whole⟩
 ·obtain⟨h1,h2⟩:=h.toks k t ht
  exact⟨h1.same (λ_ _=>rfl) (λb o _ ho=>hn _ _ ho),h2⟩
theorem ZcO{S:St}(hr:Rel C S m a w):∀{l:List (Nat×Shape)} {k:List Value->Prop},Zga S l k->∃xs,Shape.fitsL (l.map (·.2)) xs=true/\(∀(i:Nat) t sh v,l[i]?=some (t,sh)->xs[i]?=some v->a.tmps[t]?=some v)/\xs.length=l.length/\k xs
 | [],k,h=>⟨[],rfl,by simp,rfl,h⟩
 | (t,sh)::l,k,h=>by
  obtain⟨v,hv,h⟩:=Zau h
  obtain⟨h1,h2⟩:=Zah h
  obtain⟨xs,g1,g2,g3,g4⟩:=ZcO hr h2
  refine⟨v::xs,by simp[Shape.fitsL,h1,g1],?_,by simp[g3],g4⟩
  intro i t' sh' v' hi hx
  cases i with
  | zero=>
   simp at hi hx
   obtain⟨rfl,rfl⟩:=hi
   subst hx
   simp only[St.val,St.ev]at hv
   cases he:S.env t with
   | none=>simp[he]at hv
   | some sv=>
    simp only[he]at hv
    obtain⟨u,h3,h4⟩:=hr.env t sv he
    rw[hv]at h3;cases h3;exact h4
  | succ i=>exact g2 i t' sh' v' (by simpa using hi) (by simpa using hx)
theorem Zcn{S:St}:∀{l:List Nat} {k:List (List Value)->Prop},ZgL S l k->∃css,css.length=l.length/\(∀(i:Nat) id cs,l[i]?=some id->css[i]?=some cs->∃x,S.L id=some x/\x.cs=cs)/\k css
 | [],k,h=>⟨[],rfl,by simp,h⟩
 | id::l,k,h=>by
  simp only[ZgL]at h
  cases hx:S.L id with
  | none=>simp[hx]at h
  | some x=>
   simp only[hx]at h
   obtain⟨css,g1,g2,g3⟩:=Zcn h
   refine⟨x.cs::css,by simp[g1],?_,g3⟩
   intro i id' cs hi hc
   cases i with
   | zero=>simp at hi hc;subst hi hc;exact⟨x,hx,rfl⟩
   | succ i=>exact g2 i id' cs (by simpa using hi) (by simpa using hc)
theorem Zbz{S:St}:∀{l:List (Nat×Nat)} {k:List Value->Prop},ZdO S l k->∃vs,vs.length=l.length/\(∀(i:Nat) q e v,l[i]?=some (q,e)->vs[i]?=some v->Zbi v=true/\(S.tok q=some ⟨v,e⟩\/v=.slice none 0 0))/\k vs
 | [],k,h=>⟨[],rfl,by simp,h⟩
 | (q,e)::l,k,h=>by
  obtain⟨h1,h2⟩:=Zah h
  simp only[Bool.and_eq_true]at h1
  obtain⟨vs,g1,g2,g3⟩:=Zbz h2
  refine⟨ZrX S q::vs,by simp[g1],?_,g3⟩
  intro i q' e' v hi hv
  cases i with
  | zero=>
   simp at hi hv
   obtain⟨rfl,rfl⟩:=hi
   subst hv
   refine⟨h1.1,?_⟩
   unfold ZrX
   cases ht:S.tok q with
   | none=>exact .inr rfl
   | some t=>
    left
    have:t.esz=e:=by have:=h1.2;simp only[ht]at this;exact Nat.eq_of_beq_eq_true this
    cases t;simp at this ⊢;exact this
  | succ i=>exact g2 i q' e' v (by simpa using hi) (by simpa using hv)
theorem ZcP:∀{l:List Nat} {k:List (List Value)->Prop},ZjH l k->∀css,css.length=l.length->k css
 | [],k,h,css,hl=>by cases css <;> simp_all [ZjH]
 | _::l,k,h,css,hl=>by
  cases css with
  | nil=>simp at hl
  | cons c css=>exact ZcP (h c) css (by simpa using hl)
theorem ZcQ:∀{l:List (Nat×Nat)} {k:List Value->Prop},ZjI l k->∀vs,vs.length=l.length->(∀v∈vs,Zbi v=true)->k vs
 | [],k,h,vs,hl,_=>by cases vs <;> simp_all [ZjI]
 | _::l,k,h,vs,hl,hs=>by
  cases vs with
  | nil=>simp at hl
  | cons v vs=>
   have:=ZbW (hs v (by simp))
   rw[this]
   exact ZcQ (h _ _ _) vs (by simpa using hl) (λu hu=>hs u (by simp[hu]))
theorem Zlr:∀{A:List (Nat×Shape)} {xs:List Value} {e:Nat->Option SV} {i:Nat} {sv:SV},ZbD e A xs i=some sv->e i=some sv\/∃(q:Nat)(sh:Shape)(v:Value),A[q]?=some (i,sh)/\xs[q]?=some v/\sv=.v v
 | [],xs,e,i,sv,h=>.inl (by simpa[ZbD]using h)
 | (t,s)::A,[],e,i,sv,h=>.inl (by simpa[ZbD]using h)
 | (t,s)::A,v::xs,e,i,sv,h=>by
  by_cases hi:i=t
  ·subst hi
   simp[ZbD]at h
   exact .inr ⟨0,s,v,by simp,by simp,h.symm⟩
  ·simp only[ZbD,Zar hi,cond_false]at h
   rcases Zlr h with h1|⟨q,sh,u,h1,h2,h3⟩
   ·exact .inl h1
   ·exact .inr ⟨q+1,sh,u,by simpa using h1,by simpa using h2,h3⟩
theorem ZdZ:∀{l:List Nat} {css:List (List Value)} {L:Nat->Option Box} {id:Nat} {y:Box},Zi9 L l css id=some y->(∃(i:Nat)(x:Box)(cs:List Value),l[i]?=some id/\css[i]?=some cs/\L id=some x/\y={ x with cs:=cs })\/((∀i,l[i]?=some id->css.length<=i)/\L id=some y)
 | [],css,L,id,y,h=>.inr ⟨by simp,by simpa[Zi9]using h⟩
 | d::l,[],L,id,y,h=>.inr ⟨λi _=>by simp,by simpa[Zi9]using h⟩
 | d::l,cs::css,L,id,y,h=>by
  by_cases dH:id=d
  ·subst dH
   simp only[Zi9,Zew,cond_true]at h
   cases hx:L id with
   | none=>simp[hx]at h
   | some x=>simp[hx]at h;exact .inl ⟨0,x,cs,by simp,by simp,rfl,h.symm⟩
  ·simp only[Zi9,Zar dH,cond_false]at h
   rcases ZdZ h with⟨i,x,c,h1,h2,h3,h4⟩|⟨h1,h2⟩
   ·exact .inl ⟨i+1,x,c,by simpa using h1,by simpa using h2,h3,h4⟩
   ·refine .inr ⟨λi hi=>?_,h2⟩
    cases i with
    | zero=>simp at hi;exact absurd hi.symm dH
    | succ i=>have:=h1 i (by simpa using hi);simp;omega
theorem Zd0:∀{l:List Nat} {css:List (List Value)} {L:Nat->Option Box} {id:Nat} {x:Box},L id=some x->∃y,Zi9 L l css id=some y/\y.b=x.b
 | [],css,L,id,x,h=>⟨x,by simpa[Zi9]using h,rfl⟩
 | d::l,[],L,id,x,h=>⟨x,by simpa[Zi9]using h,rfl⟩
 | d::l,cs::css,L,id,x,h=>by
  by_cases dH:id=d
  ·subst dH
   exact⟨{ x with cs:=cs },by simp[Zi9,h],rfl⟩
  ·simp only[Zi9,Zar dH,cond_false]
   exact Zd0 h
theorem ZcR:∀{l:List (Nat×Nat)} {vs:List Value} {tk:Nat->Option Tok} {k:Nat} {t:Tok},ZeW tk l vs k=some t->(∃(i:Nat)(e:Nat)(v:Value),l[i]?=some (k,e)/\vs[i]?=some v/\t=⟨v,e⟩)\/((∀i q,l[i]?=some q->q.1=k->vs.length<=i)/\tk k=some t)
 | [],vs,tk,k,t,h=>.inr ⟨by simp,by simpa[ZeW]using h⟩
 | (q,e)::l,[],tk,k,t,h=>.inr ⟨λi _ _ _=>by simp,by simpa[ZeW]using h⟩
 | (q,e)::l,v::vs,tk,k,t,h=>by
  by_cases hk:k=q
  ·subst hk
   simp[ZeW]at h
   exact .inl ⟨0,e,v,by simp,by simp,h.symm⟩
  ·simp only[ZeW,Zar hk,cond_false]at h
   rcases ZcR h with⟨i,e',u,h1,h2,h3⟩|⟨h1,h2⟩
   ·exact .inl ⟨i+1,e',u,by simpa using h1,by simpa using h2,h3⟩
   ·refine .inr ⟨λi p hi hp=>?_,h2⟩
    cases i with
    | zero=>simp at hi;subst hi;exact absurd hp.symm hk
    | succ i=>have:=h1 i p (by simpa using hi) hp;simp;omega
structure StOk (S:St):Prop where
 env:∀i sv,S.env i=some sv->∃v,S.den sv=some v
 ids:∀id x,S.L id=some x->id∈S.ids
 tkeys:∀k t,S.tok k=some t->k∈S.tkeys
theorem Rel.ok{S:St}(h:Rel C S m a w):StOk S:=⟨λi sv he=>(h.env i sv he).imp λv hv=>hv.1,h.ids,h.tkeys⟩
theorem Zc1{S S':St}(hS:StOk S){ds:List Nat}{A:LoopAnn}(hr:Rel C S' m a w)(i6:S'.fo=S.fo)(fX:SameOut ds S S')(lH:Zby S' A S.ids=Zby S A S.ids)(bX:ZaX S' A S.tkeys=ZaX S A S.tkeys)
  {xs:List Value} {css:List (List Value)} {tvs:List Value} (hx:∀(i:Nat) t sh v,A.slots[i]?=some (t,sh)->xs[i]?=some v->a.tmps[t]?=some v)
  (fO:css.length=A.boxes.length) (hc:∀(i:Nat) id cs,A.boxes[i]?=some id->css[i]?=some cs->∃x,S'.L id=some x/\x.cs=cs)
  (gT:tvs.length=A.toks.length) (ht:∀(i:Nat) q e v,A.toks[i]?=some (q,e)->tvs[i]?=some v->Zbi v=true/\(S'.tok q=some ⟨v,e⟩\/v=.slice none 0 0)):Rel C (Za1 S ds A S'.gh xs css tvs) m a w:=by
 have hL:∀id y,Zi9 S.L A.boxes css id=some y->S'.L id=some y:=by
  intro id y hy
  have ge:∀id,id∈S.ids->(bif A.boxes.any (Nat.beq id ·)then(match S'.L id with
    | some x=>some { x with cs:=[] }
    | none=>none)else S'.L id)=(bif A.boxes.any (Nat.beq id ·)then(match S.L id with
    | some x=>some { x with cs:=[] }
    | none=>none)else S.L id):=λid dH=>by
   simp only[Zby]at lH
   exact(List.map_inj_left.1 lH) id dH
  rcases ZdZ hy with⟨i,x,cs,h1,h2,h3,h4⟩|⟨h1,h2⟩
  ·obtain⟨x',g1,g2⟩:=hc i id cs h1 h2
   have:=ge id (hS.ids id x h3)
   have hm:A.boxes.any (Nat.beq id ·)=true:=ZeY.2 (List.mem_of_getElem? h1)
   simp only[hm,cond_true,g1,h3,Option.some.injEq,Box.mk.injEq,true_and]at this
   rw[g1,h4]
   obtain⟨e1,e2,e3,e4,e5⟩:=this
   cases x;cases x'
   simp_all
  ·have hm:A.boxes.any (Nat.beq id ·)=false:=ZfK (λcP=>by
    obtain⟨i,hi⟩:=List.getElem?_of_mem cP
    have h3:=h1 i hi
    have h4:=(List.getElem?_eq_some_iff.1 hi).1
    omega)
   have:=ge id (hS.ids id y h2)
   simp only[hm,cond_false]at this
   rw[this,h2]
 have mo:∀k t,ZeW S.tok A.toks tvs k=some t->S'.tok k=some t\/t.v=.slice none 0 0:=by
  intro k t hk
  have ge:∀k,k∈S.tkeys->(bif A.toks.any (λq=>Nat.beq k q.1)then none else S'.tok k)=(bif A.toks.any (λq=>Nat.beq k q.1)then none else S.tok k):=λk hk=>by
   simp only[ZaX]at bX
   exact(List.map_inj_left.1 bX) k hk
  rcases ZcR hk with⟨i,e,v,h1,h2,h3⟩|⟨h1,h2⟩
  ·obtain⟨g1,g2⟩:=ht i k e v h1 h2
   subst h3
   exact g2.imp id id
  ·left
   have hm:A.toks.any (λq=>Nat.beq k q.1)=false:=by
    cases hh:A.toks.any (λq=>Nat.beq k q.1)with
    | false=>rfl
    | true=>
     obtain⟨q,hq,he⟩:=List.any_eq_true.1 hh
     obtain⟨i,hi⟩:=List.getElem?_of_mem hq
     have h3:=h1 i q hi (Nat.eq_of_beq_eq_true he).symm
     have h4:=(List.getElem?_eq_some_iff.1 hi).1
     omega
   have:=ge k (hS.tkeys k t h2)
   simp only[hm,cond_false]at this
   rw[this,h2]
 refine hr.restrict rfl i6.symm hL mo ?_ ?_ ?_
 ·intro i sv he
  simp only[Za1]at he
  rcases Zlr he with h1|⟨q,sh,v,h1,h2,h3⟩
  ·cases hi:ds.any (Nat.beq i ·)with
   | true=>simp[hi]at h1
   | false=>
    simp only[hi,cond_false]at h1
    have um:i ∉ ds:=λhm=>by rw[ZeY.2 hm]at hi;cases hi
    have h2:S'.env i=some sv:=by rw[fX i um,h1]
    obtain⟨v,h3,h4⟩:=hr.env i sv h2
    refine⟨v,?_,h4⟩
    cases sv with
    | v u=>exact h3
    | loc id off=>
     obtain⟨v0,h5⟩:=hS.env i _ h1
     simp only[St.den]at h5
     cases hx:S.L id with
     | none=>simp[hx]at h5
     | some x=>
      obtain⟨y,hy,_⟩:=Zd0 (l:=A.boxes) (css:=css) hx
      have:=hL id y hy
      simp only[St.den,this]at h3
      simp only[St.den,Za1,hy];exact h3
    | sl id n c=>
     obtain⟨v0,h5⟩:=hS.env i _ h1
     simp only[St.den]at h5
     cases hx:S.L id with
     | none=>simp[hx]at h5
     | some x=>
      obtain⟨y,hy,_⟩:=Zd0 (l:=A.boxes) (css:=css) hx
      have:=hL id y hy
      simp only[St.den,this]at h3
      simp only[St.den,Za1,hy];exact h3
  ·subst h3
   exact⟨v,rfl,hx q i sh v h1 h2⟩
 ·intro id y hy
  simp only[Za1]at hy ⊢
  rcases ZdZ hy with⟨i,x,cs,h1,h2,h3,h4⟩|⟨h1,h2⟩
  ·exact hS.ids id x h3
  ·exact hS.ids id y h2
 ·intro k t hk
  simp only[Za1]at hk ⊢
  rcases ZcR hk with⟨i,e,v,h1,h2,h3⟩|⟨h1,h2⟩
  ·exact List.mem_append_left _ (List.mem_map.2 ⟨(k,e),List.mem_of_getElem? h1,rfl⟩)
  ·exact List.mem_append_right _ (hS.tkeys k t h2)
end
theorem Rel.lessMem{C:Ctx}{S:St}{m m1:Mem}{a:Act}{w:World}(h:Rel C S m a w)(hm:m1.le m)(h0:C.me.le m1)(hk:∀id x,S.L id=some x->x.fz=true->∀o,m1 x.b o=m x.b o):Rel C S m1 a w:=by
 have fC:∀b o,m b o=none->m1 b o=none:=λb o hn=>by
  cases he:m1 b o with
  | none=>rfl
  | some v=>have:=hm _ _ _ he;rw[hn]at this;cases this
 refine⟨h.defers,h.size,h.env,λid x hx=>?_,h.apart,h.ids,λk t ht=>?_,h.tkeys,h.tapart,h.sub.less hm,h0,?_,h.fo⟩
 ·obtain⟨g1,g2,g3,g4⟩:=h.own id x hx
  exact⟨g1,λhz o=>fC _ _ (g2 hz o),λhz j u hu=>by rw[hk id x hx hz];exact g3 hz j u hu,g4⟩
 ·obtain⟨g1,g2⟩:=h.toks k t ht
  exact⟨g1.same (λb _=>rfl) (λb o _=>fC b o),g2⟩
 ·obtain⟨M,hd⟩:=h.dom
  exact⟨M,hd.p,hd.lt,hd.own,hd.tok,hd.mks,hd.new.less hm⟩
theorem Rel.acq{E:Env}{C:Ctx}(hY:YOk E C){mm:Mem}(fy:E.m0=some mm){S:St}{m:Mem}{a:Act}{w:World}(hr:Rel C S m a w)(i6:S.fo=false){key esz:Nat}{p:Option Addr}{n c:Nat}(h1:Zzn m mm esz p n c)
  (h2:∀b,(Tok.mk (.slice p n c) esz).blk=some b->nfz S b S.ids (ntk S b [key] S.tkeys)):
  Rel C { S with tok:=λk=>bif Nat.beq k key then some ⟨.slice p n c,esz⟩ else S.tok k,tkeys:=key::S.tkeys } (m.cutA p (n*esz)) a w:=by
 obtain⟨jl,hW⟩:=hY.m0 mm fy
 have jl:C.me=mm:=(hr.fo i6).trans jl
 rcases h1 with⟨rfl,rfl,rfl⟩|⟨b,rfl,iA,gq,lz,ga⟩
 ·exact hr.tokNil key _ rfl
 ·obtain⟨q1,q2⟩:=ZfE (h2 b rfl)
  have cJ:(m.cutA (some ⟨b,0,none⟩) (n*esz)).le m:=⟨λb' o v hv=>by
   simp only[Mem.cutA]at hv
   split at hv
   ·cases hv
   ·exact hv,λ_ _ h=>h⟩
  have jy:∀b',b'≠b->∀o,m.cutA (some ⟨b,0,none⟩) (n*esz) b' o=m b' o:=λb' hb o=>by simp[Mem.cutA,hb]
  have jt:∀id x,S.L id=some x->x.b≠b:=λid x hx e=>by
   have ho:=hr.own id x hx
   cases hz:x.fz with
   | true=>exact q2 id x (hr.ids id x hx) hx hz e
   | false=>
    obtain⟨v,hv⟩:=lz 0 gq
    have:=ho.free hz 0
    rw[e,hv]at this;cases this
  have dR:Rel C S (m.cutA (some ⟨b,0,none⟩) (n*esz)) a w:=hr.lessMem cJ ⟨λb' o v hv=>by
   by_cases hb:b'=b
   ·subst hb;rw[jl]at hv;rw[ga o]at hv;cases hv
   ·rw[jy b' hb];exact hr.le _ _ _ hv,λb e he=>hr.le.k b e he⟩ (λid x hx _ o=>jy _ (jt id x hx) o)
  obtain⟨v0,nv⟩:=lz 0 gq
  have hM:∀M,Dom C S m a w M->M b:=λM hd=>(hd.new b 0 v0 nv).resolve_left λh=>by rw[jl,ga 0]at h;cases h
  have dP:∀o,o < c*esz->∃v,w.cell? ⟨b,o,none⟩=some v:=λo ho=>by
   obtain⟨v,hv⟩:=lz o ho
   exact⟨v,hr.sub _ _ _ hv⟩
  obtain⟨cur,T,fr,hh⟩:∃cur T fr,w.heap[b]?=some (.cells cur T fr):=by
   obtain⟨v,hv⟩:=dP 0 gq
   unfold World.cell? at hv
   cases hh:w.heap[b]? with
   | none=>simp[hh]at hv
   | some ob=>
    cases ob <;> simp[hh]at hv
    exact⟨_,_,_,rfl⟩
  have cE:c*esz<=cur.size:=by
   obtain⟨v,hv⟩:=dP (c*esz - 1) (by omega)
   simp only[World.cell?,hh]at hv
   simp at hv
   have:=(Array.getElem?_eq_some_iff.1 hv).1
   omega
  obtain⟨M,hd⟩:=hr.dom
  have iL:Wr w b:=hW _ _ _ hd.p b (hM M hd)
  refine dR.tokUpd key _ (.inr ⟨b,0,n,c,cur,T,fr,rfl,iA,hh,by rw[Nat.zero_add];exact cE,iL cur T fr hh,λo ho _=>by rw[Nat.zero_add]at ho;simp[Mem.cutA,ho]⟩) (λb' hb'=>?_) ?_
  ·have:b'=b:=by simp[Tok.blk]at hb';exact hb'.symm
   subst this
   exact⟨⟨jt,by rw[jl];exact ga⟩,λk' t' dU ht'=>ZhP q1 k' t' (hr.tkeys k' t' ht') ht' (by simpa using dU)⟩
  ·obtain⟨M1,ip⟩:=dR.dom
   refine⟨M,⟨hd.p,hd.lt,hd.own,hd.tok,hd.mks,hd.new.less cJ⟩,λb' hb'=>?_⟩
   have:b'=b:=by simp[Tok.blk]at hb';exact hb'.symm
   subst this
   exact hM M hd
theorem Rel.unacq{C:Ctx}{S:St}{m:Mem}{a:Act}{w:World}(hr:Rel C S m a w){key:Nat}{t:Tok}(ht:S.tok key=some t):
  ∃zs:List Value,zs.length=(slC t.v - slN t.v)*t.esz/\Rel C { S with tok:=λk=>bif Nat.beq k key then none else S.tok k } (m.addA (slA t.v) (slN t.v*t.esz) zs) a w:=by
 have dR:Rel C { S with tok:=λk=>bif Nat.beq k key then none else S.tok k } m a w:=by
  refine hr.restrict rfl rfl (λ_ _ hx=>hx) (λk t' hk=>?_) (λi sv he=>?_) hr.ids (λk t' hk=>?_)
  ·by_cases e:k=key
   ·subst e;simp at hk
   ·simp[Zar e]at hk;exact .inl hk
  ·obtain⟨v,h1,h2⟩:=hr.env i sv he
   exact⟨v,by cases sv <;> exact h1,h2⟩
  ·by_cases e:k=key
   ·subst e;simp at hk
   ·simp[Zar e]at hk;exact hr.tkeys k t' hk
 obtain⟨g1,g2⟩:=hr.toks key t ht
 rcases g1 with g1|⟨b,o0,n,c,cur,T,fr,hv,iA,hh,cE,fV,dI⟩
 ·rw[g1]
  exact⟨[],by simp[slC,slN],dR⟩
 ·have eV:t.blk=some b:=by simp[Tok.blk,hv]
  rw[hv]
  simp only[slC,slN,slA]
  have un:c*t.esz=n*t.esz+(c - n)*t.esz:=by rw[<-Nat.add_mul];congr 1;omega
  obtain⟨P0,nk⟩:∃P0,P0=o0+n*t.esz:=⟨_,rfl⟩
  refine⟨(cur.toList.drop P0).take ((c - n)*t.esz),by simp;omega,?_⟩
  simp only[Mem.addA]
  rw[<-nk]at dI ⊢
  obtain⟨zs,nw⟩:∃zs,zs=(cur.toList.drop (P0)).take ((c - n)*t.esz):=⟨_,rfl⟩
  rw[<-nw]
  have re:∀q v,zs[q]?=some v->cur[P0+q]?=some v:=λq v hq=>by
   rw[nw,List.getElem?_take]at hq
   split at hq
   ·rw[List.getElem?_drop]at hq;simpa using hq
   ·cases hq
  have cJ:m.le (m.addAt b (P0) zs):=⟨λb' o v hv'=>by
   simp only[Mem.addAt]
   split
   ·rename_i hc
    obtain⟨rfl,ho⟩:=hc
    cases hz:zs[o - P0]? with
    | none=>simp only[hz];exact hv'
    | some u=>
     have hq:=(List.getElem?_eq_some_iff.1 hz).1
     rw[nw,List.length_take]at hq
     rw[dI o ho (by omega)]at hv';cases hv'
   ·exact hv',λ_ _ h=>h⟩
  have jy:∀b',b'≠b->∀o,m.addAt b (P0) zs b' o=m b' o:=λb' hb o=>by simp[Mem.addAt,hb]
  have qG:∀id x,S.L id=some x->x.b≠b:=(g2 b eV).1
  refine⟨dR.defers,dR.size,dR.env,λid x hx=>?_,dR.apart,dR.ids,λk t' hk=>?_,dR.tkeys,dR.tapart,⟨λb' o v hv'=>?_,hr.sub.k⟩,mLt dR.le cJ,?_,dR.fo⟩
  ·obtain⟨q1,q2,q3,q4⟩:=hr.own id x hx
   exact⟨q1,λhz o=>by rw[jy _ (qG id x hx)];exact q2 hz o,λhz j u hu=>cJ _ _ _ (q3 hz j u hu),q4⟩
  ·obtain⟨q1,q2⟩:=dR.toks k t' hk
   refine⟨q1.same (λb' _=>rfl) (λb' o hb' hn=>?_),q2⟩
   have dU:b'≠b:=λe=>by
    subst e
    by_cases e:k=key
    ·subst e;simp at hk
    ·simp[Zar e]at hk
     exact e (hr.tapart k key t' t _ hk ht hb' eV)
   rw[jy b' dU];exact hn
  ·by_cases hb:b'=b
   ·subst hb
    simp only[Mem.addAt]at hv'
    by_cases ho:P0<=o
    ·simp only[ho,and_self,if_true]at hv'
     cases hz:zs[o - P0]? with
     | none=>simp only[hz]at hv';exact hr.sub _ _ _ hv'
     | some u=>
      simp only[hz]at hv';cases hv'
      have:=re _ _ hz
      rw[show P0+(o - P0)=o by omega]at this
      simp only[World.cell?,hh]
      simpa using this
    ·simp only[ho,and_false,if_false]at hv';exact hr.sub _ _ _ hv'
   ·rw[jy b' hb]at hv';exact hr.sub _ _ _ hv'
  ·obtain⟨M,hd⟩:=hr.dom
   refine⟨M,hd.p,hd.lt,hd.own,λk t' b' hk hb'=>?_,hd.mks,hd.new.addAt _ (hd.tok key t _ ht eV)⟩
   ·by_cases e:k=key
    ·subst e;simp at hk
    ·simp[Zar e]at hk;exact hd.tok k t' b' hk hb'
theorem ZvQ{E:Env}{C:Ctx}(hY:YOk E C){kz:Option (Nat×Nat)}{f:(St->Mem->Prop)->St->Mem->Prop}{K:St->Mem->Prop}{S:St}{m:Mem}{a:Act}{w:World}{p:Prop}(hr:Rel C S m a w)(h:ZvP E kz f K S m)
  (hf:∀(K':St->Mem->Prop) S' m',Rel C S' m' a w->f K' S' m'->(∀S2 m2 a2 w2,K' S2 m2->Rel C S2 m2 a2 w2->∃S3 m3,K S3 m3/\Rel C S3 m3 a2 w2)->p):p:=by
 unfold ZvP at h
 split at h
 ·exact hf _ _ _ hr h λS2 m2 a2 w2 hk bP=>⟨S2,m2,hk,bP⟩
 ·rename_i key esz
  obtain⟨h3,h4⟩:=Zah h
  cases fy:E.m0 with
  | none=>simp[fy]at h4
  | some mm=>
   simp only[fy]at h4
   obtain⟨z0,q,n',c,z1,z2,z3⟩:=h4
   refine hf _ _ _ (hr.acq hY fy z0 z1 z2) z3 λS2 m2 a2 w2 hk bP=>?_
   split at hk
   ·exact hk.elim
   ·rename_i t ht
    obtain⟨gk,ia⟩:=Zah hk
    obtain⟨zs,qd,j2⟩:=bP.unacq ht
    exact⟨_,_,ia zs qd,j2⟩
theorem ZfL:∀{A:List (Nat×Shape)} {xs:List Value} {e:Nat->Option SV} {i:Nat} {sv:SV},xs.length=A.length->ZbD e A xs i=some sv->(e i=some sv/\i ∉ A.map (·.1))\/∃(q:Nat)(sh:Shape)(v:Value),A[q]?=some (i,sh)/\xs[q]?=some v/\sv=.v v
 | [],xs,e,i,sv,_,h=>.inl ⟨by simpa[ZbD]using h,by simp⟩
 | (t,s)::A,[],e,i,sv,hl,h=>by simp at hl
 | (t,s)::A,v::xs,e,i,sv,hl,h=>by
  by_cases hi:i=t
  ·subst hi
   simp[ZbD]at h
   exact .inr ⟨0,s,v,by simp,by simp,h.symm⟩
  ·simp only[ZbD,Zar hi,cond_false]at h
   rcases ZfL (by simpa using hl) h with⟨h1,h2⟩|⟨q,sh,u,h1,h2,h3⟩
   ·exact .inl ⟨h1,by simp only[List.map_cons,List.mem_cons,not_or];exact⟨hi,h2⟩⟩
   ·exact .inr ⟨q+1,sh,u,by simpa using h1,by simpa using h2,h3⟩
theorem ZfM:∀(ps:List Nat)(vs:List Value)(t:Array Value),vs.length=ps.length->ps.Nodup->
  ((ps.zip vs).foldl (λ(t:Array Value)(x:Nat×Value)=>t.setIfInBounds x.1 x.2) t).size=t.size/\
  (∀i,i ∉ ps->((ps.zip vs).foldl (λ(t:Array Value)(x:Nat×Value)=>t.setIfInBounds x.1 x.2) t)[i]?=t[i]?)/\
  (∀(q i:Nat)(v:Value),ps[q]?=some i->vs[q]?=some v->i < t.size->((ps.zip vs).foldl (λ(t:Array Value)(x:Nat×Value)=>t.setIfInBounds x.1 x.2) t)[i]?=some v)
 | [],vs,t,_,_=>⟨rfl,λ_ _=>rfl,λq i v h=>by simp at h⟩
 | p::ps,[],t,h,_=>by simp at h
 | p::ps,v::vs,t,h,hn=>by
  obtain⟨hp,hn⟩:=List.nodup_cons.1 hn
  obtain⟨h1,h2,h3⟩:=ZfM ps vs (t.setIfInBounds p v) (by simpa using h) hn
  simp only[List.zip_cons_cons,List.foldl_cons]
  refine⟨by simpa using h1,λi hi=>?_,λq i u hq hu bB=>?_⟩
  ·simp only[List.mem_cons,not_or]at hi
   rw[h2 i hi.2,Array.getElem?_setIfInBounds_ne (Ne.symm hi.1)]
  ·cases q with
   | zero=>
    simp at hq hu
    subst hq hu
    rw[h2 p hp]
    simp[bB]
   | succ q=>exact h3 q i u (by simpa using hq) (by simpa using hu) (by simpa using bB)
theorem ZfN:∀{a b:List Nat},Zif a b=true->a=b
 | [],[],_=>rfl
 | [],_::_,h=>by simp[Zif]at h
 | _::_,[],h=>by simp[Zif]at h
 | x::a,y::b,h=>by
  simp only[Zif,Bool.and_eq_true]at h
  rw[Nat.eq_of_beq_eq_true h.1,ZfN h.2]
theorem ZcS:∀{l:List Shape} {x:List Value},Shape.fitsL l x=true->x.length=l.length
 | [],[],_=>rfl
 | [],_::_,h=>by simp[Shape.fitsL]at h
 | _::_,[],h=>by simp[Shape.fitsL]at h
 | _::l,_::x,h=>by
  simp only[Shape.fitsL,Bool.and_eq_true]at h
  simp[ZcS h.2]
section
variable {C:Ctx} {S:St} {m:Mem} {a:Act} {w w':World} {M M':Nat->Prop}
structure Apart (M':Nat->Prop)(S:St)(m:Mem)(a:Act):Prop where
 box:∀id x,S.L id=some x->¬M' x.b
 tok:∀k t b,S.tok k=some t->t.blk=some b->¬M' b
 mks:∀D,Zeu D∈a.defers->¬M' D
 mem:∀b o v,m b o=some v->¬M' b
 kn:∀b e,m.k b=some e->¬M' b
theorem Rel.markAt(h:Rel C S m a w){D:Nat}(hD:Zeu D∈a.defers):w.heap[D]?=some (.deferred (some [])):=by
 obtain⟨ms,h1,h2,h3⟩:=h.defers
 rw[h1]at hD
 obtain⟨D',h4,h5⟩:=List.mem_map.1 hD
 have:D'=D:=by simpa[Zeu]using h5
 exact this ▸ h3 D' h4
theorem Rel.foreign(h:Rel C S m a w)(hd:Dom C S m a w M)(hM:∀k,M' k->M k)(dE:Apart M' S m a)(hu:Upd M' w w'):Rel C S m a w'/\Dom C S m a w' (ZvJ M w w'):=by
 have hd':Dom C S m a w' (ZvJ M w w'):=hd.step ⟨hu.os,hu.tape,hu.output,hu.size,λk hk hn=>hu.block k hk (λhm=>hn (hM k hm)),hu.wr⟩ (NewM.refl _ _)
 refine⟨⟨?_,h.size,h.env,λid x hx=>?_,h.apart,h.ids,λk t ht=>?_,h.tkeys,h.tapart,⟨λb o v hv=>?_,λb e he=>(h.sub.k b e he).same (hu.block b (h.sub.k b e he).lt (dE.kn b e he))⟩,h.le,⟨_,hd'⟩,h.fo⟩,hd'⟩
 ·obtain⟨ms,h1,h2,h3⟩:=h.defers
  refine⟨ms,h1,h2,λD hD=>?_⟩
  rw[hu.block D (Array.getElem?_eq_some_iff.1 (h3 D hD)).1 (dE.mks D (by rw[h1];exact List.mem_map.2 ⟨D,hD,rfl⟩))];exact h3 D hD
 ·exact(h.own id x hx).same (hu.block _ (h.own id x hx).lt (dE.box id x hx)) (Mem.le_refl m) (h.own id x hx).free
 ·obtain⟨h1,h2⟩:=h.toks k t ht
  exact⟨h1.same (λb hb=>hu.block b (h1.lt hb) (dE.tok k t b ht hb)) (λ_ _ _ hn=>hn),h2⟩
 ·rw[Zb4 (hu.block b (h.sub.lt hv) (dE.mem b o v hv))];exact h.sub b o v hv
def ZqQ:Obj->Bool
 | .cells _ _ _=>true
 | .map _ _=>true
 | _=>false
theorem ZbV{w:World}{k l:Nat}{o:Obj}{r:Loop}(h:w.heap[k]?=some o)(hm:ZqQ o=true)(hl:w.heap[l]?=some (.loop r)):k≠l:=λe=>by subst e;rw[h]at hl;cases hl;cases hm
theorem Rel.swap{C2:Ctx}{S2:St}{a2:Act}(h:Rel C S m a w)(hn:C2.n=C.n)(hm:C2.me.le m)(hL:S2.L=S.L)(eL:S2.ids=S.ids)(bX:S2.tok=S.tok)(fA:S2.tkeys=S.tkeys)
  (dS:∀i sv,S2.env i=some sv->∃v,S2.den sv=some v/\a2.tmps[i]?=some v) (cE:a2.tmps.size=C2.n)
  (gF:∃ms:List Nat,a2.defers=ms.map Zeu/\ms.Nodup/\∀D∈ms,w'.heap[D]?=some (.deferred (some [])))
  (fw:∀(k:Nat)(o:Obj),w.heap[k]?=some o->ZqQ o=true->w'.heap[k]?=w.heap[k]?) (cF:∀k t b,S.tok k=some t->t.blk=some b->C2.me.free b) (i6:S2.fo=false->C2.me=C2.m0) (hd:∃M,Dom C2 S2 m a2 w' M):Rel C2 S2 m a2 w':=by
 refine⟨gF,cE,dS,λid x hx=>?_,λid id' x x' hx hx'=>?_,λid x hx=>?_,λk t ht=>?_,λk t ht=>?_,λk k' t t' b ht ht'=>?_,⟨λb o v hv=>?_,λb e he=>?_⟩,hm,hd,i6⟩
 ·rw[hL]at hx
  have ho:=h.own id x hx
  obtain⟨sp,fr,hc,_⟩:=ho.cells
  exact ho.same (fw _ _ hc rfl) (Mem.le_refl m) ho.free
 ·rw[hL]at hx hx';exact h.apart id id' x x' hx hx'
 ·rw[hL]at hx;rw[eL];exact h.ids id x hx
 ·rw[bX]at ht
  obtain⟨h1,h2⟩:=h.toks k t ht
  refine⟨h1.same (λb hb=>?_) (λ_ _ _ hn=>hn),λb hb=>⟨λid x hx=>?_,?_⟩⟩
  ·rcases h1 with h1|⟨b',o0,n,c,cur,T,fr,hv,_,hh,_⟩
   ·simp[Tok.blk,h1]at hb
   ·simp[Tok.blk,hv]at hb;subst hb;exact fw _ _ hh rfl
  ·rw[hL]at hx;exact(h2 b hb).1 id x hx
  ·exact cF k t b ht hb
 ·rw[bX]at ht;rw[fA];exact h.tkeys k t ht
 ·rw[bX]at ht ht';exact h.tapart k k' t t' b ht ht'
 ·have h1:=h.sub b o v hv
  have:∃c T fr,w.heap[b]?=some (Obj.cells c T fr):=by
   unfold World.cell? at h1
   split at h1
   ·rename_i c T fr hc;exact⟨c,T,fr,hc⟩
   ·cases h1
  obtain⟨c,T,fr,hc⟩:=this
  rw[Zb4 (fw _ _ hc rfl)];exact h1
 ·obtain⟨es,cl,h1,h2⟩:=h.sub.k b e he
  exact⟨es,cl,(fw _ _ h1 rfl).trans h1,h2⟩
end
def ZnV(C:Ctx)(X:Nat->Prop)(h:Nat->Option Obj)(B:Nat)(me:Mem)(gc:C.m0.le me):Ctx where
 n:=C.n
 m0:=C.m0
 me:=me
 mle:=gc
 p:=λg Mr w=>∃M,C.p g M w/\(∀k,M k->k < w.heap.size)/\(∀k,Mr k->M k)/\(∀k,X k->M k/\¬Mr k/\w.heap[k]?=h k)/\B<=w.heap.size
 st:=by
  rintro g Mr M2 w w' ⟨M,h1,h2,h3,h4,h5⟩ hu hg
  refine⟨ZvJ M w w',C.st g M _ w w' h1 ⟨hu.os,hu.tape,hu.output,hu.size,λk hk hn=>hu.block k hk (λhm=>hn (h3 k hm)),hu.wr⟩ (λ_ hk=>hk),?_,?_,?_,Nat.le_trans h5 hu.size⟩
  ·rintro k (hk|hk)
   ·exact Nat.lt_of_lt_of_le (h2 k hk) hu.size
   ·exact hk.2.1
  ·intro k hk
   exact(hg k hk).imp_left (h3 k)
  ·intro k hk
   obtain⟨g1,g2,g3⟩:=h4 k hk
   have bB:=h2 k g1
   refine⟨.inl g1,λhm=>?_,?_⟩
   ·rcases hg k hm with h|h
    ·exact g2 h
    ·omega
   ·rw[hu.block k bB g2];exact g3
abbrev ZyR(C:Ctx)(X:Nat->Prop)(h:Nat->Option Obj)(B:Nat):Ctx:=ZnV C X h B C.me C.mle
theorem ZjO{E:Env}{C:Ctx}{X:Nat->Prop}{h:Nat->Option Obj}{B:Nat}(hY:YOk E C){me:Mem}{gc:C.m0.le me}(cJ:C.me.le me)(kP:NewM C.me me X):YOk E (ZnV C X h B me gc):=by
 have key:∀{M:Nat->Prop} {w w':World},(∀k,M k->k < w.heap.size)->(∀k,X k->M k/\True)->Sub me w->Frn C.me M w w'->Sub me w':=λ{M w w'} h2 h4 hs hf=>⟨λb o v hv=>by
  rcases kP.c b o v hv with h|h
  ·exact hf.sub.c b o v h
  ·rw[Zb4 (hf.block b (h2 b (h4 b h).1) (h4 b h).1)];exact hs.c b o v hv,λb e he=>by
  rcases kP.k b e he with h|h
  ·exact hf.sub.k b e h
  ·exact(hs.k b e he).same (hf.block b (h2 b (h4 b h).1) (h4 b h).1)⟩
 refine⟨?_,?_,λmm ic=>⟨(hY.m0 mm ic).1,λg Mr w ⟨M,h1,h2,h3,h4,h5⟩ k hk=>(hY.m0 mm ic).2 g M w h1 k (h3 k hk)⟩⟩
 rotate_left
 ·rintro Y rh F n l g v Mr w mi hF bB hy j0 dA ⟨M,h1,h2,h3,h4,h5⟩ hs
  obtain⟨fn,tmps,asg,bdy,jY,fm⟩:=hY.yY Y rh F n l g v M w mi hF h2 hy (mLt cJ j0) ⟨λb o u hu=>by
   rcases dA.c b o u hu with h|h
   ·exact(kP.c b o u h).imp_right λh=>(h4 b h).1
   ·exact .inr (h3 b h),λb e he=>by
   rcases dA.k b e he with h|h
   ·exact(kP.k b e h).imp_right λh=>(h4 b h).1
   ·exact .inr (h3 b h)⟩ h1 hs
  refine⟨fn,tmps,asg,bdy,jY,fm.mono ?_⟩
  rintro e w' ⟨rfl,hp,hf⟩
  refine⟨rfl,⟨M,hp,λk hk=>Nat.lt_of_lt_of_le (h2 k hk) hf.size,h3,λk hk=>?_,Nat.le_trans h5 hf.size⟩,hf.size,λk hk hm=>hf.block k hk (h3 k hm),key h2 (λk hk=>⟨(h4 k hk).1,trivial⟩) (hs.less j0) hf⟩
  obtain⟨g1,g2,g3⟩:=h4 k hk
  exact⟨g1,g2,by rw[hf.block k (h2 k g1) g1];exact g3⟩
 rintro Y rh F n l g v Mr w hF bB hy ⟨M,h1,h2,h3,h4,h5⟩ hs
 obtain⟨fn,tmps,asg,bdy,jY,fm⟩:=hY.y Y rh F n l g v M w hF h2 hy h1 (hs.less cJ)
 refine⟨fn,tmps,asg,bdy,jY,fm.mono ?_⟩
 rintro e w' ⟨b,rfl,hp,hf⟩
 refine⟨b,rfl,⟨M,hp,λk hk=>Nat.lt_of_lt_of_le (h2 k hk) hf.size,h3,λk hk=>?_,Nat.le_trans h5 hf.size⟩,hf.size,λk hk hm=>hf.block k hk (h3 k hm),key h2 (λk hk=>⟨(h4 k hk).1,trivial⟩) hs hf⟩
 obtain⟨g1,g2,g3⟩:=h4 k hk
 exact⟨g1,g2,by rw[hf.block k (h2 k g1) g1];exact g3⟩
def ROk(F:Fence)(C:Ctx):Prop:=∀l,F.round=some l->∀g M w,C.p g M w->∃r,w.heap[l]?=some (.loop r)
def ZjP:Obj->Bool
 | .cells _ _ _=>false
 | _=>true
theorem ZnW{o:Obj}(h:ZjP o=true):Ztx o:=λc T fr e=>by subst e;simp[ZjP]at h
theorem Zd1{M:Nat->Prop}{w:World}{l:Nat}{o:Obj}(ho:ZjP o=true)(hl:M l):Upd M w (w.putObj l o):=
 ⟨rfl,rfl,rfl,by simp[World.putObj],λk hk hn=>World.putObj_heap_other (λe=>hn (e ▸ hl)),λk _ hk c T fr hh i hi=>by
  by_cases e:k=l
  ·subst e
   by_cases bB:k < w.heap.size
   ·rw[World.putObj_heap_same bB]at hh
    exact ZnW ho c T fr (Option.some.inj hh) i hi
   ·have h1:=(Array.getElem?_eq_some_iff.1 hh).1
    have h2:(w.putObj k o).heap.size=w.heap.size:=by simp[World.putObj]
    omega
  ·rw[World.putObj_heap_other e]at hh;exact hk c T fr hh i hi⟩
theorem Zcf(w:World)(l:Nat)(o:Obj):(w.putObj l o).heap.size=w.heap.size:=by simp[World.putObj]
theorem FOk.inRound{F:Fence}(h:FOk F)(l:Nat):FOk (F.inRound l):=by
 rcases h with rfl|⟨l',rfl⟩
 ·exact .inr ⟨l,rfl⟩
 ·exact .inr ⟨l,rfl⟩
section
variable {C:Ctx} {S:St} {m:Mem} {a:Act} {w w':World} {M M':Nat->Prop}
theorem Rel.alloc(h:Rel C S m a w)(hd:Dom C S m a w M){o:Obj}(ho:ZjP o=true):Rel C S m a (w.alloc o)/\Dom C S m a (w.alloc o) (ZvJ M w (w.alloc o)):=by
 have hk:Keep w.heap.size [] w (w.alloc o):=Keep.alloc (Nat.le_refl _) (ZnW ho)
 refine⟨h.world hk (h.sub.alloc _) (Mem.le_refl m) (NewM.refl _ _),hd.step (hk.upd (by simp)) (NewM.refl _ _)⟩
theorem Ze7(M:Nat->Prop)(w:World)(o:Obj)(ho:Ztx o):ZvJ M w (w.alloc o) w.heap.size:=.inr ⟨Nat.le_refl _,by simp,Wr.new ho⟩
theorem Rel.enter{P:Program}(hr:Rel C S m a w){F:Fence}(hR:ROk F C)(fn:FuncId)(ps:Array Tmp)(asg bdy:Code):
  ∃l mk w1 D,(Instr.enterLoop fn a.tmps ps asg bdy F.round).run P w=.ok (l,mk) w1/\Rel C S m { a with defers:=mk++a.defers } w1/\(∃M,Dom C S m { a with defers:=mk++a.defers } w1 M/\M l)/\
   w1.heap[l]?=some (.loop { state:=.ready,pending:=none,fn,tmps:=a.tmps,params:=ps,assign:=asg,body:=bdy,defers:=D }):=by
 obtain⟨M,hd⟩:=hr.dom
 cases ri:F.round with
 | none=>
  obtain⟨h1,d1⟩:=hr.alloc hd (o:=.deferred (some [])) rfl
  obtain⟨h2,d2⟩:=h1.alloc d1 (o:=.loop { state:=.ready,pending:=none,fn,tmps:=a.tmps,params:=ps,assign:=asg,body:=bdy,defers:=w.heap.size }) rfl
  have e1:(w.alloc (.deferred (some []))).heap.size=w.heap.size+1:=by simp
  have g1:((w.alloc (.deferred (some []))).alloc (.loop { state:=.ready,pending:=none,fn,tmps:=a.tmps,params:=ps,assign:=asg,body:=bdy,defers:=w.heap.size })).heap[w.heap.size]?=some (.deferred (some [])):=by
   rw[Below.heap_alloc _ _ _ (by simp)];exact heap_alloc_new w _
  refine⟨_,_,_,w.heap.size,run_enterLoop_outer _ _ _ _ _,?_,?_,?_⟩
  ·obtain⟨ms,k1,k2,k3⟩:=h2.defers
   have hD:∃M,Dom C S m { a with defers:=[Zeu w.heap.size]++a.defers } ((w.alloc (.deferred (some []))).alloc (.loop { state:=.ready,pending:=none,fn,tmps:=a.tmps,params:=ps,assign:=asg,body:=bdy,defers:=w.heap.size })) M:=
    ⟨_,d2.p,d2.lt,d2.own,d2.tok,λD hD=>by
     simp only[List.singleton_append,List.mem_cons]at hD
     rcases hD with hD|hD
     ·have:D=w.heap.size:=by simpa[Zeu]using hD
      subst this
      exact .inl (Ze7 _ _ _ (λc T fr e=>by cases e))
     ·exact d2.mks D hD,d2.new⟩
   refine⟨⟨w.heap.size::ms,by simp[k1,Zeu],?_,?_⟩,h2.size,h2.env,h2.own,h2.apart,h2.ids,h2.toks,h2.tkeys,h2.tapart,h2.sub,h2.le,hD,h2.fo⟩
   ·refine List.nodup_cons.2 ⟨λhm=>?_,k2⟩
    obtain⟨ms',q1,q2,q3⟩:=hr.defers
    have:w.heap.size∈ms':=by
     have e:Zeu w.heap.size∈a.defers:=by
      have:a.defers=ms.map Zeu:=k1
      rw[this];exact List.mem_map.2 ⟨_,hm,rfl⟩
     rw[q1]at e
     obtain⟨D',r1,r2⟩:=List.mem_map.1 e
     have:D'=w.heap.size:=by simpa[Zeu]using r2
     exact this ▸ r1
    have:=(Array.getElem?_eq_some_iff.1 (q3 _ this)).1
    omega
   ·intro D hD
    rcases List.mem_cons.1 hD with rfl|hD
    ·exact g1
    ·exact k3 D hD
  ·refine⟨_,⟨d2.p,d2.lt,d2.own,d2.tok,λD hD=>?_,d2.new⟩,by rw[<-e1];exact Ze7 _ _ _ (λc T fr e=>by cases e)⟩
   simp only[List.singleton_append,List.mem_cons]at hD
   rcases hD with hD|hD
   ·have:D=w.heap.size:=by simpa[Zeu]using hD
    subst this
    exact .inl (Ze7 _ _ _ (λc T fr e=>by cases e))
   ·exact d2.mks D hD
  ·rw[<-e1];exact heap_alloc_new _ _
 | some l0=>
  obtain⟨r0,h0⟩:=hR l0 ri _ _ _ hd.p
  obtain⟨h1,d1⟩:=hr.alloc hd (o:=.loop { state:=.ready,pending:=none,fn,tmps:=a.tmps,params:=ps,assign:=asg,body:=bdy,defers:=r0.defers }) rfl
  exact⟨_,_,_,r0.defers,run_enterLoop_inner h0 _ _ _ _ _,h1,⟨_,d1,Ze7 _ _ _ (λc T fr e=>by cases e)⟩,heap_alloc_new _ _⟩
theorem ZgR{S:St}{ds:List Nat}{A:LoopAnn}{g:Int}{xs:List Value}{css:List (List Value)}{tvs:List Value}{sv:SV}{v:Value}(h:S.den sv=some v):(Za1 S ds A g xs css tvs).den sv=some v:=by
 cases sv with
 | v u=>exact h
 | loc id off=>
  simp only[St.den]at h ⊢
  cases hx:S.L id with
  | none=>simp[hx]at h
  | some x=>
   obtain⟨y,hy,hb⟩:=Zd0 (l:=A.boxes) (css:=css) hx
   simp only[hx]at h
   simp only[Za1,hy,hb];exact h
 | sl id n c=>
  simp only[St.den]at h ⊢
  cases hx:S.L id with
  | none=>simp[hx]at h
  | some x=>
   obtain⟨y,hy,hb⟩:=Zd0 (l:=A.boxes) (css:=css) hx
   simp only[hx]at h
   simp only[Za1,hy,hb];exact h
end
def ZjQ(E:Env)(T:KT->St->Mem->Prop)(c:Code):Prop:=
 ∀{F:Fence} (_:FOk F) {C:Ctx} (_:YOk E C) (_:ROk F C) (n:Nat),Zbk C.n c=true->∀{S:St} {m:Mem} {a:Act} {w:World} {K:KT} {Q:Exit->Act->World->Prop},Rel C S m a w->T K S m->
  (∀e S' m' a' w',K e S' m'->Rel C S' m' a' w'->Q e a' w')->c.wpIn F n E.P Q a w
def Zjh(tvs:List Value):Prop:=∀v∈tvs,Zbi v=true
def ZvR(K:KT)(c:Code)(S:St)(m:Mem):Prop:=match c with
 | .ret=>K .ret S m
 | .exit id=>K (.exit id) S m
 | .goto l=>K (.goto l) S m
 | _=>False
section
variable {C:Ctx} {S:St} {m:Mem} {a:Act} {w w':World} {M M':Nat->Prop}
def ZcG(fn:FuncId)(tmps:Array Value)(ps:Array Tmp)(x y:Code)(D:Nat)(st:LoopState)(pe:Option Code):Loop:=
 {state:=st,pending:=pe,fn,tmps,params:=ps,assign:=x,body:=y,defers:=D }
def Zr6(C:Ctx)(S:St)(m:Mem)(A:LoopAnn)(I:List Value->List (List Value)->List Value->Mem->Nat->Prop)(K:KT)(a1:Act)(l:Nat)(rec:LoopState->Option Code->Loop)(k:Int)(M':Nat->Prop)(W:World):Prop:=
 ∃(g:Int) (css:List (List Value)) (tvs:List Value) (m':Mem),css.length=A.boxes.length/\tvs.length=A.toks.length/\Zjh tvs/\(A.gh=false->g=S.gh)/\m.le m'/\
  Rel C (Za1 S [] { A with slots:=[] } g [] css tvs) m' a1 W/\
  (∃M,Dom C (Za1 S [] { A with slots:=[] } g [] css tvs) m' a1 W M/\M l/\¬M' l/\(∀k,M' k->M k)/\Apart M' (Za1 S [] { A with slots:=[] } g [] css tvs) m' a1)/\
  ((0<=k/\I (ghs A.gh g []) css tvs m' k.toNat/\W.heap[l]?=some (.loop (rec .ready none)))\/
   (k=-1/\∃c,W.heap[l]?=some (.loop (rec .done (some c)))/\ZvR K c (Za1 S [] { A with slots:=[] } g [] css tvs) m'))
theorem Zmm{A:LoopAnn}{I:List Value->List (List Value)->List Value->Mem->Nat->Prop}{K:KT}{a1:Act}{l:Nat}{rec:LoopState->Option Code->Loop}:Zty (Zr6 C S m A I K a1 l rec):=by
 rintro k M' M2 W W' ⟨g,css,tvs,m',h1,h2,h3,h4,h5,hr,⟨M,hd,hl,hl',hM,dE⟩,hc⟩ hu hg
 obtain⟨gt,j3⟩:=hr.foreign hd hM dE hu
 have gx:=hd.lt l hl
 have rj:W'.heap[l]?=W.heap[l]?:=hu.block l gx hl'
 have key:∀k,k < W.heap.size->¬M' k->¬M2 k:=λk hk hn h=>by
  rcases hg k h with h|h
  ·exact hn h
  ·omega
 refine⟨g,css,tvs,m',h1,h2,h3,h4,h5,gt,⟨_,j3,.inl hl,key l gx hl',λk hk=>?_,?_⟩,?_⟩
 ·rcases hg k hk with h|h
  ·exact .inl (hM k h)
  ·exact .inr h
 ·refine⟨λid x hx=>key _ (hr.own id x hx).lt (dE.box id x hx),λk t b ht hb=>key _ ((hr.toks k t ht).1.lt hb) (dE.tok k t b ht hb),λD hD=>key _ (hd.lt D (hd.mks D hD)) (dE.mks D hD),λb o v hv=>key _ (hr.sub.lt hv) (dE.mem b o v hv),λb e he=>key _ (hr.sub.k b e he).lt (dE.kn b e he)⟩
 ·rw[rj];exact hc
end
section
variable {C:Ctx} {S:St} {m:Mem} {a:Act} {w w':World} {M M':Nat->Prop}
theorem Zls{a b:Nat}(h:Nat.blt a b=true):a < b:=by simpa[Nat.blt_eq]using h
theorem ZdS{w:World}{k l:Nat}{c T fr}{r:Loop}(h:w.heap[k]?=some (.cells c T fr))(hl:w.heap[l]?=some (.loop r)):k≠l:=λe=>by subst e;rw[h]at hl;cases hl
theorem ZeE{w:World}{k l:Nat}{c T fr d}(h:w.heap[k]?=some (.cells c T fr))(hl:w.heap[l]?=some (.deferred d)):k≠l:=λe=>by subst e;rw[h]at hl;cases hl
theorem Own.isCells{m:Mem}{w:World}{x:Box}(h:Own m w x):∃c T fr,w.heap[x.b]?=some (.cells c T fr):=by
 obtain⟨sp,fr,hh,_⟩:=h.cells
 exact⟨_,_,_,hh⟩
theorem TokOk.isCells{m:Mem}{w:World}{t:Tok}(h:TokOk m w t){b:Nat}(hb:t.blk=some b):∃c T fr,w.heap[b]?=some (.cells c T fr):=by
 rcases h with h|⟨b',o0,n,c,cur,T,fr,hv,_,hh,_⟩
 ·simp[Tok.blk,h]at hb
 ·simp[Tok.blk,hv]at hb;subst hb;exact⟨_,_,_,hh⟩
theorem Sub.isCells{m:Mem}{w:World}(h:Sub m w){b o:Nat}{v:Value}(hv:m b o=some v):∃c T fr,w.heap[b]?=some (.cells c T fr):=by
 have h1:=h b o v hv
 unfold World.cell? at h1
 split at h1
 ·rename_i c T fr hc;exact⟨c,T,fr,hc⟩
 ·cases h1
theorem Rel.intoRound{S0 S1:St}{a1:Act}{l:Nat}{r:Loop}{tm:Array Value}(hr:Rel C S0 m a1 w)(hd:Dom C S0 m a1 w M)(hl:M l)(hl':¬M' l)(hM:∀k,M' k->M k)(dE:Apart M' S0 m a1)(dG:w.heap[l]?=some (.loop r))
  (hL:S1.L=S0.L) (eL:S1.ids=S0.ids) (bX:S1.tok=S0.tok) (fA:S1.tkeys=S0.tkeys) (hg:S1.gh=S0.gh) (hf:S1.fo=S0.fo) (cE:tm.size=C.n) (dS:∀i sv,S1.env i=some sv->∃v,S1.den sv=some v/\tm[i]?=some v):
  Rel (ZyR C (λk=>M' k\/k=l\/Zeu k∈a1.defers) (λk=>w.heap[k]?) w.heap.size) S1 m { tmps:=tm,defers:=[] } w:=by
 have hX:∀k,(∃c T fr,w.heap[k]?=some (.cells c T fr))->¬M' k->¬(M' k\/k=l\/Zeu k∈a1.defers):=by
  rintro k ⟨c,T,fr,hk⟩ hn (h|h|h)
  ·exact hn h
  ·exact ZdS hk dG h
  ·exact ZeE hk (hr.markAt h) rfl
 refine hr.swap rfl hr.le hL eL bX fA dS cE ⟨[],rfl,List.nodup_nil,by simp⟩ (λ_ _ _ _=>rfl) (λk t b ht hb=>((hr.toks k t ht).2 b hb).2) (λh=>hr.fo (hf ▸ h)) ⟨λk=>M k/\¬(M' k\/k=l\/Zeu k∈a1.defers),?_,λk hk=>hd.lt k hk.1,λid x hx=>?_,λk t b ht hb=>?_,by simp,⟨λb o v hv=>?_,λb e he=>?_⟩⟩
 ·rw[hg]
  refine⟨M,hd.p,hd.lt,λk hk=>hk.1,λk hk=>⟨?_,λh=>h.2 hk,rfl⟩,Nat.le_refl _⟩
  rcases hk with h|h|h
  ·exact hM k h
  ·exact h ▸ hl
  ·exact hd.mks k h
 ·rw[hL]at hx
  exact⟨hd.own id x hx,hX _ (hr.own id x hx).isCells (dE.box id x hx)⟩
 ·rw[bX]at ht
  exact⟨hd.tok k t b ht hb,hX _ ((hr.toks k t ht).1.isCells hb) (dE.tok k t b ht hb)⟩
 ·exact(hd.new b o v hv).imp_right λh=>⟨h,hX _ (hr.sub.isCells hv) (dE.mem b o v hv)⟩
 ·refine(hd.new.k b e he).imp_right λh=>⟨h,?_⟩
  obtain⟨es,cl,h1,_⟩:=hr.sub.k b e he
  rintro(h|h|h)
  ·exact dE.kn b e he h
  ·exact ZbV h1 rfl dG h
  ·have:=hr.markAt h
   rw[h1]at this;cases this
theorem Rel.beginRound{X:Nat->Prop}{h1:Nat->Option Obj}{B:Nat}{me:Mem}{gc:C.m0.le me}{S1:St}{ar:Act}{l:Nat}{r r':Loop}(hr:Rel (ZnV C X h1 B me gc) S1 m ar w)(hl:X l)(dG:w.heap[l]?=some (.loop r)):
  Rel (ZnV C X (λk=>(w.putObj l (.loop r')).heap[k]?) B me gc) S1 m ar (w.putObj l (.loop r')):=by
 have dU:∀(k:Nat)(o:Obj),w.heap[k]?=some o->ZqQ o=true->(w.putObj l (.loop r')).heap[k]?=w.heap[k]?:=λk o hk hm=>World.putObj_heap_other (ZbV hk hm dG)
 obtain⟨ms,q1,q2,q3⟩:=hr.defers
 refine hr.swap rfl hr.le rfl rfl rfl rfl hr.env hr.size ⟨ms,q1,q2,λD hD=>?_⟩ dU (λk t b ht hb=>((hr.toks k t ht).2 b hb).2) hr.fo ?_
 ·rw[World.putObj_heap_other (λe=>by have:=q3 D hD;rw[e,dG]at this;cases this)];exact q3 D hD
 ·obtain⟨Mr,hd⟩:=hr.dom
  obtain⟨M,p1,p2,p3,p4,p5⟩:=hd.p
  refine⟨Mr,⟨M,C.st _ M M _ _ p1 (Zd1 rfl (p4 l hl).1) (λk hk=>.inl hk),λk hk=>by rw[Zcf];exact p2 k hk,p3,λk hk=>⟨(p4 k hk).1,(p4 k hk).2.1,rfl⟩,by rw[Zcf];exact p5⟩,λk hk=>by rw[Zcf];exact hd.lt k hk,hd.own,hd.tok,hd.mks,hd.new⟩
theorem Rel.outOfRound{X:Nat->Prop}{h1:Nat->Option Obj}{B:Nat}{S' S2:St}{a3 a1:Act}{l:Nat}{r r':Loop}(hr:Rel (ZyR C X h1 B) S' m a3 w)(hl:X l)(dG:w.heap[l]?=some (.loop r))
  (fy:∀b o v,C.me b o=some v->¬X b) (j4:∀b e,C.me.k b=some e->¬X b) (rk:∀D,Zeu D∈a1.defers->X D) (hX':∀k,M' k->X k) (rm:∀D,Zeu D∈a1.defers->¬M' D)
  (hL:S2.L=S'.L) (eL:S2.ids=S'.ids) (bX:S2.tok=S'.tok) (fA:S2.tkeys=S'.tkeys) (hg:S2.gh=S'.gh) (hf:S2.fo=S'.fo) (cE:a1.tmps.size=C.n) (dS:∀i sv,S2.env i=some sv->∃v,S2.den sv=some v/\a1.tmps[i]?=some v)
  (gF:∃ms:List Nat,a1.defers=ms.map Zeu/\ms.Nodup/\∀D∈ms,w.heap[D]?=some (.deferred (some []))):
  Rel C S2 m a1 (w.putObj l (.loop r'))/\∃M,Dom C S2 m a1 (w.putObj l (.loop r')) M/\M l/\(∀k,M' k->M k)/\Apart M' S2 m a1:=by
 have dU:∀(k:Nat)(o:Obj),w.heap[k]?=some o->ZqQ o=true->(w.putObj l (.loop r')).heap[k]?=w.heap[k]?:=λk o hk hm=>World.putObj_heap_other (ZbV hk hm dG)
 obtain⟨ms,q1,q2,q3⟩:=gF
 obtain⟨Mr,hd⟩:=hr.dom
 obtain⟨M,p1,p2,p3,p4,p5⟩:=hd.p
 have hD:Dom C S2 m a1 (w.putObj l (.loop r')) M:=by
  refine⟨hg ▸ C.st _ M M _ _ p1 (Zd1 rfl (p4 l hl).1) (λk hk=>.inl hk),λk hk=>by rw[Zcf];exact p2 k hk,λid x hx=>p3 _ (hd.own id x (hL ▸ hx)),λk t b ht hb=>p3 _ (hd.tok k t b (bX ▸ ht) hb),λD hD=>(p4 D (rk D hD)).1,hd.new.mono p3⟩
 refine⟨hr.swap rfl hr.le hL eL bX fA dS cE ⟨ms,q1,q2,λD hD=>?_⟩ dU (λk t b ht hb=>((hr.toks k t ht).2 b hb).2) (λh=>hr.fo (hf ▸ h)) ⟨M,hD⟩,?_⟩
 ·rw[World.putObj_heap_other (λe=>by have:=q3 D hD;rw[e,dG]at this;cases this)];exact q3 D hD
 ·refine⟨M,hD,(p4 l hl).1,λk hk=>(p4 k (hX' k hk)).1,?_⟩
  refine⟨λid x hx h=>(p4 _ (hX' _ h)).2.1 (hd.own id x (hL ▸ hx)),λk t b ht hb h=>(p4 _ (hX' _ h)).2.1 (hd.tok k t b (bX ▸ ht) hb),rm,λb o v hv h=>?_,λb e he h=>?_⟩
  ·rcases hd.new b o v hv with h2|h2
   ·exact fy b o v h2 (hX' b h)
   ·exact(p4 b (hX' b h)).2.1 h2
  ·rcases hd.new.k b e he with h2|h2
   ·exact j4 b e h2 (hX' b h)
   ·exact(p4 b (hX' b h)).2.1 h2
theorem Rel.atX{X:Nat->Prop}{h1:Nat->Option Obj}{B:Nat}{me:Mem}{gc:C.m0.le me}{S':St}{a3:Act}(hr:Rel (ZnV C X h1 B me gc) S' m a3 w):B<=w.heap.size/\∀k,X k->w.heap[k]?=h1 k:=by
 obtain⟨Mr,hd⟩:=hr.dom
 obtain⟨M,p1,p2,p3,p4,p5⟩:=hd.p
 exact⟨p5,λk hk=>(p4 k hk).2.2⟩
theorem Zmn{th:Bool}{E:Env}{A:LoopAnn}{I:List Value->List (List Value)->List Value->Mem->Nat->Prop}{K:KT}{a1:Act}{l:Nat}{fn:FuncId}{ps:Array Tmp}{x y:Code}{D:Nat}{Tx Ty:KT->St->Mem->Prop}{xs:List (List Value)}
  (mz:ZjQ E Tx x) (mA:ZjQ E Ty y) (rn:∀{K:KT} {S:St} {m:Mem},Tx K S m->Tx (λe S' m'=>K e S' m'/\leT th m m') S m) (ro:∀{K:KT} {S:St} {m:Mem},Ty K S m->Ty (λe S' m'=>K e S' m'/\leT th m m') S m) (kQ:YOk E C) (mB:Zbk C.n x=true) (mC:Zbk C.n y=true) (mD:ps.toList.all (Nat.blt · C.n)=true) (hS:StOk S) (cE:a1.tmps.size=C.n) (dS:∀i sv,S.env i=some sv->∃v,S.den sv=some v/\a1.tmps[i]?=some v)
  (nA:Zif ps.toList (A.slots.map (·.1))=true) (lI:Zbd ps.toList=true) (eX:∀v∈xs,Shape.fitsL (A.slots.map (·.2)) v=true)
  (hb:ZvG A.gh S.gh λy=>Shape.allL (A.slots.map (·.2)) λx=>ZjH A.boxes λcss=>ZjI A.toks λtvs=>∀(m':Mem)(n:Nat),m.le m'->xs[n]?=some x->I (ghs A.gh y []) css tvs m' n->
     Tx (λe S1 m1=>match e with
      | .normal=>Ty (λe S' m''=>ZyF th m m'' (Zja A.gh S'.gh S.gh S'.fo S.fo (ZjJ (Zby S' A S.ids) (Zby S A S.ids) (ZjK (ZaX S' A S.tkeys) (ZaX S A S.tkeys) (ZgL S' A.boxes λcss'=>ZdO S' A.toks λtvs'=>match e with
       | .normal=>I (ghs A.gh S'.gh []) css' tvs' m'' (n+1)
       | e=>ZnN K e (Za1 S [] { A with slots:=[] } S'.gh [] css' tvs') m''))))) S1 m1
      | _=>False) (Za1 S [] A y x css tvs) m'):
  Zlh E.P m (Zr6 C S m A I K a1 l (ZcG fn a1.tmps ps x y D)) (λl' g v=>l'=l/\0<=g/\xs[g.toNat]?=some v):=by
 rintro F n l' k v M' w hF bB ⟨rfl,uo,qg⟩ ⟨g,css,tvs,m',h1,h2,h3,h4,h5,hr,⟨M,hd,hl,hl',hM,dE⟩,hc⟩ dO
 rcases hc with⟨_,hI,dG⟩|⟨gk,_⟩
 rotate_left
 ·omega
 have iq:=ZfN nA
 have mE:=eX v (List.mem_of_getElem? qg)
 have fS:v.length=ps.toList.length:=by rw[iq,ZcS mE];simp
 have eJ:=ZaB lI
 have hy:=run_yield (P:=E.P) (args:=v.toArray) dG (by simpa[ZcG]using fS)
 simp only[ZcG]at hy
 refine⟨_,_,_,_,hy,roundIn_of_wpIn (hF.fn _) ?_⟩
 have j5:((ps.zip v.toArray).foldl (λtmps (x:Tmp×Value)=>tmps.setIfInBounds x.1 x.2) a1.tmps)=((ps.toList.zip v).foldl (λ(t:Array Value)(x:Nat×Value)=>t.setIfInBounds x.1 x.2) a1.tmps):=by
  rw[<-Array.foldl_toList,Array.toList_zip]
 obtain⟨f1,f2,f3⟩:=ZfM ps.toList v a1.tmps fS eJ
 have ol:=hF.inRound l'
 have dR:=hr.intoRound (S1:=Za1 S [] A g v css tvs) (tm:=(ps.toList.zip v).foldl (λ(t:Array Value)(x:Nat×Value)=>t.setIfInBounds x.1 x.2) a1.tmps) hd hl hl' hM dE dG rfl rfl rfl rfl rfl rfl (by rw[f1];exact cE) (by
  intro i sv he
  simp only[Za1]at he
  rcases ZfL (by rw[ZcS mE];simp) he with⟨g1,g2⟩|⟨q,sh,u,g1,g2,g3⟩
  ·simp only[List.any_nil,cond_false]at g1
   obtain⟨u,g3,g4⟩:=dS i sv g1
   exact⟨u,ZgR g3,by rw[f2 i (by rw[iq];exact g2)];exact g4⟩
  ·subst g3
   refine⟨u,rfl,f3 q i u ?_ g2 ?_⟩
   ·rw[iq,List.getElem?_map,g1];rfl
   ·have:i∈ps.toList:=by rw[iq];exact List.mem_map.2 ⟨_,List.mem_of_getElem? g1,rfl⟩
    have:=List.all_eq_true.1 mD i this
    rw[cE];exact Zls this)
 rw[j5]
 have rp:∀b o v,C.me b o=some v->¬(M' b\/b=l'\/Zeu b∈a1.defers):=by
  intro b o v hv
  have hv':m' b o=some v:=hr.le b o v hv
  obtain⟨c,T,fr,hc⟩:=hr.sub.isCells hv'
  rintro(h|h|h)
  ·exact dE.mem b o v hv' h
  ·exact ZdS hc dG h
  ·exact ZeE hc (hr.markAt h) rfl
 have mF:∀b e,C.me.k b=some e->¬(M' b\/b=l'\/Zeu b∈a1.defers):=by
  intro b e he
  have he':m'.k b=some e:=hr.le.k b e he
  obtain⟨es,cl,h1,_⟩:=hr.sub.k b e he'
  rintro(h|h|h)
  ·exact dE.kn b e he' h
  ·exact ZbV h1 rfl dG h
  ·have:=hr.markAt h
   rw[h1]at this;cases this
 have dF:=ZcQ (ZcP (Shape.allL_fits _ _ (Zef hb h4) v mE) css h1) tvs h2 h3 m' k.toNat h5 qg hI
 refine mz ol (ZjO kQ (Mem.le_refl _) (NewM.refl _ _)) ?_ n mB dR (rn dF) ?_
 ·intro l2 kR g2 Mr w2 hp
  have:l2=l':=by simpa using kR.symm
  subst this
  obtain⟨M2,_,_,_,p4,_⟩:=hp
  exact⟨_,by rw[(p4 l2 (.inr (.inl rfl))).2.2];exact dG⟩
 rintro e S1 m1 a2 w1 ⟨hk,rq⟩ gt
 cases e with
 | normal=>
  obtain⟨z1,z2⟩:=gt.atX
  have gG:w1.heap[l']?=some (.loop (ZcG fn a1.tmps ps x y D .ready none)):=by rw[z2 l' (.inr (.inl rfl))];exact dG
  refine⟨_,run_beginRound gG rfl,?_⟩
  have mG:=gt.beginRound (r':={ ZcG fn a1.tmps ps x y D .ready none with state:=.busy }) (.inr (.inl rfl)) gG
  have j6:l' < w1.heap.size:=(Array.getElem?_eq_some_iff.1 gG).1
  have gR:(w1.putObj l' (.loop { ZcG fn a1.tmps ps x y D .ready none with state:=.busy })).heap[l']?=some (.loop { ZcG fn a1.tmps ps x y D .ready none with state:=.busy }):=World.putObj_heap_same j6
  refine mA ol (ZjO kQ (Mem.le_refl _) (NewM.refl _ _)) ?_ n mC mG (ro hk) ?_
  ·intro l2 kR g2 Mr w2 hp
   have:l2=l':=by simpa using kR.symm
   subst this
   obtain⟨M2,_,_,_,p4,_⟩:=hp
   exact⟨_,by rw[(p4 l2 (.inr (.inl rfl))).2.2];exact gR⟩
  rintro e S' m'' a3 w3 ⟨hk,j7⟩ lh
  obtain⟨q0,hk⟩:=ZrZ hk
  obtain⟨q1,qf,hk⟩:=Zdg hk
  obtain⟨q2,hk⟩:=Zcw.1 hk
  obtain⟨q3,hk⟩:=Zcx.1 hk
  obtain⟨css',g1,g2,hk⟩:=Zcn hk
  obtain⟨tvs',k1,k2,hk⟩:=Zbz hk
  obtain⟨y1,y2⟩:=lh.atX
  have gl:w3.heap[l']?=some (.loop { ZcG fn a1.tmps ps x y D .ready none with state:=.busy }):=by rw[y2 l' (.inr (.inl rfl))];exact gR
  have j0:m.le m'':=by
   cases th with
   | true=>exact q0 rfl
   | false=>exact mLt h5 (mLt rq j7)
  have hx:Rel (ZyR C (λk=>M' k\/k=l'\/Zeu k∈a1.defers) (λk=>(w1.putObj l' (.loop { ZcG fn a1.tmps ps x y D .ready none with state:=.busy })).heap[k]?) w.heap.size) (Za1 { S with env:=λ_=>none } [] { A with slots:=[] } S'.gh [] css' tvs') m'' a3 w3:=by
   have hh:Rel (ZyR C (λk=>M' k\/k=l'\/Zeu k∈a1.defers) (λk=>(w1.putObj l' (.loop { ZcG fn a1.tmps ps x y D .ready none with state:=.busy })).heap[k]?) w.heap.size) { S' with env:=λ_=>none } m'' a3 w3:=
    lh.restrict rfl rfl (λ_ _ h=>h) (λ_ _ h=>.inl h) (λi sv h=>(by cases h)) lh.ids lh.tkeys
   exact Zc1 (S:={ S with env:=λ_=>none }) (S':={ S' with env:=λ_=>none }) (A:={ A with slots:=[] }) ⟨λi sv h=>(by cases h),hS.ids,hS.tkeys⟩ hh qf (λ_ _=>rfl) q2 q3 (by simp) g1 g2 k1 k2
  have gF:∃ms:List Nat,a1.defers=ms.map Zeu/\ms.Nodup/\∀D∈ms,w3.heap[D]?=some (.deferred (some [])):=by
   obtain⟨ms,r1,r2,r3⟩:=hr.defers
   refine⟨ms,r1,r2,λD' hD'=>?_⟩
   have hm:Zeu D'∈a1.defers:=by rw[r1];exact List.mem_map.2 ⟨_,hD',rfl⟩
   rw[y2 D' (.inr (.inr hm)),World.putObj_heap_other (λe=>by have:=r3 D' hD';rw[e,dG]at this;cases this),z2 D' (.inr (.inr hm))];exact r3 D' hD'
  have fX:=λ(r':Loop)=>hx.outOfRound (S2:=Za1 S [] { A with slots:=[] } S'.gh [] css' tvs') (a1:=a1) (M':=M') (r':=r') (.inr (.inl rfl)) gl rp mF (λD' hD'=>.inr (.inr hD')) (λk hk=>.inl hk) dE.mks rfl rfl rfl rfl rfl rfl cE (by
   intro i sv he
   simp only[Za1,ZbD,List.any_nil,cond_false]at he
   obtain⟨u,g3,g4⟩:=dS i sv he
   exact⟨u,ZgR g3,g4⟩) gF
  have om:l' < w3.heap.size:=(Array.getElem?_eq_some_iff.1 gl).1
  have ot:∀r',Frn m M' w (w3.putObj l' (.loop r')):=λr'=>by
   refine⟨by rw[Zcf];exact y1,λk hk mH=>?_,(fX r').1.sub.less j0⟩
   ·have dU:k≠l':=λe=>hl' (e ▸ mH)
    rw[World.putObj_heap_other dU,y2 k (.inl mH),World.putObj_heap_other dU,z2 k (.inl mH)]
  have fP:Zjh tvs':=by
   intro u hu
   obtain⟨i,hi⟩:=List.getElem?_of_mem hu
   have bB:=(List.getElem?_eq_some_iff.1 hi).1
   obtain⟨qe,i7⟩:∃qe,A.toks[i]?=some qe:=⟨_,List.getElem?_eq_getElem (by omega)⟩
   exact(k2 i qe.1 qe.2 u i7 hi).1
  have fin:∀(c:Code) ,ZvR K c (Za1 S [] { A with slots:=[] } S'.gh [] css' tvs') m''->∃v w',(Instr.endRound l' (some c)).run E.P w3=.ok v w'/\∃b,Ending.returned v=Ending.returned (.bool b)/\Zr6 C S m A I K a1 l' (ZcG fn a1.tmps ps x y D) (if b then k+1 else -1) M' w'/\Frn m M' w w':=by
   intro c hc
   refine⟨_,_,run_endRound (some c) gl,false,rfl,?_,ot _⟩
   obtain⟨o1,M3,o2,o3,o4,o5⟩:=fX (ZcG fn a1.tmps ps x y D .done (some c))
   exact⟨S'.gh,css',tvs',m'',g1,k1,fP,q1,j0,o1,⟨M3,o2,o3,hl',o4,o5⟩,.inr ⟨rfl,c,World.putObj_heap_same om,hc⟩⟩
  cases e with
  | normal=>
   refine⟨_,_,run_endRound none gl,true,rfl,?_,ot _⟩
   obtain⟨o1,M3,o2,o3,o4,o5⟩:=fX (ZcG fn a1.tmps ps x y D .ready none)
   refine⟨S'.gh,css',tvs',m'',g1,k1,fP,q1,j0,o1,⟨M3,o2,o3,hl',o4,o5⟩,.inl ⟨by simp;omega,?_,World.putObj_heap_same om⟩⟩
   have:(k+1).toNat=k.toNat+1:=by omega
   simp only[if_true,this]
   exact hk
  | ret=>exact fin _ hk
  | exit id=>exact fin _ hk
  | goto t=>exact fin _ hk
  | panic ch=>exact hk.elim
  | outgrown=>exact hk.elim
 | exit id=>exact hk.elim
 | goto t=>exact hk.elim
 | ret=>exact hk.elim
 | panic ch=>exact hk.elim
 | outgrown=>exact hk.elim
end
section
variable {C:Ctx} {S:St} {m:Mem} {a:Act} {w w':World}
theorem Rel.afterRange{S2:St}{a1:Act}{l:Nat}{r r':Loop}{M:Nat->Prop}(hr:Rel C S2 m a1 w)(hd:Dom C S2 m a1 w M)(hl:M l)(dG:w.heap[l]?=some (.loop r)):Rel C S2 m a1 (w.putObj l (.loop r')):=by
 obtain⟨ms,q1,q2,q3⟩:=hr.defers
 refine hr.swap rfl hr.le rfl rfl rfl rfl hr.env hr.size ⟨ms,q1,q2,λD hD=>?_⟩ (λk o hk hm=>World.putObj_heap_other (ZbV hk hm dG)) (λk t b ht hb=>((hr.toks k t ht).2 b hb).2) hr.fo ⟨_,hd.step (Zd1 rfl hl) (NewM.refl _ _)⟩
 rw[World.putObj_heap_other (λe=>by have:=q3 D hD;rw[e,dG]at this;cases this)];exact q3 D hD
theorem ZnX{th:Bool}{E:Env}{F:Fence}(hF:FOk F)(kQ:YOk E C)(hR:ROk F C)(n:Nat){A:LoopAnn}{f:Operand}{ps:Array Tmp}{x y:Code}{Tx Ty:KT->St->Mem->Prop}
  (mz:ZjQ E Tx x) (mA:ZjQ E Ty y) (rn:∀{K:KT} {S:St} {m:Mem},Tx K S m->Tx (λe S' m'=>K e S' m'/\leT th m m') S m) (ro:∀{K:KT} {S:St} {m:Mem},Ty K S m->Ty (λe S' m'=>K e S' m'/\leT th m m') S m)
  (mB:Zbk C.n x=true) (mC:Zbk C.n y=true) (mD:ps.toList.all (Nat.blt · C.n)=true)
  {K:KT} {Q:Exit->Act->World->Prop} (hr:Rel C S m a w) (h:ZnO th E.P A f ps.toList Tx Ty K S m) (hK:∀e S' m' a' w',K e S' m'->Rel C S' m' a' w'->Q e a' w'):(Code.rangeFunc f ps x y).wpIn F n E.P Q a w:=by
 unfold ZnO at h
 split at h
 rotate_left
 ·exact h.elim
 rename_i g first captured kM
 obtain⟨hc,j0⟩:=Zah h
 obtain⟨mi,iN,lG,xs,ou,eX,I,h0,hb,iO⟩:=ZrY j0
 simp only[Bool.and_eq_true]at hc
 obtain⟨v,e1,_,e2⟩:=hr.ev_val kM
 simp only[St.den,Option.some.injEq]at e1
 refine wpIn_rangeFunc λfn kO=>?_
 obtain⟨l,mk,w1,D,jZ,dR,⟨M1,ip,j6⟩,dG⟩:=hr.enter (P:=E.P) hR fn ps x y
 obtain⟨a1,iP⟩:∃a1,a1=({ a with defers:=mk++a.defers }:Act):=⟨_,rfl⟩
 rw[<-iP]at dR ip
 have f9:a1.tmps=a.tmps:=by rw[iP]
 have j8:w1.heap[l]?=some (.loop (ZcG fn a1.tmps ps x y D .ready none)):=by rw[f9];exact dG
 refine⟨l,mk,w1,{ target:=.fn (.func g) captured,args:=first++#[.func (.yield l) #[] #[]] },w1,g,(first.toList++.func (.yield l) #[] #[]::captured.toList).toArray,w1,jZ,?_,λf' _=>hF.fn f',?_,λhs=>by rw[hF.depth]at hs;simp at hs,?_⟩
 ·simp only[resolve,e2,<-e1,Deferred.ofValue]
  simp[go_sem]
 ·have fQ:first++#[Value.func (.yield l) #[] #[]]++captured=(first.toList++Value.func (.yield l) #[] #[]::captured.toList).toArray:=Array.ext' (by simp)
  simp only[invoke,fQ]
  exact ou.1 _ _
 ·obtain⟨css,g1,g2,h0⟩:=Zcn h0
  obtain⟨tvs,k1,k2,hI⟩:=Zbz h0
  have fP:Zjh tvs:=by
   intro u hu
   obtain⟨i,hi⟩:=List.getElem?_of_mem hu
   have bB:=(List.getElem?_eq_some_iff.1 hi).1
   obtain⟨qe,i7⟩:∃qe,A.toks[i]?=some qe:=⟨_,List.getElem?_eq_getElem (by omega)⟩
   exact(k2 i qe.1 qe.2 u i7 hi).1
  have mI:Rel C (Za1 S [] { A with slots:=[] } S.gh [] css tvs) m a1 w1:=Zc1 dR.ok dR rfl (SameOut.refl _ _) rfl rfl (by simp) g1 g2 k1 k2
  have mJ:Zr6 C S mi A I K a1 l (ZcG fn a1.tmps ps x y D) 0 (λ_=>False) w1:=by
   refine⟨S.gh,css,tvs,m,g1,k1,fP,λ_=>rfl,iN,mI,?_,.inl ⟨Int.le_refl _,hI,j8⟩⟩
   have j3:Dom C (Za1 S [] { A with slots:=[] } S.gh [] css tvs) m a1 w1 M1:=by
    refine⟨ip.p,ip.lt,λid y hy=>?_,λk t b ht hb=>?_,ip.mks,ip.new⟩
    ·simp only[Za1]at hy
     rcases ZdZ hy with⟨i,x',cs,q1,q2,q3,q4⟩|⟨q1,q2⟩
     ·rw[q4];exact ip.own id x' q3
     ·exact ip.own id y q2
    ·simp only[Za1]at ht
     rcases ZcR ht with⟨i,e,u,q1,q2,q3⟩|⟨q1,q2⟩
     ·obtain⟨_,q5⟩:=k2 i k e u q1 q2
      subst q3
      rcases q5 with q5|q5
      ·exact ip.tok k _ b q5 hb
      ·simp[Tok.blk,q5]at hb
     ·exact ip.tok k t b q2 hb
   exact⟨M1,j3,j6,λh=>h,λ_ h=>h.elim,⟨λ_ _ _ h=>h,λ_ _ _ _ _ h=>h,λ_ _ h=>h,λ_ _ _ _ h=>h,λ_ _ _ h=>h⟩⟩
  have dS:∀i sv,S.env i=some sv->∃v,S.den sv=some v/\a1.tmps[i]?=some v:=λi sv he=>dR.env i sv he
  have i9:=Zmn (th:=th) (E:=E) (S:=S) (m:=mi) (K:=K) (l:=l) (fn:=fn) (D:=D) mz mA rn ro kQ mB mC mD hr.ok dR.size dS hc.1 hc.2 eX hb
  refine hF.calls ((ou.2 _ Zmm l w1 (dR.sub.less iN) mJ i9).mono ?_)
  rintro e w2 ⟨v,M2,rfl,bB,fO⟩
  rw[<-iP]
  rcases fO with fO|fO
  all_goals obtain⟨gg,css2,tvs2,m2,y1,y2,y3,y4,y5,y6,⟨M3,y7,y8,y9,y10,y11⟩,y12⟩:=fO
  ·rcases y12 with⟨_,rr,gm⟩|⟨hk,_⟩
   ·refine⟨none,_,run_endLoop gm (by simp[ZcG]),?_⟩
    have:=ZcQ (ZcP (Zef iO y4) css2 y1) tvs2 y2 y3 m2 y5 (by simpa using rr)
    exact hK _ _ _ _ _ this (y6.afterRange y7 y8 gm)
   ·omega
  ·rcases y12 with⟨hk,_⟩|⟨_,c,gm,ie⟩
   ·omega
   ·refine⟨some c,_,run_endLoop gm (by simp[ZcG]),?_⟩
    have hR:=λr'=>y6.afterRange (r':=r') y7 y8 gm
    cases c with
    | ret=>exact wpIn_ret (hK _ _ _ _ _ ie (hR _))
    | exit id=>exact wpIn_exit (hK _ _ _ _ _ ie (hR _))
    | goto t=>exact wpIn_goto (hK _ _ _ _ _ ie (hR _))
    | _=>exact ie.elim
end
section
variable {C:Ctx} {S:St} {m:Mem} {a:Act} {w w':World} {M M':Nat->Prop}
noncomputable def Mem.on(m:Mem)(Z:Nat->Prop):Mem:=m.off (λb=>¬Z b)
theorem Mem.on_c{m:Mem}{Z:Nat->Prop}{b o:Nat}{v:Value}(h:m.on Z b o=some v):Z b/\m b o=some v:=by
 by_cases hz:Z b
 ·exact⟨hz,by unfold Mem.on at h;rw[Mem.off_at (λh=>h hz)]at h;exact h⟩
 ·unfold Mem.on at h;rw[Mem.off_free hz o]at h;cases h
theorem Mem.on_k{m:Mem}{Z:Nat->Prop}{b:Nat}{e:List (Value×Value)}(h:(m.on Z).k b=some e):Z b/\m.k b=some e:=by
 by_cases hz:Z b
 ·exact⟨hz,by unfold Mem.on at h;rw[Mem.off_k (λh=>h hz)]at h;exact h⟩
 ·unfold Mem.on at h;rw[Mem.off_kn hz]at h;cases h
theorem Mem.on_at{m:Mem}{Z:Nat->Prop}{b:Nat}(hz:Z b)(o:Nat):m.on Z b o=m b o:=by unfold Mem.on;rw[Mem.off_at (λh=>h hz)]
theorem Mem.on_kat{m:Mem}{Z:Nat->Prop}{b:Nat}(hz:Z b):(m.on Z).k b=m.k b:=by unfold Mem.on;rw[Mem.off_k (λh=>h hz)]
theorem Mem.or_right{a b:Mem}{i o:Nat}(h:a i o=none):a.or b i o=b i o:=by simp[Mem.or,h]
theorem Mem.or_kright{a b:Mem}{i:Nat}(h:a.k i=none):(a.or b).k i=b.k i:=by simp[Mem.or,h]
theorem Zeh{α:Type}{x:Option α}(h:∀v,x≠some v):x=none:=by
 cases x with
 | none=>rfl
 | some v=>exact absurd rfl (h v)
theorem Rel.orMem{m0 m1 mi:Mem}(h:Rel C S m1 a w)(hd:Dom C S m1 a w M)(hM:∀k,M' k->M k)(dE:Apart M' S m1 a)(h0:m0.le m1)(hs:Sub mi w)(hn:NewM m0 mi M'):
  Rel C S (m1.or mi) a w/\Dom C S (m1.or mi) a w M:=by
 have cF:∀b,¬M' b->∀o,m1 b o=none->m1.or mi b o=none:=λb hb o ho=>by
  rw[Mem.or_right ho]
  refine Zeh λv hv=>?_
  rcases hn.c b o v hv with h1|h1
  ·rw[h0.c b o v h1]at ho;cases ho
  ·exact hb h1
 have dA:NewM C.me (m1.or mi) M:=⟨λb o v hv=>by
  rcases Mem.or_some hv with h1|⟨h1,h2⟩
  ·exact hd.new.c b o v h1
  ·rcases hn.c b o v h2 with h3|h3
   ·rw[h0.c b o v h3]at h1;cases h1
   ·exact .inr (hM b h3),λb v hv=>by
  rcases Mem.or_k hv with h1|⟨h1,h2⟩
  ·exact hd.new.k b v h1
  ·rcases hn.k b v h2 with h3|h3
   ·rw[h0.k b v h3]at h1;cases h1
   ·exact .inr (hM b h3)⟩
 have j3:Dom C S (m1.or mi) a w M:=⟨hd.p,hd.lt,hd.own,hd.tok,hd.mks,dA⟩
 refine⟨⟨h.defers,h.size,h.env,λid x hx=>?_,h.apart,h.ids,λk t ht=>?_,h.tkeys,h.tapart,⟨λb o v hv=>?_,λb e he=>?_⟩,mLt h.le (Mem.le_or _ _),⟨M,j3⟩,h.fo⟩,j3⟩
 ·have ho:=h.own id x hx
  exact⟨ho.cells,λhz o=>cF _ (dE.box id x hx) o (ho.free hz o),λhz=>(ho.known hz).mono (Mem.le_or _ _),ho.whole⟩
 ·obtain⟨h1,h2⟩:=h.toks k t ht
  exact⟨h1.same (λ_ _=>rfl) (λb o hb hn=>cF b (dE.tok k t b ht hb) o hn),h2⟩
 ·rcases Mem.or_some hv with h1|⟨_,h2⟩
  ·exact h.sub.c b o v h1
  ·exact hs.c b o v h2
 ·rcases Mem.or_k he with h1|⟨_,h2⟩
  ·exact h.sub.k b e h1
  ·exact hs.k b e h2
noncomputable def meY(C:Ctx)(mi:Mem)(M':Nat->Prop):Mem:=C.me.or (mi.on M')
theorem ZpR(C:Ctx)(mi:Mem)(M':Nat->Prop):C.m0.le (meY C mi M'):=mLt C.mle (Mem.le_or _ _)
theorem ZnY(C:Ctx)(mi:Mem)(M':Nat->Prop):NewM C.me (meY C mi M') M':=⟨λb o v hv=>by
 rcases Mem.or_some hv with h1|⟨_,h2⟩
 ·exact .inl h1
 ·exact .inr (Mem.on_c h2).1,λb v hv=>by
 rcases Mem.or_k hv with h1|⟨_,h2⟩
 ·exact .inl h1
 ·exact .inr (Mem.on_k h2).1⟩
theorem Rel.intoRoundY{m0 m1 mi:Mem}{S0 S1:St}{a1:Act}{l:Nat}{r:Loop}{tm:Array Value}(hr:Rel C S0 m1 a1 w)(hd:Dom C S0 m1 a1 w M)(hl:M l)(hl':¬M' l)(hM:∀k,M' k->M k)(dE:Apart M' S0 m1 a1)(dG:w.heap[l]?=some (.loop r))
  (fy:m0.le m1) (dO:Sub mi w) (hn:NewM m0 mi M') (hL:S1.L=S0.L) (eL:S1.ids=S0.ids) (bX:S1.tok=S0.tok) (fA:S1.tkeys=S0.tkeys) (hg:S1.gh=S0.gh) (hf:S1.fo=true) (cE:tm.size=C.n) (dS:∀i sv,S1.env i=some sv->∃v,S1.den sv=some v/\tm[i]?=some v):
  Rel (ZnV C (λk=>M' k\/k=l\/Zeu k∈a1.defers) (λk=>w.heap[k]?) w.heap.size (meY C mi M') (ZpR C mi M')) S1 (m1.or mi) { tmps:=tm,defers:=[] } w:=by
 obtain⟨gt,j3⟩:=hr.orMem hd hM dE fy dO hn
 have hX:∀k o,w.heap[k]?=some o->ZqQ o=true->¬M' k->¬(M' k\/k=l\/Zeu k∈a1.defers):=by
  rintro k o hk hm hn (h|h|h)
  ·exact hn h
  ·exact ZbV hk hm dG h
  ·have:=hr.markAt h
   rw[this]at hk;cases hk;cases hm
 have cP:∀{b o v},w.cell? ⟨b,o,none⟩=some v->∃ob,w.heap[b]?=some ob/\ZqQ ob=true:=λ{b o v} h1=>by
  unfold World.cell? at h1
  split at h1
  ·rename_i c T fr hc;exact⟨_,hc,rfl⟩
  ·cases h1
 refine gt.swap (C2:=ZnV C (λk=>M' k\/k=l\/Zeu k∈a1.defers) (λk=>w.heap[k]?) w.heap.size (meY C mi M') (ZpR C mi M')) rfl ⟨λb o v hv=>?_,λb v hv=>?_⟩ hL eL bX fA dS cE ⟨[],rfl,List.nodup_nil,by simp⟩ (λ_ _ _ _=>rfl) (λk t b ht hb o=>?_) (λh=>by rw[hf]at h;cases h) ⟨λk=>M k/\¬(M' k\/k=l\/Zeu k∈a1.defers),?_,λk hk=>hd.lt k hk.1,λid x hx=>?_,λk t b ht hb=>?_,by simp,⟨λb o v hv=>?_,λb v hv=>?_⟩⟩
 ·rcases Mem.or_some hv with h1|⟨_,h2⟩
  ·exact(Mem.le_or _ _).c b o v (hr.le.c b o v h1)
  ·obtain⟨h3,h4⟩:=Mem.on_c h2
   rw[Mem.or_right (Zeh λu hu=>dE.mem b o u hu h3)];exact h4
 ·rcases Mem.or_k hv with h1|⟨_,h2⟩
  ·exact(Mem.le_or _ _).k b v (hr.le.k b v h1)
  ·obtain⟨h3,h4⟩:=Mem.on_k h2
   rw[Mem.or_kright (Zeh λu hu=>dE.kn b u hu h3)];exact h4
 ·have h1:=((hr.toks k t ht).2 b hb).2 o
  show(meY C mi M') b o=none
  unfold meY
  rw[Mem.or_right h1]
  exact Zeh λu hu=>dE.tok k t b ht hb (Mem.on_c hu).1
 ·rw[hg]
  refine⟨M,hd.p,hd.lt,λk hk=>hk.1,λk hk=>⟨?_,λh=>h.2 hk,rfl⟩,Nat.le_refl _⟩
  rcases hk with h|h|h
  ·exact hM k h
  ·exact h ▸ hl
  ·exact hd.mks k h
 ·rw[hL]at hx
  obtain⟨c,T,fr,hc⟩:=(hr.own id x hx).isC
  exact⟨hd.own id x hx,hX _ _ hc rfl (dE.box id x hx)⟩
 ·rw[bX]at ht
  obtain⟨c,T,fr,hc⟩:=(hr.toks k t ht).1.isCells hb
  exact⟨hd.tok k t b ht hb,hX _ _ hc rfl (dE.tok k t b ht hb)⟩
 ·rcases Mem.or_some hv with h1|⟨h1,h2⟩
  ·rcases hd.new.c b o v h1 with h3|h3
   ·exact .inl ((Mem.le_or _ _).c b o v h3)
   ·obtain⟨ob,h4,h5⟩:=cP (hr.sub.c b o v h1)
    exact .inr ⟨h3,hX _ _ h4 h5 (dE.mem b o v h1)⟩
  ·rcases hn.c b o v h2 with h3|h3
   ·rw[fy.c b o v h3]at h1;cases h1
   ·refine .inl ?_
    show(meY C mi M') b o=some v
    unfold meY
    rw[Mem.or_right (Zeh λu hu=>by rw[hr.le.c b o u hu]at h1;cases h1),Mem.on_at h3];exact h2
 ·rcases Mem.or_k hv with h1|⟨h1,h2⟩
  ·rcases hd.new.k b v h1 with h3|h3
   ·exact .inl ((Mem.le_or _ _).k b v h3)
   ·obtain⟨es,cl,h4,_⟩:=hr.sub.k b v h1
    exact .inr ⟨h3,hX _ _ h4 rfl (dE.kn b v h1)⟩
  ·rcases hn.k b v h2 with h3|h3
   ·rw[fy.k b v h3]at h1;cases h1
   ·refine .inl ?_
    show(meY C mi M').k b=some v
    unfold meY
    rw[Mem.or_kright (Zeh λu hu=>by rw[hr.le.k b u hu]at h1;cases h1),Mem.on_kat h3];exact h2
theorem Rel.outOfRoundY{m0 mi:Mem}{X:Nat->Prop}{h1:Nat->Option Obj}{B:Nat}{S' S2:St}{a3 a1:Act}{l:Nat}{r r':Loop}(hr:Rel (ZnV C X h1 B (meY C mi M') (ZpR C mi M')) S' m a3 w)(hl:X l)(dG:w.heap[l]?=some (.loop r))
  (qh:∀b o v,C.me b o=some v->¬X b) (ov:∀b e,C.me.k b=some e->¬X b) (rk:∀D,Zeu D∈a1.defers->X D) (hX':∀k,M' k->X k) (rm:∀D,Zeu D∈a1.defers->¬M' D)
  (fy:∀b o v,m0 b o=some v->¬M' b) (j4:∀b e,m0.k b=some e->¬M' b) (hn:NewM m0 mi M')
  (hL:S2.L=S'.L) (eL:S2.ids=S'.ids) (bX:S2.tok=S'.tok) (fA:S2.tkeys=S'.tkeys) (hg:S2.gh=S'.gh) (hf:S2.fo=false->C.me=C.m0) (cE:a1.tmps.size=C.n) (dS:∀i sv,S2.env i=some sv->∃v,S2.den sv=some v/\a1.tmps[i]?=some v)
  (gF:∃ms:List Nat,a1.defers=ms.map Zeu/\ms.Nodup/\∀D∈ms,w.heap[D]?=some (.deferred (some []))):
  Rel C S2 (m.less m0 mi) a1 (w.putObj l (.loop r'))/\∃M,Dom C S2 (m.less m0 mi) a1 (w.putObj l (.loop r')) M/\M l/\(∀k,M' k->M k)/\Apart M' S2 (m.less m0 mi) a1:=by
 have hZ:∀b,m0.newC mi b->M' b:=λb ⟨o,v,g1,g2⟩=>by
  rcases hn.c b o v g1 with g|g
  ·rw[g2]at g;cases g
  ·exact g
 have uq:∀b,m0.newK mi b->M' b:=λb ⟨e,g1,g2⟩=>by
  rcases hn.k b e g1 with g|g
  ·rw[g2]at g;cases g
  ·exact g
 have dU:∀(k:Nat)(o:Obj),w.heap[k]?=some o->ZqQ o=true->(w.putObj l (.loop r')).heap[k]?=w.heap[k]?:=λk o hk hm=>World.putObj_heap_other (ZbV hk hm dG)
 obtain⟨ms,q1,q2,q3⟩:=gF
 obtain⟨Mr,hd⟩:=hr.dom
 obtain⟨M,p1,p2,p3,p4,p5⟩:=hd.p
 have dA:NewM C.me m M:=⟨λb o v hv=>by
  rcases hd.new.c b o v hv with h|h
  ·exact((ZnY C mi M').c b o v h).imp_right λh=>(p4 b (hX' b h)).1
  ·exact .inr (p3 b h),λb e he=>by
  rcases hd.new.k b e he with h|h
  ·exact((ZnY C mi M').k b e h).imp_right λh=>(p4 b (hX' b h)).1
  ·exact .inr (p3 b h)⟩
 have hD:Dom C S2 m a1 (w.putObj l (.loop r')) M:=
  ⟨hg ▸ C.st _ M M _ _ p1 (Zd1 rfl (p4 l hl).1) (λk hk=>.inl hk),λk hk=>by rw[Zcf];exact p2 k hk,λid x hx=>p3 _ (hd.own id x (hL ▸ hx)),λk t b ht hb=>p3 _ (hd.tok k t b (bX ▸ ht) hb),λD hD=>(p4 D (rk D hD)).1,dA⟩
 have cJ:C.me.le m:=mLt (Mem.le_or _ _) hr.le
 have r1:Rel C S2 m a1 (w.putObj l (.loop r')):=hr.swap (C2:=C) rfl cJ hL eL bX fA dS cE ⟨ms,q1,q2,λD hD=>by
  rw[World.putObj_heap_other (λe=>by have:=q3 D hD;rw[e,dG]at this;cases this)];exact q3 D hD⟩ dU (λk t b ht hb o=>Zeh λu hu=>by
   have h2:(C.me.or (mi.on M')) b o=none:=((hr.toks k t ht).2 b hb).2 o
   rw[(Mem.le_or _ _).c b o u hu]at h2;cases h2) hf ⟨M,hD⟩
 have qi:∀id x,S2.L id=some x->¬m0.newC mi x.b:=λid x hx h=>(p4 _ (hX' _ (hZ _ h))).2.1 (hd.own id x (hL ▸ hx))
 have ow:∀b o v,C.me b o=some v->¬m0.newC mi b:=λb o v hv h=>qh b o v hv (hX' b (hZ b h))
 have oz:∀b e,C.me.k b=some e->¬m0.newK mi b:=λb e he h=>ov b e he (hX' b (uq b h))
 refine⟨r1.lessMem (Mem.less_le _ _ _) ⟨λb o v hv=>by rw[Mem.less_at (ow b o v hv)];exact cJ.c b o v hv,λb e he=>by rw[Mem.less_k (oz b e he)];exact cJ.k b e he⟩ (λid x hx _ o=>Mem.less_at (qi id x hx) o),M,
  ⟨hD.p,hD.lt,hD.own,hD.tok,hD.mks,hD.new.less (Mem.less_le _ _ _)⟩,(p4 l hl).1,λk hk=>(p4 k (hX' k hk)).1,?_⟩
 refine⟨λid x hx h=>(p4 _ (hX' _ h)).2.1 (hd.own id x (hL ▸ hx)),λk t b ht hb h=>(p4 _ (hX' _ h)).2.1 (hd.tok k t b (bX ▸ ht) hb),rm,λb o v hv h=>?_,λb e he h=>?_⟩
 ·by_cases hz:m0.newC mi b
  ·rw[Mem.less_free hz o]at hv;cases hv
  ·rw[Mem.less_at hz]at hv
   rcases hd.new.c b o v hv with h2|h2
   ·rcases Mem.or_some h2 with h3|⟨_,h3⟩
    ·exact qh b o v h3 (hX' b h)
    ·exact hz ⟨o,v,(Mem.on_c h3).2,Zeh λu hu=>fy b o u hu h⟩
   ·exact(p4 b (hX' b h)).2.1 h2
 ·by_cases hz:m0.newK mi b
  ·rw[Mem.less_kn hz]at he;cases he
  ·rw[Mem.less_k hz]at he
   rcases hd.new.k b e he with h2|h2
   ·rcases Mem.or_k h2 with h3|⟨_,h3⟩
    ·exact ov b e h3 (hX' b h)
    ·exact hz ⟨e,(Mem.on_k h3).2,Zeh λu hu=>j4 b u hu h⟩
   ·exact(p4 b (hX' b h)).2.1 h2
end
section
variable {C:Ctx} {S:St} {m0:Mem} {a:Act} {w w':World} {M M':Nat->Prop}
def ZqR(C:Ctx)(S:St)(m0:Mem)(A:LoopAnn)(I:List Value->List (List Value)->List Value->Mem->Nat->Prop)(a1:Act)(l:Nat)(rec:LoopState->Option Code->Loop)(k:Int)(M':Nat->Prop)(W:World):Prop:=
 ∃(g:Int) (css:List (List Value)) (tvs:List Value) (m':Mem),css.length=A.boxes.length/\tvs.length=A.toks.length/\Zjh tvs/\(A.gh=false->g=S.gh)/\m0.le m'/\
  Rel C (Za1 S [] { A with slots:=[] } g [] css tvs) m' a1 W/\
  (∃M,Dom C (Za1 S [] { A with slots:=[] } g [] css tvs) m' a1 W M/\M l/\¬M' l/\(∀k,M' k->M k)/\Apart M' (Za1 S [] { A with slots:=[] } g [] css tvs) m' a1)/\
  0<=k/\I (ghs A.gh g []) css tvs m' k.toNat/\W.heap[l]?=some (.loop (rec .ready none))
theorem ZjR{A:LoopAnn}{I:List Value->List (List Value)->List Value->Mem->Nat->Prop}{a1:Act}{l:Nat}{rec:LoopState->Option Code->Loop}:Zty (ZqR C S m0 A I a1 l rec):=by
 rintro k M' M2 W W' ⟨g,css,tvs,m',h1,h2,h3,h4,h5,hr,⟨M,hd,hl,hl',hM,dE⟩,qh,s5,hc⟩ hu hg
 obtain⟨gt,j3⟩:=hr.foreign hd hM dE hu
 have gx:=hd.lt l hl
 have rj:W'.heap[l]?=W.heap[l]?:=hu.block l gx hl'
 have key:∀k,k < W.heap.size->¬M' k->¬M2 k:=λk hk hn h=>by
  rcases hg k h with h|h
  ·exact hn h
  ·omega
 refine⟨g,css,tvs,m',h1,h2,h3,h4,h5,gt,⟨_,j3,.inl hl,key l gx hl',λk hk=>?_,?_⟩,qh,s5,by rw[rj];exact hc⟩
 ·rcases hg k hk with h|h
  ·exact .inl (hM k h)
  ·exact .inr h
 ·exact⟨λid x hx=>key _ (hr.own id x hx).lt (dE.box id x hx),λk t b ht hb=>key _ ((hr.toks k t ht).1.lt hb) (dE.tok k t b ht hb),λD hD=>key _ (hd.lt D (hd.mks D hD)) (dE.mks D hD),λb o v hv=>key _ (hr.sub.lt hv) (dE.mem b o v hv),λb e he=>key _ (hr.sub.k b e he).lt (dE.kn b e he)⟩
theorem ZjS{E:Env}{A:LoopAnn}{I:List Value->List (List Value)->List Value->Mem->Nat->Prop}{a1:Act}{l:Nat}{fn:FuncId}{ps:Array Tmp}{x y:Code}{D:Nat}{Tx Ty:KT->St->Mem->Prop}{n0:Nat}{V:Nat->List Value->Mem->Prop}
  (mz:ZjQ E Tx x) (mA:ZjQ E Ty y) (kQ:YOk E C) (mB:Zbk C.n x=true) (mC:Zbk C.n y=true) (mD:ps.toList.all (Nat.blt · C.n)=true) (hS:StOk S) (i6:S.fo=false) (cE:a1.tmps.size=C.n) (dS:∀i sv,S.env i=some sv->∃v,S.den sv=some v/\a1.tmps[i]?=some v)
  (nA:Zif ps.toList (A.slots.map (·.1))=true) (lI:Zbd ps.toList=true) (eX:∀i v mi,V i v mi->Shape.fitsL (A.slots.map (·.2)) v=true)
  (hb:ZvG A.gh S.gh λy=>Shape.allL (A.slots.map (·.2)) λx=>ZjH A.boxes λcss=>ZjI A.toks λtvs=>∀(m' mi:Mem)(k:Nat),k < n0->m0.le m'->m0.le mi->mi.le (m'.or mi)->(∀b,m0.newC mi b->m'.free b)->V k x mi->I (ghs A.gh y []) css tvs m' k->
     Tx (λe S1 m1=>match e with
      | .normal=>Ty (λe S' m''=>match e with
       | .normal=>Zja A.gh S'.gh S.gh S'.fo true (ZjJ (Zby S' A S.ids) (Zby S A S.ids) (ZjK (ZaX S' A S.tkeys) (ZaX S A S.tkeys) (ZgL S' A.boxes λcss'=>ZdO S' A.toks λtvs'=>m0.le m''/\I (ghs A.gh S'.gh []) css' tvs' (m''.less m0 mi) (k+1))))
       | _=>False) S1 m1
      | _=>False) (Za1 { S with fo:=true } [] A y x css tvs) (m'.or mi)):
  Znl E.P m0 (ZqR C S m0 A I a1 l (ZcG fn a1.tmps ps x y D)) (λl' g v mi=>l'=l/\∃i:Nat,g=(i:Int)/\i < n0/\V i v mi):=by
 rintro F n l' k v M' w mi hF bB ⟨rfl,i,rfl,iz,hV⟩ j0 kP ⟨g,css,tvs,m',h1,h2,h3,h4,h5,hr,⟨M,hd,hl,hl',hM,dE⟩,_,hI,dG⟩ dO
 have hI:I (ghs A.gh g []) css tvs m' i:=hI
 have iq:=ZfN nA
 have mE:=eX i v mi hV
 have fS:v.length=ps.toList.length:=by rw[iq,ZcS mE];simp
 have eJ:=ZaB lI
 have hy:=run_yield (P:=E.P) (args:=v.toArray) dG (by simpa[ZcG]using fS)
 simp only[ZcG]at hy
 refine⟨_,_,_,_,hy,roundIn_of_wpIn (hF.fn _) ?_⟩
 have j5:((ps.zip v.toArray).foldl (λtmps (x:Tmp×Value)=>tmps.setIfInBounds x.1 x.2) a1.tmps)=((ps.toList.zip v).foldl (λ(t:Array Value)(x:Nat×Value)=>t.setIfInBounds x.1 x.2) a1.tmps):=by
  rw[<-Array.foldl_toList,Array.toList_zip]
 obtain⟨f1,f2,f3⟩:=ZfM ps.toList v a1.tmps fS eJ
 have ol:=hF.inRound l'
 have dR:=hr.intoRoundY (S1:=Za1 { S with fo:=true } [] A g v css tvs) (tm:=(ps.toList.zip v).foldl (λ(t:Array Value)(x:Nat×Value)=>t.setIfInBounds x.1 x.2) a1.tmps) hd hl hl' hM dE dG h5 dO kP rfl rfl rfl rfl rfl rfl (by rw[f1];exact cE) (by
  intro i sv he
  simp only[Za1]at he
  rcases ZfL (by rw[ZcS mE];simp) he with⟨g1,g2⟩|⟨q,sh,u,g1,g2,g3⟩
  ·simp only[List.any_nil,cond_false]at g1
   obtain⟨u,g3,g4⟩:=dS i sv g1
   exact⟨u,ZgR (S:={ S with fo:=true }) (by cases sv <;> exact g3),by rw[f2 i (by rw[iq];exact g2)];exact g4⟩
  ·subst g3
   refine⟨u,rfl,f3 q i u ?_ g2 ?_⟩
   ·rw[iq,List.getElem?_map,g1];rfl
   ·have:i∈ps.toList:=by rw[iq];exact List.mem_map.2 ⟨_,List.mem_of_getElem? g1,rfl⟩
    have:=List.all_eq_true.1 mD i this
    rw[cE];exact Zls this)
 rw[j5]
 have rp:∀b o v,C.me b o=some v->¬(M' b\/b=l'\/Zeu b∈a1.defers):=by
  intro b o v hv
  have hv':m' b o=some v:=hr.le b o v hv
  obtain⟨c,T,fr,hc⟩:=hr.sub.isCells hv'
  rintro(h|h|h)
  ·exact dE.mem b o v hv' h
  ·exact ZdS hc dG h
  ·exact ZeE hc (hr.markAt h) rfl
 have mF:∀b e,C.me.k b=some e->¬(M' b\/b=l'\/Zeu b∈a1.defers):=by
  intro b e he
  have he':m'.k b=some e:=hr.le.k b e he
  obtain⟨es,cl,h1,_⟩:=hr.sub.k b e he'
  rintro(h|h|h)
  ·exact dE.kn b e he' h
  ·exact ZbV h1 rfl dG h
  ·have:=hr.markAt h
   rw[h1]at this;cases this
 have fy:∀b o v,m0 b o=some v->¬M' b:=λb o v hv=>dE.mem b o v (h5.c b o v hv)
 have j4:∀b e,m0.k b=some e->¬M' b:=λb e he=>dE.kn b e (h5.k b e he)
 have ga:∀b,m0.newC mi b->m'.free b:=λb ⟨o,v,g1,g2⟩ o'=>Zeh λu hu=>by
  rcases kP.c b o v g1 with g|g
  ·rw[g2]at g;cases g
  ·exact dE.mem b o' u hu g
 have ur:YOk E (ZnV C (λk=>M' k\/k=l'\/Zeu k∈a1.defers) (λk=>w.heap[k]?) w.heap.size (meY C mi M') (ZpR C mi M')):=ZjO kQ (Mem.le_or _ _) ((ZnY C mi M').mono λ_=>.inl)
 have dF:=ZcQ (ZcP (Shape.allL_fits _ _ (Zef hb h4) v mE) css h1) tvs h2 h3 m' mi i iz h5 j0 (hr.sub.le_or dO) ga hV hI
 refine mz ol ur ?_ n mB dR dF ?_
 ·intro l2 kR g2 Mr w2 hp
  have:l2=l':=by simpa using kR.symm
  subst this
  obtain⟨M2,_,_,_,p4,_⟩:=hp
  exact⟨_,by rw[(p4 l2 (.inr (.inl rfl))).2.2];exact dG⟩
 rintro e S1 m1 a2 w1 hk gt
 cases e with
 | normal=>
  obtain⟨z1,z2⟩:=gt.atX
  have gG:w1.heap[l']?=some (.loop (ZcG fn a1.tmps ps x y D .ready none)):=by rw[z2 l' (.inr (.inl rfl))];exact dG
  refine⟨_,run_beginRound gG rfl,?_⟩
  have mG:=gt.beginRound (r':={ ZcG fn a1.tmps ps x y D .ready none with state:=.busy }) (.inr (.inl rfl)) gG
  have j6:l' < w1.heap.size:=(Array.getElem?_eq_some_iff.1 gG).1
  have gR:(w1.putObj l' (.loop { ZcG fn a1.tmps ps x y D .ready none with state:=.busy })).heap[l']?=some (.loop { ZcG fn a1.tmps ps x y D .ready none with state:=.busy }):=World.putObj_heap_same j6
  refine mA ol (ZjO kQ (Mem.le_or _ _) ((ZnY C mi M').mono λ_=>.inl)) ?_ n mC mG hk ?_
  ·intro l2 kR g2 Mr w2 hp
   have:l2=l':=by simpa using kR.symm
   subst this
   obtain⟨M2,_,_,_,p4,_⟩:=hp
   exact⟨_,by rw[(p4 l2 (.inr (.inl rfl))).2.2];exact gR⟩
  rintro e S' m'' a3 w3 hk lh
  cases e with
  | normal=>
   obtain⟨q1,qf,hk⟩:=Zdg hk
   obtain⟨q2,hk⟩:=Zcw.1 hk
   obtain⟨q3,hk⟩:=Zcx.1 hk
   obtain⟨css',g1,g2,hk⟩:=Zcn hk
   obtain⟨tvs',k1,k2,oA,hk⟩:=Zbz hk
   obtain⟨y1,y2⟩:=lh.atX
   have gl:w3.heap[l']?=some (.loop { ZcG fn a1.tmps ps x y D .ready none with state:=.busy }):=by rw[y2 l' (.inr (.inl rfl))];exact gR
   have hx:Rel (ZnV C (λk=>M' k\/k=l'\/Zeu k∈a1.defers) (λk=>(w1.putObj l' (.loop { ZcG fn a1.tmps ps x y D .ready none with state:=.busy })).heap[k]?) w.heap.size (meY C mi M') (ZpR C mi M')) (Za1 { S with env:=λ_=>none,fo:=true } [] { A with slots:=[] } S'.gh [] css' tvs') m'' a3 w3:=by
    have hh:=lh.restrict (S2:={ S' with env:=λ_=>none }) rfl rfl (λ_ _ h=>h) (λ_ _ h=>.inl h) (λi sv h=>(by cases h)) lh.ids lh.tkeys
    exact Zc1 (S:={ S with env:=λ_=>none,fo:=true }) (S':={ S' with env:=λ_=>none }) (A:={ A with slots:=[] }) ⟨λi sv h=>(by cases h),hS.ids,hS.tkeys⟩ hh qf (λ_ _=>rfl) q2 q3 (by simp) g1 g2 k1 k2
   have gF:∃ms:List Nat,a1.defers=ms.map Zeu/\ms.Nodup/\∀D∈ms,w3.heap[D]?=some (.deferred (some [])):=by
    obtain⟨ms,r1,r2,r3⟩:=hr.defers
    refine⟨ms,r1,r2,λD' hD'=>?_⟩
    have hm:Zeu D'∈a1.defers:=by rw[r1];exact List.mem_map.2 ⟨_,hD',rfl⟩
    rw[y2 D' (.inr (.inr hm)),World.putObj_heap_other (λe=>by have:=r3 D' hD';rw[e,dG]at this;cases this),z2 D' (.inr (.inr hm))];exact r3 D' hD'
   obtain⟨o1,M3,o2,o3,o4,o5⟩:=hx.outOfRoundY (S2:=Za1 S [] { A with slots:=[] } S'.gh [] css' tvs') (a1:=a1) (M':=M') (m0:=m0) (r':=ZcG fn a1.tmps ps x y D .ready none) (.inr (.inl rfl)) gl rp mF (λD' hD'=>.inr (.inr hD')) (λk hk=>.inl hk) dE.mks fy j4 kP rfl rfl rfl rfl rfl (λh=>hr.fo h) cE (by
    intro i sv he
    simp only[Za1,ZbD,List.any_nil,cond_false]at he
    obtain⟨u,g3,g4⟩:=dS i sv he
    exact⟨u,ZgR g3,g4⟩) gF
   have om:l' < w3.heap.size:=(Array.getElem?_eq_some_iff.1 gl).1
   have kZ:m0.le (m''.less m0 mi):=⟨λb o v hv=>by
    rw[Mem.less_at (λhz=>by
     have h6:=ga b hz o
     rw[h5.c b o v hv]at h6;cases h6)];exact oA.c b o v hv,λb e he=>by
    rw[Mem.less_k (λ⟨e',z1,z2⟩=>by rw[he]at z2;cases z2)];exact oA.k b e he⟩
   have fP:Zjh tvs':=by
    intro u hu
    obtain⟨i,hi⟩:=List.getElem?_of_mem hu
    have bB:=(List.getElem?_eq_some_iff.1 hi).1
    obtain⟨qe,i7⟩:∃qe,A.toks[i]?=some qe:=⟨_,List.getElem?_eq_getElem (by omega)⟩
    exact(k2 i qe.1 qe.2 u i7 hi).1
   refine⟨_,_,run_endRound none gl,rfl,⟨S'.gh,css',tvs',m''.less m0 mi,g1,k1,fP,q1,kZ,o1,⟨M3,o2,o3,hl',o4,o5⟩,by omega,?_,World.putObj_heap_same om⟩,?_⟩
   ·have:((i:Int)+1).toNat=i+1:=by omega
    rw[this];exact hk
   ·refine⟨by rw[Zcf];exact y1,λk hk mH=>?_,o1.sub.less kZ⟩
    have dU:k≠l':=λe=>hl' (e ▸ mH)
    rw[World.putObj_heap_other dU,y2 k (.inl mH),World.putObj_heap_other dU,z2 k (.inl mH)]
  | _=>exact hk.elim
 | exit id=>exact hk.elim
 | goto t=>exact hk.elim
 | ret=>exact hk.elim
 | panic ch=>exact hk.elim
 | outgrown=>exact hk.elim
theorem Zmo{E:Env}{m:Mem}{F:Fence}(hF:FOk F)(kQ:YOk E C)(hR:ROk F C)(n:Nat){A:LoopAnn}{f:Operand}{ps:Array Tmp}{x y:Code}{Tx Ty:KT->St->Mem->Prop}
  (mz:ZjQ E Tx x) (mA:ZjQ E Ty y) (mB:Zbk C.n x=true) (mC:Zbk C.n y=true) (mD:ps.toList.all (Nat.blt · C.n)=true)
  {K:KT} {Q:Exit->Act->World->Prop} (hr:Rel C S m a w) (h:Zjb E A f ps.toList Tx Ty K S m) (hK:∀e S' m' a' w',K e S' m'->Rel C S' m' a' w'->Q e a' w'):(Code.rangeFunc f ps x y).wpIn F n E.P Q a w:=by
 unfold Zjb at h
 split at h
 rotate_left
 ·exact h.elim
 rename_i g first captured mm kM ic
 obtain⟨hc,Y,n0,V,R,ou,ru,eX,I,h0,hb,iO⟩:=Zah h
 simp only[Bool.and_eq_true]at hc
 have i6:S.fo=false:=by simpa using hc.1.2
 obtain⟨v,e1,_,e2⟩:=hr.ev_val kM
 simp only[St.den,Option.some.injEq]at e1
 refine wpIn_rangeFunc λfn kO=>?_
 obtain⟨l,mk,w1,D,jZ,dR,⟨M1,ip,j6⟩,dG⟩:=hr.enter (P:=E.P) hR fn ps x y
 obtain⟨a1,iP⟩:∃a1,a1=({ a with defers:=mk++a.defers }:Act):=⟨_,rfl⟩
 rw[<-iP]at dR ip
 have f9:a1.tmps=a.tmps:=by rw[iP]
 have j8:w1.heap[l]?=some (.loop (ZcG fn a1.tmps ps x y D .ready none)):=by rw[f9];exact dG
 have gc:C.me=mm:=(hr.fo i6).trans (kQ.m0 mm ic).1
 have qj:∀b,Y b->∃o,w1.heap[b]?=some o/\ZqQ o=true/\∀c T fr,o≠.cells c T fr:=λb hb=>by
  obtain⟨_,e,he⟩:=ru b hb
  obtain⟨es,cl,h1,_⟩:=dR.sub.k b e he
  exact⟨_,h1,rfl,λ_ _ _ h=>by cases h⟩
 have ut:∀b,Y b->M1 b:=λb hb=>by
  obtain⟨h1,e,he⟩:=ru b hb
  rcases ip.new.k b e he with h2|h2
  ·rw[gc,h1]at h2;cases h2
  ·exact h2
 have im:∀(b:Nat),Y b->∀c T fr,w1.heap[b]?≠some (.cells c T fr):=λb hb c T fr hh=>by
  obtain⟨o,h1,_,h2⟩:=qj b hb
  rw[h1]at hh;exact h2 c T fr (Option.some.inj hh)
 have uu:¬Y l:=λhb=>by
  obtain⟨o,h1,h2,_⟩:=qj l hb
  rw[dG]at h1;cases h1;cases h2
 have rv:C.me.le (m.off Y):=⟨λb o u hu=>by
  rw[Mem.off_at (λhb=>by
   obtain⟨c,T,fr,hh⟩:=dR.sub.isCells (dR.le.c b o u hu)
   exact im b hb c T fr hh)];exact dR.le.c b o u hu,λb e he=>by
  rw[Mem.off_k (λhb=>by
   rw[gc,(ru b hb).1]at he;cases he)];exact dR.le.k b e he⟩
 have qk:Rel C S (m.off Y) a1 w1:=dR.lessMem (Mem.off_le _ _) rv (λid x hx _ o=>Mem.off_at (λhb=>by
  obtain⟨c,T,fr,hh⟩:=(dR.own id x hx).isC
  exact im _ hb c T fr hh) o)
 have dE:Apart Y S (m.off Y) a1:=⟨λid x hx hb=>by
  obtain⟨c,T,fr,hh⟩:=(dR.own id x hx).isC
  exact im _ hb c T fr hh,λk t b ht rx hb=>by
  obtain⟨c,T,fr,hh⟩:=(dR.toks k t ht).1.isCells rx
  exact im _ hb c T fr hh,λD hD hb=>by
  obtain⟨o,g1,g2,_⟩:=qj D hb
  rw[dR.markAt hD]at g1;cases g1;exact(by cases g2),λb o u hu hb=>(by
  rw[Mem.off_free hb]at hu;cases hu),λb e he hb=>(by
  rw[Mem.off_kn hb]at he;cases he)⟩
 refine⟨l,mk,w1,{ target:=.fn (.func g) captured,args:=first++#[.func (.yield l) #[] #[]] },w1,g,(first.toList++.func (.yield l) #[] #[]::captured.toList).toArray,w1,jZ,?_,λf' _=>hF.fn f',?_,λhs=>by rw[hF.depth]at hs;simp at hs,?_⟩
 ·simp only[resolve,e2,<-e1,Deferred.ofValue]
  simp[go_sem]
 ·have fQ:first++#[Value.func (.yield l) #[] #[]]++captured=(first.toList++Value.func (.yield l) #[] #[]::captured.toList).toArray:=Array.ext' (by simp)
  simp only[invoke,fQ]
  exact ou.1 _ _
 ·obtain⟨css,g1,g2,h0⟩:=Zcn h0
  obtain⟨tvs,k1,k2,hI⟩:=Zbz h0
  have fP:Zjh tvs:=by
   intro u hu
   obtain⟨i,hi⟩:=List.getElem?_of_mem hu
   have bB:=(List.getElem?_eq_some_iff.1 hi).1
   obtain⟨qe,i7⟩:∃qe,A.toks[i]?=some qe:=⟨_,List.getElem?_eq_getElem (by omega)⟩
   exact(k2 i qe.1 qe.2 u i7 hi).1
  have mI:Rel C (Za1 S [] { A with slots:=[] } S.gh [] css tvs) (m.off Y) a1 w1:=Zc1 qk.ok qk rfl (SameOut.refl _ _) rfl rfl (by simp) g1 g2 k1 k2
  have qi:∀id y,(Za1 S [] { A with slots:=[] } S.gh [] css tvs).L id=some y->∃id x,S.L id=some x/\x.b=y.b:=λid y hy=>by
   simp only[Za1]at hy
   rcases ZdZ hy with⟨i,x',cs,q1,q2,q3,q4⟩|⟨q1,q2⟩
   ·exact⟨id,x',q3,by rw[q4]⟩
   ·exact⟨id,y,q2,rfl⟩
  have fA:∀k t b,(Za1 S [] { A with slots:=[] } S.gh [] css tvs).tok k=some t->t.blk=some b->∃t,S.tok k=some t/\t.blk=some b:=λk t b ht hb=>by
   simp only[Za1]at ht
   rcases ZcR ht with⟨i,e,u,q1,q2,q3⟩|⟨q1,q2⟩
   ·obtain⟨_,q5⟩:=k2 i k e u q1 q2
    subst q3
    rcases q5 with q5|q5
    ·exact⟨_,q5,hb⟩
    ·simp[Tok.blk,q5]at hb
   ·exact⟨t,q2,hb⟩
  have mJ:ZqR C S (m.off Y) A I a1 l (ZcG fn a1.tmps ps x y D) 0 Y w1:=by
   refine⟨S.gh,css,tvs,m.off Y,g1,k1,fP,λ_=>rfl,Mem.le_refl _,mI,?_,Int.le_refl _,hI,j8⟩
   have j3:Dom C (Za1 S [] { A with slots:=[] } S.gh [] css tvs) (m.off Y) a1 w1 M1:=by
    refine⟨ip.p,ip.lt,λid y hy=>?_,λk t b ht hb=>?_,ip.mks,ip.new.less (Mem.off_le _ _)⟩
    ·obtain⟨id',x,q1,q2⟩:=qi id y hy
     rw[<-q2];exact ip.own id' x q1
    ·obtain⟨t',q1,q2⟩:=fA k t b ht hb
     exact ip.tok k t' b q1 q2
   refine⟨M1,j3,j6,uu,ut,⟨λid y hy hb=>?_,λk t b ht hb=>?_,dE.mks,dE.mem,dE.kn⟩⟩
   ·obtain⟨id',x,q1,q2⟩:=qi id y hy
    exact dE.box id' x q1 (q2 ▸ hb)
   ·obtain⟨t',q1,q2⟩:=fA k t b ht hb
    exact dE.tok k t' b q1 q2
  have dS:∀i sv,S.env i=some sv->∃v,S.den sv=some v/\a1.tmps[i]?=some v:=λi sv he=>dR.env i sv he
  have i9:=ZjS (E:=E) (S:=S) (m0:=m.off Y) (l:=l) (fn:=fn) (D:=D) mz mA kQ mB mC mD hr.ok i6 dR.size dS hc.2.1 hc.2.2 eX hb
  refine hF.calls ((ou.2 _ ZjR l w1 dR.sub (λb hb=>by
   obtain⟨o,q1,_,q2⟩:=qj b hb
   exact⟨(Array.getElem?_eq_some_iff.1 q1).1,λc T fr hh=>by rw[q1]at hh;exact(q2 c T fr (Option.some.inj hh)).elim⟩) mJ i9).mono ?_)
  rintro e w2 ⟨v,M2,me,rfl,bB,fO,iY,kR,jM,uv⟩
  rw[<-iP]
  obtain⟨gg,css2,tvs2,m2,y1,y2,y3,y4,y5,y6,⟨M3,y7,y8,y9,y10,y11⟩,_,rr,gm⟩:=fO
  refine⟨none,_,run_endLoop gm (by simp[ZcG]),?_⟩
  obtain⟨z1,z2⟩:=y6.orMem y7 y10 y11 y5 iY jM
  have:=ZcQ (ZcP (Zef iO y4) css2 y1) tvs2 y2 y3 m2 me y5 kR (y6.sub.le_or iY) (by simpa using rr) uv
  exact hK _ _ _ _ _ this (z1.afterRange z2 y8 gm)
end
end Go.Eng