/- The engine: a reckoner over the code of a program in Lean, with its soundness; it names no program. No condition. -/
import Derived.Test.YtgclajkldphoaaaMa
import Derived.RangeFuncNested
import Derived.RangeFuncLeaves
set_option linter.unusedVariables false
set_option linter.unusedSimpArgs false
set_option linter.unusedSectionVars false
namespace Go.Eng
open Go Go.RowKit
theorem Zdj{n:Int}(h0 : -9223372036854775808<=n)(h1:n<=9223372036854775807):IntKind.i64.wrap n=n:=by
 simp only[IntKind.wrap,IntKind.bits,IntKind.signed,Bool.true_and]
 split
 ·rename_i h;simp at h;omega
 ·rename_i h;simp at h;omega
def Zws(E:Env)(S:St)(T:TypeId)(l c:Operand)(d:Option Tmp)(K:St->Prop):Prop:=match d with
 | none=>False
 | some d=>match ZaD E T with
  | none=>False
  | some (e,j)=>match S.L d with
   | some _=>False
   | none=>wv S l λvl=>wv S c λvc=>chk (Zbi vl&&Zbi vc) ((0<=intOf vl/\intOf vl<=intOf vc/\intOf vc*j.bytes<=281474976710656/\intOf vc<=9223372036854775807)/\
     ∀b,K ((S.newL d { b:=b,cs:=(List.replicate (intOf vc).toNat j.zero.cells.toList).flatten,T:=e,cap:=(intOf vc).toNat*j.size,fz:=false,full:=true }).put (some d) (some (.sl d (intOf vl).toNat (intOf vc).toNat))))
def ZsV(E:Env)(S:St)(m:Mem)(T:TypeId)(l c:Operand)(d:Option Tmp)(K:St->Mem->Prop):Prop:=match d with
 | none=>False
 | some d=>match ZaD E T with
  | none=>False
  | some (e,j)=>wv S l λvl=>wv S c λvc=>chk (Zbi vl&&Zbi vc) ((0<=intOf vl/\intOf vl<=intOf vc/\intOf vc*j.bytes<=281474976710656/\intOf vc<=9223372036854775807)/\
     ∀b,m.free b->K (S.put (some d) (some (.v (.slice (some ⟨b,0,none⟩) (intOf vl).toNat (intOf vc).toNat)))) (m.add b (List.replicate (intOf vc).toNat j.zero.cells.toList).flatten))
def Zuj(E:Env)(d:Option Tmp):Bool:=match d with
 | none=>false
 | some d=>E.mkM d
theorem ZkQ(zs:List Value):∀(c:Nat),(List.range (c*zs.length)).map (λi=>zs.toArray[i % zs.toArray.size]!)=(List.replicate c zs).flatten
 | 0=>by simp
 | c+1=>by
  rw[Nat.add_mul,Nat.one_mul,List.replicate_succ',List.flatten_append,<-ZkQ zs c,List.range_add,List.map_append]
  congr 1
  simp only[List.flatten_cons,List.flatten_nil,List.append_nil,List.map_map]
  refine List.ext_getElem (by simp) λi h1 h2=>?_
  simp only[List.length_map,List.length_range]at h1
  simp only[List.getElem_map,List.getElem_range,Function.comp,List.size_toArray]
  rw[Nat.mul_comm,Nat.mul_add_mod,Nat.mod_eq_of_lt h1]
  simp[h1]
section
variable {C:Ctx} {S:St} {m:Mem} {a:Act} {w:World}
theorem Zoc{E:Env}(hE:E.ok){T:TypeId}{l c:Operand}{d:Option Tmp}{K:St->Prop}(hd:∀t,d=some t->t < C.n)(hr:Rel C S m a w)(h:Zws E S T l c d K):
  ∃S' v w',K S'/\Rel C S' m (a.put d v) w'/\(Instr.makeSlice T (a.eval l) (a.eval c)).run E.P w=.ok v w':=by
 unfold Zws at h
 cases d with
 | none=>exact h.elim
 | some d=>
  simp only at h
  cases hs:ZaD E T with
  | none=>simp[hs]at h
  | some ej=>
   obtain⟨e,j⟩:=ej
   simp only[hs]at h
   cases hL:S.L d with
   | some x=>simp[hL]at h
   | none=>
    simp only[hL]at h
    obtain⟨vl,jP,h⟩:=Zax h
    obtain⟨vc,q6,h⟩:=Zax h
    obtain⟨h1,⟨h2,h3,h4,h5⟩,hk⟩:=Zac h
    simp only[Bool.and_eq_true]at h1
    obtain⟨kl,sw⟩:=Za7 h1.1
    obtain⟨kc,qU⟩:=Za7 h1.2
    generalize q7:intOf vl=nl at *
    generalize iL:intOf vc=nc at *
    obtain⟨i,gW,iM,mS⟩:=ZaT hs
    have dF:=hE e j mS
    have hu:=(hE T i gW).run_und (w:=w)
    rw[iM]at hu
    have bW:=dF.run_size (w:=w)
    have hz:=dF.run_zero (w:=w)
    obtain⟨x,g1,_,_,g4⟩:=dF.run_info (w:=w)
    have iD:j.zero.cells.toList.length=j.size:=by simpa using dF.zsize
    have bM:((List.replicate nc.toNat j.zero.cells.toList).flatten).length=nc.toNat*j.size:=by simp[dF.zsize]
    have hb:=hr.newBox (d:=d) hL (x:={ b:=w.heap.size,cs:=(List.replicate nc.toNat j.zero.cells.toList).flatten,T:=e,cap:=nc.toNat*j.size,fz:=false,full:=true }) (m':=m) [] rfl (by simpa using bM) (λ_=>bM) (.inl ⟨rfl,rfl⟩)
    simp only[List.append_nil]at hb
    refine⟨_,.slice (some ⟨w.heap.size,0,none⟩) nl.toNat nc.toNat,_,hk w.heap.size,hb.put (some d) hd (by simp[St.den,St.newL]),?_⟩
    rw[hr.ev jP,hr.ev q6,sw,qU]
    have w1:IntKind.i64.wrap nl=nl:=Zdj (by omega) (by omega)
    have w2:IntKind.i64.wrap nc=nc:=Zdj (by omega) (by omega)
    have vH:0<=nc:=by omega
    have c1:¬(nc < 0):=by omega
    have c2:¬(nl < 0):=by omega
    have c3:¬(nc < nl):=by omega
    have c4:¬(281474976710656 < (x.bytes:Int)*nc):=by rw[g4,Int.mul_comm];omega
    have dJ:(Array.map (λi=>(if nc.toNat*j.size=0 then(#[]:Array Value)else j.zero.cells)[i % (if nc.toNat*j.size=0 then(#[]:Array Value)else j.zero.cells).size]!) (Array.range (nc.toNat*j.size)))=(List.replicate nc.toNat j.zero.cells.toList).flatten.toArray:=by
     have:=ZkQ j.zero.cells.toList nc.toNat
     rw[iD]at this
     apply Array.ext'
     by_cases h0:nc.toNat*j.size=0
     ·have mV:(List.replicate nc.toNat j.zero.cells.toList).flatten=[]:=List.eq_nil_of_length_eq_zero (by rw[bM,h0])
      simp[h0,mV]
     ·simp only[h0,if_false,Array.toList_map,Array.toList_range]
      rw[<-this]
    by_cases h0:nc.toNat*j.size=0
    ·simp only[h0,if_true]at dJ
     simp[Instr.makeSlice,hu,asInt,asIntOf,g1,w1,w2,c1,c2,c3,c4,bW,h0,newRow,<-dJ]
    ·simp only[h0,if_false]at dJ
     simp[Instr.makeSlice,hu,asInt,asIntOf,g1,w1,w2,c1,c2,c3,c4,bW,h0,hz,newRow,<-dJ]
theorem ZmY{E:Env}(hE:E.ok){T:TypeId}{l c:Operand}{d:Option Tmp}{K:St->Mem->Prop}(hd:∀t,d=some t->t < C.n)(hr:Rel C S m a w)(h:ZsV E S m T l c d K):
  ∃S' m' v w',K S' m'/\Rel C S' m' (a.put d v) w'/\(Instr.makeSlice T (a.eval l) (a.eval c)).run E.P w=.ok v w':=by
 unfold ZsV at h
 cases d with
 | none=>exact h.elim
 | some d=>
  simp only at h
  cases hs:ZaD E T with
  | none=>simp[hs]at h
  | some ej=>
   obtain⟨e,j⟩:=ej
   simp only[hs]at h
   obtain⟨vl,jP,h⟩:=Zax h
   obtain⟨vc,q6,h⟩:=Zax h
   obtain⟨h1,⟨h2,h3,h4,h5⟩,hk⟩:=Zac h
   simp only[Bool.and_eq_true]at h1
   obtain⟨kl,sw⟩:=Za7 h1.1
   obtain⟨kc,qU⟩:=Za7 h1.2
   generalize q7:intOf vl=nl at *
   generalize iL:intOf vc=nc at *
   obtain⟨i,gW,iM,mS⟩:=ZaT hs
   have dF:=hE e j mS
   have hu:=(hE T i gW).run_und (w:=w)
   rw[iM]at hu
   have bW:=dF.run_size (w:=w)
   have hz:=dF.run_zero (w:=w)
   obtain⟨x,g1,_,_,g4⟩:=dF.run_info (w:=w)
   have iD:j.zero.cells.toList.length=j.size:=by simpa using dF.zsize
   have bM:((List.replicate nc.toNat j.zero.cells.toList).flatten).length=nc.toNat*j.size:=by simp[dF.zsize]
   have eE:∀o,m w.heap.size o=none:=λo=>by
    cases he:m w.heap.size o with
    | none=>rfl
    | some u=>have:=hr.sub.lt he;omega
   have bV:Sub (m.add w.heap.size (List.replicate nc.toNat j.zero.cells.toList).flatten) (w.alloc (.cells ((List.replicate nc.toNat j.zero.cells.toList).flatten).toArray e (0,0))):=(hr.sub.alloc _).add λo v hv=>by
     have:(w.alloc (.cells ((List.replicate nc.toNat j.zero.cells.toList).flatten).toArray e (0,0))).heap[w.heap.size]?=some (.cells ((List.replicate nc.toNat j.zero.cells.toList).flatten).toArray e (0,0)):=by show(w.heap.push _)[w.heap.size]?=_;simp
     simp only[World.cell?,this]
     simpa using hv
   have qZ:=hr.world (m':=m.add w.heap.size (List.replicate nc.toNat j.zero.cells.toList).flatten) (Keep.alloc (Nat.le_refl _) (ZkE _ _)) bV (Mem.le_add eE _) (NewM.add _ _ (Nat.le_refl _))
   refine⟨_,_,.slice (some ⟨w.heap.size,0,none⟩) nl.toNat nc.toNat,_,hk w.heap.size eE,qZ.put (some d) hd rfl,?_⟩
   rw[hr.ev jP,hr.ev q6,sw,qU]
   have w1:IntKind.i64.wrap nl=nl:=Zdj (by omega) (by omega)
   have w2:IntKind.i64.wrap nc=nc:=Zdj (by omega) (by omega)
   have vH:0<=nc:=by omega
   have c1:¬(nc < 0):=by omega
   have c2:¬(nl < 0):=by omega
   have c3:¬(nc < nl):=by omega
   have c4:¬(281474976710656 < (x.bytes:Int)*nc):=by rw[g4,Int.mul_comm];omega
   have dJ:(Array.map (λi=>(if nc.toNat*j.size=0 then(#[]:Array Value)else j.zero.cells)[i % (if nc.toNat*j.size=0 then(#[]:Array Value)else j.zero.cells).size]!) (Array.range (nc.toNat*j.size)))=(List.replicate nc.toNat j.zero.cells.toList).flatten.toArray:=by
    have:=ZkQ j.zero.cells.toList nc.toNat
    rw[iD]at this
    apply Array.ext'
    by_cases h0:nc.toNat*j.size=0
    ·have mV:(List.replicate nc.toNat j.zero.cells.toList).flatten=[]:=List.eq_nil_of_length_eq_zero (by rw[bM,h0])
     simp[h0,mV]
    ·simp only[h0,if_false,Array.toList_map,Array.toList_range]
     rw[<-this]
   by_cases h0:nc.toNat*j.size=0
   ·simp only[h0,if_true]at dJ
    simp[Instr.makeSlice,hu,asInt,asIntOf,g1,w1,w2,c1,c2,c3,c4,bW,h0,newRow,<-dJ]
   ·simp only[h0,if_false]at dJ
    simp[Instr.makeSlice,hu,asInt,asIntOf,g1,w1,w2,c1,c2,c3,c4,bW,h0,hz,newRow,<-dJ]
def frW(fr:Option Mem)(b:Nat)(p:Prop):Prop:=match fr with
 | none=>p
 | some m=>m.free b->p
theorem Zvi{fr:Option Mem}{m:Mem}{b:Nat}{p:Prop}(eP:∀m',fr=some m'->m'=m)(hf:m.free b)(h:frW fr b p):p:=by
 cases fr with
 | none=>exact h
 | some m'=>exact h (by rw[eP m' rfl];exact hf)
theorem Zrr{fr:Option Mem}{b:Nat}{p q:Prop}(h:p->q)(hx:frW fr b p):frW fr b q:=by
 cases fr with
 | none=>exact h hx
 | some m=>exact λhf=>h (hx hf)
def ZmZ(E:Env)(S:St)(fr:Option Mem)(T:TypeId)(l c:Operand)(d:Option Tmp)(key:Nat)(K:St->Prop):Prop:=match d with
 | none=>False
 | some d=>match ZaD E T with
  | none=>False
  | some (e,j)=>wv S l λvl=>wv S c λvc=>chk (Zbi vl&&Zbi vc) ((intOf vl=0/\0<=intOf vc/\intOf vc*j.bytes<=281474976710656/\intOf vc<=9223372036854775807)/\
     ∀b,frW fr b (K (({ S with tok:=λk=>bif Nat.beq k key then some ⟨.slice (some ⟨b,0,none⟩) 0 (intOf vc).toNat,j.size⟩ else S.tok k,tkeys:=key::S.tkeys }:St).put (some d) (some (.v (.slice (some ⟨b,0,none⟩) 0 (intOf vc).toNat))))))
theorem Zic{E:Env}(hE:E.ok){T:TypeId}{l c:Operand}{d:Option Tmp}{key:Nat}{K:St->Prop}{fr:Option Mem}(eP:∀m',fr=some m'->m'=m)(hd:∀t,d=some t->t < C.n)(hr:Rel C S m a w)(h:ZmZ E S fr T l c d key K):
  ∃S' v w',K S'/\Rel C S' m (a.put d v) w'/\(Instr.makeSlice T (a.eval l) (a.eval c)).run E.P w=.ok v w'/\
   (c=.const (.int .i64 0)->∃i e,E.tt T=some i/\i.d=.slice e/\v=.slice (some ⟨w.heap.size,0,none⟩) 0 0/\w'=w.alloc (.cells #[] e (0,0))):=by
 unfold ZmZ at h
 cases d with
 | none=>exact h.elim
 | some d=>
  simp only at h
  cases hs:ZaD E T with
  | none=>simp[hs]at h
  | some ej=>
   obtain⟨e,j⟩:=ej
   simp only[hs]at h
   obtain⟨vl,jP,h⟩:=Zax h
   obtain⟨vc,q6,h⟩:=Zax h
   obtain⟨h1,⟨h2,h3,h4,h5⟩,hk⟩:=Zac h
   simp only[Bool.and_eq_true]at h1
   obtain⟨kl,sw⟩:=Za7 h1.1
   obtain⟨kc,qU⟩:=Za7 h1.2
   generalize q7:intOf vl=nl at *
   generalize iL:intOf vc=nc at *
   subst h2
   obtain⟨i,gW,iM,mS⟩:=ZaT hs
   have dF:=hE e j mS
   have hu:=(hE T i gW).run_und (w:=w)
   rw[iM]at hu
   have bW:=dF.run_size (w:=w)
   have hz:=dF.run_zero (w:=w)
   obtain⟨x,g1,_,_,g4⟩:=dF.run_info (w:=w)
   have iD:j.zero.cells.toList.length=j.size:=by simpa using dF.zsize
   have bM:((List.replicate nc.toNat j.zero.cells.toList).flatten).length=nc.toNat*j.size:=by simp[dF.zsize]
   have bV:Sub m (w.alloc (.cells ((List.replicate nc.toNat j.zero.cells.toList).flatten).toArray e (0,0))):=hr.sub.alloc _
   have qZ:Rel C S m a (w.alloc (.cells ((List.replicate nc.toNat j.zero.cells.toList).flatten).toArray e (0,0))):=hr.world (Keep.alloc (Nat.le_refl _) (ZkE _ _)) bV (Mem.le_refl m) (NewM.refl _ _)
   have eE:∀o,m w.heap.size o=none:=λo=>by
    cases he:m w.heap.size o with
    | none=>rfl
    | some u=>have:=hr.sub.lt he;omega
   have bU:TokOk m (w.alloc (.cells ((List.replicate nc.toNat j.zero.cells.toList).flatten).toArray e (0,0))) ⟨.slice (some ⟨w.heap.size,0,none⟩) 0 nc.toNat,j.size⟩:=
    .inr ⟨w.heap.size,0,0,nc.toNat,((List.replicate nc.toNat j.zero.cells.toList).flatten).toArray,e,(0,0),rfl,Nat.zero_le _,by show(w.heap.push _)[w.heap.size]?=_;simp,by show 0+nc.toNat*j.size<=((List.replicate nc.toNat j.zero.cells.toList).flatten).length;rw[bM,Nat.zero_add];exact Nat.le_refl _,λo _ ho=>by simp at ho,λo _ _=>eE o⟩
   have iN:∀b,(Tok.mk (.slice (some ⟨w.heap.size,0,none⟩) 0 nc.toNat) j.size).blk=some b->b=w.heap.size:=λb hb=>by simp[Tok.blk]at hb;exact hb.symm
   have gY:=qZ.tokUpd key _ bU (λb hb=>by
    have:=iN b hb
    subst this
    refine⟨⟨λid x hx e=>?_,λo=>?_⟩,λk' t' _ hk' hb'=>?_⟩
    ·have:=(hr.own id x hx).lt;omega
    ·cases he:C.me w.heap.size o with
     | none=>rfl
     | some u=>have:=hr.sub.lt (hr.le _ _ _ he);omega
    ·have:=(hr.toks k' t' hk').1.lt hb';omega) (by
    obtain⟨M,hd'⟩:=hr.dom
    refine⟨_,hd'.step (m':=m) ((Keep.alloc (Nat.le_refl _) (ZkE _ _):Keep w.heap.size [] w _).upd (by simp)) (NewM.refl _ _),λb hb=>?_⟩
    have:=iN b hb
    subst this
    exact .inr ⟨Nat.le_refl _,by show w.heap.size < (w.heap.push _).size;simp⟩)
   have dM:=hk w.heap.size
   have gE:=Zvi eP eE dM
   refine⟨_,.slice (some ⟨w.heap.size,0,none⟩) 0 nc.toNat,_,gE,gY.put (some d) hd rfl,?_,λhc=>⟨i,e,gW,iM,?_,?_⟩⟩
   rotate_left
   ·subst hc
    have:vc=.int .i64 0:=by simpa[St.val,St.ev,St.den]using q6.symm
    subst this
    simp only[intOf]at iL;subst iL;rfl
   ·subst hc
    have:vc=.int .i64 0:=by simpa[St.val,St.ev,St.den]using q6.symm
    subst this
    simp only[intOf]at iL;subst iL;rfl
   rw[hr.ev jP,hr.ev q6,sw,qU]
   have w1:IntKind.i64.wrap 0=0:=Zdj (by omega) (by omega)
   have w2:IntKind.i64.wrap nc=nc:=Zdj (by omega) (by omega)
   have c1:¬(nc < 0):=by omega
   have c2:¬((0:Int) < 0):=by omega
   have c4:¬(281474976710656 < (x.bytes:Int)*nc):=by rw[g4,Int.mul_comm];omega
   have dJ:(Array.map (λi=>(if nc.toNat*j.size=0 then(#[]:Array Value)else j.zero.cells)[i % (if nc.toNat*j.size=0 then(#[]:Array Value)else j.zero.cells).size]!) (Array.range (nc.toNat*j.size)))=((List.replicate nc.toNat j.zero.cells.toList).flatten).toArray:=by
    have:=ZkQ j.zero.cells.toList nc.toNat
    rw[iD]at this
    apply Array.ext'
    by_cases h0:nc.toNat*j.size=0
    ·have mV:(List.replicate nc.toNat j.zero.cells.toList).flatten=[]:=List.eq_nil_of_length_eq_zero (by rw[bM,h0])
     simp[h0,mV]
    ·simp only[h0,if_false,Array.toList_map,Array.toList_range]
     rw[<-this]
   by_cases h0:nc.toNat*j.size=0
   ·simp only[h0,if_true]at dJ
    simp[Instr.makeSlice,hu,asInt,asIntOf,g1,w1,w2,c1,c2,c4,bW,h0,newRow,<-dJ]
   ·simp only[h0,if_false]at dJ
    simp[Instr.makeSlice,hu,asInt,asIntOf,g1,w1,w2,c1,c2,c4,bW,h0,hz,newRow,<-dJ]
theorem Rel.freeze(h:Rel C S m a w){id:Nat}{x:Box}(hx:S.L id=some x)(n:Nat)(hn:∃cells T fr,w.heap[x.b]?=some (.cells cells T fr)/\cells.size=n):Rel C S m a (w.freeze ⟨x.b,n,none⟩ 1):=by
 obtain⟨sp,fr,hh,hc,hf⟩:=(h.own id x hx).cells
 obtain⟨cells,T,fr',hh',zC⟩:=hn
 rw[hh]at hh'
 simp only[Option.some.injEq,Obj.cells.injEq]at hh'
 obtain⟨e1,_,_⟩:=hh'
 have dB:n=x.cap:=by rw[<-zC,<-e1];simpa using hc
 have bP:∀k,k≠x.b->(w.freeze ⟨x.b,n,none⟩ 1).heap[k]?=w.heap[k]?:=λk hk=>by
  simp only[World.freeze,Nat.one_ne_zero,if_false,Array.getElem?_modify]
  rw[if_neg (by simpa using Ne.symm hk)]
 have c7:∃fr',(w.freeze ⟨x.b,n,none⟩ 1).heap[x.b]?=some (.cells (x.cs++sp).toArray x.T fr')/\(fr'.1=fr'.2\/x.cap<=fr'.1):=by
  obtain⟨lo,hi⟩:=fr
  refine⟨if lo == hi then(n,n+1)else(min lo n,max hi (n+1)),?_,?_⟩
  ·simp only[World.freeze,Nat.one_ne_zero,if_false,Array.getElem?_modify,if_true,hh,Option.map_some]
  ·split
   ·right;simp only;omega
   ·rename_i cT
    simp only at hf
    rcases hf with hf|hf
    ·simp[hf]at cT
    ·right;simp only;omega
 obtain⟨fr2,c7,pA⟩:=c7
 have cM:∀(b o:Nat),(w.freeze ⟨x.b,n,none⟩ 1).cell? ⟨b,o,none⟩=w.cell? ⟨b,o,none⟩:=λb o=>by
  by_cases hb:b=x.b
  ·subst hb;simp only[World.cell?,c7,hh]
  ·exact ZcE (bP b hb) o
 have sS:(w.freeze ⟨x.b,n,none⟩ 1).os=w.os/\(w.freeze ⟨x.b,n,none⟩ 1).tape=w.tape/\(w.freeze ⟨x.b,n,none⟩ 1).output=w.output/\(w.freeze ⟨x.b,n,none⟩ 1).heap.size=w.heap.size:=by
  simp[World.freeze]
 have:=h.upd (w':=w.freeze ⟨x.b,n,none⟩ 1) (m':=m) (L':=S.L) [x.b] ⟨sS.1,sS.2.1,sS.2.2.1,by omega,λk _ hk=>bP k (by simpa using hk),λk hk=>by
  by_cases iJ:k=x.b
  ·subst iJ
   intro c1 T1 fr1 vI i hi kP
   rw[c7]at vI
   simp only[Option.some.injEq,Obj.cells.injEq]at vI
   obtain⟨rfl,rfl,rfl⟩:=vI
   have:i < x.cap:=by rw[<-hc];simpa using hi
   omega
  ·exact hk.of_eq (bP k iJ)⟩ (h.sub.wr1 (h.own id x hx).isC bP (λ_ _ h=>h) λb o v hv=>by rw[cM];exact h.sub b o v hv) (Mem.le_refl m) (NewM.refl _ _) (λ_=>rfl)
  (λi y hy=>by
   by_cases hi:i=id
   ·subst hi
    rw[hx]at hy;cases hy
    have ho:=(h.own _ x hx)
    exact .inr ⟨⟨sp,fr2,c7,hc,pA⟩,ho.free,ho.known,ho.whole⟩
   ·refine .inl ⟨hy,?_⟩
    simp only[List.mem_singleton]
    exact λe=>hi (h.apart i id y x hy hx e))
  (λb hb=>⟨id,x,hx,by simp at hb;exact hb.symm⟩)
 exact this
theorem Zd9{P:Program}{w:World}(b o:Nat){cells:Array Value}{T:TypeId}{fr:Nat×Nat}(h:w.heap[b]?=some (.cells cells T fr)):
  (markStringish ⟨b,o,none⟩).run P w=.ok () (w.freeze ⟨b,cells.size,none⟩ 1):=by
 simp[markStringish,World.shape?,h]
end
def ZaM(s:ByteArray):List Value:=s.data.toList.map λb=>.int .u8 b.toNat
def Zdy(E:Env)(s d:TypeId):Bool:=Zgc E s&&(match ZaD E d with
 | none=>false
 | some (_,j)=>match j.d with
  | .int .u8=>true
  | _=>false)
def ZyF(S:St)(m:Mem)(x:Operand)(d:Option Tmp)(K:St->Mem->Prop):Prop:=
 wv S x λv=>chk (ZlW v) (∀(b c:Nat),m.free b->(ZcL v).size<=c->K (S.put d (some (.v (.slice (some ⟨b,0,none⟩) (ZcL v).size c)))) (m.add b (ZaM (ZcL v))))
section
variable {C:Ctx} {S:St} {m:Mem} {a:Act} {w:World}
theorem Zod{E:Env}(hE:E.ok){s d:TypeId}(fK:Zdy E s d=true){x:Operand}{t:Option Tmp}{K:St->Mem->Prop}(hd:∀t',t=some t'->t' < C.n)(hr:Rel C S m a w)(h:ZyF S m x t K):
  ∃S' m' v w',K S' m'/\Rel C S' m' (a.put t v) w'/\(convert s d (a.eval x)).run E.P w=.ok v w':=by
 unfold ZyF at h
 obtain⟨v,hv,h⟩:=Zax h
 obtain⟨h1,hk⟩:=Zac h
 have he:=hr.ev hv
 have dS:=Zdv h1
 generalize ZcL v=bs at *
 subst dS
 unfold Zdy at fK
 rw[Bool.and_eq_true]at fK
 obtain⟨i,hi,cS⟩:=Zhf fK.1
 have fK:=fK.2
 cases hs:ZaD E d with
 | none=>simp[hs]at fK
 | some ej=>
  obtain⟨e,j⟩:=ej
  simp only[hs]at fK
  obtain⟨k,gA,iO,oO⟩:=ZaT hs
  have jE:j.d=.int .u8:=by
   cases jE:j.d with
   | int kk=>cases kk <;> simp[jE]at fK <;> rfl
   | _=>simp[jE]at fK
  have q8:=(hE s i hi).run_und (w:=w)
  rw[cS]at q8
  have uM:=(hE d k gA).run_und (w:=w)
  rw[iO]at uM
  have q9:=(hE e j oO).run_und (w:=w)
  rw[jE]at q9
  generalize dB:grownCap w bs.size 0 e=cap
  have cP:bs.size<=cap:=by rw[<-dB];exact grownCap_ge w bs.size 0 e
  have bQ:m.free w.heap.size:=λo=>by
   cases he:m w.heap.size o with
   | none=>rfl
   | some v=>have:=hr.sub.lt he;omega
  obtain⟨cells,mW⟩:∃cells,cells=(ZaM bs++List.replicate (cap - bs.size) (Value.int .u8 0)).toArray:=⟨_,rfl⟩
  obtain⟨w1,eF⟩:∃w1,w1=w.drew.alloc (.cells cells e (0,0)):=⟨_,rfl⟩
  have mJ:w1.heap[w.heap.size]?=some (.cells cells e (0,0)):=by rw[eF];exact heap_alloc_new w.drew _
  obtain⟨w2,dT⟩:∃w2,w2=w1.freeze ⟨w.heap.size,cells.size,none⟩ 1:=⟨_,rfl⟩
  have bP:∀k,k≠w.heap.size->w2.heap[k]?=w1.heap[k]?:=λk hk=>by
   rw[dT]
   simp only[World.freeze,Nat.one_ne_zero,if_false,Array.getElem?_modify]
   rw[if_neg (by simpa using Ne.symm hk)]
  have c7:∃fr',w2.heap[w.heap.size]?=some (.cells cells e fr'):=by
   rw[dT]
   simp only[World.freeze,Nat.one_ne_zero,if_false,Array.getElem?_modify,if_true,mJ,Option.map_some]
   exact⟨_,rfl⟩
  obtain⟨fr',c7⟩:=c7
  have vJ:Wr w2 w.heap.size:=by
   intro c1 T1 fr1 hh i hi
   rw[dT]at hh
   simp[World.freeze,Array.getElem?_modify,mJ]at hh
   obtain⟨rfl,rfl,rfl⟩:=hh
   simp only;omega
  have ra:Keep w.heap.size [] w w1:=(Keep.drew w).trans (by rw[eF];exact Keep.alloc (B:=w.heap.size) (w:=w.drew) (show w.heap.size<=w.drew.heap.size from Nat.le_refl _) (ZkE _ _))
  have rb:Keep w.heap.size [] w1 w2:=by
   refine⟨by rw[dT];simp[World.freeze],by rw[dT];simp[World.freeze],by rw[dT];simp[World.freeze],by rw[dT];simp[World.freeze],λk hk _=>bP k (by omega),λk hk=>?_⟩
   by_cases iJ:k=w.heap.size
   ·subst iJ;exact vJ
   ·exact hk.of_eq (bP k iJ)
  have eM:=ra.trans rb
  have gD:Sub (m.add w.heap.size (ZaM bs)) w2:=by
   refine(hr.sub.below λb' bF=>eM.block b' bF (by simp)).add λo v hv=>?_
   have bF:=(List.getElem?_eq_some_iff.1 hv).1
   simp only[World.cell?,c7,Option.isSome_none,Bool.false_eq_true,if_false,mW,List.getElem?_toArray]
   rw[List.getElem?_append_left bF,hv]
  have bJ:Rel C S (m.add w.heap.size (ZaM bs)) a w2:=hr.world eM gD (Mem.le_add bQ _) (NewM.add _ _ (Nat.le_refl _))
  refine⟨_,_,.slice (some ⟨w.heap.size,0,none⟩) bs.size cap,w2,hk w.heap.size cap bQ cP,bJ.put t hd rfl,?_⟩
  have vK:=Zd9 (P:=E.P) (w:=w1) w.heap.size 0 mJ
  have dJ:(Array.map (λb:UInt8=>Value.int .u8 (b.toNat:Int)) bs.data++Array.replicate (cap - bs.size) (Value.int .u8 0))=cells:=by
   rw[mW]
   apply Array.ext'
   simp[ZaM]
  have rc:(newRow e cells).run E.P w.drew=.ok ⟨w.heap.size,0,none⟩ w1:=by
   rw[eF];simp[newRow]
  rw[he]
  simp only[convert,Sem.run_bind,q8,Result.andThen_ok,uM,q9,Conv.stringToBytes]
  simp[Question.forced]
  rw[show(Question.appendCap bs.size 0 e).cut (w.tape w.drawn (Question.appendCap bs.size 0 e))=cap from dB,dJ,rc]
  simp only[Result.andThen_ok,vK,<-dT]
end
def Zdz(E:Env)(s d:TypeId):Bool:=Zgc E d&&(match ZaD E s with
 | none=>false
 | some (_,j)=>match j.d with
  | .int .u8=>true
  | _=>false)
def Zb5(S:St)(m:Mem)(x:Operand)(K:Value->Prop):Prop:=match S.ev x with
 | some (.sl id n c)=>match S.L id with
  | none=>False
  | some bx=>∃bs:ByteArray,Nat.beq bs.size n=true/\ZaM bs=bx.cs.take n/\K (.string bs)
 | _=>wv S x λv=>chk (ZeR v) (∃bs:ByteArray,bs.size=slN v/\rowRd m (slA v) (ZaM bs)/\K (.string bs))
def ZfI(S:St)(m:Mem)(x:Operand)(K:Value->Prop):Prop:=match S.ev x with
 | some (.v v)=>chk (ZeR v) (∃bs:ByteArray,bs.size=slN v/\rowRd m (slA v) (ZaM bs)/\K (.string bs))
 | _=>False
theorem Zj3{S:St}{m:Mem}{x:Operand}{K:Value->Prop}(h:ZfI S m x K):Zb5 S m x K:=by
 unfold ZfI at h
 unfold Zb5
 split at h
 ·rename_i v he
  simp only[he]
  unfold wv St.val
  simp only[he,St.den]
  exact h
 ·exact h.elim
def Zm0(E:Env)(S:St)(m:Mem)(x:Operand)(K:Value->Prop):Prop:=bif E.fix.isSome then ZfI S m x K else Zb5 S m x K
theorem Zqp{E:Env}{S:St}{m:Mem}{x:Operand}{K:Value->Prop}(h:Zm0 E S m x K):Zb5 S m x K:=by
 unfold Zm0 at h
 cases hf:E.fix.isSome with
 | true=>rw[hf]at h;exact Zj3 h
 | false=>rw[hf]at h;exact h
theorem Zm1{S:St}{m:Mem}{x:Operand}{k k':Value->Prop}(h:∀v,k v->k' v)(hx:ZfI S m x k):ZfI S m x k':=by
 unfold ZfI at *
 split at hx
 ·obtain⟨h1,bs,h2,h3,h4⟩:=Zac hx
  exact Zaa h1 ⟨bs,h2,h3,h _ h4⟩
 ·exact hx.elim
theorem ZcP(s:ByteArray):(ZaM s).length=s.size:=by
 unfold ZaM ByteArray.size
 rw[List.length_map,Array.length_toList]
theorem ZsW(ns:List UInt8):∀s:ByteArray,(ns.map λb:UInt8=>(b.toNat:Int)).foldl (λ(r:ByteArray)(n:Int)=>r.push (UInt8.ofNat n.toNat)) s=⟨s.data++ns.toArray⟩:=by
 induction ns with
 | nil=>intro s;simp
 | cons b l ih=>
  intro s
  rw[List.map_cons,List.foldl_cons,ih]
  congr 1
  apply Array.ext'
  simp[ByteArray.push]
theorem Zm2{P:Program}{w:World}{s d e:TypeId}{a:Option Addr}{c:Nat}{bs:ByteArray}(hs:P.underlying s=some (.slice e))(he:P.underlying e=some (.int .u8))(hd:P.underlying d=some .string)
  (cK:∀j v,(ZaM bs)[j]?=some v->∃b o,a=some ⟨b,o,none⟩/\w.cell? ⟨b,o+j,none⟩=some v):(convert s d (.slice a bs.size c)).run P w=.ok (.string bs) w:=by
 rw[run_convert_bytes_string w s d e a bs.size c hs he hd]
 cases a with
 | none=>
  have h0:ZaM bs=[]:=by
   cases h:ZaM bs with
   | nil=>rfl
   | cons v l=>obtain⟨_,_,h1,_⟩:=cK 0 v (by rw[h];rfl);cases h1
  have hb:bs.size=0:=by rw[<-ZcP,h0];rfl
  have:bs=ByteArray.empty:=by
   cases bs with
   | mk data=>
    have:data=#[]:=Array.eq_empty_of_size_eq_zero hb
    subst this;rfl
  subst this
  simp[Conv.bytesToString]
 | some a=>
  have hl:(loadCells a bs.size).run P w=.ok (((bs.data.toList.map λb:UInt8=>(b.toNat:Int))).map (Value.int .u8)).toArray w:=by
   have pB:(bs.data.toList.map λb:UInt8=>(b.toNat:Int)).map (Value.int .u8)=ZaM bs:=by simp[ZaM]
   rw[pB]
   by_cases h0:bs.size=0
   ·have:ZaM bs=[]:=List.eq_nil_of_length_eq_zero (by rw[ZcP,h0])
    rw[this,h0];rfl
   ·obtain⟨v,hv⟩:∃v,(ZaM bs)[0]?=some v:=⟨_,List.getElem?_eq_getElem (by rw[ZcP];omega)⟩
    obtain⟨b,o,ha,_⟩:=cK 0 v hv
    cases ha
    rw[<-ZcP]
    exact ZeT b o _ (λj u hu=>by obtain⟨_,_,h1,h2⟩:=cK j u hu;cases h1;exact h2)
  have gY:(⟨ByteArray.empty.data++bs.data.toList.toArray⟩:ByteArray)=bs:=by
   cases bs with
   | mk data=>
    congr 1
    apply Array.ext'
    show((#[]:Array UInt8)++data.toList.toArray).toList=data.toList
    simp
  rw[run_bytesToString w a bs.size c _ hl,ZsW,gY]
section
variable {C:Ctx} {S:St} {m:Mem} {a:Act} {w:World}
theorem Zid{E:Env}(hE:E.ok){s d:TypeId}(fK:Zdz E s d=true){x:Operand}{K:Value->Prop}(hr:Rel C S m a w)(h:Zb5 S m x K):
  ∃v,K v/\(convert s d (a.eval x)).run E.P w=.ok v w:=by
 unfold Zdz at fK
 rw[Bool.and_eq_true]at fK
 obtain⟨i,hi,cS⟩:=Zhf fK.1
 have fK:=fK.2
 cases hs:ZaD E s with
 | none=>simp[hs]at fK
 | some ej=>
  obtain⟨e,j⟩:=ej
  simp only[hs]at fK
  obtain⟨k,gA,iO,oO⟩:=ZaT hs
  have jE:j.d=.int .u8:=by
   cases jE:j.d with
   | int kk=>cases kk <;> simp[jE]at fK <;> rfl
   | _=>simp[jE]at fK
  have uM:E.P.underlying d=some .string:=by rw[(hE d i hi).und,cS]
  have q8:E.P.underlying s=some (.slice e):=by rw[(hE s k gA).und,iO]
  have q9:E.P.underlying e=some (.int .u8):=by rw[(hE e j oO).und,jE]
  have gen:∀{v:Value},S.val x=some v->(∃bs,ZeR v=true/\bs.size=slN v/\(∀j u,(ZaM bs)[j]?=some u->∃b o,slA v=some ⟨b,o,none⟩/\w.cell? ⟨b,o+j,none⟩=some u)/\K (.string bs))->∃v,K v/\(convert s d (a.eval x)).run E.P w=.ok v w:=by
   rintro v hv ⟨bs,h1,h2,h3,h4⟩
   obtain⟨ba,n,c,rfl⟩:∃ba n c,v=.slice ba n c:=⟨_,_,_,Zcl h1⟩
   simp only[slN,slA]at h2 h3
   subst h2
   exact⟨_,h4,by rw[hr.ev hv];exact Zm2 q8 q9 uM h3⟩
  unfold Zb5 at h
  split at h
  ·rename_i id n c he
   cases hL:S.L id with
   | none=>simp[hL]at h
   | some bx=>
    simp only[hL]at h
    obtain⟨bs,h1,h2,h3⟩:=h
    have h1:=Nat.eq_of_beq_eq_true h1
    refine gen (v:=.slice (some ⟨bx.b,0,none⟩) n c) (by simp[St.val,he,St.den,hL]) ⟨bs,rfl,h1,λj u hu=>⟨bx.b,0,rfl,?_⟩,h3⟩
    rw[Nat.zero_add]
    refine(hr.own id bx hL).cell ?_
    rw[h2]at hu
    rw[List.getElem?_take]at hu
    split at hu
    ·exact hu
    ·cases hu
  ·obtain⟨v,hv,h⟩:=Zax h
   obtain⟨h1,bs,h2,h3,h4⟩:=Zac h
   refine gen hv ⟨bs,h1,h2,λj u hu=>?_,h4⟩
   rcases h3 with h3|⟨b,o,h5,h6⟩
   ·rw[h3]at hu;simp at hu
   ·exact⟨b,o,h5,hr.sub _ _ _ (h6 j u hu)⟩
end
def Mem.upd(m:Mem)(b o:Nat)(vs:List Value):Mem:=⟨λb' o'=>if b'=b/\o<=o'/\o' < o+vs.length then vs[o' - o]? else m b' o',m.k⟩
theorem Mem.upd_other(m:Mem){b b':Nat}(h:b'≠b)(o:Nat)(vs:List Value)(o':Nat):m.upd b o vs b' o'=m b' o':=by
 simp only[Mem.upd];rw[if_neg (λhc=>h hc.1)]
theorem Mem.le_upd{m0 m:Mem}(h:m0.le m){b:Nat}(hb:m0.free b)(o:Nat)(vs:List Value):m0.le (m.upd b o vs):=⟨λb' o' v hv=>by
 by_cases e:b'=b
 ·subst e;rw[hb o']at hv;cases hv
 ·rw[Mem.upd_other m e];exact h _ _ _ hv,h.k⟩
def Zoe(E:Env)(x:Operand):Option Nat:=bif E.thaw then(match x with
 | .tmp t=>E.stAt t
 | _=>none)else none
def Zie(E:Env)(S:St)(m:Mem)(T:TypeId)(key:Nat)(x:Operand)(v:Value)(K:Mem->Prop):Prop:=wv S x λp=>match E.tt T with
 | none=>False
 | some i=>match S.tok key with
  | none=>match E.m0 with
   | none=>False
   | some m0=>chk (!S.fo&&ZcM p&&(Nat.beq v.cells.size i.size&&Zfn v.cells.toList)) ((∃vs:List Value,vs.length=i.size/\m.reads (ZkF p) (ZkG p) vs)/\Mem.free m0 (ZkF p)/\Nat.blt 0 i.size=true/\nfz S (ZkF p) S.ids (K (m.upd (ZkF p) (ZkG p) v.cells.toList)))
  | some t=>chk (ZcM p&&(Nat.beq v.cells.size i.size&&Zfn v.cells.toList)) (t.v=.slice (some ⟨ZkF p,0,none⟩) (slN t.v) (slC t.v)/\ZkG p+i.size<=slN t.v*t.esz/\K (m.upd (ZkF p) (ZkG p) v.cells.toList))
section
variable {C:Ctx} {S:St} {m:Mem} {a:Act} {w:World}
theorem Rel.storeOwn(hr:Rel C S m a w){b o:Nat}{vs:List Value}{cur:Array Value}{TT:TypeId}{fr:Nat×Nat}{w':World}(cN:w.heap[b]?=some (.cells cur TT fr))(fQ:Wr w b)(bW:o+vs.length<=cur.size)
  (hw':w'=w.setRow b (ZaG cur.toList o vs).toArray) (hM:∀M,Dom C S m a w M->M b) (h0:C.me.free b) (vL:∀id x,S.L id=some x->x.b≠b)
  (bU:∀k t o0 n c,S.tok k=some t->t.v=.slice (some ⟨b,o0,none⟩) n c->∀q,o<=q->q < o+vs.length->o0+n*t.esz<=q->q < o0+c*t.esz->False):Rel C S (m.upd b o vs) a w':=by
 have bP:∀k,k≠b->w'.heap[k]?=w.heap[k]?:=λk hk=>by rw[hw'];exact setRow_other w b k _ hk
 have c7:w'.heap[b]?=some (.cells (ZaG cur.toList o vs).toArray TT fr):=by rw[hw'];exact setRow_heap w b cur _ TT fr cN
 have eJ:(ZaG cur.toList o vs).length=cur.size:=by
  rw[ZbI (by rw[Array.length_toList];omega),Array.length_toList]
 have eW:∀o,o < cur.size->¬(fr.1<=o/\o < fr.2):=fQ cur TT fr cN
 have gD:Sub (m.upd b o vs) w':=by
  refine hr.sub.wr1 ⟨_,_,_,cN⟩ bP (λ_ _ h=>h) λb1 o1 u hu=>?_
  by_cases hb:b1=b
  ·subst hb
   simp only[Mem.upd,true_and]at hu
   simp only[World.cell?,c7,Option.isSome_none,Bool.false_eq_true,if_false,List.getElem?_toArray]
   have pC:o+vs.length<=cur.toList.length:=by simp;omega
   have et:(List.take o cur.toList).length=o:=by simp;simp at pC;omega
   by_cases eL:o<=o1/\o1 < o+vs.length
   ·rw[if_pos eL]at hu
    simp only[ZaG]
    rw[List.append_assoc,List.getElem?_append_right (by omega),et,List.getElem?_append_left (by omega)]
    exact hu
   ·rw[if_neg eL]at hu
    have qm:=hr.sub _ _ _ hu
    simp only[World.cell?,cN,Option.isSome_none,Bool.false_eq_true,if_false]at qm
    rw[<-Array.getElem?_toList]at qm
    simp only[ZaG]
    by_cases uN:o1 < o
    ·rw[List.append_assoc,List.getElem?_append_left (by omega),List.getElem?_take,if_pos uN];exact qm
    ·rw[List.getElem?_append_right (by simp at eL et ⊢;omega),List.getElem?_drop]
     have:o+vs.length+(o1 - (List.take o cur.toList++vs).length)=o1:=by
      rw[List.length_append,et];omega
     rw[this];exact qm
  ·rw[Mem.upd_other m hb]at hu
   rw[ZcE (bP b1 hb)];exact hr.sub _ _ _ hu
 refine⟨?_,hr.size,hr.env,λid y hy=>?_,hr.apart,hr.ids,λk t' ht'=>?_,hr.tkeys,hr.tapart,gD,Mem.le_upd hr.le h0 _ _,?_,hr.fo⟩
 ·obtain⟨ms,d1,d2,d3⟩:=hr.defers
  refine⟨ms,d1,d2,λD hD=>?_⟩
  rw[bP D (λe=>by have:=d3 D hD;rw[e,cN]at this;cases this)];exact d3 D hD
 ·have ho:=hr.own id y hy
  have cT:=vL id y hy
  exact⟨by rw[bP _ cT];exact ho.cells,λhz o1=>by rw[Mem.upd_other m cT];exact ho.free hz o1,λhz j u hu=>by rw[Mem.upd_other m cT];exact ho.known hz j u hu,ho.whole⟩
 ·obtain⟨q1,q2⟩:=hr.toks k t' ht'
  refine⟨?_,q2⟩
  by_cases dM:t'.blk=some b
  ·rcases q1 with q1|⟨b',o0,n,c,cur',TT',fr',hv,iL,hh,o9,zD,bQ⟩
   ·exact .inl q1
   obtain rfl:b'=b:=by simpa[Tok.blk,hv]using dM
   rw[cN]at hh
   simp only[Option.some.injEq,Obj.cells.injEq]at hh
   obtain⟨rfl,rfl,rfl⟩:=hh
   have cF:=bU k t' o0 n c ht' hv
   refine .inr ⟨b',o0,n,c,_,TT,fr,hv,iL,c7,by simp only[List.size_toArray,eJ];exact o9,λo1 p8=>eW o1 (by simpa only[List.size_toArray,eJ]using p8),λo1 p8 jF=>?_⟩
   simp only[Mem.upd]
   rw[if_neg (λhc=>cF o1 hc.2.1 hc.2.2 p8 jF)];exact bQ o1 p8 jF
  ·have cT:∀b1,t'.blk=some b1->b1≠b:=λb1 eQ e=>by subst e;exact dM eQ
   exact q1.same (λb1 eQ=>bP _ (cT b1 eQ)) (λb1 o1 eQ hn=>by rw[Mem.upd_other m (cT b1 eQ)];exact hn)
 ·obtain⟨M,hd⟩:=hr.dom
  have hu:Upd M w w':=⟨by rw[hw'];rfl,by rw[hw'];rfl,by rw[hw'];rfl,by rw[hw'];simp,λk hk hn=>bP k (λe=>hn (e ▸ hM M hd)),λk hk=>by
   by_cases iJ:k=b
   ·subst iJ
    intro c1 T1 fr1 hh i hi
    rw[c7]at hh
    simp only[Option.some.injEq,Obj.cells.injEq]at hh
    obtain⟨rfl,rfl,rfl⟩:=hh
    exact eW i (by simpa only[List.size_toArray,eJ]using hi)
   ·exact hk.of_eq (bP k iJ)⟩
  exact⟨_,hd.step hu ⟨λb1 o1 u su=>by
   by_cases hb:b1=b
   ·exact .inr (.inl (hb ▸ hM M hd))
   ·rw[Mem.upd_other m hb]at su;exact .inl su,λ_ _ h=>.inl h⟩⟩
theorem Zif{E:Env}{T:TypeId}{i:TI}(cA:TOk E.P T i){w:World}{b o:Nat}{v:Value}{cur:Array Value}{TT:TypeId}{fr:Nat×Nat}(cN:w.heap[b]?=some (.cells cur TT fr))(fQ:Wr w b)(bW:o+v.cells.toList.length<=cur.size)
  (h1:v.cells.size=i.size) (fJ:v.cells.all Value.oneCell'=true):(Instr.storeAt T (ptr b o) v).run E.P w=.ok () (w.setRow b (ZaG cur.toList o v.cells.toList).toArray):=by
 have sY:=Zb3 (P:=E.P) b o TT fr v.cells.toList 0 cur w cN (λo ho=>fQ cur TT fr cN o ho) (by omega) (λu hu=>by
  rw[Array.all_eq_true_iff_forall_mem]at fJ;exact fJ u (by simpa using hu))
 have bK:(storeVar T ⟨b,o,none⟩ v).run E.P w=.ok () (w.setRow b (ZaG cur.toList o v.cells.toList).toArray):=by
  have hz:=cA.run_size (w:=w)
  simp only[storeVar,Sem.run_bind,hz,Result.andThen_ok,h1,ne_eq,not_true_eq_false,if_false]
  rw[sY]
  simp[ZaG]
 simp[Instr.storeAt,Instr.sureAddr,ptr,bK]
theorem Zig{E:Env}(hE:E.ok)(hY:YOk E C){T:TypeId}{key:Nat}{x:Operand}{v:Value}{K:Mem->Prop}(hr:Rel C S m a w)(h:Zie E S m T key x v K):
  ∃m' w',K m'/\Rel C S m' a w'/\(Instr.storeAt T (a.eval x) v).run E.P w=.ok () w':=by
 unfold Zie at h
 obtain⟨p,hp,h⟩:=Zax h
 have he:=hr.ev hp
 cases ht:E.tt T with
 | none=>simp[ht]at h
 | some i=>
  simp only[ht]at h
  have cA:=hE T i ht
  cases hk:S.tok key with
  | none=>
   simp only[hk]at h
   cases dV:E.m0 with
   | none=>simp[dV]at h
   | some mm=>
    simp only[dV]at h
    obtain⟨lF,hW⟩:=hY.m0 mm dV
    obtain⟨h1,⟨us,q8,cK⟩,h3,h5,h4⟩:=Zac h
    simp only[Bool.and_eq_true,Bool.not_eq_true']at h1
    obtain⟨⟨kQ,mX⟩,sx⟩:=h1
    have h1:=And.intro mX sx
    have eU:=hr.fo kQ
    have rd:=ZcX h1.1
    generalize ZkF p=b at *
    generalize ZkG p=o at *
    have bW:=Nat.eq_of_beq_eq_true h1.2.1
    have fJ:=ZgV h1.2.2
    have bM:v.cells.toList.length=i.size:=by simpa using bW
    have jQ:0 < i.size:=by simpa[Nat.blt_eq]using h5
    obtain⟨zE,vM⟩:=Zhn h4
    obtain⟨u,hu⟩:∃u,us[i.size - 1]?=some u:=⟨_,List.getElem?_eq_getElem (by omega)⟩
    have cM:=hr.sub _ _ _ (cK _ _ hu)
    obtain⟨cur,TT,fr,cN⟩:∃c T fr,w.heap[b]?=some (.cells c T fr):=by
     unfold World.cell? at cM
     split at cM
     ·rename_i c T fr hc;exact⟨c,T,fr,hc⟩
     ·cases cM
    have dK:o+(i.size - 1) < cur.size:=by
     simp only[World.cell?,cN,Option.isSome_none,Bool.false_eq_true,if_false]at cM
     exact(Array.getElem?_eq_some_iff.1 cM).1
    have mK:∀M,Dom C S m a w M->M b:=λM hd=>by
     rcases hd.new _ _ _ (cK _ _ hu)with h6|h6
     ·rw[eU,lF,h3]at h6;cases h6
     ·exact h6
    have fQ:Wr w b:=by
     obtain⟨M,hd⟩:=hr.dom
     exact hW _ _ _ hd.p b (mK M hd)
    refine⟨_,_,zE,hr.storeOwn cN fQ (by omega) rfl mK (by rw[eU,lF];exact h3) (λid y hy e=>?_) (λk t o0 n c kJ hv q iE kR yq yr=>?_),?_⟩
    ·have ho:=hr.own id y hy
     cases hz:y.fz with
     | true=>exact vM id y (hr.ids id y hy) hy hz e
     | false=>
      have:=ho.free hz (o+(i.size - 1))
      rw[e,cK _ _ hu]at this;cases this
    ·rcases(hr.toks k t kJ).1 with q0|⟨b',o',n',c',_,_,_,hv',_,_,_,_,bQ⟩
     ·rw[hv]at q0;cases q0
     ·rw[hv]at hv'
      simp only[Value.slice.injEq,Option.some.injEq,Addr.mk.injEq,and_true]at hv'
      obtain⟨⟨rfl,rfl⟩,rfl,rfl⟩:=hv'
      have h7:=bQ _ yq yr
      obtain⟨u7,zF⟩:∃u7,us[q - o]?=some u7:=⟨us[q - o]'(by omega),List.getElem?_eq_getElem _⟩
      have h8:=cK _ _ zF
      rw[show o+(q - o)=q by omega,h7]at h8;cases h8
    ·rw[he,rd];exact Zif cA cN fQ (by omega) bW fJ
  | some t=>
   simp only[hk]at h
   obtain⟨h1,h2,h3,h4⟩:=Zac h
   simp only[Bool.and_eq_true]at h1
   have rd:=ZcX h1.1
   generalize ZkF p=b at *
   generalize ZkG p=o at *
   have bW:=Nat.eq_of_beq_eq_true h1.2.1
   have fJ:=ZgV h1.2.2
   have bM:v.cells.toList.length=i.size:=by simpa using bW
   obtain⟨g1,g2⟩:=hr.toks key t hk
   have iN:t.blk=some b:=by unfold Tok.blk;rw[h2]
   obtain⟨g2,g3⟩:=g2 b iN
   rcases g1 with g1|⟨b',o0,n,c,cur,TT,fr,hv,iL,cN,o9,eW,bQ⟩
   ·rw[g1]at h2;cases h2
   rw[hv]at h2
   simp only[Value.slice.injEq,Option.some.injEq,Addr.mk.injEq,and_true]at h2
   obtain⟨⟨rfl,rfl⟩,_,_⟩:=h2
   rw[hv]at h3
   simp only[slN]at h3
   have cF:n*t.esz<=c*t.esz:=Nat.mul_le_mul_right _ iL
   have fQ:Wr w b':=λc1 T1 fr1 hh o ho=>by
    rw[cN]at hh
    simp only[Option.some.injEq,Obj.cells.injEq]at hh
    obtain⟨rfl,rfl,rfl⟩:=hh
    exact eW o ho
   refine⟨_,_,h4,hr.storeOwn cN fQ (by omega) rfl (λM hd=>hd.tok key t b' hk iN) g3 g2 (λk t' o' n' c' kJ hv' q iE kR yq yr=>?_),?_⟩
   ·have:k=key:=hr.tapart k key t' t b' kJ hk (by simp[Tok.blk,hv']) iN
    subst this
    rw[hk]at kJ;cases kJ
    rw[hv]at hv'
    simp only[Value.slice.injEq,Option.some.injEq,Addr.mk.injEq,and_true,true_and]at hv'
    obtain⟨rfl,rfl,rfl⟩:=hv'
    omega
   ·rw[he,rd];exact Zif cA cN fQ (by omega) bW fJ
end
def Zp7(E:Env)(S:St)(m:Mem)(T:TypeId)(id:Nat)(vd vs:Value)(K:Int->St->Prop):Prop:=match ZaD E T with
 | none=>False
 | some (e,j)=>match S.L id with
  | none=>False
  | some bx=>chk (ZeR vd&&(ZeR vs&&!bx.fz)) (m.free bx.b->∃(o:Nat)(xs:List Value),slA vd=some ⟨bx.b,o,none⟩/\xs.length=min (slN vs) (slN vd)*j.size/\o+xs.length<=bx.cs.length/\(∀u∈xs,u.oneCell'=true)/\
    (rowRd m (slA vs) xs\/∃o',slA vs=some ⟨bx.b,o',none⟩/\∀i u,xs[i]?=some u->bx.cs[o'+i]?=some u)/\K ((min (slN vs) (slN vd):Nat):Int) (S.setL id (some { bx with cs:=ZaG bx.cs o xs })))
theorem Zm3{P:Program}{w:World}{m:Mem}{x:Box}(hx:Own m w x)(o:Nat)(xs:List Value)(h1:∀u∈xs,u.oneCell'=true)(hb:o+xs.length<=x.cs.length):
  ∃w',(storeCells ⟨x.b,o,none⟩ xs 0).run P w=.ok () w'/\w'.os=w.os/\w'.tape=w.tape/\w'.output=w.output/\w'.heap.size=w.heap.size/\(∀k,k≠x.b->w'.heap[k]?=w.heap[k]?)/\
   (x.fz=false->Own m w' { x with cs:=ZaG x.cs o xs }):=by
 obtain⟨sp,fr,hh,hc,hf⟩:=hx.cells
 have h3:=Zb3 (P:=P) x.b o x.T fr xs 0 _ w hh (λo ho=>by have ho':o < x.cap:=(by simpa[hc]using ho);omega) (by simp at hc ⊢;omega) h1
 have h4:(storeCells ⟨x.b,o,none⟩ xs 0).run P w=.ok () (w.setRow x.b (ZaG (x.cs++sp) o xs).toArray):=by
  rw[h3]
  simp[ZaG]
 refine⟨_,h4,rfl,rfl,rfl,by simp,λk hk=>setRow_other w x.b k _ hk,λhz=>?_⟩
 refine⟨⟨sp,fr,?_,?_,hf⟩,λ_=>hx.free hz,λhz'=>by simp[hz]at hz',λjN=>?_⟩
 ·rw[setRow_heap w x.b _ _ x.T fr hh,Zhe (by omega)]
 ·have:=ZbI (cs:=x.cs) (o:=o) (vs:=xs) (by omega)
  simp only[List.length_append]at hc ⊢
  omega
 ·have:=hx.whole jN
  show(ZaG x.cs o xs).length=x.cap
  rw[ZbI (by omega)];exact this
section
variable {C:Ctx} {S:St} {m:Mem} {a:Act} {w:World}
theorem Zof{E:Env}(hE:E.ok){T xT ty:TypeId}{id:Nat}{vd vs:Value}{K:Int->St->Prop}(hr:Rel C S m a w)(h:Zp7 E S m T id vd vs K):
  ∃n S' w',K n S'/\Rel C S' m a w'/\(Builtin.copy_ #[T,xT] ty #[vd,vs]).run E.P w=.ok (.int .i64 n) w':=by
 unfold Zp7 at h
 cases hs:ZaD E T with
 | none=>simp[hs]at h
 | some ej=>
  obtain⟨e,j⟩:=ej
  simp only[hs]at h
  cases hL:S.L id with
  | none=>simp[hL]at h
  | some bx=>
   simp only[hL]at h
   obtain⟨h1,hq⟩:=Zac h
   simp only[Bool.and_eq_true,Bool.not_eq_true']at h1
   obtain⟨o,xs,h2,h3,h4,h5,h6,hk⟩:=hq ((hr.own id bx hL).free h1.2.2)
   clear hq h
   have sZ:=Zcl h1.1
   have dS:=Zcl h1.2.1
   generalize slA vd=ad at *
   generalize slN vd=nd at *
   generalize slC vd=cd at *
   generalize slA vs=as at *
   generalize slN vs=ns at *
   generalize slC vs=cs at *
   subst sZ dS h2
   obtain⟨i,gW,iM,mS⟩:=ZaT hs
   have dF:=hE e j mS
   have hu:=(hE T i gW).run_und (w:=w)
   rw[iM]at hu
   have bW:=dF.run_size (w:=w)
   have o8:=hr.own id bx hL
   have p9:(Builtin.firstCells j.size (min ns nd) (.slice as ns cs)).run E.P w=.ok xs.toArray w:=by
    rcases h6 with h6|⟨o',h6,h7⟩
    ·exact Zbx hr.sub h6 _ _ _ _ h3
    ·subst h6
     refine run_firstCells_some w j.size _ _ ns cs xs h3 (λi u hu=>?_)
     rw[ZbZ]
     obtain⟨sp,fr,hh,_⟩:=o8.cells
     have h8:=h7 i u hu
     have h9:=(List.getElem?_eq_some_iff.1 h8).1
     simp only[World.cell?,hh,Option.isSome_none,Bool.false_eq_true,if_false,List.getElem?_toArray]
     rw[List.getElem?_append_left h9];exact h8
   obtain⟨w',bK,e1,e2,e3,e4,e5,e6⟩:=Zm3 (P:=E.P) o8 o xs h5 h4
   refine⟨_,_,w',hk,hr.store hL h1.2.2 rfl e1 e2 e3 e4 e5 (e6 h1.2.2),?_⟩
   have jR:Nat.min ns nd=min ns nd:=rfl
   simp[Builtin.copy_,hu,Builtin.lenOf,bW,jR,p9,bK,goInt]
end
def Mem.or(a b:Mem):Mem:=⟨λi o=>match a i o with
 | some v=>some v
 | none=>b i o,λi=>match a.k i with
 | some v=>some v
 | none=>b.k i⟩
theorem Mem.le_or(a b:Mem):a.le (a.or b):=⟨λi o v h=>by simp[Mem.or,h],λi v h=>by simp[Mem.or,h]⟩
theorem Mem.or_k{a b:Mem}{i:Nat}{v:List (Value×Value)}(h:(a.or b).k i=some v):a.k i=some v\/(a.k i=none/\b.k i=some v):=by
 unfold Mem.or at h
 cases ha:a.k i with
 | some u=>simp[ha]at h;exact .inl (by rw[h])
 | none=>simp[ha]at h;exact .inr ⟨rfl,h⟩
theorem Mem.or_some{a b:Mem}{i o:Nat}{v:Value}(h:a.or b i o=some v):a i o=some v\/(a i o=none/\b i o=some v):=by
 unfold Mem.or at h
 cases ha:a i o with
 | some u=>simp[ha]at h;exact .inl (by rw[h])
 | none=>simp[ha]at h;exact .inr ⟨rfl,h⟩
def MapFind(P:Program)(T:TypeId)(k:Value):List (Value×Value)->Option Value->Prop
 | [],r=>r=none
 | e::es,r=>(EqIs P T k e.1 true/\r=some e.2)\/(EqIs P T k e.1 false/\MapFind P T k es r)
def ZkR(P:Program)(T:TypeId)(k z:Value):List (Value×Value)->List (Value×Value)->Prop
 | [],r=>r=[(k,z)]
 | e::l,r=>(EqIs P T k e.1 true/\Instr.sameBits 10000 e.1 k=true/\r=(k,z)::l)\/(EqIs P T k e.1 false/\∃l',ZkR P T k z l l'/\r=e::l')
def Zwt(P:Program)(T:TypeId)(v:Value):Prop:=∀(b:Bool)(w:World),(Instr.checkKey b 10000 T v).run P w=.ok () w
def LookIs(P:Program)(T:TypeId)(k:Value)(es:List (Value×Value))(z v:Value)(ok:Bool):Prop:=∃r,MapFind P T k es r/\v=r.getD z/\ok=r.isSome
def Mem.updK(m:Mem)(b:Nat)(e:List (Value×Value)):Mem:=⟨m.c,λi=>if i=b then some e else m.k i⟩
theorem Mem.updK_same(m:Mem)(b:Nat)(e:List (Value×Value)):(m.updK b e).k b=some e:=by simp[Mem.updK]
theorem Mem.updK_other(m:Mem){b b':Nat}(h:b'≠b)(e:List (Value×Value)):(m.updK b e).k b'=m.k b':=by simp[Mem.updK,h]
theorem Mem.le_updK{m0 m:Mem}(h:m0.le m){b:Nat}(hb:m0.k b=none)(e:List (Value×Value)):m0.le (m.updK b e):=⟨h.c,λi x hx=>by
 by_cases hi:i=b
 ·subst hi;rw[hb]at hx;cases hx
 ·rw[Mem.updK_other m hi];exact h.k i x hx⟩
def Mem.newC(m mi:Mem)(b:Nat):Prop:=∃o v,mi b o=some v/\m b o=none
def Mem.newK(m mi:Mem)(b:Nat):Prop:=∃e,mi.k b=some e/\m.k b=none
noncomputable def Mem.less(m m0 mi:Mem):Mem:=⟨λb o=>open Classical in if m0.newC mi b then none else m b o,λb=>open Classical in if m0.newK mi b then none else m.k b⟩
theorem Mem.less_at{m m0 mi:Mem}{b:Nat}(h:¬m0.newC mi b)(o:Nat):m.less m0 mi b o=m b o:=by unfold Mem.less;dsimp only;rw[if_neg h]
theorem Mem.less_free{m m0 mi:Mem}{b:Nat}(h:m0.newC mi b)(o:Nat):m.less m0 mi b o=none:=by unfold Mem.less;dsimp only;rw[if_pos h]
theorem Mem.less_k{m m0 mi:Mem}{b:Nat}(h:¬m0.newK mi b):(m.less m0 mi).k b=m.k b:=by unfold Mem.less;dsimp only;rw[if_neg h]
theorem Mem.less_kn{m m0 mi:Mem}{b:Nat}(h:m0.newK mi b):(m.less m0 mi).k b=none:=by unfold Mem.less;dsimp only;rw[if_pos h]
theorem Mem.less_le(m m0 mi:Mem):(m.less m0 mi).le m:=⟨λb o v h=>by
 by_cases hz:m0.newC mi b
 ·rw[Mem.less_free hz]at h;cases h
 ·rw[Mem.less_at hz]at h;exact h,λb e h=>by
 by_cases hz:m0.newK mi b
 ·rw[Mem.less_kn hz]at h;cases h
 ·rw[Mem.less_k hz]at h;exact h⟩
theorem Sub.le_or{a b:Mem}{w:World}(ha:Sub a w)(hb:Sub b w):b.le (a.or b):=⟨λi o v h=>by
 cases he:a i o with
 | none=>simp[Mem.or,he,h]
 | some u=>
  have h1:=ha.c i o u he
  rw[hb.c i o v h]at h1
  simp[Mem.or,he,Option.some.inj h1],λi e h=>by
 cases he:a.k i with
 | none=>simp[Mem.or,he,h]
 | some u=>
  obtain⟨es,c,h1,h2⟩:=ha.k i u he
  obtain⟨es',c',h3,h4⟩:=hb.k i e h
  rw[h1]at h3;cases h3
  simp[Mem.or,he,<-h2,<-h4]⟩
def Zp8(E:Env)(T:TypeId):Option (TypeId×TI):=match E.tt T with
 | none=>none
 | some i=>match i.d with
  | .map k e=>match E.tt k,E.tt e with
   | some ki,some ei=>(match ki.d with
    | .struct _=>some (k,ei)
    | _=>none)
   | _,_=>none
  | _=>none
theorem Zl2{E:Env}{T k:TypeId}{ei:TI}(h:Zp8 E T=some (k,ei)):∃i e ki fs,E.tt T=some i/\i.d=.map k e/\E.tt k=some ki/\E.tt e=some ei/\ki.d=.struct fs:=by
 unfold Zp8 at h
 cases ht:E.tt T with
 | none=>simp[ht]at h
 | some i=>
  simp only[ht]at h
  cases hd:i.d with
  | map k' e=>
   simp only[hd]at h
   cases hk:E.tt k' with
   | none=>simp[hk]at h
   | some ki=>
    cases he:E.tt e with
    | none=>simp[hk,he]at h
    | some ei'=>
     simp only[hk,he]at h
     cases hs:ki.d with
     | struct fs=>
      simp only[hs,Option.some.injEq,Prod.mk.injEq]at h
      obtain⟨rfl,rfl⟩:=h
      exact⟨i,e,ki,fs,rfl,hd,hk,he,hs⟩
     | _=>simp[hs]at h
  | _=>simp[hd]at h
def Zwu(E:Env)(S:St)(m:Mem)(T:TypeId)(x y:Operand)(ok:Bool)(K:Value->Prop):Prop:=wv S x λvm=>wv S y λvk=>match Zp8 E T with
 | none=>False
 | some (k,ei)=>∃(b:Nat) (es:List (Value×Value)) (v:Value) (o:Bool),vm=.map (some b)/\m.k b=some es/\Zwt E.P k vk/\LookIs E.P k vk es ei.zero v o/\K (bif ok then .tuple #[v,.bool o]else v)
def ZsX(E:Env)(S:St)(m:Mem)(T:TypeId)(x y z:Operand)(K:Mem->Prop):Prop:=wv S x λvm=>wv S y λvk=>wv S z λvz=>match Zp8 E T with
 | none=>False
 | some (k,_)=>match E.m0 with
  | none=>False
  | some m0=>chk (!S.fo) (∃(b:Nat) (es es':List (Value×Value)),vm=.map (some b)/\m.k b=some es/\Zwt E.P k vk/\ZkR E.P k vk vz es es'/\m0.k b=none/\K (m.updK b es'))
def Zvj(S:St)(m:Mem)(r:Option Operand)(d:Option Tmp)(K:St->Mem->Prop):Prop:=match r with
 | some _=>False
 | none=>∀b,m.free b->m.k b=none->K (S.put d (some (.v (.map (some b))))) (m.updK b [])
section
variable {C:Ctx} {S:St} {m:Mem} {a:Act} {w:World}
theorem Zrs{P:Program}{k:TypeId}{kv:Value}{w:World}:∀{l:List MapEntry} {r:Option Value} {i:Nat},MapFind P k kv (l.map λx=>(x.key,x.val)) r->∃q:Option (Nat×Value),(Instr.findAsking k kv l i).run P w=.ok q w/\q.map (·.2)=r
 | [],r,i,h=>⟨none,rfl,by simp only[List.map_nil,MapFind]at h;rw[h];rfl⟩
 | e::l,r,i,h=>by
  simp only[List.map_cons,MapFind]at h
  rcases h with⟨h1,rfl⟩|⟨h1,h2⟩
  ·exact⟨some (i,e.val),by simp[Instr.findAsking,h1.1 w,Result.andThen],rfl⟩
  ·obtain⟨q,h3,h4⟩:=Zrs (w:=w) (i:=i+1) h2
   exact⟨q,by simp[Instr.findAsking,h1.1 w,Result.andThen,h3],h4⟩
theorem Zog{P:Program}{k:TypeId}{fs:Array Field}{kv:Value}{w:World}{l:List MapEntry}{r:Option Value}(hu:P.underlying k=some (.struct fs))(h:MapFind P k kv (l.map λx=>(x.key,x.val)) r):
  ∃q:Option (Nat×Value),(Instr.findKey k kv l).run P w=.ok q w/\q.map (·.2)=r:=by
 obtain⟨q,h1,h2⟩:=Zrs (w:=w) (i:=0) h
 refine⟨q,?_,h2⟩
 cases l with
 | nil=>
  simp only[Instr.findAsking]at h1
  simp only[Instr.findKey,Sem.run_bind,run_underlying hu,Result.andThen,Instr.findNow]
  exact h1
 | cons e l=>
  simp only[Instr.findKey,Sem.run_bind,run_underlying hu,Result.andThen,Instr.findNow,Instr.sameNow]
  exact h1
theorem Zuk{P:Program}{k:TypeId}{kv z:Value}{w:World}:∀{l:List MapEntry} {r:List (Value×Value)} {i:Nat},ZkR P k kv z (l.map λx=>(x.key,x.val)) r->∃q:Option (Nat×Value),(Instr.findAsking k kv l i).run P w=.ok q w/\(match q with
  | none=>r=(l.map λx=>(x.key,x.val))++[(kv,z)]
  | some (j,_)=>∃(d:Nat)(e:MapEntry),j=i+d/\l[d]?=some e/\Instr.sameBits 10000 e.key kv=true/\r=(l.modify d λe=>{ e with key:=kv,val:=z }).map λx=>(x.key,x.val))
 | [],r,i,h=>⟨none,rfl,by simp only[List.map_nil,ZkR]at h;simpa using h⟩
 | e::l,r,i,h=>by
  simp only[List.map_cons,ZkR]at h
  rcases h with⟨h1,h2,rfl⟩|⟨h1,l',h2,rfl⟩
  ·exact⟨some (i,e.val),by simp[Instr.findAsking,h1.1 w,Result.andThen],0,e,by simp,by simp,h2,by simp⟩
  ·obtain⟨q,h3,h4⟩:=Zuk (w:=w) (i:=i+1) h2
   refine⟨q,by simp[Instr.findAsking,h1.1 w,Result.andThen,h3],?_⟩
   cases q with
   | none=>simp only at h4 ⊢;simp[h4]
   | some q=>
    obtain⟨j,u⟩:=q
    simp only at h4 ⊢
    obtain⟨d,e',g1,g2,g3,g4⟩:=h4
    exact⟨d+1,e',by omega,by simpa using g2,g3,by simp[g4]⟩
theorem Zqq{P:Program}{k:TypeId}{fs:Array Field}{kv z:Value}{w:World}{l:List MapEntry}{r:List (Value×Value)}(hu:P.underlying k=some (.struct fs))(h:ZkR P k kv z (l.map λx=>(x.key,x.val)) r):
  ∃q:Option (Nat×Value),(Instr.findKey k kv l).run P w=.ok q w/\(match q with
  | none=>r=(l.map λx=>(x.key,x.val))++[(kv,z)]
  | some (j,_)=>∃(e:MapEntry),l[j]?=some e/\Instr.sameBits 10000 e.key kv=true/\r=(l.modify j λe=>{ e with key:=kv,val:=z }).map λx=>(x.key,x.val)):=by
 obtain⟨q,h1,h2⟩:=Zuk (w:=w) (i:=0) h
 refine⟨q,?_,?_⟩
 ·cases l with
  | nil=>
   simp only[Instr.findAsking]at h1
   simp only[Instr.findKey,Sem.run_bind,run_underlying hu,Result.andThen,Instr.findNow]
   exact h1
  | cons e l=>
   simp only[Instr.findKey,Sem.run_bind,run_underlying hu,Result.andThen,Instr.findNow,Instr.sameNow]
   exact h1
 ·cases q with
  | none=>exact h2
  | some q=>
   obtain⟨j,u⟩:=q
   simp only at h2 ⊢
   obtain⟨d,e,g1,g2,g3,g4⟩:=h2
   rw[Nat.zero_add]at g1
   subst g1
   exact⟨e,g2,g3,g4⟩
theorem Zoh{E:Env}(hE:E.ok)(hr:Rel C S m a w){T:TypeId}{x y:Operand}{ok:Bool}{K:Value->Prop}(h:Zwu E S m T x y ok K):∃v,K v/\(Instr.lookup T (a.eval x) (a.eval y) ok).run E.P w=.ok v w:=by
 unfold Zwu at h
 obtain⟨vm,vN,h⟩:=Zax h
 obtain⟨vk,vO,h⟩:=Zax h
 cases hm:Zp8 E T with
 | none=>simp[hm]at h
 | some q=>
  obtain⟨k,ei⟩:=q
  simp only[hm]at h
  obtain⟨b,es,v,o,rfl,h1,h2,⟨r,h3,h4,h5⟩,h6⟩:=h
  obtain⟨i,e,ki,fs,g1,g2,g3,g4,g5⟩:=Zl2 hm
  obtain⟨arr,cl,h7,h8⟩:=hr.sub.k b es h1
  refine⟨_,h6,?_⟩
  rw[hr.ev vN,hr.ev vO]
  have hu:E.P.underlying T=some (.map k e):=by rw[(hE T i g1).und,g2]
  have vP:E.P.underlying k=some (.struct fs):=by rw[(hE k ki g3).und,g5]
  obtain⟨q,h9,mX⟩:=Zog (w:=w) (l:=arr.toList) vP (by rw[h8];exact h3)
  have hz:=(hE e ei g4).run_zero (w:=w)
  have hg:(getObj b).run E.P w=.ok (.map arr cl) w:=MapKept.run_getObj_map h7
  simp only[Instr.lookup,Sem.run_bind,run_underlying hu,Result.andThen,hg,h2 arr.isEmpty w,h9]
  cases q with
  | none=>
   simp only[Option.map_none]at mX
   subst mX
   simp only[Option.getD_none]at h4;subst h4
   simp only[Option.isSome_none]at h5;subst h5
   cases ok <;> simp[hz,Result.andThen,h2 arr.isEmpty w,h9]
  | some q=>
   simp only[Option.map_some]at mX
   subst mX
   simp only[Option.getD_some]at h4;subst h4
   simp only[Option.isSome_some]at h5;subst h5
   cases ok <;> simp[Result.andThen,h2 arr.isEmpty w,h9]
theorem Rel.storeMap(hr:Rel C S m a w){b:Nat}{es0:Array MapEntry}{cl0:Nat}{arr:Array MapEntry}{cl:Nat}(hb:w.heap[b]?=some (.map es0 cl0))(hM:∀M,Dom C S m a w M->M b)(h0:C.me.k b=none):
  Rel C S (m.updK b (arr.toList.map λx=>(x.key,x.val))) a (w.putObj b (.map arr cl)):=by
 have bF:=(Array.getElem?_eq_some_iff.1 hb).1
 have bP:∀k,k≠b->(w.putObj b (.map arr cl)).heap[k]?=w.heap[k]?:=λk hk=>World.putObj_heap_other hk
 have c7:(w.putObj b (.map arr cl)).heap[b]?=some (.map arr cl):=World.putObj_heap_same bF
 have cM:∀(k:Nat) c T fr,w.heap[k]?=some (Obj.cells c T fr)->k≠b:=λk c T fr hk e=>by rw[e,hb]at hk;cases hk
 obtain⟨es,q1,q2,q3⟩:=hr.defers
 have pD:∀k t b',S.tok k=some t->t.blk=some b'->b'≠b:=λk t b' ht hb' e=>by
  rcases(hr.toks k t ht).1 with q0|⟨b1,o0,n,c,cur,T,fr,hv,_,hh,_⟩
  ·simp[Tok.blk,q0]at hb'
  ·simp[Tok.blk,hv]at hb';subst hb';exact cM _ _ _ _ hh e
 refine⟨⟨es,q1,q2,λD hD=>?_⟩,hr.size,hr.env,λid x hx=>?_,hr.apart,hr.ids,λk t ht=>?_,hr.tkeys,hr.tapart,⟨λb' o v hv=>?_,λb' e he=>?_⟩,Mem.le_updK hr.le h0 _,?_,hr.fo⟩
 ·rw[bP D (λe=>by have:=q3 D hD;rw[e,hb]at this;cases this)];exact q3 D hD
 ·have ho:=hr.own id x hx
  obtain⟨c,T,fr,hh⟩:=ho.isC
  exact⟨by rw[bP _ (cM _ _ _ _ hh)];exact ho.cells,ho.free,ho.known,ho.whole⟩
 ·obtain⟨g1,g2⟩:=hr.toks k t ht
  exact⟨g1.same (λb' hb'=>bP _ (pD k t b' ht hb')) (λ_ _ _ h=>h),g2⟩
 ·have h1:=hr.sub.c b' o v hv
  have h2:∃c T fr,w.heap[b']?=some (Obj.cells c T fr):=by
   unfold World.cell? at h1
   split at h1
   ·rename_i c T fr hc;exact⟨c,T,fr,hc⟩
   ·cases h1
  obtain⟨c,T,fr,hh⟩:=h2
  rw[ZcE (bP _ (cM _ _ _ _ hh))];exact h1
 ·by_cases oN:b'=b
  ·subst oN
   rw[Mem.updK_same]at he;cases he
   exact⟨arr,cl,c7,rfl⟩
  ·rw[Mem.updK_other m oN]at he
   exact(hr.sub.k b' e he).same (bP b' oN)
 ·obtain⟨M,hd⟩:=hr.dom
  have mK:=hM M hd
  have hu:Upd M w (w.putObj b (.map arr cl)):=⟨rfl,rfl,rfl,by simp[World.putObj],λk hk hn=>bP k (λe=>hn (e ▸ mK)),λk hk=>by
   by_cases iJ:k=b
   ·subst iJ
    intro c1 T1 fr1 hh i hi
    rw[c7]at hh;cases hh
   ·exact hk.of_eq (bP k iJ)⟩
  exact⟨_,hd.step hu ⟨λ_ _ _ h=>.inl h,λb' e he=>by
   by_cases oN:b'=b
   ·exact .inr (.inl (oN ▸ mK))
   ·rw[Mem.updK_other m oN]at he;exact .inl he⟩⟩
theorem Zm4{E:Env}(hE:E.ok)(hY:YOk E C)(hr:Rel C S m a w){T:TypeId}{x y z:Operand}{K:Mem->Prop}(h:ZsX E S m T x y z K):
  ∃m' w',K m'/\Rel C S m' a w'/\(Instr.mapUpdate T (a.eval x) (a.eval y) (a.eval z)).run E.P w=.ok () w':=by
 unfold ZsX at h
 obtain⟨vm,vN,h⟩:=Zax h
 obtain⟨vk,vO,h⟩:=Zax h
 obtain⟨vz,zG,h⟩:=Zax h
 cases hm:Zp8 E T with
 | none=>simp[hm]at h
 | some q=>
  obtain⟨k,ei⟩:=q
  simp only[hm]at h
  cases dV:E.m0 with
  | none=>simp[dV]at h
  | some mm=>
   simp only[dV]at h
   obtain⟨h1,b,es,es',rfl,h2,h3,h4,h5,h6⟩:=Zac h
   have kQ:S.fo=false:=by simpa using h1
   have eU:C.me=mm:=(hr.fo kQ).trans (hY.m0 mm dV).1
   obtain⟨i,e,ki,fs,g1,g2,g3,g4,g5⟩:=Zl2 hm
   obtain⟨arr,cl,h7,h8⟩:=hr.sub.k b es h2
   have hu:E.P.underlying T=some (.map k e):=by rw[(hE T i g1).und,g2]
   have vP:E.P.underlying k=some (.struct fs):=by rw[(hE k ki g3).und,g5]
   obtain⟨q,h9,mX⟩:=Zqq (w:=w) (l:=arr.toList) vP (by rw[h8];exact h4)
   have hM:∀M,Dom C S m a w M->M b:=λM hd=>by
    rcases hd.new.k b es h2 with sx|sx
    ·rw[eU,h5]at sx;cases sx
    ·exact sx
   rw[hr.ev vN,hr.ev vO,hr.ev zG]
   have hg:(getObj b).run E.P w=.ok (.map arr cl) w:=MapKept.run_getObj_map h7
   cases q with
   | none=>
    have cW:=hr.storeMap (arr:=arr.push { key:=vk,val:=vz,born:=cl }) (cl:=cl+1) h7 hM (by rw[eU];exact h5)
    have e1:(arr.push { key:=vk,val:=vz,born:=cl }).toList.map (λx=>(x.key,x.val))=es':=by simp only at mX;rw[mX];simp
    rw[e1]at cW
    refine⟨_,_,h6,cW,?_⟩
    have hs:(setObj b (.map (arr.push { key:=vk,val:=vz,born:=cl }) (cl+1))).run E.P w=.ok () (w.putObj b (.map (arr.push { key:=vk,val:=vz,born:=cl }) (cl+1))):=MapKept.run_setObj_map _ h7
    simp only[Instr.mapUpdate,Sem.run_bind,run_underlying hu,Result.andThen,hg,h3 false w,h9]
    exact hs
   | some q=>
    obtain⟨j,u⟩:=q
    simp only at mX
    obtain⟨e0,q1,q2,q3⟩:=mX
    have cW:=hr.storeMap (arr:=arr.modify j λe=>{ e with key:=vk,val:=vz }) (cl:=cl) h7 hM (by rw[eU];exact h5)
    have e1:(arr.modify j λe=>{ e with key:=vk,val:=vz }).toList.map (λx=>(x.key,x.val))=es':=by rw[q3];simp
    rw[e1]at cW
    refine⟨_,_,h6,cW,?_⟩
    have hs:(setObj b (.map (arr.modify j λe=>{ e with key:=vk,val:=vz }) cl)).run E.P w=.ok () (w.putObj b (.map (arr.modify j λe=>{ e with key:=vk,val:=vz }) cl)):=MapKept.run_setObj_map _ h7
    have hk:(Instr.keyThatStays (((arr[j]?).map (·.key)).getD vk) vk).run E.P w=.ok vk w:=by
     have:arr[j]?=some e0:=by simpa using q1
     simp[Instr.keyThatStays,this,q2]
    simp only[Instr.mapUpdate,Sem.run_bind,run_underlying hu,Result.andThen,hg,h3 false w,h9,hk]
    exact hs
theorem Zm5{E:Env}{T:TypeId}{r:Option Operand}{d:Option Tmp}(hd:∀t,d=some t->t < C.n){K:St->Mem->Prop}(hr:Rel C S m a w)(h:Zvj S m r d K):
  ∃S' m' v w',K S' m'/\Rel C S' m' (a.put d v) w'/\(Instr.makeMap T (r.map a.eval)).run E.P w=.ok v w':=by
 cases r with
 | some r=>exact h.elim
 | none=>
  have bF:∀e,m.k w.heap.size≠some e:=λe he=>by have:=(hr.sub.k _ e he).lt;omega
  have hk:m.k w.heap.size=none:=by
   cases he:m.k w.heap.size with
   | none=>rfl
   | some e=>exact(bF e he).elim
  have bQ:m.free w.heap.size:=λo=>by
   cases he:m w.heap.size o with
   | none=>rfl
   | some v=>have:=hr.sub.lt he;omega
  have h1:=h w.heap.size bQ hk
  have hs:Sub (m.updK w.heap.size []) (w.alloc (.map #[] 0)):=⟨(hr.sub.alloc _).c,λb e he=>by
   by_cases hb:b=w.heap.size
   ·subst hb
    rw[Mem.updK_same]at he;cases he
    exact⟨#[],0,heap_alloc_new w _,rfl⟩
   ·rw[Mem.updK_other m hb]at he
    exact(hr.sub.alloc _).k b e he⟩
  have hw:=hr.world (w':=w.alloc (.map #[] 0)) (m':=m.updK w.heap.size []) (Keep.alloc (Nat.le_refl _) (λc T fr e=>by cases e)) hs (Mem.le_updK (Mem.le_refl m) hk _) ⟨λ_ _ _ h=>.inl h,λb e he=>by
   by_cases hb:b=w.heap.size
   ·exact .inr (Nat.le_of_eq hb.symm)
   ·rw[Mem.updK_other m hb]at he;exact .inl he⟩
  exact⟨_,_,.map (some w.heap.size),_,h1,hw.put d hd rfl,by simp[Instr.makeMap,Result.andThen]⟩
end
def Zhq(E:Env)(s d:TypeId):Bool:=match E.tt s with
 | none=>false
 | some i=>match i.d with
  | .slice e=>Nat.beq s d&&(match E.tt e with
   | none=>false
   | some j=>match j.d with
    | .int .u8=>true
    | _=>false)
  | _=>false
def opW(E:Env)(S:St)(m:Mem)(o:Oper)(K:St->Mem->Prop):Prop:=match o.op with
 | .move x=>K (S.put o.dst (S.ev x)) m
 | .assign x=>K (S.put o.dst (S.ev x)) m
 | .pick c x y=>wv S c λv=>chk (ZhX v) (br (Zdu v) (K (S.put o.dst (S.ev x)) m) (K (S.put o.dst (S.ev y)) m))
 | .load T x=>match ZsS E o.dst with
  | none=>Zhh E S m T x λv=>K (S.put o.dst (some (.v v))) m
  | some y=>bif E.fix.isSome then False else Zhh E S m T x λv=>ldW y v λv=>K (S.put o.dst (some (.v v))) m
 | .store T x y=>wv S y λv=>match Zoe E x with
  | none=>ZhY E S T x v λS'=>K (S'.put o.dst none) m
  | some key=>bif E.fix.isSome then False else Zie E S m T key x v λm'=>K (S.put o.dst none) m'
 | .alloc T=>ZsT E S T o.dst λS'=>K S' m
 | .box T x=>wv S x λv=>bif Zhk E o.dst then(bif E.fix.isSome then False else ZyE E S m T v o.dst K)else Zz5 E S T v o.dst λS'=>K S' m
 | .buildSlice T len parts=>match Zdx E o.dst with
  | none=>Zd8 E S m T len parts.toList o.dst K
  | some ke=>bif E.fix.isSome then False else match len,parts.toList with
   | 0,[]=>ZmZ E S (some m) T (.const (.int .i64 0)) (.const (.int .i64 0)) o.dst ke.1 λS'=>K S' m
   | _,_=>False
 | .makeSlice T l c=>match Zdx E o.dst with
  | none=>bif Zuj E o.dst then(bif E.fix.isSome then False else ZsV E S m T l c o.dst K)else Zws E S T l c o.dst λS'=>K S' m
  | some ke=>bif E.fix.isSome then False else ZmZ E S none T l c o.dst ke.1 λS'=>K S' m
 | .lookup T x y ok=>Zwu E S m T x y ok λv=>K (S.put o.dst (some (.v v))) m
 | .mapUpdate T x y z=>bif E.fix.isSome||!E.thaw then False else ZsX E S m T x y z λm'=>K (S.put o.dst none) m'
 | .makeMap T r=>bif E.fix.isSome then False else Zvj S m r o.dst K
 | .convert s d x=>bif Zhq E s d then(match S.ev x with
   | some (.sl id n c)=>K (S.put o.dst (some (.sl id n c))) m
   | _=>False)
  else bif Zdy E s d then(bif E.fix.isSome then False else ZyF S m x o.dst K)
  else bif Zdz E s d then(Zm0 E S m x λv=>K (S.put o.dst (some (.v v))) m)
  else ZcN E S o λsv=>K (S.put o.dst (some sv)) m
 | .call c=>match c.callee with
  | .value f=>Zwp E o.dst S m (Zwr E o.type o.dst f c.args.toList K)
  | .builtin .append=>match c.args.toList,c.argTypes.toList,o.dst with
   | [s,x],[T,xT],some d=>Zwp E (some d) S m λS m=>wv S s λvs=>wv S x λvx=>Zgx E S m T xT (E.tokOf d) vs vx λv tk m'=>K ({ S with tok:=tk,tkeys:=E.tokOf d::S.tkeys }.put (some d) (some (.v v))) m'
   | _,_,_=>False
  | .builtin .copy=>match c.args.toList,c.argTypes.toList with
   | [d,s],[T,xT]=>(match Zgd E d with
    | none=>False
    | some id=>wv S d λvd=>wv S s λvs=>Zp7 E S m T id vd vs λn S'=>K (S'.put o.dst (some (.v (.int .i64 n)))) m)
   | _,_=>False
  | _=>ZcN E S o λsv=>K (S.put o.dst (some sv)) m
 | _=>ZcN E S o λsv=>K (S.put o.dst (some sv)) m
section
variable {C:Ctx} {S:St} {m:Mem} {a:Act} {w:World}
theorem Zih{E:Env}(hE:E.ok){o:Oper}(hd:∀t,o.dst=some t->t < C.n)(hr:Rel C S m a w){K:St->Mem->Prop}(h:ZcN E S o λsv=>K (S.put o.dst (some sv)) m){F:Fence}{n:Nat}{next:Act->World->Prop}{Q:Exit->Act->World->Prop}
  (hK:∀S' m' a' w',K S' m'->Rel C S' m' a' w'->next a' w'):o.uponIn F n E.P a next Q ((execOp a.eval o).run E.P w):=by
 obtain⟨sv,v,hk,vQ,bK⟩:=Zhg hE hr h
 rw[bK]
 exact hK _ _ _ _ hk (hr.put o.dst hd vQ)
theorem Zm6{C:Ctx}{S:St}{m:Mem}{a:Act}{w:World}{E:Env}{rt:TypeId}{g:FuncId}{args:List Value}{key esz:Nat}{K:Value->St->Mem->Prop}(hr:Rel C S m a w)(h:ZkN E S m rt g args key esz K):
  ZgW E.P g/\Calls E.P g args.toArray w λe w'=>∃v S' m',e=.returned v/\K v S' m'/\Rel C S' m' a w':=by
 obtain⟨R,h⟩:=h
 obtain⟨iK,dN,cL⟩:=ZsQ h
 refine⟨iK.1,(iK.2 w hr.sub).mono ?_⟩
 rintro e w' ⟨v,m',rfl,cF,bV,cB,eM,bU,iN,hR⟩
 have hk:=Shape.all_fits _ _ cL v (dN _ _ _ hR) m' cF hR
 have qZ:=hr.world eM bV cF cB
 refine⟨v,_,m',rfl,hk,qZ.tokUpd key ⟨v,esz⟩ bU (λb hb=>?_) ?_⟩
 ·have cP:=iN b hb
  refine⟨⟨λid x hx e=>?_,λo=>?_⟩,λk' t' _ hk' hb'=>?_⟩
  ·have:=(hr.own id x hx).lt;omega
  ·cases he:C.me b o with
   | none=>rfl
   | some u=>have:=hr.sub.lt (hr.le _ _ _ he);omega
  ·have:=(hr.toks k' t' hk').1.lt hb';omega
 ·obtain⟨M,hd⟩:=hr.dom
  refine⟨_,hd.step (m':=m') (eM.upd (by simp)) (cB.grown bV _),λb hb=>?_⟩
  exact .inr ⟨iN b hb,bU.lt hb⟩
theorem Zm7{C:Ctx}{S:St}{m:Mem}{a:Act}{w:World}{E:Env}{rt:TypeId}{g:FuncId}{args:List Value}{ids:List Nat}{ks:List (Nat×Nat)}{K:Value->St->Mem->Prop}(hY:YOk E C)(hr:Rel C S m a w)(h:ZjE E S m rt g args ids ks K):
  ZgW E.P g/\Calls E.P g args.toArray w λe w'=>∃v S' m',e=.returned v/\K v S' m'/\Rel C S' m' a w':=by
 unfold ZjE at h
 cases hb:Zb4 S ids with
 | none=>simp[hb]at h
 | some bxs=>
 simp only[hb]at h
 cases dV:E.m0 with
 | none=>simp[dV]at h
 | some mm=>
 simp only[dV]at h
 obtain⟨h1,Y,R,iK,c1,c2,dN,cL⟩:=Zac h
 simp only[Bool.and_eq_true,List.all_eq_true,Bool.not_eq_true']at h1
 obtain⟨kQ,h1⟩:=h1
 have eU:=hr.fo kQ
 obtain⟨lF,hW⟩:=hY.m0 mm dV
 obtain⟨bM,cE⟩:=ZcO hb
 obtain⟨tlen,tmem⟩:=Zj2 (S:=S) (ks:=ks)
 generalize ZgY S ks=tks at *
 have tlen:tks.length=(ks.map (·.1)).length:=by rw[List.length_map];exact tlen
 have sw:(ks.map (·.1)).length=ks.length:=List.length_map _
 generalize pE:ks.map (·.1)=kl at *
 have dI:=ZaH h1.2.1
 have lS:=ZaH h1.2.2
 have tk_of:∀t∈tks,∀b,t.blk=some b->∃k∈kl,S.tok k=some t:=λt ht b hb=>by
  obtain⟨i,hi⟩:=List.getElem?_of_mem ht
  obtain⟨k,q1,q2⟩:=tmem i t hi
  rcases q2 with q2|q2
  ·exact⟨k,List.mem_of_getElem? q1,q2⟩
  ·simp[Tok.blk,q2]at hb
 have iP:∀b,Y b->b < w.heap.size/\(∀D,w.heap[b]?≠some (.deferred D))/\C.me.free b/\(∀M,Dom C S m a w M->M b)/\(∀id x,S.L id=some x->x.b≠b)/\(∀k t,S.tok k=some t->t.blk=some b->k∈kl):=λb uO=>by
  rcases c2 b uO with⟨t,ht,dD⟩|⟨⟨q1,q1k⟩,q2,q3⟩
  ·obtain⟨k,hk,kJ⟩:=tk_of t ht b dD
   obtain⟨g1,g2⟩:=hr.toks k t kJ
   refine⟨g1.lt dD,λD e=>?_,(g2 b dD).2,λM hd=>hd.tok k t b kJ dD,(g2 b dD).1,λk' t' hk' hb'=>?_⟩
   ·rcases g1 with g1|⟨b',o0,n,c,cur,T,fr,hv,_,hh,_⟩
    ·simp[Tok.blk,g1]at dD
    ·simp[Tok.blk,hv]at dD;subst dD;rw[hh]at e;cases e
   ·rw[hr.tapart k' k t' t b hk' kJ hb' dD];exact hk
  ·rcases q2 with⟨o,v,q2⟩|⟨e0,q2⟩
   ·obtain⟨q4,q5⟩:=Zhn q3
    have hs:=hr.sub b o v q2
    refine⟨hr.sub.lt q2,λD e=>?_,by rw[eU,lF];exact q1,λM hd=>?_,λid x hx e=>?_,λk t kJ dD=>?_⟩
    ·unfold World.cell? at hs
     rw[e]at hs
     simp at hs
    ·rcases hd.new b o v q2 with h6|h6
     ·rw[eU,lF,q1]at h6;cases h6
     ·exact h6
    ·have ho:=hr.own id x hx
     cases hz:x.fz with
     | true=>exact q5 id x (hr.ids id x hx) hx hz e
     | false=>
      have:=ho.free hz o
      rw[e,q2]at this;cases this
    ·exact Classical.byContradiction λhn=>Zi9 q4 k t (hr.tkeys k t kJ) kJ hn dD
   ·have hs:=hr.sub.k b e0 q2
    obtain⟨es,cl,g1,_⟩:=hs
    refine⟨(hr.sub.k b e0 q2).lt,λD e=>?_,by rw[eU,lF];exact q1,λM hd=>?_,λid x hx e=>?_,λk t kJ dD=>?_⟩
    ·rw[e]at g1;cases g1
    ·rcases hd.new.k b e0 q2 with h6|h6
     ·rw[eU,lF,q1k]at h6;cases h6
     ·exact h6
    ·obtain⟨c,T,fr,h0⟩:=(hr.own id x hx).isC
     rw[e,g1]at h0;cases h0
    ·rcases(hr.toks k t kJ).1 with q0|⟨b',o0,n,c,cur,T,fr,hv,_,hh,_⟩
     ·simp[Tok.blk,q0]at dD
     ·simp[Tok.blk,hv]at dD;subst dD;rw[hh]at g1;cases g1
 have fH:∀x∈bxs,Own m w x/\x.fz=false/\¬Y x.b:=λx hx=>by
  obtain⟨i,hi⟩:=List.getElem?_of_mem hx
  obtain⟨id,_,hL⟩:=cE i x hi
  exact⟨hr.own id x hL,by simpa using h1.1 x hx,λhy=>(iP _ hy).2.2.2.2.1 id x hL rfl⟩
 have qT:(bxs.map (·.b)).Nodup:=Zhj hr.apart hb dI
 have oP:Zwq tks:=λi j t t' b hi hj eQ eB=>by
  obtain⟨k,q1,q2⟩:=tmem i t hi
  obtain⟨k',q3,q4⟩:=tmem j t' hj
  have q2:S.tok k=some t:=q2.resolve_right λe=>by simp[Tok.blk,e]at eQ
  have q4:S.tok k'=some t':=q4.resolve_right λe=>by simp[Tok.blk,e]at eB
  have:=hr.tapart k k' t t' b q2 q4 eQ eB
  subst this
  have hi':=(List.getElem?_eq_some_iff.1 q1).1
  exact(List.getElem?_inj (l:=kl) (i:=i) (j:=j) hi' lS).1 (by rw[q1,q3])
 refine⟨iK.1,(iK.2 w hr.sub fH qT (λt ht=>?_) oP (λb uO=>⟨(iP b uO).1,?_⟩)).mono ?_⟩
 ·refine⟨?_,c1 t ht⟩
  obtain⟨i,hi⟩:=List.getElem?_of_mem ht
  obtain⟨k,_,q2⟩:=tmem i t hi
  rcases q2 with q2|q2
  ·exact(hr.toks k t q2).1
  ·exact .inl q2
 ·obtain⟨M,hd⟩:=hr.dom
  exact hW _ _ _ hd.p b ((iP b uO).2.2.2.1 M hd)
 rintro e w' ⟨v,m',css,tvs,rfl,cF,bV,cB,hu,eJ,cR,eT,re,vR,hR⟩
 have iQ:∀u∈tvs,ZeR u=true:=λu hu=>by
  obtain⟨i,hi⟩:=List.getElem?_of_mem hu
  have bF:=(List.getElem?_eq_some_iff.1 hi).1
  exact(re i (tks[i]'(by omega)) u (List.getElem?_eq_getElem (by omega)) hi).1
 have hk:=ZlZ (Zh9 (Shape.all_fits _ _ cL v (dN _ _ _ _ hR) m' cF (cB.mono λb h=>h.imp_right λh o=>by
  cases he:m b o with
  | none=>rfl
  | some u=>have:=hr.sub.lt he;omega)) css (by omega)) tvs (by omega) iQ hR
 refine⟨v,_,m',rfl,hk,?_⟩
 have s4:∀b,b < w.heap.size->¬Y b->∀o,m b o=none->m' b o=none:=λb bF hn o ho=>by
  cases he:m' b o with
  | none=>rfl
  | some u=>
   rcases cB b o u he with h|h|h
   ·rw[ho]at h;cases h
   ·exact absurd h hn
   ·omega
 have eM:∀b,¬Y b->∀o u,m b o=some u->m' b o=some u:=λb hn o u h=>cF b o u (by rw[Mem.off_at hn];exact h)
 have sy:∀id y,(ZeU S ids bxs css).L id=some y->∃x,S.L id=some x/\x.b=y.b:=λid y hy=>by
  rcases ZfH (S:=S) dI bM (by omega:css.length=ids.length) id with⟨_,h4⟩|⟨i,x,cs,h3,h4,h5,h6⟩
  ·exact⟨y,by rw[<-h4];exact hy,rfl⟩
  ·obtain⟨id',g1,g2⟩:=cE i x h4
   rw[h3]at g1;cases g1
   rw[h6]at hy;cases hy
   exact⟨x,g2,rfl⟩
 have yt:∀id x,S.L id=some x->∃y,(ZeU S ids bxs css).L id=some y/\y.b=x.b:=λid x hx=>by
  rcases ZfH (S:=S) dI bM (by omega:css.length=ids.length) id with⟨_,h4⟩|⟨i,x',cs,h3,h4,h5,h6⟩
  ·exact⟨x,by rw[h4];exact hx,rfl⟩
  ·obtain⟨id',g1,g2⟩:=cE i x' h4
   rw[h3]at g1;cases g1
   rw[hx]at g2;cases g2
   exact⟨_,h6,rfl⟩
 have zH:∀M,Dom C S m a w M->∀b,b∈bxs.map (·.b)->M b:=λM hd b hb=>by
  obtain⟨z,hz,rfl⟩:=List.mem_map.1 hb
  obtain⟨i,hi⟩:=List.getElem?_of_mem hz
  obtain⟨id',_,g2⟩:=cE i z hi
  exact hd.own id' z g2
 have uP:∀b,b∈bxs.map (·.b)->∃id x,S.L id=some x/\x.b=b:=λb hb=>by
  obtain⟨z,hz,rfl⟩:=List.mem_map.1 hb
  obtain⟨i,hi⟩:=List.getElem?_of_mem hz
  obtain⟨id',_,g2⟩:=cE i z hi
  exact⟨id',z,g2,rfl⟩
 have lG:(ZeU S ids bxs css).env=S.env/\(ZeU S ids bxs css).ids=S.ids/\(ZeU S ids bxs css).tkeys=S.tkeys/\(ZeU S ids bxs css).gh=S.gh/\(ZeU S ids bxs css).fo=S.fo:=by rw[Zeq];exact⟨rfl,rfl,rfl,rfl,rfl⟩
 have rh:∀k t,Zp6 S.tok kl tks tvs k=some t->(k ∉ kl/\S.tok k=some t)\/∃(q:Nat)(t0:Tok)(tv:Value),kl[q]?=some k/\tks[q]?=some t0/\tvs[q]?=some tv/\t=⟨tv,t0.esz⟩:=λk t ht=>by
  rcases Zl0 (tok:=S.tok) lS tlen (by omega:tvs.length=kl.length) k with⟨q1,q2⟩|⟨q,t0,tv,q1,q2,q3,q4⟩
  ·exact .inl ⟨q1,by rw[<-q2];exact ht⟩
  ·rw[ht]at q4;cases q4
   exact .inr ⟨q,t0,tv,q1,q2,q3,rfl⟩
 refine⟨?_,hr.size,λi sv he=>?_,λid y hy=>?_,λid id' y y' hy hy' e=>?_,λid y hy=>?_,λk t ht=>?_,λk t ht=>?_,λk k' t t' b ht ht' eQ eB=>?_,bV,⟨λb o u vS=>?_,λb e vT=>?_⟩,?_,λh'=>hr.fo (by simpa only[lG.2.2.2.2]using h')⟩
 ·obtain⟨ms,q1,q2,q3⟩:=hr.defers
  refine⟨ms,q1,q2,λD hD=>?_⟩
  rw[hu.block D (Array.getElem?_eq_some_iff.1 (q3 D hD)).1 (λhm=>?_)]
  ·exact q3 D hD
  ·rcases hm with hm|hm
   ·obtain⟨id,x,g1,g2⟩:=uP D hm
    obtain⟨sp,fr,g3,_⟩:=(hr.own id x g1).cells
    have:=q3 D hD
    rw[<-g2,g3]at this;cases this
   ·exact(iP D hm).2.1 _ (q3 D hD)
 ·simp only[lG.1]at he
  obtain⟨u,q1,q2⟩:=hr.env i sv he
  refine⟨u,?_,q2⟩
  cases sv with
  | v x=>exact q1
  | loc id off=>
   simp only[St.den]at q1 ⊢
   cases hx:S.L id with
   | none=>simp[hx]at q1
   | some x=>
    obtain⟨y,g1,g2⟩:=yt id x hx
    simp only[hx]at q1
    simp only[g1,g2];exact q1
  | sl id n c=>
   simp only[St.den]at q1 ⊢
   cases hx:S.L id with
   | none=>simp[hx]at q1
   | some x=>
    obtain⟨y,g1,g2⟩:=yt id x hx
    simp only[hx]at q1
    simp only[g1,g2];exact q1
 ·rcases ZfH (S:=S) dI bM (by omega:css.length=ids.length) id with⟨h3,h4⟩|⟨i,x,cs,h3,h4,h5,h6⟩
  ·have hy':S.L id=some y:=by rw[<-h4];exact hy
   have ho:=hr.own id y hy'
   have hn:¬Y y.b:=λhh=>(iP _ hh).2.2.2.2.1 id y hy' rfl
   have cN:w'.heap[y.b]?=w.heap[y.b]?:=hu.block _ ho.lt (λhm=>by
    rcases hm with hm|hm
    ·obtain⟨z,hz,vB⟩:=List.mem_map.1 hm
     obtain⟨i,hi⟩:=List.getElem?_of_mem hz
     obtain⟨id',g1,g2⟩:=cE i z hi
     have:=hr.apart _ _ _ _ g2 hy' vB
     subst this
     exact h3 (List.mem_of_getElem? g1)
    ·exact hn hm)
   exact⟨by rw[cN];exact ho.cells,λhz o=>s4 _ ho.lt hn o (ho.free hz o),λhz j u hu=>eM _ hn _ _ (ho.known hz j u hu),ho.whole⟩
  ·simp only[h6,Option.some.injEq]at hy
   subst hy
   exact cR i x cs h4 h5
 ·obtain⟨x,g1,g2⟩:=sy id y hy
  obtain⟨x',g3,g4⟩:=sy id' y' hy'
  exact hr.apart _ _ _ _ g1 g3 (by rw[g2,g4,e])
 ·obtain⟨x,g1,g2⟩:=sy id y hy
  simp only[lG.2.1];exact hr.ids id x g1
 ·rcases rh k t ht with⟨q1,q2⟩|⟨q,t0,tv,q1,q2,q3,rfl⟩
  ·obtain⟨g1,g2⟩:=hr.toks k t q2
   have hn:∀b,t.blk=some b->¬Y b:=λb hb hh=>q1 ((iP b hh).2.2.2.2.2 k t q2 hb)
   refine⟨g1.same (λb hb=>hu.block b (g1.lt hb) (λhm=>?_)) (λb o hb=>s4 b (g1.lt hb) (hn b hb) o),λb hb=>⟨λid y hy=>?_,(g2 b hb).2⟩⟩
   ·rcases hm with hm|hm
    ·obtain⟨id,x,g3,g4⟩:=uP b hm
     exact(g2 b hb).1 id x g3 g4
    ·exact hn b hb hm
   ·obtain⟨x,g3,g4⟩:=sy id y hy
    rw[<-g4];exact(g2 b hb).1 id x g3
  ·obtain⟨g1,g2,g3⟩:=re q t0 tv q2 q3
   refine⟨g2,λb hb=>⟨λid y hy=>?_,?_⟩⟩
   ·obtain⟨x,g4,g5⟩:=sy id y hy
    rw[<-g5]
    rcases(g3 b hb).1 with h|h
    ·exact(iP b h).2.2.2.2.1 id x g4
    ·have:=(hr.own id x g4).lt;omega
   ·rcases(g3 b hb).1 with h|h
    ·exact(iP b h).2.2.1
    ·intro o
     cases he:C.me b o with
     | none=>rfl
     | some u=>have:=hr.sub.lt (hr.le _ _ _ he);omega
 ·rcases rh k t ht with⟨q1,q2⟩|⟨q,t0,tv,q1,q2,q3,rfl⟩
  ·exact List.mem_append_right _ (hr.tkeys k t q2)
  ·exact List.mem_append_left _ (List.mem_of_getElem? q1)
 ·have cross:∀(k k':Nat)(t t':Tok),(k ∉ kl/\S.tok k=some t)->(∃(q:Nat)(t0:Tok)(tv:Value),kl[q]?=some k'/\tks[q]?=some t0/\tvs[q]?=some tv/\t'=⟨tv,t0.esz⟩)->t.blk=some b->t'.blk=some b->False:=by
   rintro k k' t t' ⟨q1,q2⟩ ⟨q,t0,tv,q3,q4,q5,rfl⟩ e1 e2
   rcases((re q t0 tv q4 q5).2.2 b e2).1 with h|h
   ·exact q1 ((iP b h).2.2.2.2.2 k t q2 e1)
   ·have:=(hr.toks k t q2).1.lt e1;omega
  rcases rh k t ht with h3|h3 <;> rcases rh k' t' ht' with h4|h4
  ·exact hr.tapart k k' t t' b h3.2 h4.2 eQ eB
  ·exact(cross k k' t t' h3 h4 eQ eB).elim
  ·exact(cross k' k t' t h4 h3 eB eQ).elim
  ·obtain⟨q,t0,tv,q1,q2,q3,rfl⟩:=h3
   obtain⟨q',t0',tv',q1',q2',q3',rfl⟩:=h4
   have hz:∀(q:Nat)(t0:Tok)(tv:Value),tks[q]?=some t0->tvs[q]?=some tv->((tks.zip tvs).map λq=>(⟨q.2,q.1.esz⟩:Tok))[q]?=some ⟨tv,t0.esz⟩:=λq t0 tv h5 h6=>by
    rw[List.getElem?_map,(List.getElem?_zip_eq_some (z:=(t0,tv))).2 ⟨h5,h6⟩];rfl
   have:=vR q q' _ _ b (hz q t0 tv q2 q3) (hz q' t0' tv' q2' q3') eQ eB
   subst this
   rw[q1]at q1';cases q1';rfl
 ·refine eM b (λhh=>?_) o u (hr.le b o u vS)
  rw[(iP b hh).2.2.1 o]at vS;cases vS
 ·have h5:=hr.le.k b e vT
  by_cases hh:Y b
  ·rcases c2 b hh with⟨t,ht,dD⟩|⟨⟨q1,q1k⟩,q2,q3⟩
   ·obtain⟨k,hk,kJ⟩:=tk_of t ht b dD
    obtain⟨es,cl,g1,_⟩:=hr.sub.k b e h5
    rcases(hr.toks k t kJ).1 with q0|⟨b',o0,n,c,cur,T,fr,hv,_,zI,_⟩
    ·simp[Tok.blk,q0]at dD
    ·simp[Tok.blk,hv]at dD;subst dD;rw[zI]at g1;cases g1
   ·rw[eU,lF,q1k]at vT;cases vT
  ·exact cF.k b e (by rw[Mem.off_k hh];exact h5)
 ·obtain⟨M,hd⟩:=hr.dom
  have hu':Upd M w w':=⟨hu.os,hu.tape,hu.output,hu.size,λk hk hn=>hu.block k hk (λhm=>hn (by
   rcases hm with hm|hm
   ·exact zH M hd k hm
   ·exact(iP k hm).2.2.2.1 M hd)),hu.wr⟩
  have cW:=hd.step (m':=m') hu' ⟨λb o u h=>by
   rcases cB b o u h with h|h|h
   ·exact .inl h
   ·exact .inr (.inl ((iP b h).2.2.2.1 M hd))
   ·exact .inr (.inr ⟨h,bV.lt (by assumption)⟩),λb e h=>by
   rcases cB.k b e h with h|h|h
   ·exact .inl h
   ·exact .inr (.inl ((iP b h).2.2.2.1 M hd))
   ·exact .inr (.inr ⟨h,(bV.k b e (by assumption)).lt⟩)⟩
  refine⟨_,by simpa only[lG.2.2.2.1]using cW.p,cW.lt,λid y hy=>?_,λk t b ht hb=>?_,cW.mks,cW.new⟩
  ·obtain⟨x,g1,g2⟩:=sy id y hy
   rw[<-g2];exact cW.own id x g1
  ·rcases rh k t ht with⟨q1,q2⟩|⟨q,t0,tv,q1,q2,q3,rfl⟩
   ·exact cW.tok k t b q2 hb
   ·obtain⟨g1,g2,g3⟩:=re q t0 tv q2 q3
    rcases(g3 b hb).1 with h|h
    ·exact .inl ((iP b h).2.2.2.1 M hd)
    ·exact .inr ⟨h,g2.lt hb⟩
theorem Zqr{C:Ctx}{S:St}{m:Mem}{a:Act}{w:World}{E:Env}{rt:TypeId}{g:FuncId}{args:List Value}{K:Value->Int->Prop}(hY:YOk E C)(hr:Rel C S m a w)(h:Zzw E rt g args K S m):
  ZgW E.P g/\Calls E.P g args.toArray w λe w'=>∃v gh,e=.returned v/\K v gh/\Rel C { S with gh:=gh } m a w':=by
 unfold Zzw at h
 split at h
 ·exact h.elim
 rename_i Y fV
 obtain⟨l,xs,go,stop,kK,vU,dN,cL⟩:=h
 have yu:=hY.y Y fV
 obtain⟨M0,hd⟩:=hr.dom
 let at':Int->Int:=λj=>if j < 0 then -1 else S.gh+j
 let p:Int->(Nat->Prop)->World->Prop:=λj M w1=>C.p (at' j) (λk=>M0 k\/M k) w1/\(∀k,M k->w.heap.size<=k)/\w.heap.size<=w1.heap.size/\(∀k,M0 k->w1.heap[k]?=w.heap[k]?)/\Sub m w1
 have vV:∀b o v,m b o=some v->b < w.heap.size:=λb o v hv=>hr.sub.lt hv
 have hp:Zuf p:=by
  rintro j M M' w1 w2 ⟨h1,h2,h3,h4,h5⟩ hu hM'
  have dW:∀k,M' k->w.heap.size<=k:=λk hk=>by
   rcases hM' k hk with hk|hk
   ·exact h2 k hk
   ·exact Nat.le_trans h3 hk.1
  have cW:∀k,k < w.heap.size->w2.heap[k]?=w1.heap[k]?:=λk hk=>hu.block k (Nat.lt_of_lt_of_le hk h3) λhm=>by have:=h2 k hm;omega
  refine⟨C.st _ _ _ _ _ h1 ⟨hu.os,hu.tape,hu.output,hu.size,λk hk hn=>hu.block k hk λhm=>hn (.inr hm),hu.wr⟩ (λk hk=>?_),dW,Nat.le_trans h3 hu.size,λk hk=>by rw[cW k (hd.lt k hk)];exact h4 k hk,⟨λb o v hv=>?_,λb e he=>(h5.k b e he).same (cW b (hr.sub.k b e he).lt)⟩⟩
  ·rcases hk with hk|hk
   ·exact .inl (.inl hk)
   ·rcases hM' k hk with hk|hk
    ·exact .inl (.inr hk)
    ·exact .inr hk
  ·rw[ZcE (cW b (vV b o v hv))];exact h5 b o v hv
 have ri:p 0 (λ_=>False) w:=by
  refine⟨?_,λ_ h=>h.elim,Nat.le_refl _,λ_ _=>rfl,hr.sub⟩
  have e1:at' 0=S.gh:=by simp[at']
  have e2:(λk=>M0 k\/False)=M0:=by funext k;simp
  rw[e1]
  show C.p S.gh (λk=>M0 k\/False) w
  rw[e2];exact hd.p
 have zJ:ZlY E.P m p (λl' g v=>l'=l/\0<=g/\xs[g.toNat]?=some v):=by
  rintro F n l' j v M w1 hF s5 ⟨rfl,hj,cJ⟩ ⟨h1,h2,h3,h4,h5⟩ bV
  have e1:at' j=S.gh+((j.toNat:Nat):Int):=by
   show(if j < 0 then -1 else S.gh+j)=_
   rw[if_neg (by omega)];omega
  rw[e1]at h1
  have bF:∀k,M0 k\/M k->k < w1.heap.size:=λk hk=>by
   rcases hk with hk|hk
   ·exact Nat.lt_of_lt_of_le (hd.lt k hk) h3
   ·exact s5 k hk
  have zK:=yu F n l' _ v (λk=>M0 k\/M k) w1 hF bF (vU _ _ cJ) h1 (bV.less hr.le)
  obtain⟨fn,tmps,asg,bdy,lT,dX⟩:=zK
  refine⟨fn,tmps,asg,bdy,lT,dX.mono ?_⟩
  rintro e w2 ⟨b,rfl,sA,eP⟩
  have qq:Sub m w2:=⟨λb o v hv=>by
   rcases hd.new b o v hv with h6|h6
   ·exact eP.sub b o v h6
   ·have hb:=eP.block b (Nat.lt_of_lt_of_le (hd.lt b h6) h3) (.inl h6)
    rw[ZcE hb];exact bV b o v hv,λb e he=>by
   rcases hd.new.k b e he with h6|h6
   ·exact eP.sub.k b e h6
   ·exact(bV.k b e he).same (eP.block b (Nat.lt_of_lt_of_le (hd.lt b h6) h3) (.inl h6))⟩
  refine⟨b,rfl,⟨?_,h2,Nat.le_trans h3 eP.size,λk hk=>?_,qq⟩,⟨eP.size,λk hk hm=>eP.block k hk (.inr hm),qq⟩⟩
  ·cases b with
   | true=>
    have e2:at' (j+1)=S.gh+((j.toNat:Nat):Int)+1:=by
     show(if j+1 < 0 then -1 else S.gh+(j+1))=_
     rw[if_neg (by omega)];omega
    simp only[if_true]at sA ⊢
    rw[e2];exact sA
   | false=>
    simp only[Bool.false_eq_true,if_false]at sA ⊢
    exact sA
  ·rw[eP.block k (Nat.lt_of_lt_of_le (hd.lt k hk) h3) (.inl hk)];exact h4 k hk
 refine⟨kK.1,(kK.2 p hp w hr.sub ri zJ).mono ?_⟩
 rintro e w' ⟨v,M,rfl,s5,pF⟩
 have fin:∀j,p j M w'->Rel C { S with gh:=at' j } m a w':=by
  rintro j ⟨h1,h2,h3,h4,h5⟩
  refine hr.yielded hd (C.st _ _ _ _ _ h1 (Upd.refl _ _) λk hk=>.inl (.inl hk)) ⟨h3,λk _ hk=>h4 k hk,h5.less hr.le⟩
 have hv:go v\/stop v:=by
  rcases pF with h|h
  ·exact .inl h.1
  ·exact .inr h.1
 have hk:=Shape.all_fits _ _ cL v (dN v hv)
 rcases pF with⟨h1,h2⟩|⟨h1,h2⟩
 ·have:=fin _ h2
  have e1:at' (xs.length:Int)=S.gh+(xs.length:Int):=by
   show(if((xs.length:Nat):Int) < 0 then -1 else S.gh+((xs.length:Nat):Int))=_
   rw[if_neg (by omega)]
  rw[e1]at this
  exact⟨v,_,rfl,hk.1 h1,this⟩
 ·have:=fin _ h2
  have e1:at' (-1)=-1:=rfl
  rw[e1]at this
  exact⟨v,_,rfl,hk.2 h1,this⟩
theorem ZsY{E:Env}(hE:E.ok){F:Fence}(hF:FOk F)(hY:YOk E C){o:Oper}(hd:∀t,o.dst=some t->t < C.n)(hr:Rel C S m a w){K:St->Mem->Prop}(h:opW E S m o K){n:Nat}{next:Act->World->Prop}{Q:Exit->Act->World->Prop}
  (hK:∀S' m' a' w',K S' m'->Rel C S' m' a' w'->next a' w'):o.uponIn F n E.P a next Q ((execOp a.eval o).run E.P w):=by
 obtain⟨dst,op,type,pos,after,guard⟩:=o
 cases op with
 | move x=>exact hK _ _ _ _ h (hr.putEv' dst hd x)
 | assign x=>exact hK _ _ _ _ h (hr.putEv' dst hd x)
 | pick c x y=>
  obtain⟨v,hv,h⟩:=Zax h
  obtain⟨h1,h2⟩:=Zac h
  have he:=hr.ev hv
  obtain⟨b,rfl⟩:∃b,v=.bool b:=⟨_,Zcc h1⟩
  have bK:(execOp a.eval ⟨dst,.pick c x y,type,pos,after,guard⟩).run E.P w=.ok (.value (if b then a.eval x else a.eval y)) w:=by
   simp[execOp,he,asBool]
  rw[bK]
  simp only[Zdu]at h2
  cases b
  ·exact hK _ _ _ _ h2 (hr.putEv' dst hd y)
  ·exact hK _ _ _ _ h2 (hr.putEv' dst hd x)
 | load T x=>
  have h':∃v,K (S.put dst (some (.v v))) m/\(Instr.loadAt T (a.eval x)).run E.P w=.ok v w:=by
   simp only[opW]at h
   cases sB:ZsS E dst with
   | none=>
    simp only[sB]at h
    exact ZfG hE hr h
   | some y=>
    simp only[sB]at h
    cases cH:E.fix with
    | some f=>simp[cH]at h
    | none=>
     simp only[cH,Option.isSome_none,cond_false]at h
     obtain⟨v,hk,bK⟩:=ZfG hE hr h
     exact⟨v,Zvg hk,bK⟩
  obtain⟨v,hk,bK⟩:=h'
  have cY:(execOp a.eval ⟨dst,.load T x,type,pos,after,guard⟩).run E.P w=.ok (.value v) w:=by simp[execOp,bK]
  rw[cY]
  exact hK _ _ _ _ hk (hr.put dst hd rfl)
 | store T x y=>
  obtain⟨v,hv,h⟩:=Zax h
  have he:=hr.ev hv
  cases pG:Zoe E x with
  | none=>
   simp only[pG]at h
   obtain⟨S',w',hk,bJ,bK⟩:=ZmV hE hr h
   have cY:(execOp a.eval ⟨dst,.store T x y,type,pos,after,guard⟩).run E.P w=.ok .skip w':=by simp[execOp,he,bK]
   rw[cY]
   exact hK _ _ _ _ hk (bJ.putNone dst _)
  | some key=>
   simp only[pG]at h
   cases cH:E.fix with
   | some f=>simp[cH]at h
   | none=>
    simp only[cH,Option.isSome_none,cond_false]at h
    obtain⟨m',w',hk,bJ,bK⟩:=Zig hE hY hr h
    have cY:(execOp a.eval ⟨dst,.store T x y,type,pos,after,guard⟩).run E.P w=.ok .skip w':=by simp[execOp,he,bK]
    rw[cY]
    exact hK _ _ _ _ hk (bJ.putNone dst _)
 | alloc T=>
  simp only[opW,ZsT]at h
  cases dst with
  | none=>exact h.elim
  | some d=>
   simp only at h
   cases ht:E.tt T with
   | none=>simp[ht]at h
   | some i=>
    simp only[ht]at h
    cases hL:S.L d with
    | some x=>simp[hL]at h
    | none=>
     simp only[hL]at h
     have cA:=hE T i ht
     have hz:=cA.run_zero (w:=w)
     have iD:i.zero.cells.toList.length=i.size:=by simpa using cA.zsize
     have hb:=hr.newBox (d:=d) hL (x:={ b:=w.heap.size,cs:=i.zero.cells.toList,T:=T,cap:=i.size,fz:=false,full:=true }) (m':=m) [] rfl (by simpa using iD) (λ_=>iD) (.inl ⟨rfl,rfl⟩)
     simp only[List.append_nil,Array.toArray_toList]at hb
     have bK:(execOp a.eval ⟨some d,.alloc T,type,pos,after,guard⟩).run E.P w=.ok (.value (.pointer (some ⟨w.heap.size,0,none⟩))) (w.alloc (.cells i.zero.cells T (0,0))):=by
      simp[execOp,Instr.alloc,hz,newVar,newRow]
     rw[bK]
     exact hK _ _ _ _ (h w.heap.size) (hb.put (some d) hd (by simp[St.den,St.newL]))
 | box T x=>
  obtain⟨v,hv,h⟩:=Zax h
  have he:=hr.ev hv
  cases qr:Zhk E dst with
  | true=>
   simp only[qr,cond_true]at h
   cases cH:E.fix with
   | some f=>simp[cH]at h
   | none=>
    simp only[cH,Option.isSome_none,cond_false,ZyE]at h
    cases dst with
    | none=>exact h.elim
    | some d=>
     simp only at h
     cases ht:E.tt T with
     | none=>simp[ht]at h
     | some i=>
      simp only[ht]at h
      cases hL:S.L d with
      | some x=>simp[hL]at h
      | none=>
       simp only[hL]at h
       obtain⟨h1,h2⟩:=Zac h
       have bW:=Nat.eq_of_beq_eq_true h1
       have iD:v.cells.toList.length=i.size:=by simpa using bW
       have bQ:m.free w.heap.size:=λo=>by
        cases he:m w.heap.size o with
        | none=>rfl
        | some v=>have:=hr.sub.lt he;omega
       have hb:=hr.newBox (d:=d) hL (x:={ b:=w.heap.size,cs:=v.cells.toList,T:=T,cap:=i.size,fz:=true,full:=true }) (m':=m.add w.heap.size v.cells.toList) [] rfl (by simpa using iD) (λ_=>iD) (.inr ⟨rfl,rfl⟩)
       simp only[List.append_nil,Array.toArray_toList]at hb
       have bK:(execOp a.eval ⟨some d,.box T x,type,pos,after,guard⟩).run E.P w=.ok (.value (.pointer (some ⟨w.heap.size,0,none⟩))) (w.alloc (.cells v.cells T (0,0))):=by
        simp[execOp,he,Instr.box,newVar,newRow]
       rw[bK]
       exact hK _ _ _ _ (Zqn (h2 w.heap.size _ (Mem.le_add bQ _) (λj v hv=>by rw[Mem.add_same];simpa using hv)) bQ (λb' o u hu=>by
        by_cases e:b'=w.heap.size
        ·exact .inr e
        ·rw[Mem.add_other _ e]at hu;exact .inl hu) (by
        cases he:m.k w.heap.size with
        | none=>rfl
        | some e=>have:=(hr.sub.k _ e he).lt;omega)) (hb.put (some d) hd (by simp[St.den,St.newL]))
  | false=>
  simp only[qr,cond_false]at h
  simp only[Zz5]at h
  cases dst with
  | none=>exact h.elim
  | some d=>
   simp only at h
   cases ht:E.tt T with
   | none=>simp[ht]at h
   | some i=>
    simp only[ht]at h
    cases hL:S.L d with
    | some x=>simp[hL]at h
    | none=>
     simp only[hL]at h
     obtain⟨h1,h2⟩:=Zac h
     have bW:=Nat.eq_of_beq_eq_true h1
     have iD:v.cells.toList.length=i.size:=by simpa using bW
     have hb:=hr.newBox (d:=d) hL (x:={ b:=w.heap.size,cs:=v.cells.toList,T:=T,cap:=i.size,fz:=false,full:=true }) (m':=m) [] rfl (by simpa using iD) (λ_=>iD) (.inl ⟨rfl,rfl⟩)
     simp only[List.append_nil,Array.toArray_toList]at hb
     have bK:(execOp a.eval ⟨some d,.box T x,type,pos,after,guard⟩).run E.P w=.ok (.value (.pointer (some ⟨w.heap.size,0,none⟩))) (w.alloc (.cells v.cells T (0,0))):=by
      simp[execOp,he,Instr.box,newVar,newRow]
     rw[bK]
     exact hK _ _ _ _ (h2 w.heap.size) (hb.put (some d) hd (by simp[St.den,St.newL]))
 | buildSlice T len parts=>
  simp only[opW]at h
  cases jG:Zdx E dst with
  | some ke=>
   simp only[jG]at h
   cases cH:E.fix with
   | some f=>simp[cH]at h
   | none=>
    simp only[cH,Option.isSome_none,cond_false]at h
    split at h
    ·rename_i hp
     have s6:parts=#[]:=by rw[<-Array.toArray_toList (xs:=parts),hp]
     subst s6
     obtain⟨S',v,w',hk,bJ,_,hx⟩:=Zic hE (λm' e=>by cases e;rfl) hd hr h
     obtain⟨i,e,g1,g2,rfl,rfl⟩:=hx rfl
     have hu:=(hE T i g1).run_und (w:=w)
     rw[g2]at hu
     have bW:∃n,(Go.sizeOf e).run E.P w=.ok n w:=by
      unfold ZmZ at h
      cases dst with
      | none=>exact h.elim
      | some d=>
       simp only at h
       cases hs:ZaD E T with
       | none=>simp[hs]at h
       | some ej=>
        obtain⟨e',j⟩:=ej
        obtain⟨i',q1,q2,q3⟩:=ZaT hs
        rw[g1]at q1;cases q1
        rw[g2]at q2;cases q2
        exact⟨_,(hE _ j q3).run_size (w:=w)⟩
     obtain⟨n0,bW⟩:=bW
     have bK:(execOp a.eval ⟨dst,.buildSlice T 0 #[],type,pos,after,guard⟩).run E.P w=.ok (.value (.slice (some ⟨w.heap.size,0,none⟩) 0 0)) (w.alloc (.cells #[] e (0,0))):=by
      simp[execOp,Instr.buildSlice,hu,bW,newRow,Instr.fill]
      congr 2
      apply Array.ext'
      simp
     rw[bK]
     exact hK _ _ _ _ hk bJ
    ·exact h.elim
  | none=>
  simp only[jG,Zd8]at h
  cases dst with
  | none=>exact h.elim
  | some d=>
   simp only at h
   cases ht:E.tt T with
   | none=>simp[ht]at h
   | some t=>
    simp only[ht]at h
    have dC:=hE T t ht
    cases lU:t.d with
    | slice e=>
     simp only[lU]at h
     cases hi:E.tt e with
     | none=>simp[hi]at h
     | some i=>
      simp only[hi]at h
      have cA:=hE e i hi
      cases hL:S.L d with
      | some x=>simp[hL]at h
      | none=>
       simp only[hL]at h
       obtain⟨h1,h2⟩:=Zac h
       simp only[Bool.and_eq_true,Nat.ble_eq]at h1
       have h3:=Zcn hr h2
       obtain⟨h4,h5⟩:=Zac h3
       generalize dS:List.map a.eval (List.map (λx=>x.2) parts.toList)=vs at *
       have bM:parts.toList.length=len:=Nat.eq_of_beq_eq_true h1.2.1
       have jP:vs.length=len:=by rw[<-dS];simpa using bM
       have eJ:(Zb0 vs).length=len*i.size:=by rw[Zoa h4,jP]
       have bQ:m.free w.heap.size:=λo=>by
        cases he:m w.heap.size o with
        | none=>rfl
        | some v=>have:=hr.sub.lt he;omega
       have hb:=hr.newBox (d:=d) hL (x:={ b:=w.heap.size,cs:=Zb0 vs,T:=e,cap:=len*i.size,fz:=true,full:=true }) (m':=m.add w.heap.size (Zb0 vs)) [] rfl (by simpa using eJ) (λ_=>eJ) (.inr ⟨rfl,rfl⟩)
       simp only[List.append_nil]at hb
       have hu:=dC.run_und (w:=w)
       rw[lU]at hu
       have bW:=cA.run_size (w:=w)
       have hz:=cA.run_zero (w:=w)
       have rj:(parts.map λx=>(x.1,a.eval x.2)).toList=(List.range' 0 vs.length).zip vs:=by
        have e1:=Zia h1.1
        simp only[List.length_map]at e1
        rw[bM,<-jP]at e1
        rw[<-e1,<-dS,List.map_map,List.zip_map']
        simp
       have iD:i.zero.cells.toList.length=i.size:=by simpa using cA.zsize
       have vW:∀zz:Array Value,((Array.range (len*i.size)).map (λq=>zz[q % zz.size]!)).toList.length=vs.length*i.size:=λzz=>by simp[jP]
       have qs:∀zz:Array Value,Instr.fill (λq=>some (q*i.size,i.size)) ((Array.range (len*i.size)).map (λq=>zz[q % zz.size]!)) (parts.map λx=>(x.1,a.eval x.2)).toList=some (Zb0 vs).toArray:=λzz=>by
        have:=Zl1 i.size vs 0 [] ((Array.range (len*i.size)).map (λq=>zz[q % zz.size]!)).toList h4 (by simp) (vW zz)
        rw[rj]
        simpa only[List.nil_append,Array.toArray_toList]using this
       have cF:¬(16777216 < len*i.size):=by omega
       have bK:(execOp a.eval ⟨some d,.buildSlice T len parts,type,pos,after,guard⟩).run E.P w=.ok (.value (.slice (some ⟨w.heap.size,0,none⟩) len len)) (w.alloc (.cells (Zb0 vs).toArray e (0,0))):=by
        by_cases h0:len*i.size=0
        ·have:=qs #[]
         simp only[h0]at this
         simp[execOp,Instr.buildSlice,hu,bW,h0,newRow]
         simp at this
         simp[this]
        ·have:=qs i.zero.cells
         simp[execOp,Instr.buildSlice,hu,bW,cF,h0,hz,newRow]
         simp at this
         simp[this]
       rw[bK]
       exact hK _ _ _ _ (h5 w.heap.size bQ) (hb.put (some d) hd (by simp[St.den,St.newL]))
    | _=>simp[lU]at h
 | makeSlice T l c=>
  have h':∃S' m' v w',K S' m'/\Rel C S' m' (a.put dst v) w'/\(Instr.makeSlice T (a.eval l) (a.eval c)).run E.P w=.ok v w':=by
   simp only[opW]at h
   cases jG:Zdx E dst with
   | none=>
    simp only[jG]at h
    cases sC:Zuj E dst with
    | false=>
     simp only[sC,cond_false]at h
     obtain⟨S',v,w',g⟩:=Zoc hE hd hr h
     exact⟨S',m,v,w',g⟩
    | true=>
     simp only[sC,cond_true]at h
     cases cH:E.fix with
     | some f=>simp[cH]at h
     | none=>
      simp only[cH,Option.isSome_none,cond_false]at h
      exact ZmY hE hd hr h
   | some ke=>
    simp only[jG]at h
    cases cH:E.fix with
    | some f=>simp[cH]at h
    | none=>
     simp only[cH,Option.isSome_none,cond_false]at h
     obtain⟨S',v,w',g1,g2,g3,_⟩:=Zic hE (λm' e=>by cases e) hd hr h
     exact⟨S',m,v,w',g1,g2,g3⟩
  obtain⟨S',m',v,w',hk,bJ,bK⟩:=h'
  have cY:(execOp a.eval ⟨dst,.makeSlice T l c,type,pos,after,guard⟩).run E.P w=.ok (.value v) w':=by simp[execOp,bK]
  rw[cY]
  exact hK _ _ _ _ hk bJ
 | lookup T x y ok=>
  simp only[opW]at h
  obtain⟨v,hk,bK⟩:=Zoh hE hr h
  have cY:(execOp a.eval ⟨dst,.lookup T x y ok,type,pos,after,guard⟩).run E.P w=.ok (.value v) w:=by simp[execOp,bK]
  rw[cY]
  exact hK _ _ _ _ hk (hr.put dst hd rfl)
 | mapUpdate T x y z=>
  simp only[opW]at h
  cases cH:E.fix with
  | some f=>simp[cH]at h
  | none=>
   simp only[cH,Option.isSome_none,Bool.false_or]at h
   cases gT:E.thaw with
   | false=>simp[gT]at h
   | true=>
   simp only[gT,Bool.not_true,cond_false]at h
   obtain⟨m',w',hk,bJ,bK⟩:=Zm4 hE hY hr h
   have cY:(execOp a.eval ⟨dst,.mapUpdate T x y z,type,pos,after,guard⟩).run E.P w=.ok .skip w':=by simp[execOp,bK]
   rw[cY]
   exact hK _ _ _ _ hk (bJ.putNone dst _)
 | makeMap T r=>
  simp only[opW]at h
  cases cH:E.fix with
  | some f=>simp[cH]at h
  | none=>
   simp only[cH,Option.isSome_none,cond_false]at h
   obtain⟨S',m',v,w',hk,bJ,bK⟩:=Zm5 (E:=E) (T:=T) hd hr h
   have cY:(execOp a.eval ⟨dst,.makeMap T r,type,pos,after,guard⟩).run E.P w=.ok (.value v) w':=by simp[execOp,bK]
   rw[cY]
   exact hK _ _ _ _ hk bJ
 | convert s d x=>
  simp only[opW]at h
  cases mL:Zhq E s d with
  | false=>
   simp only[mL,cond_false]at h
   cases fK:Zdy E s d with
   | false=>
    simp only[fK,cond_false]at h
    cases s7:Zdz E s d with
    | false=>
     simp only[s7,cond_false]at h
     exact Zih hE hd hr h hK
    | true=>
     simp only[s7,cond_true]at h
     obtain⟨v,hk,bK⟩:=Zid hE s7 hr (Zqp h)
     have cY:(execOp a.eval ⟨dst,.convert s d x,type,pos,after,guard⟩).run E.P w=.ok (.value v) w:=by simp[execOp,bK]
     rw[cY]
     exact hK _ _ _ _ hk (hr.put dst hd rfl)
   | true=>
    simp only[fK,cond_true]at h
    cases cH:E.fix with
    | some f=>simp[cH]at h
    | none=>
     simp only[cH,Option.isSome_none,cond_false]at h
     obtain⟨S',m',v,w',hk,bJ,bK⟩:=Zod hE fK hd hr h
     have cY:(execOp a.eval ⟨dst,.convert s d x,type,pos,after,guard⟩).run E.P w=.ok (.value v) w':=by simp[execOp,bK]
     rw[cY]
     exact hK _ _ _ _ hk bJ
  | true=>
   simp only[mL,cond_true]at h
   cases he:S.ev x with
   | none=>simp[he]at h
   | some sv=>
    cases sv with
    | v u=>simp[he]at h
    | loc id off=>simp[he]at h
    | sl id n' c=>
     simp only[he]at h
     obtain⟨v,h1,h2,h3⟩:=hr.ev_val he
     simp only[St.den]at h1
     cases hL:S.L id with
     | none=>simp[hL]at h1
     | some bx=>
      simp only[hL,Option.some.injEq]at h1
      unfold Zhq at mL
      cases ht:E.tt s with
      | none=>simp[ht]at mL
      | some i=>
       simp only[ht]at mL
       cases cS:i.d with
       | slice e=>
        simp only[cS,Bool.and_eq_true]at mL
        have zL:s=d:=Nat.eq_of_beq_eq_true mL.1
        subst zL
        cases hj:E.tt e with
        | none=>simp[hj]at mL
        | some j=>
         simp only[hj]at mL
         have hu:=(hE s i ht).run_und (w:=w)
         have q9:=(hE e j hj).run_und (w:=w)
         rw[cS]at hu
         obtain⟨sp,fr,hh,hc,hf⟩:=(hr.own id bx hL).cells
         have vK:=Zd9 (P:=E.P) bx.b 0 hh
         have bJ:=hr.freeze hL _ ⟨_,_,_,hh,rfl⟩
         have jE:j.d=.int .u8:=by
          cases jE:j.d with
          | int kk=>cases kk <;> simp[jE]at mL <;> rfl
          | _=>simp[jE]at mL
         rw[jE]at q9
         have bK:(execOp a.eval ⟨dst,.convert s s x,type,pos,after,guard⟩).run E.P w=.ok (.value (.slice (some ⟨bx.b,0,none⟩) n' c)) (w.freeze ⟨bx.b,(bx.cs++sp).toArray.size,none⟩ 1):=by
          simp only[execOp,h3,<-h1]
          simp only[convert,Sem.run_bind,hu,Result.andThen_ok,beq_self_eq_true,q9,vK,Sem.run_pure]
         rw[bK]
         exact hK _ _ _ _ h (bJ.put dst hd (by simp[St.den,hL]))
       | _=>simp[cS]at mL
 | call c=>
  obtain⟨callee,args,argTypes⟩:=c
  cases callee with
  | value f=>
   simp only[opW]at h
   obtain⟨S,m,hr,h⟩:=Zi8 hr h
   simp only[Zwr]at h
   cases he:S.ev f with
   | none=>simp[he]at h
   | some sv=>
    obtain⟨v,h1,h2,h3⟩:=hr.ev_val he
    cases sv with
    | v fv=>
     cases fv with
     | func fn first captured=>
      cases fn with
      | func g=>
       simp only[he]at h
       simp only[St.den,Option.some.injEq]at h1
       have zM:ZgW E.P g/\Calls E.P g (first.toList++List.map a.eval args.toList++captured.toList).toArray w λe w'=>∃v S' m',e=.returned v/\K (S'.put dst (some (.v v))) m'/\Rel C S' m' a w':=by
        cases kK:ZeW E dst with
        | some ks=>
         simp only[kK]at h
         cases cH:E.fix with
         | some f=>simp[cH]at h
         | none=>
          simp only[cH,Option.isSome_none,cond_false]at h
          have h4:=Zcn hr h
          exact Zm7 hY hr h4
        | none=>
        simp only[kK]at h
        cases sD:Zug E dst with
        | true=>
         simp only[sD,cond_true]at h
         cases cH:E.fix with
         | some f=>simp[cH]at h
         | none=>
          simp only[cH,Option.isSome_none,cond_false]at h
          have h4:=Zcn hr h
          obtain⟨h5,h6⟩:=Zqr hY hr h4
          refine⟨h5,h6.mono ?_⟩
          rintro e w' ⟨v,gh,rfl,h7,h8⟩
          exact⟨v,_,m,rfl,h7,h8⟩
        | false=>
        simp only[sD,cond_false]at h
        cases jG:Zdx E dst with
        | none=>
         simp only[jG]at h
         have h4:=Zcn hr h
         exact Zn8 hr h4
        | some ke=>
         simp only[jG]at h
         split at h
         ·have h4:=Zcn hr h
          exact Zm6 hr h4
         ·exact h.elim
       obtain⟨mY,cI⟩:=zM
       have bK:(execOp a.eval ⟨dst,.call ⟨.value f,args,argTypes⟩,type,pos,after,guard⟩).run E.P w=.ok (.enter g (first.toList++List.map a.eval args.toList++captured.toList).toArray) w:=by
        have eY:(first++Array.map a.eval args++captured)=(first.toList++List.map a.eval args.toList++captured.toList).toArray:=Array.ext' (by simp)
        simp only[execOp,resolve,h3,<-h1,Deferred.ofValue]
        simp only[Sem.run_bind,Sem.run_pure,Result.andThen_ok,invoke,eY]
        exact mY _ _
       rw[bK]
       refine⟨λhs=>by rw[hF.depth]at hs;simp at hs,?_⟩
       refine hF.calls (cI.mono ?_)
       rintro e w' ⟨v,S',m',rfl,hk,bJ⟩
       exact hK _ _ _ _ hk (bJ.put dst hd rfl)
      | yield l=>
       simp only[he]at h
       cases cH:E.fix with
       | some f=>simp[cH]at h
       | none=>
        simp only[cH,Option.isSome_none,cond_false]at h
        cases fV:E.yl with
        | none=>
         cases mM:first.toList with
         | cons x l=>simp[fV,mM]at h
         | nil=>
          cases rk:captured.toList with
          | cons x l=>simp[fV,mM,rk]at h
          | nil=>
           simp only[fV,mM,rk]at h
           cases vX:E.ylY with
           | none=>simp[vX]at h
           | some Y=>
            simp only[vX]at h
            obtain⟨hy,gA⟩:=Zcn hr h
            have rl:first=#[]:=by rw[<-Array.toArray_toList (xs:=first),mM]
            have rm:captured=#[]:=by rw[<-Array.toArray_toList (xs:=captured),rk]
            subst rl rm
            obtain⟨M,hd'⟩:=hr.dom
            obtain⟨fn,tmps,asg,bdy,lT,dX⟩:=hY.yY Y vX F (n - 1) l S.gh _ M w m hF hd'.lt hy hr.le hd'.new hd'.p hr.sub
            simp only[St.den,Option.some.injEq]at h1
            have bK:(execOp a.eval ⟨dst,.call ⟨.value f,args,argTypes⟩,type,pos,after,guard⟩).run E.P w=.ok (.round l fn tmps asg bdy) w:=by
             have eY:(#[]++Array.map a.eval args)=(List.map a.eval args.toList).toArray:=Array.ext' (by simp)
             simp only[execOp,resolve,h3,<-h1,Deferred.ofValue]
             simp only[Sem.run_bind,Sem.run_pure,Result.andThen_ok,invoke,eY]
             simpa using lT
            rw[bK]
            refine⟨λhs=>by rw[hF.depth]at hs;simp at hs,dX.mono ?_⟩
            rintro e w' ⟨rfl,hp,eP⟩
            exact hK _ _ _ _ gA ((hr.yielded hd' hp eP).put dst hd rfl)
        | some Y=>
         cases mM:first.toList with
         | cons x l=>simp[fV,mM]at h
         | nil=>
          cases rk:captured.toList with
          | cons x l=>simp[fV,mM,rk]at h
          | nil=>
           simp only[fV,mM,rk]at h
           obtain⟨hy,gA,iO⟩:=Zcn hr h
           have rl:first=#[]:=by rw[<-Array.toArray_toList (xs:=first),mM]
           have rm:captured=#[]:=by rw[<-Array.toArray_toList (xs:=captured),rk]
           subst rl rm
           obtain⟨M,hd'⟩:=hr.dom
           obtain⟨fn,tmps,asg,bdy,lT,dX⟩:=hY.y Y fV F (n - 1) l S.gh _ M w hF hd'.lt hy hd'.p (hr.sub.less hr.le)
           simp only[St.den,Option.some.injEq]at h1
           have bK:(execOp a.eval ⟨dst,.call ⟨.value f,args,argTypes⟩,type,pos,after,guard⟩).run E.P w=.ok (.round l fn tmps asg bdy) w:=by
            have eY:(#[]++Array.map a.eval args)=(List.map a.eval args.toList).toArray:=Array.ext' (by simp)
            simp only[execOp,resolve,h3,<-h1,Deferred.ofValue]
            simp only[Sem.run_bind,Sem.run_pure,Result.andThen_ok,invoke,eY]
            simpa using lT
           rw[bK]
           refine⟨λhs=>by rw[hF.depth]at hs;simp at hs,dX.mono ?_⟩
           rintro e w' ⟨b,rfl,hp,eP⟩
           cases b with
           | true=>exact hK _ _ _ _ gA ((hr.yielded hd' hp eP).put dst hd rfl)
           | false=>exact hK _ _ _ _ iO ((hr.yielded hd' hp eP).put dst hd rfl)
      | _=>simp[he]at h
     | _=>simp[he]at h
    | _=>simp[he]at h
  | invoke r m=>exact Zih hE hd hr h hK
  | builtin b=>
   cases b with
   | append=>
    simp only[opW]at h
    split at h
    ·rename_i s x T xT d hA hT
     obtain⟨S,m,hr,h⟩:=Zi8 hr h
     obtain⟨vs,dS,h⟩:=Zax h
     obtain⟨vx,zN,h⟩:=Zax h
     have ha:args=#[s,x]:=by rw[<-Array.toArray_toList (xs:=args),hA]
     have iI:argTypes=#[T,xT]:=by rw[<-Array.toArray_toList (xs:=argTypes),hT]
     subst ha iI
     obtain⟨v,tk,m',w',hk,bJ,bK⟩:=ZkP (ty:=type) hE hr h
     have cY:(execOp a.eval ⟨some d,.call ⟨.builtin .append,#[s,x],#[T,xT]⟩,type,pos,after,guard⟩).run E.P w=.ok (.value v) w':=by
      simp[execOp,resolve,invoke,builtin,hr.ev dS,hr.ev zN,bK]
     rw[cY]
     exact hK _ _ _ _ hk (bJ.put (some d) hd rfl)
    ·exact h.elim
   | copy=>
    simp only[opW]at h
    split at h
    ·rename_i d s T xT hA hT
     cases hh:Zgd E d with
     | none=>simp[hh]at h
     | some id=>
      simp only[hh]at h
      obtain⟨vd,sZ,h⟩:=Zax h
      obtain⟨vs,dS,h⟩:=Zax h
      have ha:args=#[d,s]:=by rw[<-Array.toArray_toList (xs:=args),hA]
      have iI:argTypes=#[T,xT]:=by rw[<-Array.toArray_toList (xs:=argTypes),hT]
      subst ha iI
      obtain⟨n,S',w',hk,bJ,bK⟩:=Zof (ty:=type) (xT:=xT) hE hr h
      have cY:(execOp a.eval ⟨dst,.call ⟨.builtin .copy,#[d,s],#[T,xT]⟩,type,pos,after,guard⟩).run E.P w=.ok (.value (.int .i64 n)) w':=by
       simp[execOp,resolve,invoke,builtin,hr.ev sZ,hr.ev dS,bK]
      rw[cY]
      exact hK _ _ _ _ hk (bJ.put dst hd rfl)
    ·exact h.elim
   | _=>exact Zih hE hd hr h hK
 | _=>exact Zih hE hd hr h hK
end
mutual
def Shape.ex:Shape->(Value->Prop)->Prop
 | .any,k=>∃v,k v
 | .int ki,k=>∃n:Int,k (.int ki n)
 | .bool,k=>∃b:Bool,k (.bool b)
 | .str,k=>∃s:ByteArray,k (.string s)
 | .slice,k=>∃(a:Option Addr)(n c:Nat),k (.slice a n c)
 | .agg l,k=>Shape.exL l λvs=>k (.agg vs.toArray)
 | .tup l,k=>Shape.exL l λvs=>k (.tuple vs.toArray)
 | .fn,k=>∃(g:Nat)(fi ca:List Value),k (.func (.func g) fi.toArray ca.toArray)
 | .cells,k=>∃cs:List Value,k (.agg cs.toArray)
 | .ptr,k=>∃b o:Nat,k (.pointer (some ⟨b,o,none⟩))
def Shape.exL:List Shape->(List Value->Prop)->Prop
 | [],k=>k []
 | s::l,k=>Shape.ex s λv=>Shape.exL l λvs=>k (v::vs)
end
mutual
theorem Shape.ex_elim:∀(s:Shape)(k:Value->Prop),s.ex k->∃v,k v
 | .any,k,h=>h
 | .int ki,k,h=>by simp only[Shape.ex]at h;obtain⟨n,h⟩:=h;exact⟨_,h⟩
 | .bool,k,h=>by simp only[Shape.ex]at h;obtain⟨n,h⟩:=h;exact⟨_,h⟩
 | .str,k,h=>by simp only[Shape.ex]at h;obtain⟨n,h⟩:=h;exact⟨_,h⟩
 | .slice,k,h=>by simp only[Shape.ex]at h;obtain⟨a,n,c,h⟩:=h;exact⟨_,h⟩
 | .agg l,k,h=>by
  simp only[Shape.ex]at h
  obtain⟨vs,_,h⟩:=Shape.exL_elim l _ h
  exact⟨_,h⟩
 | .tup l,k,h=>by
  simp only[Shape.ex]at h
  obtain⟨vs,_,h⟩:=Shape.exL_elim l _ h
  exact⟨_,h⟩
 | .fn,k,h=>by simp only[Shape.ex]at h;obtain⟨_,_,_,h⟩:=h;exact⟨_,h⟩
 | .cells,k,h=>by simp only[Shape.ex]at h;obtain⟨_,h⟩:=h;exact⟨_,h⟩
 | .ptr,k,h=>by simp only[Shape.ex]at h;obtain⟨_,_,h⟩:=h;exact⟨_,h⟩
theorem Shape.exL_elim:∀(l:List Shape)(k:List Value->Prop),Shape.exL l k->∃vs,vs.length=l.length/\k vs
 | [],k,h=>⟨[],rfl,h⟩
 | s::l,k,h=>by
  simp only[Shape.exL]at h
  obtain⟨v,h⟩:=Shape.ex_elim s _ h
  obtain⟨vs,hl,h⟩:=Shape.exL_elim l _ h
  exact⟨v::vs,by simp[hl],h⟩
end
def ZeX:Value->Bool
 | .tuple _=>true
 | _=>false
def opG(E:Env)(ops:Array Oper)(o:Oper)(S:St)(m:Mem)(K:St->Mem->Prop):Prop:=match o.guard with
 | none=>opW E S m o K
 | some (j,want)=>match ops.toList[j]? with
  | none=>False
  | some oj=>match oj.dst with
   | none=>False
   | some t=>match S.env t with
    | some (.v v)=>bif ZeX v then K (S.put o.dst (some (.v undef))) m else chk (ZhX v) (match want with
     | true=>br (Zdu v) (opW E S m o K) (K (S.put o.dst (some (.v undef))) m)
     | false=>br (Zdu v) (K (S.put o.dst (some (.v undef))) m) (opW E S m o K))
    | _=>False
def ZfJ(ops:Array Oper)(o:Oper):Option Nat:=match o.guard with
 | none=>none
 | some (j,_)=>match ops.toList[j]? with
  | none=>none
  | some oj=>oj.dst
def ZwS(E:Env)(ops:Array Oper)(o:Oper)(S:St)(m:Mem)(K:St->Mem->Prop):Prop:=match ZfJ ops o with
 | none=>opG E ops o S m K
 | some t=>match S.env t with
  | some (.v v)=>bif ZeX v then opG E ops o S m K else chk (ZhX v) (br (Zdu v) (opG E ops o (S.put (some t) (some (.v (.bool true)))) m K) (opG E ops o (S.put (some t) (some (.v (.bool false)))) m K))
  | _=>False
def ZwI(E:Env)(ops:Array Oper):List Nat->(St->Mem->Prop)->St->Mem->Prop
 | [],K,S,m=>K S m
 | i::l,K,S,m=>match ops.toList[i]? with
  | none=>False
  | some o=>ZwS E ops o S m (ZwI E ops l K)
def Zzy(n:Nat)(o:Oper):Bool:=match o.dst with
 | none=>true
 | some d=>Nat.blt d n
def Zl3(n:Nat):List Oper->Bool
 | []=>true
 | o::l=>Zzy n o&&Zl3 n l
def Zbt(n:Nat):Code->Bool
 | .region _ ops _=>Zl3 n ops.toList
 | .seq a b=>Zbt n a&&Zbt n b
 | .cond _ a b=>Zbt n a&&Zbt n b
 | .block _ a=>Zbt n a
 | .loop a=>Zbt n a
 | .scope a=>Zbt n a
 | .rangeFunc _ ps a b=>ps.toList.all (Nat.blt · n)&&(Zbt n a&&Zbt n b)
 | _=>true
def ZaJ:List Oper->List Nat
 | []=>[]
 | o::l=>match o.dst with
  | none=>ZaJ l
  | some d=>d::ZaJ l
def Zjy:Code->List Nat
 | .region _ ops _=>ZaJ ops.toList
 | .seq a b=>Zjy a++Zjy b
 | .cond _ a b=>Zjy a++Zjy b
 | .block _ a=>Zjy a
 | .loop a=>Zjy a
 | .scope a=>Zjy a
 | .rangeFunc _ ps a b=>ps.toList++(Zjy a++Zjy b)
 | _=>[]
def ZaF:Code->Nat
 | .region id _ _=>id
 | .seq a _=>ZaF a
 | .cond _ a _=>ZaF a
 | .block _ a=>ZaF a
 | .loop a=>ZaF a
 | .scope a=>ZaF a
 | .rangeFunc _ _ a _=>ZaF a
 | _=>0
def ZhZ(S:St):List (Nat×Shape)->(List Value->Prop)->Prop
 | [],k=>k []
 | (t,sh)::l,k=>wv S (.tmp t) λv=>chk (sh.fits v) (ZhZ S l λvs=>k (v::vs))
def ZsK(S:St):List Nat->(List (List Value)->Prop)->Prop
 | [],k=>k []
 | id::l,k=>match S.L id with
  | none=>False
  | some x=>ZsK S l λcss=>k (x.cs::css)
def ZsZ(S:St)(k:Nat):Value:=match S.tok k with
 | some t=>t.v
 | none=>.slice none 0 0
def Ze5(S:St):List (Nat×Nat)->(List Value->Prop)->Prop
 | [],k=>k []
 | (q,esz)::l,k=>chk (ZeR (ZsZ S q)&&(match S.tok q with
  | some t=>Nat.beq t.esz esz
  | none=>true)) (Ze5 S l λvs=>k (ZsZ S q::vs))
def ZbU(e:Nat->Option SV):List (Nat×Shape)->List Value->(Nat->Option SV)
 | (t,_)::l,v::vs=>λi=>bif Nat.beq i t then some (.v v)else ZbU e l vs i
 | _,_=>e
def Zj4(L:Nat->Option Box):List Nat->List (List Value)->(Nat->Option Box)
 | id::l,cs::css=>λi=>bif Nat.beq i id then(match L i with
  | some x=>some { x with cs:=cs }
  | none=>none)else Zj4 L l css i
 | _,_=>L
def Zgy(tk:Nat->Option Tok):List (Nat×Nat)->List Value->(Nat->Option Tok)
 | (q,esz)::l,v::vs=>λi=>bif Nat.beq i q then some ⟨v,esz⟩ else Zgy tk l vs i
 | _,_=>tk
def Zbd(S:St)(ds:List Nat)(A:LoopAnn)(g:Int)(xs:List Value)(css:List (List Value))(tvs:List Value):St:=
 {env:=ZbU (λi=>bif ds.any (Nat.beq i ·)then none else S.env i) A.slots xs
  L:=Zj4 S.L A.boxes css
  ids:=S.ids
  tok:=Zgy S.tok A.toks tvs
  tkeys:=A.toks.map (·.1)++S.tkeys
  gh:=g
  fo:=S.fo }
def ghs(b:Bool)(g:Int)(xs:List Value):List Value:=bif b then .int .i64 g::xs else xs
def ZwJ(b:Bool)(g:Int)(k:Int->Prop):Prop:=bif b then ∀y,k y else k g
def Zj5(b:Bool)(x y:Int)(f g:Bool)(p:Prop):Prop:=bif Bool.xor f g then False else bif b then p else match x,y with
 | .ofNat 0,.ofNat 0=>p
 | x,y=>x=y/\p
theorem Zea{b:Bool}{x y:Int}{f g:Bool}{p:Prop}(h:Zj5 b x y f g p):(b=false->x=y)/\f=g/\p:=by
 unfold Zj5 at h
 cases hx:Bool.xor f g with
 | true=>simp[hx]at h
 | false=>
 have s8:f=g:=by cases f <;> cases g <;> first|rfl|cases hx
 simp only[hx,cond_false]at h
 cases b with
 | true=>exact⟨λh=>(by cases h),s8,h⟩
 | false=>
  simp only[cond_false]at h
  split at h
  ·exact⟨λ_=>rfl,s8,h⟩
  ·exact⟨λ_=>h.1,s8,h.2⟩
theorem ZfK{b:Bool}{g:Int}{k:Int->Prop}(h:ZwJ b g k){y:Int}(hy:b=false->y=g):k y:=by
 cases b with
 | true=>exact h y
 | false=>rw[hy rfl];exact h
def ZkS:List Nat->(List (List Value)->Prop)->Prop
 | [],k=>k []
 | _::l,k=>∀cs,ZkS l λcss=>k (cs::css)
def ZkT:List (Nat×Nat)->(List Value->Prop)->Prop
 | [],k=>k []
 | _::l,k=>∀(a:Option Addr)(n c:Nat),ZkT l λvs=>k (.slice a n c::vs)
def ZbJ(S:St)(A:LoopAnn)(ids:List Nat):List (Option Box):=ids.map λid=>bif A.boxes.any (Nat.beq id ·)then(match S.L id with
 | some x=>some { x with cs:=[] }
 | none=>none)else S.L id
def Za8(S:St)(A:LoopAnn)(ks:List Nat):List (Option Tok):=ks.map λk=>bif A.toks.any (λq=>Nat.beq k q.1)then none else S.tok k
def ZkU(a b:List (Option Box))(p:Prop):Prop:=match a,b with
 | [],[]=>p
 | a,b=>a=b/\p
def ZkV(a b:List (Option Tok))(p:Prop):Prop:=match a,b with
 | [],[]=>p
 | a,b=>a=b/\p
theorem Zdb{a b:List (Option Box)}{p:Prop}:ZkU a b p↔a=b/\p:=by
 unfold ZkU
 split
 ·simp
 ·exact Iff.rfl
theorem Zdc{a b:List (Option Tok)}{p:Prop}:ZkV a b p↔a=b/\p:=by
 unfold ZkV
 split
 ·simp
 ·exact Iff.rfl
abbrev KT:=Exit->St->Mem->Prop
def leT(th:Bool)(m m':Mem):Prop:=bif th then True else m.le m'
theorem leT.of{th:Bool}{m m':Mem}(h:m.le m'):leT th m m':=by
 cases th with
 | true=>trivial
 | false=>exact h
theorem leT.refl(th:Bool)(m:Mem):leT th m m:=.of (Mem.le_refl m)
theorem leT.trans{th:Bool}{a b c:Mem}(h:leT th a b)(k:leT th b c):leT th a c:=by
 cases th with
 | true=>trivial
 | false=>exact mLt h k
def Env.cold(E:Env):Env:={ E with thaw:=false }
def Zz6(th:Bool)(A:LoopAnn)(ds:List Nat)(body:KT->St->Mem->Prop)(K:KT)(S:St)(m:Mem):Prop:=
 ∃I:List Value->List (List Value)->List Value->Mem->Nat->Prop,
  (ZhZ S A.slots λxs=>ZsK S A.boxes λcss=>Ze5 S A.toks λtvs=>∃n,I (ghs A.gh S.gh xs) css tvs m n)/\
  ZwJ A.gh S.gh λy=>Shape.allL (A.slots.map (·.2)) λxs=>ZkS A.boxes λcss=>ZkT A.toks λtvs=>∀(m':Mem)(n:Nat),leT th m m'->I (ghs A.gh y xs) css tvs m' n->
   body (λe S' m''=>match e with
    | .normal=>Zj5 A.gh S'.gh S.gh S'.fo S.fo (ZkU (ZbJ S' A S.ids) (ZbJ S A S.ids) (ZkV (Za8 S' A S.tkeys) (Za8 S A S.tkeys) (ZhZ S' A.slots λxs'=>ZsK S' A.boxes λcss'=>Ze5 S' A.toks λtvs'=>∃n',n' < n/\I (ghs A.gh S'.gh xs') css' tvs' m'' n')))
    | e=>K e S' m'') (Zbd S ds A y xs css tvs) m'
def ZBd(th:Bool)(A:LoopAnn)(ds:List Nat)(x y:KT->St->Mem->Prop)(K:KT)(S:St)(m:Mem):Prop:=
 ∃J:List Value->List (List Value)->List Value->Mem->Prop,
  x (λe S' m'=>match e with
   | .normal=>Zj5 A.gh S'.gh S.gh S'.fo S.fo (ZkU (ZbJ S' A S.ids) (ZbJ S A S.ids) (ZkV (Za8 S' A S.tkeys) (Za8 S A S.tkeys) (ZhZ S' A.slots λxs=>ZsK S' A.boxes λcss=>Ze5 S' A.toks λtvs=>J (ghs A.gh S'.gh xs) css tvs m')))
   | e=>K e S' m') S m/\
  ZwJ A.gh S.gh λg=>Shape.allL (A.slots.map (·.2)) λxs=>ZkS A.boxes λcss=>ZkT A.toks λtvs=>∀m':Mem,leT th m m'->J (ghs A.gh g xs) css tvs m'->y K (Zbd S ds A g xs css tvs) m'
def Zhr:LoopAnn:=⟨[],[],[],false⟩
def Zz7(outs:List (Nat×Shape))(ds:List Nat)(body:(St->Mem->Prop)->St->Mem->Prop)(K:St->Mem->Prop)(S:St)(m:Mem):Prop:=
 Shape.exL (outs.map (·.2)) λxs=>(body (λS' _=>Zj5 false S'.gh S.gh S'.fo S.fo (ZkU (ZbJ S' Zhr S.ids) (ZbJ S Zhr S.ids) (ZkV (Za8 S' Zhr S.tkeys) (Za8 S Zhr S.tkeys) (ZhZ S' outs λxs'=>xs'=xs)))) S m)/\
  K { S with env:=ZbU (λi=>bif ds.any (Nat.beq i ·)then none else S.env i) outs xs } m
def IX(P:Program)(g:FuncId)(first captured:List Value)(m:Mem)(xs:List (List Value)):Prop:=
 ZgW P g/\∀(p:Int->(Nat->Prop)->World->Prop),Zuf p->∀(l:Nat)(w:World),Sub m w->p 0 (λ_=>False) w->
  ZlY P m p (λl' g v=>l'=l/\0<=g/\xs[g.toNat]?=some v)->
  Calls P g (first++.func (.yield l) #[] #[]::captured).toArray w λe w'=>∃v M,e=.returned v/\(∀k,M k->k < w'.heap.size)/\(p xs.length M w'\/p (-1) M w')
def ZjF:List Nat->List Nat->Bool
 | [],[]=>true
 | a::l,b::l'=>Nat.beq a b&&ZjF l l'
 | _,_=>false
def Zoi(K:KT)(e:Exit)(S:St)(m:Mem):Prop:=match e with
 | .ret=>K .ret S m
 | .exit id=>K (.exit id) S m
 | .goto l=>K (.goto l) S m
 | _=>False
def Zz8(th:Bool)(m:Mem)(k:Mem->Prop):Prop:=bif th then ∃mi,Mem.le mi m/\k mi else k m
def ZzX(th:Bool)(mi m:Mem)(p:Prop):Prop:=bif th then(mi.le m/\p)else p
theorem Zs0{th:Bool}{m:Mem}{k:Mem->Prop}(h:Zz8 th m k):∃mi:Mem,mi.le m/\(th=false->mi=m)/\k mi:=by
 cases th with
 | true=>obtain⟨mi,h1,h2⟩:=h;exact⟨mi,h1,λe=>(by cases e),h2⟩
 | false=>exact⟨m,Mem.le_refl m,λ_=>rfl,h⟩
theorem Zs1{th:Bool}{mi m:Mem}{p:Prop}(h:ZzX th mi m p):(th=true->mi.le m)/\p:=by
 cases th with
 | true=>exact⟨λ_=>h.1,h.2⟩
 | false=>exact⟨λe=>(by cases e),h⟩
theorem Zs2{th:Bool}{m:Mem}{k k':Mem->Prop}(h:∀mi:Mem,mi.le m->(th=false->mi=m)->k mi->k' mi)(hx:Zz8 th m k):Zz8 th m k':=by
 cases th with
 | true=>obtain⟨mi,h1,h2⟩:=hx;exact⟨mi,h1,h mi h1 (λe=>(by cases e)) h2⟩
 | false=>exact h m (Mem.le_refl m) (λ_=>rfl) hx
theorem Zs3{th:Bool}{mi m:Mem}{p q:Prop}(h:p->q)(hx:ZzX th mi m p):ZzX th mi m q:=by
 cases th with
 | true=>exact⟨hx.1,h hx.2⟩
 | false=>exact h hx
def Zoj(th:Bool)(P:Program)(A:LoopAnn)(f:Operand)(ps:List Nat)(assign body:KT->St->Mem->Prop)(K:KT)(S:St)(m:Mem):Prop:=match S.ev f with
 | some (.v (.func (.func g) first captured))=>chk (ZjF ps (A.slots.map (·.1))&&Zbs ps) (Zz8 th m λmi=>∃xs:List (List Value),IX P g first.toList captured.toList mi xs/\(∀x∈xs,Shape.fitsL (A.slots.map (·.2)) x=true)/\
   ∃I:List Value->List (List Value)->List Value->Mem->Nat->Prop,
    (ZsK S A.boxes λcss=>Ze5 S A.toks λtvs=>I (ghs A.gh S.gh []) css tvs m 0)/\
    (ZwJ A.gh S.gh λy=>Shape.allL (A.slots.map (·.2)) λx=>ZkS A.boxes λcss=>ZkT A.toks λtvs=>∀(m':Mem)(n:Nat),mi.le m'->xs[n]?=some x->I (ghs A.gh y []) css tvs m' n->
     assign (λe S1 m1=>match e with
      | .normal=>body (λe S' m''=>ZzX th mi m'' (Zj5 A.gh S'.gh S.gh S'.fo S.fo (ZkU (ZbJ S' A S.ids) (ZbJ S A S.ids) (ZkV (Za8 S' A S.tkeys) (Za8 S A S.tkeys) (ZsK S' A.boxes λcss'=>Ze5 S' A.toks λtvs'=>match e with
       | .normal=>I (ghs A.gh S'.gh []) css' tvs' m'' (n+1)
       | e=>Zoi K e (Zbd S [] { A with slots:=[] } S'.gh [] css' tvs') m''))))) S1 m1
      | _=>False) (Zbd S [] A y x css tvs) m')/\
    (ZwJ A.gh S.gh λy=>ZkS A.boxes λcss=>ZkT A.toks λtvs=>∀m':Mem,mi.le m'->I (ghs A.gh y []) css tvs m' xs.length->K .normal (Zbd S [] { A with slots:=[] } y [] css tvs) m'))
 | _=>False
def IXY(P:Program)(g:FuncId)(first captured:List Value)(m:Mem)(Y:Nat->Prop)(n:Nat)(V:Nat->List Value->Mem->Prop)(R:Mem->Prop):Prop:=
 ZgW P g/\∀(p:Int->(Nat->Prop)->World->Prop),Zuf p->∀(l:Nat)(w:World),Sub m w->(∀b,Y b->b < w.heap.size/\Wr w b)->p 0 Y w->
  ZnS P (m.off Y) p (λl' g v mi=>l'=l/\∃i:Nat,g=(i:Int)/\i < n/\V i v mi)->
  Calls P g (first++.func (.yield l) #[] #[]::captured).toArray w λe w'=>∃v M m',e=.returned v/\(∀k,M k->k < w'.heap.size)/\p n M w'/\Sub m' w'/\(m.off Y).le m'/\NewM (m.off Y) m' M/\R m'
def Zj6(E:Env)(A:LoopAnn)(f:Operand)(ps:List Nat)(assign body:KT->St->Mem->Prop)(K:KT)(S:St)(m:Mem):Prop:=match S.ev f,E.m0 with
 | some (.v (.func (.func g) first captured)),some m0=>chk ((E.thaw&&!S.fo)&&(ZjF ps (A.slots.map (·.1))&&Zbs ps)) (∃(Y:Nat->Prop)(n:Nat)(V:Nat->List Value->Mem->Prop)(R:Mem->Prop),IXY E.P g first.toList captured.toList m Y n V R/\
   (∀b,Y b->m0.k b=none/\∃e,m.k b=some e)/\(∀i x mi,V i x mi->Shape.fitsL (A.slots.map (·.2)) x=true)/\
   ∃I:List Value->List (List Value)->List Value->Mem->Nat->Prop,
    (ZsK S A.boxes λcss=>Ze5 S A.toks λtvs=>I (ghs A.gh S.gh []) css tvs (m.off Y) 0)/\
    (ZwJ A.gh S.gh λy=>Shape.allL (A.slots.map (·.2)) λx=>ZkS A.boxes λcss=>ZkT A.toks λtvs=>∀(m' mi:Mem)(k:Nat),k < n->(m.off Y).le m'->(m.off Y).le mi->mi.le (m'.or mi)->(∀b,(m.off Y).newC mi b->m'.free b)->V k x mi->I (ghs A.gh y []) css tvs m' k->
     assign (λe S1 m1=>match e with
      | .normal=>body (λe S' m''=>match e with
       | .normal=>Zj5 A.gh S'.gh S.gh S'.fo true (ZkU (ZbJ S' A S.ids) (ZbJ S A S.ids) (ZkV (Za8 S' A S.tkeys) (Za8 S A S.tkeys) (ZsK S' A.boxes λcss'=>Ze5 S' A.toks λtvs'=>(m.off Y).le m''/\I (ghs A.gh S'.gh []) css' tvs' (m''.less (m.off Y) mi) (k+1))))
       | _=>False) S1 m1
      | _=>False) (Zbd { S with fo:=true } [] A y x css tvs) (m'.or mi))/\
    (ZwJ A.gh S.gh λy=>ZkS A.boxes λcss=>ZkT A.toks λtvs=>∀m' me:Mem,(m.off Y).le m'->(m.off Y).le me->me.le (m'.or me)->I (ghs A.gh y []) css tvs m' n->R me->K .normal (Zbd S [] { A with slots:=[] } y [] css tvs) (m'.or me)))
 | _,_=>False
def Mem.cutA(m:Mem)(a:Option Addr)(o:Nat):Mem:=match a with
 | some ⟨b,_,_⟩=>⟨λb' o'=>if b'=b/\o<=o' then none else m b' o',m.k⟩
 | none=>m
def Mem.addA(m:Mem)(a:Option Addr)(o:Nat)(zs:List Value):Mem:=match a with
 | some ⟨b,o0,_⟩=>m.addAt b (o0+o) zs
 | none=>m
def ZA8(m m0:Mem)(esz:Nat)(a:Option Addr)(n c:Nat):Prop:=
 (a=none/\n=0/\c=0)\/∃b,a=some ⟨b,0,none⟩/\n<=c/\0 < c*esz/\(∀o,o < c*esz->∃v,m b o=some v)/\m0.free b
def ZwT(E:Env)(kz:Option (Nat×Nat))(f:(St->Mem->Prop)->St->Mem->Prop)(K:St->Mem->Prop)(S:St)(m:Mem):Prop:=match kz with
 | none=>f K S m
 | some (key,esz)=>chk (E.thaw&&E.fix.isNone) (match E.m0 with
  | none=>False
  | some m0=>S.fo=false/\∃(a:Option Addr)(n c:Nat),ZA8 m m0 esz a n c/\(∀b,(Tok.mk (.slice a n c) esz).blk=some b->nfz S b S.ids (ntk S b [key] S.tkeys))/\
    f (λS' m'=>match S'.tok key with
     | none=>False
     | some t=>chk (ZeR t.v) (∀zs:List Value,zs.length=(slC t.v - slN t.v)*t.esz->K { S' with tok:=λk=>bif Nat.beq k key then none else S'.tok k } (m'.addA (slA t.v) (slN t.v*t.esz) zs)))
     {S with tok:=λk=>bif Nat.beq k key then some ⟨.slice a n c,esz⟩ else S.tok k,tkeys:=key::S.tkeys } (m.cutA a (n*esz)))
def W(E:Env)(Zbc:Nat->Array Oper->(St->Mem->Prop)->St->Mem->Prop):Code->KT->St->Mem->Prop
 | .skip,K,S,m=>K .normal S m
 | .label _,K,S,m=>K .normal S m
 | .region id ops draw,K,S,m=>match E.joins id with
  | none=>bif draw then Zbc id ops (K .normal) S m else ZwT E (E.acq id) (ZwI E ops (List.range ops.size)) (K .normal) S m
  | some outs=>Zz7 outs (ZaJ ops.toList) (λk S m=>bif draw then(bif E.last id then False else Zbc id ops k S m)else ZwI E.cold ops (List.range ops.size) k S m) (K .normal) S m
 | .seq x y,K,S,m=>match E.cuts (ZaF y)with
  | none=>W E Zbc x (λe S' m'=>match e with
   | .normal=>W E Zbc y K S' m'
   | e=>K e S' m') S m
  | some A=>ZBd E.thaw A (Zjy x) (W E Zbc x) (W E Zbc y) K S m
 | .cond c x y,K,S,m=>wv S c λv=>chk (ZhX v) (br (Zdu v) (W E Zbc x K S m) (W E Zbc y K S m))
 | .block id x,K,S,m=>W E Zbc x (λe S' m'=>match e with
  | .exit id'=>bif Nat.beq id' id then K .normal S' m' else K (.exit id') S' m'
  | e=>K e S' m') S m
 | .loop x,K,S,m=>Zz6 E.thaw (E.loops (ZaF x)) (Zjy x) (W E Zbc x) K S m
 | .exit id,K,S,m=>K (.exit id) S m
 | .ret,K,S,m=>K .ret S m
 | .rangeFunc f ps x y,K,S,m=>bif E.rgY (ZaF y)then Zj6 E (E.loops (ZaF y)) f ps.toList (W E Zbc x) (W E Zbc y) K S m else Zoj E.thaw E.P (E.loops (ZaF y)) f ps.toList (W E Zbc x) (W E Zbc y) K S m
 | .scope x,K,S,m=>W E Zbc x (λe S' m'=>match e with
  | .goto _=>False
  | e=>K e S' m') S m
 | _,_,_,_=>False
section
variable {C:Ctx} {S:St} {m:Mem} {a:Act} {w:World}
theorem ZfL{E:Env}(hE:E.ok){F:Fence}(hF:FOk F)(hY:YOk E C){ops:Array Oper}{o:Oper}(hd:∀t,o.dst=some t->t < C.n)(hr:Rel C S m a w){K:St->Mem->Prop}(h:opG E ops o S m K){n:Nat}{next:Act->World->Prop}{Q:Exit->Act->World->Prop}
  (hK:∀S' m' a' w',K S' m'->Rel C S' m' a' w'->next a' w'):
  if Region.wanted o (yielded ops a.tmps)then o.wpIn F n E.P a w next Q else(∀f,o.about E.P w a.eval=some f->F.fn f)/\next (a.put o.dst undef) w:=by
 have yv:opW E S m o K->o.wpIn F n E.P a w next Q:=λhh=>by
  have gF:∀c,o.op≠.defer c:=λc e=>by
   obtain⟨dst,op,type,pos,after,guard⟩:=o
   simp only at e;subst e
   simp[opW,ZcN]at hh
  refine⟨λf _=>hF.fn f,?_⟩
  rw[Oper.semAt_eq _ _ _ gF]
  exact ZsY hE hF hY hd hr hh hK
 have pG:K (S.put o.dst (some (.v undef))) m->(∀f,o.about E.P w a.eval=some f->F.fn f)/\next (a.put o.dst undef) w:=λhh=>
  ⟨λf _=>hF.fn f,hK _ _ _ _ hh (hr.put o.dst hd rfl)⟩
 unfold opG at h
 cases hg:o.guard with
 | none=>
  simp only[hg]at h
  simp only[Region.wanted,hg,if_true]
  exact yv h
 | some jw=>
  obtain⟨j,want⟩:=jw
  simp only[hg]at h
  cases hj:ops.toList[j]? with
  | none=>simp[hj]at h
  | some oj=>
   simp only[hj]at h
   have hj':ops[j]?=some oj:=by simpa using hj
   cases ht:oj.dst with
   | none=>simp[ht]at h
   | some t=>
    simp only[ht]at h
    cases he:S.env t with
    | none=>simp[he]at h
    | some sv=>
     cases sv with
     | loc id off=>simp[he]at h
     | sl id n' c=>simp[he]at h
     | v v=>
      simp only[he]at h
      obtain⟨v',h1,h2⟩:=hr.env t _ he
      simp only[St.den,Option.some.injEq]at h1
      subst h1
      cases hu:ZeX v with
      | true=>
       simp only[hu,cond_true]at h
       have:Region.wanted o (yielded ops a.tmps)=false:=by
        cases v <;> simp[ZeX]at hu
        simp[Region.wanted,hg,yielded,hj',ht,h2]
       simp only[this,Bool.false_eq_true,if_false]
       exact pG h
      | false=>
       simp only[hu,cond_false]at h
       obtain⟨h3,h4⟩:=Zac h
       obtain⟨b,rfl⟩:∃b,v=.bool b:=⟨_,Zcc h3⟩
       have hw:Region.wanted o (yielded ops a.tmps)=(b == want):=by
        simp[Region.wanted,hg,yielded,hj',ht,h2]
       rw[hw]
       simp only[Zdu]at h4
       cases b <;> cases want <;> simp only[br]at h4 <;> simp <;> first
        | exact yv h4
        | exact pG h4
theorem Rel.refine{t:Nat}{v:Value}(hr:Rel C S m a w)(he:S.env t=some (.v v)):Rel C (S.put (some t) (some (.v v))) m a w:=by
 have:S.put (some t) (some (.v v))=S:=by
  unfold St.put
  have:(λi=>bif Nat.beq i t then some (SV.v v)else S.env i)=S.env:=by
   funext i
   by_cases hi:i=t
   ·subst hi;simp[he]
   ·simp[Zam hi]
  simp only[this]
 rw[this];exact hr
theorem Zl4{E:Env}(hE:E.ok){F:Fence}(hF:FOk F)(hY:YOk E C){ops:Array Oper}{o:Oper}(hd:∀t,o.dst=some t->t < C.n)(hr:Rel C S m a w){K:St->Mem->Prop}(h:ZwS E ops o S m K){n:Nat}{next:Act->World->Prop}{Q:Exit->Act->World->Prop}
  (hK:∀S' m' a' w',K S' m'->Rel C S' m' a' w'->next a' w'):
  if Region.wanted o (yielded ops a.tmps)then o.wpIn F n E.P a w next Q else(∀f,o.about E.P w a.eval=some f->F.fn f)/\next (a.put o.dst undef) w:=by
 unfold ZwS at h
 split at h
 ·exact ZfL hE hF hY hd hr h hK
 ·rename_i t _
  split at h
  ·rename_i v he
   cases hu:ZeX v with
   | true=>simp only[hu,cond_true]at h;exact ZfL hE hF hY hd hr h hK
   | false=>
    simp only[hu,cond_false]at h
    obtain⟨h1,h2⟩:=Zac h
    obtain⟨b,rfl⟩:∃b,v=.bool b:=⟨_,Zcc h1⟩
    have eV:=hr.refine he
    cases b
    ·exact ZfL hE hF hY hd eV h2 hK
    ·exact ZfL hE hF hY hd eV h2 hK
  ·exact h.elim
theorem Zeb{n:Nat}:∀{l:List Oper},Zl3 n l=true->∀(i:Nat) o,l[i]?=some o->∀t,o.dst=some t->t < n
 | [],_,i,o,h,_,_=>by simp at h
 | x::l,hl,i,o,h,t,ht=>by
  simp only[Zl3,Bool.and_eq_true]at hl
  cases i with
  | zero=>
   simp at h;subst h
   simp[Zzy,ht]at hl
   exact hl.1
  | succ i=>exact Zeb hl.2 i o (by simpa using h) t ht
theorem Zjb{E:Env}(hE:E.ok){F:Fence}(hF:FOk F)(hY:YOk E C){ops:Array Oper}(bF:Zl3 C.n ops.toList=true){n:Nat}{Q:Exit->Act->World->Prop}:∀(l:List Nat){K:St->Mem->Prop}{S:St}{m:Mem}{a:Act}{w:World},Rel C S m a w->ZwI E ops l K S m->
  (∀S' m' a' w',K S' m'->Rel C S' m' a' w'->Q .normal a' w')->wpOpsIn F n E.P ops Q l a w
 | [],K,S,m,a,w,hr,h,hK=>hK _ _ _ _ h hr
 | i::l,K,S,m,a,w,hr,h,hK=>by
  simp only[ZwI]at h
  cases ho:ops.toList[i]? with
  | none=>simp[ho]at h
  | some o=>
   simp only[ho]at h
   have ho':ops[i]?=some o:=by simpa using ho
   have:=Zl4 hE hF hY (Zeb bF i o ho) hr h (n:=n) (Q:=Q) (next:=wpOpsIn F n E.P ops Q l) (λS' m' a' w' hk bJ=>Zjb hE hF hY bF l bJ hk hK)
   simp only[wpOpsIn,ho']
   exact this
end
def SameOut(ds:List Nat)(S S':St):Prop:=∀i,i ∉ ds->S'.env i=S.env i
theorem SameOut.refl(ds:List Nat)(S:St):SameOut ds S S:=λ_ _=>rfl
theorem SameOut.trans{ds:List Nat}{a b c:St}(h:SameOut ds a b)(k:SameOut ds b c):SameOut ds a c:=λi hi=>(k i hi).trans (h i hi)
theorem SameOut.mono{ds ds':List Nat}{a b:St}(h:SameOut ds a b)(k:∀i,i∈ds->i∈ds'):SameOut ds' a b:=λi hi=>h i (λhm=>hi (k i hm))
theorem SameOut.put{ds:List Nat}{S S':St}(h:SameOut ds S S'){d:Option Tmp}(hd:∀t,d=some t->t∈ds)(x:Option SV):SameOut ds S (S'.put d x):=by
 cases d with
 | none=>exact h
 | some d=>
  intro i hi
  have cT:i≠d:=λe=>hi (e ▸ hd d rfl)
  simp[St.put,Zam cT,h i hi]
theorem Zii{b:Bool}{p q p' q':Prop}(h:p->p')(k:q->q')(x:br b p q):br b p' q':=by
 cases b
 ·exact k x
 ·exact h x
theorem Zaf{b:Bool}{p p':Prop}(h:p->p')(x:chk b p):chk b p':=Zii h id x
theorem Zat{S:St}{x:Operand}{k k':Value->Prop}(h:∀v,k v->k' v)(hx:wv S x k):wv S x k':=by
 unfold wv at *
 split at hx
 ·exact h _ hx
 ·exact hx
theorem ZcG{S:St}:∀{l:List Operand} {k k':List Value->Prop},(∀v,k v->k' v)->wvs S l k->wvs S l k'
 | [],k,k',h,hx=>h _ hx
 | x::l,k,k',h,hx=>Zat (λv hv=>ZcG (λvs dS=>h _ dS) hv) hx
theorem Zij{l:List Value}{n:Nat}{k k':Value->Prop}(h:∀v,k v->k' v)(hx:Zub l n k):Zub l n k':=by
 unfold Zub at *
 split at hx
 ·exact h _ hx
 ·exact hx
theorem Zrt:∀{n:Nat} {k k':List Value->Prop},(∀v,k v->k' v)->exN n k->exN n k'
 | 0,k,k',h,hx=>h _ hx
 | n+1,k,k',h,⟨v,hx⟩=>⟨v,Zrt (λl hl=>h _ hl) hx⟩
theorem allL_mono:∀{n:Nat} {k k':List (List Value)->Prop},(∀v,k v->k' v)->allL n k->allL n k'
 | 0,k,k',h,hx=>h _ hx
 | n+1,k,k',h,hx=>λcs=>allL_mono (λl hl=>h _ hl) (hx cs)
mutual
theorem Shape.all_mono:∀(s:Shape){k k':Value->Prop},(∀v,k v->k' v)->s.all k->s.all k'
 | .any,k,k',h,hx=>by simp only[Shape.all]at *;exact λv=>h _ (hx v)
 | .int ki,k,k',h,hx=>by simp only[Shape.all]at *;exact λv=>h _ (hx v)
 | .bool,k,k',h,hx=>by simp only[Shape.all]at *;exact λv=>h _ (hx v)
 | .str,k,k',h,hx=>by simp only[Shape.all]at *;exact λv=>h _ (hx v)
 | .slice,k,k',h,hx=>by simp only[Shape.all]at *;exact λa n c=>h _ (hx a n c)
 | .agg l,k,k',h,hx=>by simp only[Shape.all]at *;exact Shape.allL_mono l (λvs dS=>h _ dS) hx
 | .tup l,k,k',h,hx=>by simp only[Shape.all]at *;exact Shape.allL_mono l (λvs dS=>h _ dS) hx
 | .fn,k,k',h,hx=>by simp only[Shape.all]at *;exact λg fi ca=>h _ (hx g fi ca)
 | .cells,k,k',h,hx=>by simp only[Shape.all]at *;exact λcs=>h _ (hx cs)
 | .ptr,k,k',h,hx=>by simp only[Shape.all]at *;exact λb o=>h _ (hx b o)
theorem Shape.allL_mono:∀(l:List Shape){k k':List Value->Prop},(∀v,k v->k' v)->Shape.allL l k->Shape.allL l k'
 | [],k,k',h,hx=>by simp only[Shape.allL]at *;exact h _ hx
 | s::l,k,k',h,hx=>by simp only[Shape.allL]at *;exact Shape.all_mono s (λv hv=>Shape.allL_mono l (λvs dS=>h _ dS) hv) hx
end
mutual
theorem Shape.ex_mono:∀(s:Shape){k k':Value->Prop},(∀v,k v->k' v)->s.ex k->s.ex k'
 | .any,k,k',h,hx=>by simp only[Shape.ex]at *;obtain⟨v,hx⟩:=hx;exact⟨v,h _ hx⟩
 | .int ki,k,k',h,hx=>by simp only[Shape.ex]at *;obtain⟨v,hx⟩:=hx;exact⟨v,h _ hx⟩
 | .bool,k,k',h,hx=>by simp only[Shape.ex]at *;obtain⟨v,hx⟩:=hx;exact⟨v,h _ hx⟩
 | .str,k,k',h,hx=>by simp only[Shape.ex]at *;obtain⟨v,hx⟩:=hx;exact⟨v,h _ hx⟩
 | .slice,k,k',h,hx=>by simp only[Shape.ex]at *;obtain⟨a,n,c,hx⟩:=hx;exact⟨a,n,c,h _ hx⟩
 | .agg l,k,k',h,hx=>by simp only[Shape.ex]at *;exact Shape.exL_mono l (λvs dS=>h _ dS) hx
 | .tup l,k,k',h,hx=>by simp only[Shape.ex]at *;exact Shape.exL_mono l (λvs dS=>h _ dS) hx
 | .fn,k,k',h,hx=>by simp only[Shape.ex]at *;obtain⟨g,fi,ca,hx⟩:=hx;exact⟨g,fi,ca,h _ hx⟩
 | .cells,k,k',h,hx=>by simp only[Shape.ex]at *;obtain⟨cs,hx⟩:=hx;exact⟨cs,h _ hx⟩
 | .ptr,k,k',h,hx=>by simp only[Shape.ex]at *;obtain⟨b,o,hx⟩:=hx;exact⟨b,o,h _ hx⟩
theorem Shape.exL_mono:∀(l:List Shape){k k':List Value->Prop},(∀v,k v->k' v)->Shape.exL l k->Shape.exL l k'
 | [],k,k',h,hx=>by simp only[Shape.exL]at *;exact h _ hx
 | s::l,k,k',h,hx=>by simp only[Shape.exL]at *;exact Shape.ex_mono s (λv hv=>Shape.exL_mono l (λvs dS=>h _ dS) hv) hx
end
theorem Zs4{op:BinOp}{k:IntKind}{a b:Int}{r r':Value->Prop}(h:∀v,r v->r' v)(x:Zyz op k a b r):Zyz op k a b r':=by
 cases op <;> simp only[Zyz]at * <;> first
  | exact h _ x
  | exact⟨x.1,h _ x.2⟩
  | exact x
theorem Zok{op:BinOp}{k:IntKind}{a b:Int}{r r':Value->Prop}(h:∀v,r v->r' v)(x:ZkH op k a b r):ZkH op k a b r':=by
 cases op <;> simp only[ZkH]at * <;> first
  | exact⟨x.1,h _ x.2⟩
  | exact x
theorem Zs5{op:BinOp}{a b:ByteArray}{r r':Value->Prop}(h:∀v,r v->r' v)(x:ZyA op a b r):ZyA op a b r':=by
 cases op <;> simp only[ZyA]at * <;> first
  | exact h _ x
  | exact⟨x.1,h _ x.2⟩
  | exact x
theorem ZkW{op:BinOp}{b:Bool}{r r':Value->Prop}(h:∀v,r v->r' v)(x:Zuc op b r):Zuc op b r':=by
 cases op <;> simp only[Zuc]at * <;> first
  | exact h _ x
  | exact x
theorem Zol{E:Env}{op:BinOp}{T:TypeId}{x y:Value}{r r':Value->Prop}(h:∀v,r v->r' v)(hx:Zyu E op T x y r):Zyu E op T x y r':=by
 unfold Zyu at *
 cases ht:E.tt T with
 | none=>simp[ht]at hx
 | some i=>
  simp only[ht]at *
  cases hd:i.d <;> simp only[hd]at * <;> first
   | exact hx.elim
   | exact Zaf (λy=>Zs5 h y) hx
   | exact Zaf (ZkW h) hx
   | exact Zaf (λ⟨b,hb,y⟩=>⟨b,hb,ZkW h y⟩) hx
   | (cases hs:ZjZ op <;> simp only[hs,cond_true,cond_false]at * <;> first
     | exact Zaf (Zs4 h) hx
     | exact Zaf (Zok h) hx)
theorem Zl5{place:Nat->Option (Nat×Nat)}:∀{parts:List (Nat×Value)} {cs:List Value} {k k':List Value->Prop},(∀v,k v->k' v)->ZnM place cs parts k->ZnM place cs parts k'
 | [],cs,k,k',h,hx=>h _ hx
 | (i,v)::rest,cs,k,k',h,hx=>by
  simp only[ZnM]at *
  cases hp:place i with
  | none=>simp[hp]at hx
  | some os=>simp only[hp]at *;exact Zaf (Zl5 h) hx
theorem ZbV{x:Option Value}{d y:Nat}{r r':Nat->Prop}(h:∀v,r v->r' v)(hx:Zh8 x d y r):Zh8 x d y r':=by
 cases x with
 | none=>exact h _ hx
 | some v=>exact Zaf (λ⟨a,b⟩=>⟨a,h _ b⟩) hx
theorem ZkX{S:St}{x:Option Operand}{r r':Option Value->Prop}(h:∀v,r v->r' v)(hx:ZyD S x r):ZyD S x r':=by
 cases x with
 | none=>exact h _ hx
 | some v=>exact Zat (λv hv=>h _ hv) hx
theorem Zj7{E:Env}{T:TypeId}{v:Value}{lo hi mx:Option Value}{r r':Value->Prop}(h:∀v,r v->r' v)(hx:ZjD E T v lo hi mx r):ZjD E T v lo hi mx r':=by
 unfold ZjD at *
 cases he:Zi5 E T with
 | some sz=>simp only[he]at *;exact Zaf (λy=>ZbV (λm y=>ZbV (λh' y=>ZbV (λl y=>Zaf (h _) y) y) y) y) hx
 | none=>
  simp only[he]at *
  cases hs:Zgc E T <;> simp only[hs,cond_true,cond_false]at *
  exact Zaf (λy=>ZbV (λh' y=>ZbV (λl y=>h _ y) y) y) hx
theorem Zjc{E:Env}{S:St}{o:Oper}{k k':SV->Prop}(h:∀v,k v->k' v)(hx:ZcN E S o k):ZcN E S o k':=by
 obtain⟨dst,op,type,pos,after,guard⟩:=o
 cases op <;> simp only[ZcN]at * <;> try exact hx.elim
 case unOp op T x=>
  refine Zat (λv y=>?_) hx
  cases op <;> simp only at *
  ·split at y <;> first|exact Zaf (h _) y|exact y.elim
  ·split at y <;> first|exact Zaf (h _) y|exact y.elim
  ·exact Zaf (h _) y
 case binOp=>exact Zat (λv y=>Zat (λv' y=>Zol (λr y=>h _ y) y) y) hx
 case convert=>
  refine Zat (λv y=>?_) hx
  unfold ZsO at *
  (repeat' split at y) <;> first|exact y.elim|exact Zaf (h _) y
 case makeFunc=>exact ZcG (λv y=>ZcG (λv' y=>h _ y) y) hx
 case fieldAddr=>
  (repeat' split at hx) <;> first|exact hx.elim|exact h _ hx|exact Zaf (h _) hx
 case indexAddr=>
  refine Zat (λv y=>Zaf (λy=>?_) y) hx
  split at y
  ·exact y.elim
  ·refine⟨y.1,?_⟩
   have y2:=y.2
   (repeat' split at y2) <;> first|exact y2.elim|exact h _ y2|exact Zaf (h _) y2
  ·(repeat' split at y) <;> first
    | exact y.elim
    | exact⟨y.1,h _ y.2⟩
    | exact Zaf (λ⟨b,o,h1,h2,h3⟩=>⟨b,o,h1,h2,h _ h3⟩) y
 case index=>
  refine Zat (λv y=>Zat (λv' y=>Zaf (λy=>?_) y) y) hx
  cases hs:Zgc E _ <;> simp only[hs,cond_true,cond_false]at *
  ·split at y
   ·exact Zaf (λ⟨a,b⟩=>⟨a,Zij (λu hu=>h _ hu) b⟩) y
   ·exact y.elim
  ·exact Zaf (λ⟨a,b⟩=>⟨a,h _ b⟩) y
 case build=>
  split at hx
  ·exact hx.elim
  ·exact ZcG (λvs y=>Zl5 (λr y=>h _ y) y) hx
 case extract=>exact Zat (λv y=>Zaf (λy=>Zij (λu hu=>h _ hu) y) y) hx
 case makeInterface=>exact Zat (λv y=>Zaf (h _) y) hx
 case nilCheck=>(repeat' split at hx) <;> first|exact hx.elim|exact h _ hx|exact Zaf (h _) hx
 case slice=>exact Zat (λv y=>ZkX (λl y=>ZkX (λh' y=>ZkX (λm y=>Zj7 (λr y=>h _ y) y) y) y) y) hx
 case call c=>
  split at hx
  ·split at hx
   ·refine Zat (λv y=>?_) hx
    unfold ZyY at *
    (repeat' split at y) <;> first|exact y.elim|exact Zaf (h _) y|exact h _ y
   ·exact hx.elim
  ·split at hx
   ·refine Zat (λv y=>Zat (λv' y=>?_) y) hx
    split at y
    ·exact Zaf (h _) y
    ·exact y.elim
   ·exact hx.elim
  ·split at hx
   ·refine Zat (λv y=>Zat (λv' y=>?_) y) hx
    split at y
    ·exact Zaf (h _) y
    ·exact y.elim
   ·refine Zat (λv y=>Zat (λv' y=>Zat (λv'' y=>?_) y) y) hx
    split at y
    ·exact Zaf (h _) y
    ·exact y.elim
   ·exact hx.elim
  ·exact hx.elim
def dl(d:Option Tmp):List Nat:=match d with
 | none=>[]
 | some t=>[t]
theorem Zy0{d:Option Tmp}{t:Nat}(h:d=some t):t∈dl d:=by subst h;simp[dl]
theorem ZcQ(S:St)(d:Option Tmp)(x:Option SV):SameOut (dl d) S (S.put d x):=(SameOut.refl _ S).put (λt ht=>Zy0 ht) x
theorem Zec{ds:List Nat}{S S':St}(h:S'.env=S.env):SameOut ds S S':=λi _=>by rw[h]
theorem Zik{i:TI}{m:Mem}{b o:Nat}{k k':Value->Prop}(h:∀v,k v->k' v)(hx:ZdJ i m b o k):ZdJ i m b o k':=by
 unfold ZdJ at *
 cases ha:i.agg <;> simp only[ha,cond_true,cond_false]at *
 ·obtain⟨v,h1,h2⟩:=hx;exact⟨v,h1,h _ h2⟩
 ·cases hb:Nat.ble i.size 16 <;> simp only[hb,cond_true,cond_false]at *
  ·obtain⟨vs,h1,h2,h3⟩:=hx;exact⟨vs,h1,h2,h _ h3⟩
  ·exact Zrt (λvs ⟨a,b⟩=>⟨a,h _ b⟩) hx
theorem Zet{i:TI}{x:Box}{off:Nat}{k k':Value->Prop}(h:∀v,k v->k' v)(hx:Zdi i x off k):Zdi i x off k':=by
 unfold Zdi at *
 cases ha:i.agg <;> simp only[ha,cond_true,cond_false]at *
 ·exact Zij h hx
 ·cases hb:(x.full&&(Nat.beq x.cap i.size&&Nat.beq off 0)) <;> simp only[hb,cond_true,cond_false]at *
  ·exact Zaf (h _) hx
  ·exact h _ hx
theorem Zjd{E:Env}{S:St}{m:Mem}{T:TypeId}{x:Operand}{k k':Value->Prop}(h:∀v,k v->k' v)(hx:Zhh E S m T x k):Zhh E S m T x k':=by
 unfold Zhh at *
 split at hx
 ·exact hx.elim
 ·split at hx
  ·split at hx
   ·exact hx.elim
   ·exact Zet h hx
  ·split at hx
   ·exact Zaf (Zik h) hx
   ·split at hx
    ·exact hx.elim
    ·exact Zaf (λ⟨a,b⟩=>⟨a,Zet h b⟩) hx
  ·exact hx.elim
theorem Zl6{E:Env}{S:St}{m:Mem}{T:TypeId}{id:Nat}{vd vs:Value}{k k':Int->St->Prop}(h:∀n S',S'.env=S.env->k n S'->k' n S')(hx:Zp7 E S m T id vd vs k):Zp7 E S m T id vd vs k':=by
 unfold Zp7 at *
 split at hx
 ·exact hx.elim
 ·split at hx
  ·exact hx.elim
  ·exact Zaf (λg hf=>by
   obtain⟨o,xs,h1,h2,h3,h4,h5,h6⟩:=g hf
   exact⟨o,xs,h1,h2,h3,h4,h5,h _ _ rfl h6⟩) hx
theorem Zhs{E:Env}{S:St}{T:TypeId}{x:Operand}{v:Value}{k k':St->Prop}(h:∀S',S'.env=S.env->k S'->k' S')(hx:ZhY E S T x v k):ZhY E S T x v k':=by
 unfold ZhY at *
 split at hx
 ·exact hx.elim
 ·split at hx
  ·split at hx
   ·exact hx.elim
   ·refine Zaf (λy=>?_) hx
    cases hb:(_&&(Nat.beq _ _&&Nat.beq _ 0)) <;> simp only[hb,cond_true,cond_false]at *
    ·exact Zaf (h _ rfl) y
    ·exact h _ rfl y
  ·split at hx
   ·exact hx.elim
   ·split at hx
    ·exact hx.elim
    ·exact Zaf (λ⟨a,b,c⟩=>⟨a,b,h _ rfl c⟩) hx
  ·exact hx.elim
theorem Zom(S:St)(ids:List Nat)(bxs:List Box)(css:List (List Value)):(ZeU S ids bxs css).env=S.env:=by
 rw[Zeq]
theorem Zj8{E:Env}{S:St}{m:Mem}{rt:TypeId}{g:FuncId}{args:List Value}{key esz:Nat}{K K':Value->St->Mem->Prop}(h:∀v S' m',S'.env=S.env->m.le m'->K v S' m'->K' v S' m')(hx:ZkN E S m rt g args key esz K):ZkN E S m rt g args key esz K':=by
 obtain⟨R,hx⟩:=hx
 exact⟨R,ZsR (λ⟨h1,h2,h3⟩=>⟨h1,h2,Shape.all_mono _ (λv y m' hm hr=>h v _ m' rfl hm (y m' hm hr)) h3⟩) hx⟩
theorem Zl7{E:Env}{S:St}{m:Mem}{rt:TypeId}{g:FuncId}{args:List Value}{ids:List Nat}{K K':Value->St->Mem->Prop}(h:∀v S' m',S'.env=S.env->m.le m'->K v S' m'->K' v S' m')(hx:ZnN E S m rt g args ids K):ZnN E S m rt g args ids K':=by
 unfold ZnN at *
 split at hx
 ·exact hx.elim
 ·refine Zaf (λ⟨R,h0,h1,h2,h3⟩=>⟨R,h0,h1,h2,Shape.all_mono _ (λv y m' hm=>allL_mono (λcss y hR=>h _ _ _ (Zom _ _ _ _) hm (y hR)) (y m' hm)) h3⟩) hx
theorem Zj9{E:Env}{S:St}{m:Mem}{rt:TypeId}{g:FuncId}{args:List Value}{ids:List Nat}{ks:List (Nat×Nat)}{K K':Value->St->Mem->Prop}(h:∀v S' m',S'.env=S.env->K v S' m'->K' v S' m')(hx:ZjE E S m rt g args ids ks K):ZjE E S m rt g args ids ks K':=by
 unfold ZjE at *
 split at hx
 ·exact hx.elim
 ·split at hx
  ·exact hx.elim
  ·exact Zaf (λ⟨Y,R,h1,h2,h3,h4,h5⟩=>⟨Y,R,h1,h2,h3,h4,Shape.all_mono _ (λv y m' hm hn=>allL_mono (λcss y=>Zja (λtvs y hR=>h _ _ _ (Zom S _ _ _) (y hR)) y) (y m' hm hn)) h5⟩) hx
theorem Zgz{S:St}{m:Mem}{x:Operand}{k k':Value->Prop}(h:∀v,k v->k' v)(hx:Zb5 S m x k):Zb5 S m x k':=by
 unfold Zb5 at *
 split at hx
 ·split at hx
  ·exact hx.elim
  ·obtain⟨bs,h1,h2,h3⟩:=hx
   exact⟨bs,h1,h2,h _ h3⟩
 ·exact Zat (λv y=>Zaf (λ⟨bs,h1,h2,h3⟩=>⟨bs,h1,h2,h _ h3⟩) y) hx
theorem Zs6{E:Env}{rt:TypeId}{g:FuncId}{args:List Value}{K K':Value->Int->Prop}{S:St}{m:Mem}(h:∀v gh,K v gh->K' v gh)(hx:Zzw E rt g args K S m):Zzw E rt g args K' S m:=by
 unfold Zzw at *
 split at hx
 ·exact hx.elim
 ·obtain⟨l,xs,go,stop,h1,h2,h3,h4⟩:=hx
  exact⟨l,xs,go,stop,h1,h2,h3,Shape.all_mono _ (λv hv=>⟨λhg=>h _ _ (hv.1 hg),λhs=>h _ _ (hv.2 hs)⟩) h4⟩
theorem Zgf{E:Env}{S:St}{m:Mem}{T xT:TypeId}{key:Nat}{vs vx:Value}{K K':Value->(Nat->Option Tok)->Mem->Prop}(h:∀v tk m',m.le m'->K v tk m'->K' v tk m')(hx:Zgx E S m T xT key vs vx K):Zgx E S m T xT key vs vx K':=by
 unfold Zgx at *
 split at hx
 ·exact hx.elim
 ·split at hx
  ·exact hx.elim
  ·have hb:∀{j:TI},Zyv E S m j key vs vx K->Zyv E S m j key vs vx K':=λ⟨ht,xs,ys,a1,a2,a3,a4,a5,a6,a7,a8⟩=>⟨ht,xs,ys,a1,a2,a3,a4,a5,a6,a7,λa' c' m' h1 h2=>Zob (h _ _ _ h1) (a8 a' c' m' h1 h2)⟩
   refine Zaf (λy=>?_) hx
   cases eT:E.tails with
   | false=>rw[eT]at y;exact hb y
   | true=>rw[eT]at y;exact Zii (Zaf (h _ _ _ (Mem.le_refl m))) hb y
def Zon(E:Env)(o:Oper):Prop:=(∀T x y,o.op=.store T x y->Zoe E x=none)/\(∀f as ats,o.op=.call ⟨.value f,as,ats⟩->ZeW E o.dst=none)/\(∀T x y z,o.op=.mapUpdate T x y z->E.thaw=false)
theorem Zvk(E:Env)(o:Oper):E.thaw=true\/Zon E o:=by
 cases h:E.thaw with
 | true=>exact .inl rfl
 | false=>exact .inr ⟨λT x y _=>by simp[Zoe,h],λ_ _ _ _=>by simp[ZeW,h],λ_ _ _ _ _=>h⟩
theorem ZnU{th:Bool}{E:Env}{S:St}{m:Mem}{o:Oper}(gT:th=true\/Zon E o){K K':St->Mem->Prop}(h0:∀S' m',SameOut (dl o.dst) S S'->leT th m m'->K S' m'->K' S' m')(hx:opW E S m o K):opW E S m o K':=by
 have h:∀S' m',SameOut (dl o.dst) S S'->m.le m'->K S' m'->K' S' m':=λS' m' hs hm=>h0 S' m' hs (.of hm)
 have hp:∀x,K (S.put o.dst x) m->K' (S.put o.dst x) m:=λx=>h _ _ (ZcQ S _ x) (Mem.le_refl m)
 have fW:∀(S1:St) x m',S1.env=S.env->m.le m'->K (S1.put o.dst x) m'->K' (S1.put o.dst x) m':=λS1 x m' he hm=>h _ _ ((Zec he).trans (ZcQ S1 _ x)) hm
 obtain⟨dst,op,type,pos,after,guard⟩:=o
 simp only at hp fW
 have eZ:∀(o:Oper),o.dst=dst->ZcN E S o (λsv=>K (S.put dst (some sv)) m)->ZcN E S o (λsv=>K' (S.put dst (some sv)) m):=λo ho y=>Zjc (λsv y=>hp _ y) y
 cases op with
 | move x=>exact hp _ hx
 | assign x=>exact hp _ hx
 | pick c x y=>exact Zat (λv y=>Zaf (λy=>Zii (hp _) (hp _) y) y) hx
 | load T x=>
  simp only[opW]at hx ⊢
  cases sB:ZsS E dst with
  | none=>simp only[sB]at hx ⊢;exact Zjd (λv y=>hp _ y) hx
  | some y=>
   simp only[sB]at hx ⊢
   cases cH:E.fix with
   | some f=>simp[cH]at hx
   | none=>
    simp only[cH,Option.isSome_none,cond_false]at hx ⊢
    exact Zjd (λv y=>Zvh (λv y=>hp _ y) y) hx
 | store T x y=>
  refine Zat (λv y=>?_) hx
  cases pG:Zoe E x with
  | none=>
   simp only[pG]at y ⊢
   exact Zhs (λS' he y=>fW S' _ _ he (Mem.le_refl m) y) y
  | some key=>
   simp only[pG]at y ⊢
   have gT:th=true:=by
    rcases gT with h|h
    ·exact h
    ·have:=h.1 T x _ rfl;rw[pG]at this;cases this
   cases cH:E.fix with
   | some f=>simp[cH]at y
   | none=>
    simp only[cH,Option.isSome_none,cond_false]at y ⊢
    unfold Zie at *
    refine Zat (λp y=>?_) y
    split at y
    ·exact y.elim
    ·split at y
     ·split at y
      ·exact y.elim
      ·exact Zaf (λ⟨y1,y2,y3,y4⟩=>⟨y1,y2,y3,ZkO (h0 _ _ (ZcQ S _ _) (by rw[gT];trivial)) y4⟩) y
     ·exact Zaf (λ⟨y1,y2,y3⟩=>⟨y1,y2,h0 _ _ (ZcQ S _ _) (by rw[gT];trivial) y3⟩) y
 | alloc T=>
  simp only[opW,ZsT]at *
  split at hx
  ·exact hx.elim
  ·split at hx
   ·exact hx.elim
   ·split at hx
    ·exact hx.elim
    ·exact λb=>fW _ _ _ rfl (Mem.le_refl m) (hx b)
 | box T x=>
  refine Zat (λv y=>?_) hx
  simp only at y ⊢
  cases qr:Zhk E dst with
  | true=>
   simp only[qr,cond_true]at y ⊢
   cases cH:E.fix with
   | some f=>simp[cH]at y
   | none=>
    simp only[cH,Option.isSome_none,cond_false,ZyE]at y ⊢
    split at y
    ·exact y.elim
    ·split at y
     ·exact y.elim
     ·split at y
      ·exact y.elim
      ·exact Zaf (λy b m' hm hb=>Zqo (fW _ _ _ rfl hm) (y b m' hm hb)) y
  | false=>
  simp only[qr,cond_false]at y ⊢
  simp only[Zz5]at *
  split at y
  ·exact y.elim
  ·split at y
   ·exact y.elim
   ·split at y
    ·exact y.elim
    ·exact Zaf (λy b=>fW _ _ _ rfl (Mem.le_refl m) (y b)) y
 | buildSlice T len parts=>
  cases jG:Zdx E dst with
  | some ke=>
   simp only[opW,jG]at hx ⊢
   cases cH:E.fix with
   | some f=>simp[cH]at hx
   | none=>
    simp only[cH,Option.isSome_none,cond_false]at hx ⊢
    split at hx
    ·simp only[ZmZ]at hx ⊢
     split at hx
     ·exact hx.elim
     ·split at hx
      ·exact hx.elim
      ·exact Zat (λv y=>Zat (λv' y=>Zaf (λ⟨a,y⟩=>⟨a,λb=>Zrr (fW _ _ _ rfl (Mem.le_refl m)) (y b)⟩) y) y) hx
    ·exact hx.elim
  | none=>
  simp only[opW,jG,Zd8]at hx ⊢
  split at hx
  ·exact hx.elim
  ·split at hx
   ·exact hx.elim
   ·split at hx
    ·split at hx
     ·exact hx.elim
     ·split at hx
      ·exact hx.elim
      ·exact Zaf (λy=>ZcG (λvs y=>Zaf (λy b hf=>fW _ _ _ rfl (Mem.le_add hf _) (y b hf)) y) y) hx
    ·exact hx.elim
 | lookup T x y ok=>
  simp only[opW,Zwu]at hx ⊢
  refine Zat (λv y=>Zat (λv' y=>?_) y) hx
  split at y
  ·exact y
  ·obtain⟨b,es,u,o,h1,h2,h3,h4,h5⟩:=y
   exact⟨b,es,u,o,h1,h2,h3,h4,fW _ _ _ rfl (Mem.le_refl m) h5⟩
 | mapUpdate T x y z=>
  simp only[opW]at hx ⊢
  cases cH:E.fix with
  | some f=>simp[cH]at hx
  | none=>
   simp only[cH,Option.isSome_none,Bool.false_or]at hx ⊢
   cases uQ:E.thaw with
   | false=>simp[uQ]at hx
   | true=>
    simp only[uQ,Bool.not_true,cond_false,ZsX]at hx ⊢
    have vY:th=true:=by
     rcases gT with gT|gT
     ·exact gT
     ·rw[gT.2.2 T x y z rfl]at uQ;cases uQ
    refine Zat (λv y=>Zat (λv' y=>Zat (λv2 y=>?_) y) y) hx
    split at y
    ·exact y
    ·split at y
     ·exact y
     ·refine Zaf (λy=>?_) y
      obtain⟨b,es,es',h1,h2,h3,h4,h5,h6⟩:=y
      exact⟨b,es,es',h1,h2,h3,h4,h5,h0 _ _ (ZcQ S _ none) (by rw[vY];trivial) h6⟩
 | makeMap T r=>
  simp only[opW]at hx ⊢
  cases cH:E.fix with
  | some f=>simp[cH]at hx
  | none=>
   simp only[cH,Option.isSome_none,cond_false,Zvj]at hx ⊢
   split at hx
   ·exact hx.elim
   ·exact λb h1 h2=>fW _ _ _ rfl (Mem.le_updK (Mem.le_refl m) h2 _) (hx b h1 h2)
 | makeSlice T l c=>
  simp only[opW]at hx ⊢
  cases jG:Zdx E dst with
  | none=>
   simp only[jG]at hx ⊢
   cases sC:Zuj E dst with
   | true=>
    simp only[sC,cond_true]at hx ⊢
    cases cH:E.fix with
    | some f=>simp[cH]at hx
    | none=>
     simp only[cH,Option.isSome_none,cond_false,ZsV]at hx ⊢
     split at hx
     ·exact hx.elim
     ·split at hx
      ·exact hx.elim
      ·exact Zat (λv y=>Zat (λv' y=>Zaf (λ⟨a,y⟩=>⟨a,λb hf=>fW _ _ _ rfl (Mem.le_add hf _) (y b hf)⟩) y) y) hx
   | false=>
   simp only[sC,cond_false,Zws]at hx ⊢
   split at hx
   ·exact hx.elim
   ·split at hx
    ·exact hx.elim
    ·split at hx
     ·exact hx.elim
     ·exact Zat (λv y=>Zat (λv' y=>Zaf (λ⟨a,y⟩=>⟨a,λb=>fW _ _ _ rfl (Mem.le_refl m) (y b)⟩) y) y) hx
  | some ke=>
   simp only[jG]at hx ⊢
   cases cH:E.fix with
   | some f=>simp[cH]at hx
   | none=>
    simp only[cH,Option.isSome_none,cond_false,ZmZ]at hx ⊢
    split at hx
    ·exact hx.elim
    ·split at hx
     ·exact hx.elim
     ·exact Zat (λv y=>Zat (λv' y=>Zaf (λ⟨a,y⟩=>⟨a,λb=>Zrr (fW _ _ _ rfl (Mem.le_refl m)) (y b)⟩) y) y) hx
 | convert s d x=>
  simp only[opW]at *
  cases hb:Zhq E s d <;> simp only[hb,cond_true,cond_false]at *
  ·cases fK:Zdy E s d <;> simp only[fK,cond_true,cond_false]at *
   ·cases s7:Zdz E s d <;> simp only[s7,cond_true,cond_false]at *
    ·exact eZ _ rfl hx
    ·unfold Zm0 at *
     cases cH:E.fix.isSome with
     | true=>simp only[cH,cond_true]at hx ⊢;exact Zm1 (λv y=>hp _ y) hx
     | false=>simp only[cH,cond_false]at hx ⊢;exact Zgz (λv y=>hp _ y) hx
   ·cases cH:E.fix with
    | some f=>simp[cH]at hx
    | none=>
     simp only[cH,Option.isSome_none,cond_false]at hx ⊢
     exact Zat (λv y=>Zaf (λy b c hf hc=>fW _ _ _ rfl (Mem.le_add hf _) (y b c hf hc)) y) hx
  ·split at hx
   ·exact hp _ hx
   ·exact hx.elim
 | call c=>
  obtain⟨callee,args,argTypes⟩:=c
  cases callee with
  | value f=>
   simp only[opW]at *
   refine ZkM (λS2 m2 cZ bL hx=>?_) hx
   simp only[Zwr]at hx ⊢
   split at hx
   ·cases kK:ZeW E dst with
    | some ks=>
     simp only[kK]at hx ⊢
     have gT:th=true:=by
      rcases gT with h|h
      ·exact h
      ·have:=h.2.1 _ _ _ rfl;simp only at this;rw[kK]at this;cases this
     cases cH:E.fix with
     | some f=>simp[cH]at hx
     | none=>
      simp only[cH,Option.isSome_none,cond_false]at hx ⊢
      exact ZcG (λvs y=>Zj9 (λv S' m' he y=>h0 _ _ ((Zec (he.trans cZ)).trans (ZcQ S' _ _)) (by rw[gT];trivial) y) y) hx
    | none=>
    simp only[kK]at hx ⊢
    cases sD:Zug E dst with
    | true=>
     simp only[sD,cond_true]at hx ⊢
     cases cH:E.fix with
     | some f=>simp[cH]at hx
     | none=>
      simp only[cH,Option.isSome_none,cond_false]at hx ⊢
      exact ZcG (λvs y=>Zs6 (λv gh y=>fW _ _ _ cZ bL y) y) hx
    | false=>
    simp only[sD,cond_false]at hx ⊢
    split at hx
    ·exact ZcG (λvs y=>Zl7 (λv S' m' he hm y=>fW S' _ _ (he.trans cZ) (mLt bL hm) y) y) hx
    ·split at hx
     ·exact ZcG (λvs y=>Zj8 (λv S' m' he hm y=>fW S' _ _ (he.trans cZ) (mLt bL hm) y) y) hx
     ·exact hx.elim
   ·cases cH:E.fix with
    | some f=>simp[cH]at hx
    | none=>
     simp only[cH,Option.isSome_none,cond_false]at hx ⊢
     split at hx
     ·exact ZcG (λvs ⟨y1,y2,y3⟩=>⟨y1,fW _ _ _ cZ bL y2,fW _ _ _ cZ bL y3⟩) hx
     ·split at hx
      ·exact hx.elim
      ·exact ZcG (λvs ⟨y1,y2⟩=>⟨y1,fW _ _ _ cZ bL y2⟩) hx
     ·exact hx.elim
   ·exact hx.elim
  | invoke r mm=>
   simp only[opW]at *
   exact eZ _ rfl hx
  | builtin b=>
   cases b with
   | append=>
    simp only[opW]at *
    split at hx
    ·exact ZkM (λS2 m2 cZ bL hx=>Zat (λv y=>Zat (λv' y=>Zgf (λv tk m' hm y=>fW _ _ _ cZ (mLt bL hm) y) y) y) hx) hx
    ·exact hx.elim
   | copy=>
    simp only[opW]at *
    split at hx
    ·split at hx
     ·exact hx.elim
     ·exact Zat (λv y=>Zat (λv' y=>Zl6 (λn S' he y=>fW S' _ _ he (Mem.le_refl m) y) y) y) hx
    ·exact hx.elim
   | _=>
    simp only[opW]at *
    exact eZ _ rfl hx
 | _=>
  simp only[opW]at *
  exact eZ _ rfl hx
theorem Zer{th:Bool}{E:Env}{ops:Array Oper}{S:St}{m:Mem}{o:Oper}(gT:th=true\/Zon E o){K K':St->Mem->Prop}(h:∀S' m',SameOut (dl o.dst) S S'->leT th m m'->K S' m'->K' S' m')(hx:opG E ops o S m K):opG E ops o S m K':=by
 unfold opG at *
 have hs:K (S.put o.dst (some (.v undef))) m->K' (S.put o.dst (some (.v undef))) m:=h _ _ (ZcQ S _ _) (leT.refl _ m)
 split at hx
 ·exact ZnU gT h hx
 ·split at hx
  ·exact hx.elim
  ·split at hx
   ·exact hx.elim
   ·split at hx
    ·rename_i v _
     cases hu:ZeX v <;> simp only[hu,cond_true,cond_false]at *
     ·refine Zaf (λy=>?_) hx
      split at y
      ·exact Zii (ZnU gT h) hs y
      ·exact Zii hs (ZnU gT h) y
     ·exact hs hx
    ·exact hx.elim
theorem ZaY:∀{l:List Oper} {i:Nat} {o:Oper} {t:Nat},l[i]?=some o->o.dst=some t->t∈ZaJ l
 | [],i,o,t,h,_=>by simp at h
 | x::l,0,o,t,h,ht=>by simp at h;subst h;simp[ZaJ,ht]
 | x::l,i+1,o,t,h,ht=>by
  have:=ZaY (l:=l) (by simpa using h) ht
  simp only[ZaJ]
  cases x.dst with
  | none=>exact this
  | some d=>simp[this]
theorem ZkY{ops:Array Oper}{o:Oper}{t:Nat}(h:ZfJ ops o=some t):t∈ZaJ ops.toList:=by
 unfold ZfJ at h
 split at h
 ·cases h
 ·split at h
  ·cases h
  ·rename_i hj;exact ZaY hj h
theorem Zil{E:Env}{ops:Array Oper}{S:St}{m:Mem}{o:Oper}(ho:∀t,o.dst=some t->t∈ZaJ ops.toList){K K':St->Mem->Prop}(h:∀S' m',SameOut (ZaJ ops.toList) S S'->leT E.thaw m m'->K S' m'->K' S' m')(hx:ZwS E ops o S m K):ZwS E ops o S m K':=by
 have hm:∀{S':St},SameOut (dl o.dst) S S'->SameOut (ZaJ ops.toList) S S':=λhs=>hs.mono λq hq=>by
  cases hd:o.dst with
  | none=>simp[hd,dl]at hq
  | some t=>simp[hd,dl]at hq;subst hq;exact ho _ hd
 unfold ZwS at *
 split at hx
 ·exact Zer (Zvk E o) (λS' m' hs hm' y=>h _ _ (hm hs) hm' y) hx
 ·rename_i t ht
  have uR:=ZkY ht
  have hb:∀b:Bool,opG E ops o (S.put (some t) (some (.v (.bool b)))) m K->opG E ops o (S.put (some t) (some (.v (.bool b)))) m K':=λb=>Zer (Zvk E o) (λS' m' hs hm' y=>h _ _ (by
   have h1:SameOut (ZaJ ops.toList) S (S.put (some t) (some (.v (.bool b)))):=(SameOut.refl _ S).put (λt' e=>by cases e;exact uR) _
   refine h1.trans (hs.mono λq hq=>?_)
   cases hd:o.dst with
   | none=>simp[hd,dl]at hq
   | some t=>simp[hd,dl]at hq;subst hq;exact ho _ hd) hm' y)
  split at hx
  ·rename_i v _
   cases hu:ZeX v with
   | true=>simp only[hu,cond_true]at hx ⊢;exact Zer (Zvk E o) (λS' m' hs hm' y=>h _ _ (hm hs) hm' y) hx
   | false=>simp only[hu,cond_false]at hx ⊢;exact Zaf (Zii (hb true) (hb false)) hx
  ·exact hx.elim
theorem Zim{E:Env}{ops:Array Oper}:∀{l:List Nat} {S:St} {m:Mem} {K K':St->Mem->Prop},(∀S' m',SameOut (ZaJ ops.toList) S S'->leT E.thaw m m'->K S' m'->K' S' m')->ZwI E ops l K S m->ZwI E ops l K' S m
 | [],S,m,K,K',h,hx=>h _ _ (SameOut.refl _ S) (leT.refl _ m) hx
 | i::l,S,m,K,K',h,hx=>by
  simp only[ZwI]at *
  cases ho:ops.toList[i]? with
  | none=>simp[ho]at hx
  | some o=>
   simp only[ho]at hx ⊢
   exact Zil (λt ht=>ZaY ho ht) (λS' m' hs hm y=>Zim (λS'' m'' hs' hm' y=>h _ _ (SameOut.trans hs hs') (leT.trans hm hm') y) y) hx
theorem Zoo{S:St}:∀{l:List Nat} {k k':List (List Value)->Prop},(∀v,k v->k' v)->ZsK S l k->ZsK S l k'
 | [],k,k',h,hx=>h _ hx
 | id::l,k,k',h,hx=>by
  simp only[ZsK]at *
  split at hx
  ·exact hx.elim
  ·exact Zoo (λvs dS=>h _ dS) hx
theorem Zka{S:St}:∀{l:List (Nat×Nat)} {k k':List Value->Prop},(∀v,k v->k' v)->Ze5 S l k->Ze5 S l k'
 | [],k,k',h,hx=>h _ hx
 | (q,e)::l,k,k',h,hx=>Zaf (λy=>Zka (λvs dS=>h _ dS) y) hx
theorem Zed:∀{l:List Nat} {k k':List (List Value)->Prop},(∀v,k v->k' v)->ZkS l k->ZkS l k'
 | [],k,k',h,hx=>h _ hx
 | _::l,k,k',h,hx=>λcs=>Zed (λvs dS=>h _ dS) (hx cs)
theorem Zee:∀{l:List (Nat×Nat)} {k k':List Value->Prop},(∀v,k v->k' v)->ZkT l k->ZkT l k'
 | [],k,k',h,hx=>h _ hx
 | _::l,k,k',h,hx=>λa n c=>Zee (λvs dS=>h _ dS) (hx a n c)
theorem Zkb:∀{A:List (Nat×Shape)} {xs:List Value} {e:Nat->Option SV} {i:Nat},(∀q∈A,q.1≠i)->ZbU e A xs i=e i
 | [],xs,e,i,h=>by simp[ZbU]
 | (t,s)::A,[],e,i,h=>by simp[ZbU]
 | (t,s)::A,v::xs,e,i,h=>by
  have h1:i≠t:=λe=>h (t,s) (by simp) e.symm
  simp only[ZbU,Zam h1,cond_false]
  exact Zkb (λq hq=>h q (by simp[hq]))
theorem ZgA{ds:List Nat}{i:Nat}:ds.any (Nat.beq i ·)=true↔i∈ds:=by
 rw[List.any_eq_true]
 constructor
 ·rintro⟨x,hx,he⟩;rw[Nat.eq_of_beq_eq_true he];exact hx
 ·intro h;exact⟨i,h,Nat.beq_refl i⟩
theorem Zht{ds:List Nat}{i:Nat}(h:i ∉ ds):ds.any (Nat.beq i ·)=false:=by
 cases hh:ds.any (Nat.beq i ·)with
 | false=>rfl
 | true=>exact absurd (ZgA.1 hh) h
def Zwv(ds:List Nat)(A:List (Nat×Shape)):Bool:=A.all λq=>ds.any (Nat.beq q.1 ·)
theorem Zeu{ds:List Nat}{A:List (Nat×Shape)}(hA:Zwv ds A=true){S S':St}{xs:List Value}(h:S'.env=ZbU (λi=>bif ds.any (Nat.beq i ·)then none else S.env i) A xs):SameOut ds S S':=by
 intro i hi
 rw[h,Zkb]
 ·simp[Zht hi]
 ·intro q hq e
  simp only[Zwv,List.all_eq_true]at hA
  exact hi (e ▸ ZgA.1 (hA q hq))
def Zal(E:Env):Code->Bool
 | .region id ops draw=>(match E.joins id with
  | none=>true
  | some outs=>Zwv (ZaJ ops.toList) outs)
 | .seq a b=>Zal E a&&Zal E b&&(match E.cuts (ZaF b)with
  | none=>true
  | some A=>Zwv (Zjy a) A.slots)
 | .cond _ a b=>Zal E a&&Zal E b
 | .block _ a=>Zal E a
 | .loop a=>Zal E a&&Zwv (Zjy a) (E.loops (ZaF a)).slots
 | .rangeFunc _ _ a b=>Zal E a&&Zal E b
 | .scope a=>Zal E a
 | _=>true
def leD(E:Env)(id:Nat)(m m':Mem):Prop:=match E.last id with
 | true=>leT E.thaw m m'
 | false=>m.le m'
theorem leD.leT{E:Env}{id:Nat}{m m':Mem}(h:leD E id m m'):leT E.thaw m m':=by
 unfold leD at h
 cases hl:E.last id with
 | true=>rw[hl]at h;exact h
 | false=>rw[hl]at h;exact .of h
theorem leD.le{E:Env}{id:Nat}{m m':Mem}(hl:E.last id=false)(h:leD E id m m'):m.le m':=by
 unfold leD at h;rw[hl]at h;exact h
def Zfo(E:Env)(Zbc:Nat->Array Oper->(St->Mem->Prop)->St->Mem->Prop):Prop:=
 ∀(id:Nat)(ops:Array Oper)(K K':St->Mem->Prop)(S:St)(m:Mem),(∀S' m',SameOut (ZaJ ops.toList) S S'->leD E id m m'->K S' m'->K' S' m')->Zbc id ops K S m->Zbc id ops K' S m
theorem ZgZ{b:Bool}{g:Int}{k k':Int->Prop}(h:∀y,k y->k' y)(hx:ZwJ b g k):ZwJ b g k':=by
 cases b with
 | true=>exact λy=>h y (hx y)
 | false=>exact h g hx
theorem Zqs{b:Bool}{x y:Int}{f g:Bool}{p q:Prop}(h:p->q)(hx:Zj5 b x y f g p):Zj5 b x y f g q:=by
 unfold Zj5 at *
 cases hf:Bool.xor f g with
 | true=>simp[hf]at hx
 | false=>
 simp only[hf,cond_false]at *
 cases b with
 | true=>exact h hx
 | false=>
  simp only[cond_false]at *
  split at hx
  ·exact h hx
  ·exact⟨hx.1,h hx.2⟩
theorem Zqt{a b:List (Option Box)}{p q:Prop}(h:p->q)(hx:ZkU a b p):ZkU a b q:=Zdb.2 ⟨(Zdb.1 hx).1,h (Zdb.1 hx).2⟩
theorem Zqu{a b:List (Option Tok)}{p q:Prop}(h:p->q)(hx:ZkV a b p):ZkV a b q:=Zdc.2 ⟨(Zdc.1 hx).1,h (Zdc.1 hx).2⟩
theorem Zm8{K K':KT}{e:Exit}{S:St}{m:Mem}(h:∀e,K e S m->K' e S m)(hx:Zoi K e S m):Zoi K' e S m:=by
 cases e with
 | ret=>exact h _ hx
 | exit id=>exact h _ hx
 | goto l=>exact h _ hx
 | _=>exact hx
theorem leT.up{th:Bool}{mi m m':Mem}(hc:th=false->mi=m)(h:mi.le m'):leT th m m':=by
 cases th with
 | true=>trivial
 | false=>rw[hc rfl]at h;exact h
theorem Zop{th:Bool}{P:Program}{A:LoopAnn}{f:Operand}{ps:List Nat}{assign body:KT->St->Mem->Prop}{ds:List Nat}
  (ha:∀{S:St} {m:Mem} {K K':KT},(∀e S' m',leT th m m'->K e S' m'->K' e S' m')->assign K S m->assign K' S m)
  (hb:∀{S:St} {m:Mem} {K K':KT},(∀e S' m',leT th m m'->K e S' m'->K' e S' m')->body K S m->body K' S m)
  {S:St} {m:Mem} {K K':KT} (h:∀e S' m',SameOut ds S S'->leT th m m'->K e S' m'->K' e S' m') (hx:Zoj th P A f ps assign body K S m):Zoj th P A f ps assign body K' S m:=by
 unfold Zoj at *
 split at hx
 ·refine Zaf (Zs2 λmi kS qt ⟨xs,h1,h2,I,h3,h4,h5⟩=>⟨xs,h1,h2,I,h3,?_,?_⟩) hx
  all_goals have up:∀{m':Mem},mi.le m'->leT th m m':=λhm=>leT.up qt hm
  ·refine ZgZ (λy z=>Shape.allL_mono _ (λx z=>Zed (λcss z=>Zee (λtvs z m' n hm hn hI=>?_) z) z) z) h4
   refine ha (λe S1 m1 bH k=>?_) (z m' n hm hn hI)
   cases e with
   | normal=>
    refine hb (λe S' m'' bL k=>Zs3 (Zqs (Zqt (Zqu (Zoo λcss' k=>?_ )))) k) k
    refine Zka (λtvs' k=>?_) k
    cases e with
    | normal=>exact k
    | _=>exact Zm8 (λe=>h e _ _ (SameOut.refl _ _) (leT.trans (up hm) (leT.trans bH bL))) k
   | _=>exact k
  ·exact ZgZ (λy z=>Zed (λcss z=>Zee (λtvs z m' hm hI=>h _ _ _ (SameOut.refl _ _) (up hm) (z m' hm hI)) z) z) h5
 ·exact hx.elim
theorem Zm9{E:Env}{A:LoopAnn}{f:Operand}{ps:List Nat}{assign body:KT->St->Mem->Prop}{ds:List Nat}
  {S:St} {m:Mem} {K K':KT} (h:∀e S' m',SameOut ds S S'->leT E.thaw m m'->K e S' m'->K' e S' m') (hx:Zj6 E A f ps assign body K S m):Zj6 E A f ps assign body K' S m:=by
 unfold Zj6 at *
 split at hx
 ·obtain⟨c1,hx⟩:=Zac hx
  refine Zaa c1 ?_
  simp only[Bool.and_eq_true]at c1
  obtain⟨Y,n,V,R,h1,h2,h3,I,h4,h5,h6⟩:=hx
  refine⟨Y,n,V,R,h1,h2,h3,I,h4,h5,?_⟩
  exact ZgZ (λy z=>Zed (λcss z=>Zee (λtvs z m' me a b c hI hR=>h _ _ _ (SameOut.refl _ _) (by rw[c1.1.1];trivial) (z m' me a b c hI hR)) z) z) h6
 ·exact hx.elim
theorem Zs7{E:Env}{kz:Option (Nat×Nat)}{ops:Array Oper}{l:List Nat}{S:St}{m:Mem}{K K':St->Mem->Prop}(h:∀S' m',SameOut (ZaJ ops.toList) S S'->leT E.thaw m m'->K S' m'->K' S' m')
  (y:ZwT E kz (ZwI E ops l) K S m):ZwT E kz (ZwI E ops l) K' S m:=by
 unfold ZwT at *
 split at y
 ·exact Zim h y
 ·obtain⟨y1,y2⟩:=Zac y
  refine Zaa y1 ?_
  simp only[Bool.and_eq_true]at y1
  split at y2
  ·exact y2
  ·obtain⟨z0,a,n,c,z1,z2,z3⟩:=y2
   refine⟨z0,a,n,c,z1,z2,Zim (λS' m' hs _ z=>?_) z3⟩
   split at z
   ·exact z
   ·exact Zaf (λz zs hz=>h _ _ (λt ht=>hs t ht) (by rw[y1.1];trivial) (z zs hz)) z
theorem Ze6{E:Env}{Zbc:Nat->Array Oper->(St->Mem->Prop)->St->Mem->Prop}(hD:Zfo E Zbc):∀(c:Code),Zal E c=true->∀{S:St} {m:Mem} {K K':KT},(∀e S' m',SameOut (Zjy c) S S'->leT E.thaw m m'->K e S' m'->K' e S' m')->W E Zbc c K S m->W E Zbc c K' S m
 | .skip,_,S,m,K,K',h,hx=>h _ _ _ (SameOut.refl _ S) (leT.refl _ m) hx
 | .label _,_,S,m,K,K',h,hx=>h _ _ _ (SameOut.refl _ S) (leT.refl _ m) hx
 | .exit _,_,S,m,K,K',h,hx=>h _ _ _ (SameOut.refl _ S) (leT.refl _ m) hx
 | .ret,_,S,m,K,K',h,hx=>h _ _ _ (SameOut.refl _ S) (leT.refl _ m) hx
 | .region id ops draw,hc,S,m,K,K',h,hx=>by
  simp only[W]at *
  cases hj:E.joins id with
  | none=>
   simp only[hj]at hx ⊢
   cases draw with
   | true=>simp only[cond_true]at *;exact hD _ _ _ _ _ _ (λS' m' hs hm y=>h _ _ _ hs (leD.leT hm) y) hx
   | false=>
    simp only[cond_false]at *
    exact Zs7 (λS' m' hs hm y=>h _ _ _ hs hm y) hx
  | some outs=>
   simp only[hj]at hx ⊢
   refine Shape.exL_mono _ (λxs ⟨h1,h2⟩=>⟨h1,h _ _ _ ?_ (leT.refl _ m) h2⟩) hx
   simp only[Zal,hj]at hc
   exact Zeu hc rfl
 | .seq x y,hc,S,m,K,K',h,hx=>by
  simp only[Zal,Bool.and_eq_true]at hc
  simp only[W,Zjy]at *
  cases mZ:E.cuts (ZaF y)with
  | none=>
   simp only[mZ]at hx ⊢
   refine Ze6 hD x hc.1.1 (λe S' m' hs hm hy=>?_) hx
   have hs':SameOut (Zjy x++Zjy y) S S':=hs.mono (λi hi=>by simp[hi])
   cases e with
   | normal=>exact Ze6 hD y hc.1.2 (λe S'' m'' lH bL hy=>h _ _ _ (hs'.trans (lH.mono (λi hi=>by simp[hi]))) (leT.trans hm bL) hy) hy
   | _=>exact h _ _ _ hs' hm hy
  | some A=>
   simp only[mZ]at hx ⊢ hc
   obtain⟨J,h1,h2⟩:=hx
   refine⟨J,Ze6 hD x hc.1.1 (λe S' m' hs hm hy=>?_) h1,ZgZ (λg z=>Shape.allL_mono _ (λxs z=>Zed (λcss z=>Zee (λtvs z m' hm hJ=>?_) z) z) z) h2⟩
   ·cases e with
    | normal=>exact hy
    | _=>exact h _ _ _ (hs.mono (λi hi=>by simp[hi])) hm hy
   ·refine Ze6 hD y hc.1.2 (λe S' m'' hs bL hy=>h _ _ _ ?_ (leT.trans hm bL) hy) (z m' hm hJ)
    have h3:SameOut (Zjy x) S (Zbd S (Zjy x) A g xs css tvs):=Zeu (S':=Zbd S (Zjy x) A g xs css tvs) hc.2 rfl
    exact(h3.mono (λi hi=>by simp[hi])).trans (hs.mono (λi hi=>by simp[hi]))
 | .cond c x y,hc,S,m,K,K',h,hx=>by
  simp only[Zal,Bool.and_eq_true]at hc
  simp only[W,Zjy]at *
  exact Zat (λv hy=>Zaf (λhy=>Zii (Ze6 hD x hc.1 (λe S' m' hs hm hy=>h _ _ _ (hs.mono (λi hi=>by simp[hi])) hm hy)) (Ze6 hD y hc.2 (λe S' m' hs hm hy=>h _ _ _ (hs.mono (λi hi=>by simp[hi])) hm hy)) hy) hy) hx
 | .block id x,hc,S,m,K,K',h,hx=>by
  simp only[Zal]at hc
  simp only[W,Zjy]at *
  refine Ze6 hD x hc (λe S' m' hs hm hy=>?_) hx
  cases e with
  | exit id'=>
   simp only at *
   cases hb:Nat.beq id' id <;> simp only[hb,cond_true,cond_false]at *
   ·exact h _ _ _ hs hm hy
   ·exact h _ _ _ hs hm hy
  | _=>exact h _ _ _ hs hm hy
 | .loop x,hc,S,m,K,K',h,hx=>by
  simp only[Zal,Bool.and_eq_true]at hc
  simp only[W,Zjy]at *
  obtain⟨I,h1,h2⟩:=hx
  refine⟨I,h1,ZgZ (λg y=>Shape.allL_mono _ (λxs y=>Zed (λcss y=>Zee (λtvs y m' n hm hI=>?_) y) y) y) h2⟩
  refine Ze6 hD x hc.1 (λe S' m'' hs bL hy=>?_) (y m' n hm hI)
  have hs':SameOut (Zjy x) S S':=(Zeu (S':=Zbd S (Zjy x) (E.loops (ZaF x)) g xs css tvs) hc.2 rfl).trans hs
  cases e with
  | normal=>exact hy
  | _=>exact h _ _ _ hs' (leT.trans hm bL) hy
 | .goto _,_,S,m,K,K',h,hx=>by simp[W]at hx
 | .scope x,hc,S,m,K,K',h,hx=>by
  simp only[Zal]at hc
  simp only[W,Zjy]at *
  refine Ze6 hD x hc (λe S' m' hs hm hy=>?_) hx
  cases e with
  | goto l=>exact hy
  | _=>exact h _ _ _ hs hm hy
 | .rangeFunc f ps x y,hc,S,m,K,K',h,hx=>by
  simp only[Zal,Bool.and_eq_true]at hc
  simp only[W]at *
  cases s9:E.rgY (ZaF y)with
  | true=>
   simp only[s9,cond_true]at hx ⊢
   exact Zm9 (λe S' m' hs hm=>h e S' m' hs hm) hx
  | false=>
  simp only[s9,cond_false]at hx ⊢
  exact Zop (assign:=W E Zbc x) (body:=W E Zbc y) (λh'=>Ze6 hD x hc.1 λe S' m' _ hm hy=>h' e S' m' hm hy) (λh'=>Ze6 hD y hc.2 λe S' m' _ hm hy=>h' e S' m' hm hy) (λe S' m' hs hm=>h e S' m' hs hm) hx
 | .refuse _,_,S,m,K,K',h,hx=>by simp[W]at hx
section
variable {C:Ctx} {m:Mem} {a:Act} {w:World}
theorem Rel.restrict{S S2:St}(h:Rel C S m a w)(hg:S2.gh=S.gh)(hf:S2.fo=S.fo)(hL:∀id x,S2.L id=some x->S.L id=some x)(hT:∀k t,S2.tok k=some t->S.tok k=some t\/t.v=.slice none 0 0)
  (cZ:∀i sv,S2.env i=some sv->∃v,S2.den sv=some v/\a.tmps[i]?=some v) (dL:∀id x,S2.L id=some x->id∈S2.ids) (ta:∀k t,S2.tok k=some t->k∈S2.tkeys):Rel C S2 m a w:=by
 refine⟨h.defers,h.size,cZ,λid x hx=>h.own id x (hL id x hx),λid id' x x' hx hx'=>h.apart id id' x x' (hL _ _ hx) (hL _ _ hx'),dL,?_,ta,?_,h.sub,h.le,h.dom.imp λM d=>d.cut hg (λid x hx=>⟨id,x,hL id x hx,rfl⟩) (λk t b ht hb=>?_) rfl (Mem.le_refl _),λh'=>h.fo (hf ▸ h')⟩
 ·intro k t ht
  rcases hT k t ht with h1|h1
  ·obtain⟨h2,h3⟩:=h.toks k t h1
   exact⟨h2,λb hb=>⟨λid x hx=>(h3 b hb).1 id x (hL _ _ hx),(h3 b hb).2⟩⟩
  ·exact⟨.inl h1,λb hb=>by simp[Tok.blk,h1]at hb⟩
 ·intro k k' t t' b ht ht' hb hb'
  rcases hT k t ht with h1|h1
  ·rcases hT k' t' ht' with h2|h2
   ·exact h.tapart k k' t t' b h1 h2 hb hb'
   ·simp[Tok.blk,h2]at hb'
  ·simp[Tok.blk,h1]at hb
 ·rcases hT k t ht with h1|h1
  ·exact⟨k,t,h1,hb⟩
  ·simp[Tok.blk,h1]at hb
theorem Rel.forget{S:St}{m':Mem}(h:Rel C S m' a w)(hm:m.le m')(h0:C.me.le m)(hz:∀id x,S.L id=some x->x.fz=true->m.reads x.b 0 x.cs):Rel C S m a w:=by
 have hn:∀b o,m' b o=none->m b o=none:=λb o ho=>by
  cases he:m b o with
  | none=>rfl
  | some v=>rw[hm _ _ _ he]at ho;cases ho
 refine⟨h.defers,h.size,h.env,λid x hx=>?_,h.apart,h.ids,λk t ht=>?_,h.tkeys,h.tapart,h.sub.less hm,h0,h.dom.imp λM d=>d.cut rfl (λid x hx=>⟨id,x,hx,rfl⟩) (λk t b ht hb=>⟨k,t,ht,hb⟩) rfl hm,h.fo⟩
 ·have h1:=h.own id x hx
  exact⟨h1.cells,λhf o=>hn _ _ (h1.free hf o),hz id x hx,h1.whole⟩
 ·obtain⟨h1,h2⟩:=h.toks k t ht
  exact⟨h1.same (λ_ _=>rfl) (λb o _ ho=>hn _ _ ho),h2⟩
theorem ZdA{S:St}(hr:Rel C S m a w):∀{l:List (Nat×Shape)} {k:List Value->Prop},ZhZ S l k->∃xs,Shape.fitsL (l.map (·.2)) xs=true/\(∀(i:Nat) t sh v,l[i]?=some (t,sh)->xs[i]?=some v->a.tmps[t]?=some v)/\xs.length=l.length/\k xs
 | [],k,h=>⟨[],rfl,by simp,rfl,h⟩
 | (t,sh)::l,k,h=>by
  obtain⟨v,hv,h⟩:=Zax h
  obtain⟨h1,h2⟩:=Zac h
  obtain⟨xs,g1,g2,g3,g4⟩:=ZdA hr h2
  refine⟨v::xs,by simp[Shape.fitsL,h1,g1],?_,by simp[g3],g4⟩
  intro i t' sh' v' hi hx
  cases i with
  | zero=>
   simp at hi hx
   obtain⟨rfl,rfl⟩:=hi
   subst hx
   simp only[St.val,St.ev]at hv
   cases he:S.env t with
   | none=>simp[he]at hv
   | some sv=>
    simp only[he]at hv
    obtain⟨u,h3,h4⟩:=hr.env t sv he
    rw[hv]at h3;cases h3;exact h4
  | succ i=>exact g2 i t' sh' v' (by simpa using hi) (by simpa using hx)
theorem ZcY{S:St}:∀{l:List Nat} {k:List (List Value)->Prop},ZsK S l k->∃css,css.length=l.length/\(∀(i:Nat) id cs,l[i]?=some id->css[i]?=some cs->∃x,S.L id=some x/\x.cs=cs)/\k css
 | [],k,h=>⟨[],rfl,by simp,h⟩
 | id::l,k,h=>by
  simp only[ZsK]at h
  cases hx:S.L id with
  | none=>simp[hx]at h
  | some x=>
   simp only[hx]at h
   obtain⟨css,g1,g2,g3⟩:=ZcY h
   refine⟨x.cs::css,by simp[g1],?_,g3⟩
   intro i id' cs hi hc
   cases i with
   | zero=>simp at hi hc;subst hi hc;exact⟨x,hx,rfl⟩
   | succ i=>exact g2 i id' cs (by simpa using hi) (by simpa using hc)
theorem ZbK{S:St}:∀{l:List (Nat×Nat)} {k:List Value->Prop},Ze5 S l k->∃vs,vs.length=l.length/\(∀(i:Nat) q e v,l[i]?=some (q,e)->vs[i]?=some v->ZeR v=true/\(S.tok q=some ⟨v,e⟩\/v=.slice none 0 0))/\k vs
 | [],k,h=>⟨[],rfl,by simp,h⟩
 | (q,e)::l,k,h=>by
  obtain⟨h1,h2⟩:=Zac h
  simp only[Bool.and_eq_true]at h1
  obtain⟨vs,g1,g2,g3⟩:=ZbK h2
  refine⟨ZsZ S q::vs,by simp[g1],?_,g3⟩
  intro i q' e' v hi hv
  cases i with
  | zero=>
   simp at hi hv
   obtain⟨rfl,rfl⟩:=hi
   subst hv
   refine⟨h1.1,?_⟩
   unfold ZsZ
   cases ht:S.tok q with
   | none=>exact .inr rfl
   | some t=>
    left
    have:t.esz=e:=by have:=h1.2;simp only[ht]at this;exact Nat.eq_of_beq_eq_true this
    cases t;simp at this ⊢;exact this
  | succ i=>exact g2 i q' e' v (by simpa using hi) (by simpa using hv)
theorem ZdB:∀{l:List Nat} {k:List (List Value)->Prop},ZkS l k->∀css,css.length=l.length->k css
 | [],k,h,css,hl=>by cases css <;> simp_all [ZkS]
 | _::l,k,h,css,hl=>by
  cases css with
  | nil=>simp at hl
  | cons c css=>exact ZdB (h c) css (by simpa using hl)
theorem ZdC:∀{l:List (Nat×Nat)} {k:List Value->Prop},ZkT l k->∀vs,vs.length=l.length->(∀v∈vs,ZeR v=true)->k vs
 | [],k,h,vs,hl,_=>by cases vs <;> simp_all [ZkT]
 | _::l,k,h,vs,hl,hs=>by
  cases vs with
  | nil=>simp at hl
  | cons v vs=>
   have:=Zcl (hs v (by simp))
   rw[this]
   exact ZdC (h _ _ _) vs (by simpa using hl) (λu hu=>hs u (by simp[hu]))
theorem Zl8:∀{A:List (Nat×Shape)} {xs:List Value} {e:Nat->Option SV} {i:Nat} {sv:SV},ZbU e A xs i=some sv->e i=some sv\/∃(q:Nat)(sh:Shape)(v:Value),A[q]?=some (i,sh)/\xs[q]?=some v/\sv=.v v
 | [],xs,e,i,sv,h=>.inl (by simpa[ZbU]using h)
 | (t,s)::A,[],e,i,sv,h=>.inl (by simpa[ZbU]using h)
 | (t,s)::A,v::xs,e,i,sv,h=>by
  by_cases hi:i=t
  ·subst hi
   simp[ZbU]at h
   exact .inr ⟨0,s,v,by simp,by simp,h.symm⟩
  ·simp only[ZbU,Zam hi,cond_false]at h
   rcases Zl8 h with h1|⟨q,sh,u,h1,h2,h3⟩
   ·exact .inl h1
   ·exact .inr ⟨q+1,sh,u,by simpa using h1,by simpa using h2,h3⟩
theorem Zfx:∀{l:List Nat} {css:List (List Value)} {L:Nat->Option Box} {id:Nat} {y:Box},Zj4 L l css id=some y->(∃(i:Nat)(x:Box)(cs:List Value),l[i]?=some id/\css[i]?=some cs/\L id=some x/\y={ x with cs:=cs })\/((∀i,l[i]?=some id->css.length<=i)/\L id=some y)
 | [],css,L,id,y,h=>.inr ⟨by simp,by simpa[Zj4]using h⟩
 | d::l,[],L,id,y,h=>.inr ⟨λi _=>by simp,by simpa[Zj4]using h⟩
 | d::l,cs::css,L,id,y,h=>by
  by_cases cS:id=d
  ·subst cS
   simp only[Zj4,Zga,cond_true]at h
   cases hx:L id with
   | none=>simp[hx]at h
   | some x=>simp[hx]at h;exact .inl ⟨0,x,cs,by simp,by simp,rfl,h.symm⟩
  ·simp only[Zj4,Zam cS,cond_false]at h
   rcases Zfx h with⟨i,x,c,h1,h2,h3,h4⟩|⟨h1,h2⟩
   ·exact .inl ⟨i+1,x,c,by simpa using h1,by simpa using h2,h3,h4⟩
   ·refine .inr ⟨λi hi=>?_,h2⟩
    cases i with
    | zero=>simp at hi;exact absurd hi.symm cS
    | succ i=>have:=h1 i (by simpa using hi);simp;omega
theorem Zfy:∀{l:List Nat} {css:List (List Value)} {L:Nat->Option Box} {id:Nat} {x:Box},L id=some x->∃y,Zj4 L l css id=some y/\y.b=x.b
 | [],css,L,id,x,h=>⟨x,by simpa[Zj4]using h,rfl⟩
 | d::l,[],L,id,x,h=>⟨x,by simpa[Zj4]using h,rfl⟩
 | d::l,cs::css,L,id,x,h=>by
  by_cases cS:id=d
  ·subst cS
   exact⟨{ x with cs:=cs },by simp[Zj4,h],rfl⟩
  ·simp only[Zj4,Zam cS,cond_false]
   exact Zfy h
theorem ZdD:∀{l:List (Nat×Nat)} {vs:List Value} {tk:Nat->Option Tok} {k:Nat} {t:Tok},Zgy tk l vs k=some t->(∃(i:Nat)(e:Nat)(v:Value),l[i]?=some (k,e)/\vs[i]?=some v/\t=⟨v,e⟩)\/((∀i q,l[i]?=some q->q.1=k->vs.length<=i)/\tk k=some t)
 | [],vs,tk,k,t,h=>.inr ⟨by simp,by simpa[Zgy]using h⟩
 | (q,e)::l,[],tk,k,t,h=>.inr ⟨λi _ _ _=>by simp,by simpa[Zgy]using h⟩
 | (q,e)::l,v::vs,tk,k,t,h=>by
  by_cases hk:k=q
  ·subst hk
   simp[Zgy]at h
   exact .inl ⟨0,e,v,by simp,by simp,h.symm⟩
  ·simp only[Zgy,Zam hk,cond_false]at h
   rcases ZdD h with⟨i,e',u,h1,h2,h3⟩|⟨h1,h2⟩
   ·exact .inl ⟨i+1,e',u,by simpa using h1,by simpa using h2,h3⟩
   ·refine .inr ⟨λi p hi hp=>?_,h2⟩
    cases i with
    | zero=>simp at hi;subst hi;exact absurd hp.symm hk
    | succ i=>have:=h1 i p (by simpa using hi) hp;simp;omega
structure StOk (S:St):Prop where
 env:∀i sv,S.env i=some sv->∃v,S.den sv=some v
 ids:∀id x,S.L id=some x->id∈S.ids
 tkeys:∀k t,S.tok k=some t->k∈S.tkeys
theorem Rel.ok{S:St}(h:Rel C S m a w):StOk S:=⟨λi sv he=>(h.env i sv he).imp λv hv=>hv.1,h.ids,h.tkeys⟩
theorem ZdL{S S':St}(hS:StOk S){ds:List Nat}{A:LoopAnn}(hr:Rel C S' m a w)(kQ:S'.fo=S.fo)(dE:SameOut ds S S')(jS:ZbJ S' A S.ids=ZbJ S A S.ids)(bU:Za8 S' A S.tkeys=Za8 S A S.tkeys)
  {xs:List Value} {css:List (List Value)} {tvs:List Value} (hx:∀(i:Nat) t sh v,A.slots[i]?=some (t,sh)->xs[i]?=some v->a.tmps[t]?=some v)
  (eJ:css.length=A.boxes.length) (hc:∀(i:Nat) id cs,A.boxes[i]?=some id->css[i]?=some cs->∃x,S'.L id=some x/\x.cs=cs)
  (eT:tvs.length=A.toks.length) (ht:∀(i:Nat) q e v,A.toks[i]?=some (q,e)->tvs[i]?=some v->ZeR v=true/\(S'.tok q=some ⟨v,e⟩\/v=.slice none 0 0)):Rel C (Zbd S ds A S'.gh xs css tvs) m a w:=by
 have hL:∀id y,Zj4 S.L A.boxes css id=some y->S'.L id=some y:=by
  intro id y hy
  have fJ:∀id,id∈S.ids->(bif A.boxes.any (Nat.beq id ·)then(match S'.L id with
    | some x=>some { x with cs:=[] }
    | none=>none)else S'.L id)=(bif A.boxes.any (Nat.beq id ·)then(match S.L id with
    | some x=>some { x with cs:=[] }
    | none=>none)else S.L id):=λid cS=>by
   simp only[ZbJ]at jS
   exact(List.map_inj_left.1 jS) id cS
  rcases Zfx hy with⟨i,x,cs,h1,h2,h3,h4⟩|⟨h1,h2⟩
  ·obtain⟨x',g1,g2⟩:=hc i id cs h1 h2
   have:=fJ id (hS.ids id x h3)
   have hm:A.boxes.any (Nat.beq id ·)=true:=ZgA.2 (List.mem_of_getElem? h1)
   simp only[hm,cond_true,g1,h3,Option.some.injEq,Box.mk.injEq,true_and]at this
   rw[g1,h4]
   obtain⟨e1,e2,e3,e4,e5⟩:=this
   cases x;cases x'
   simp_all
  ·have hm:A.boxes.any (Nat.beq id ·)=false:=Zht (λcE=>by
    obtain⟨i,hi⟩:=List.getElem?_of_mem cE
    have h3:=h1 i hi
    have h4:=(List.getElem?_eq_some_iff.1 hi).1
    omega)
   have:=fJ id (hS.ids id y h2)
   simp only[hm,cond_false]at this
   rw[this,h2]
 have rh:∀k t,Zgy S.tok A.toks tvs k=some t->S'.tok k=some t\/t.v=.slice none 0 0:=by
  intro k t hk
  have fJ:∀k,k∈S.tkeys->(bif A.toks.any (λq=>Nat.beq k q.1)then none else S'.tok k)=(bif A.toks.any (λq=>Nat.beq k q.1)then none else S.tok k):=λk hk=>by
   simp only[Za8]at bU
   exact(List.map_inj_left.1 bU) k hk
  rcases ZdD hk with⟨i,e,v,h1,h2,h3⟩|⟨h1,h2⟩
  ·obtain⟨g1,g2⟩:=ht i k e v h1 h2
   subst h3
   exact g2.imp id id
  ·left
   have hm:A.toks.any (λq=>Nat.beq k q.1)=false:=by
    cases hh:A.toks.any (λq=>Nat.beq k q.1)with
    | false=>rfl
    | true=>
     obtain⟨q,hq,he⟩:=List.any_eq_true.1 hh
     obtain⟨i,hi⟩:=List.getElem?_of_mem hq
     have h3:=h1 i q hi (Nat.eq_of_beq_eq_true he).symm
     have h4:=(List.getElem?_eq_some_iff.1 hi).1
     omega
   have:=fJ k (hS.tkeys k t h2)
   simp only[hm,cond_false]at this
   rw[this,h2]
 refine hr.restrict rfl kQ.symm hL rh ?_ ?_ ?_
 ·intro i sv he
  simp only[Zbd]at he
  rcases Zl8 he with h1|⟨q,sh,v,h1,h2,h3⟩
  ·cases hi:ds.any (Nat.beq i ·)with
   | true=>simp[hi]at h1
   | false=>
    simp only[hi,cond_false]at h1
    have tc:i ∉ ds:=λhm=>by rw[ZgA.2 hm]at hi;cases hi
    have h2:S'.env i=some sv:=by rw[dE i tc,h1]
    obtain⟨v,h3,h4⟩:=hr.env i sv h2
    refine⟨v,?_,h4⟩
    cases sv with
    | v u=>exact h3
    | loc id off=>
     obtain⟨v0,h5⟩:=hS.env i _ h1
     simp only[St.den]at h5
     cases hx:S.L id with
     | none=>simp[hx]at h5
     | some x=>
      obtain⟨y,hy,_⟩:=Zfy (l:=A.boxes) (css:=css) hx
      have:=hL id y hy
      simp only[St.den,this]at h3
      simp only[St.den,Zbd,hy];exact h3
    | sl id n c=>
     obtain⟨v0,h5⟩:=hS.env i _ h1
     simp only[St.den]at h5
     cases hx:S.L id with
     | none=>simp[hx]at h5
     | some x=>
      obtain⟨y,hy,_⟩:=Zfy (l:=A.boxes) (css:=css) hx
      have:=hL id y hy
      simp only[St.den,this]at h3
      simp only[St.den,Zbd,hy];exact h3
  ·subst h3
   exact⟨v,rfl,hx q i sh v h1 h2⟩
 ·intro id y hy
  simp only[Zbd]at hy ⊢
  rcases Zfx hy with⟨i,x,cs,h1,h2,h3,h4⟩|⟨h1,h2⟩
  ·exact hS.ids id x h3
  ·exact hS.ids id y h2
 ·intro k t hk
  simp only[Zbd]at hk ⊢
  rcases ZdD hk with⟨i,e,v,h1,h2,h3⟩|⟨h1,h2⟩
  ·exact List.mem_append_left _ (List.mem_map.2 ⟨(k,e),List.mem_of_getElem? h1,rfl⟩)
  ·exact List.mem_append_right _ (hS.tkeys k t h2)
end
theorem Rel.lessMem{C:Ctx}{S:St}{m m1:Mem}{a:Act}{w:World}(h:Rel C S m a w)(hm:m1.le m)(h0:C.me.le m1)(hk:∀id x,S.L id=some x->x.fz=true->∀o,m1 x.b o=m x.b o):Rel C S m1 a w:=by
 have eE:∀b o,m b o=none->m1 b o=none:=λb o hn=>by
  cases he:m1 b o with
  | none=>rfl
  | some v=>have:=hm _ _ _ he;rw[hn]at this;cases this
 refine⟨h.defers,h.size,h.env,λid x hx=>?_,h.apart,h.ids,λk t ht=>?_,h.tkeys,h.tapart,h.sub.less hm,h0,?_,h.fo⟩
 ·obtain⟨g1,g2,g3,g4⟩:=h.own id x hx
  exact⟨g1,λhz o=>eE _ _ (g2 hz o),λhz j u hu=>by rw[hk id x hx hz];exact g3 hz j u hu,g4⟩
 ·obtain⟨g1,g2⟩:=h.toks k t ht
  exact⟨g1.same (λb _=>rfl) (λb o _=>eE b o),g2⟩
 ·obtain⟨M,hd⟩:=h.dom
  exact⟨M,hd.p,hd.lt,hd.own,hd.tok,hd.mks,hd.new.less hm⟩
theorem Rel.acq{E:Env}{C:Ctx}(hY:YOk E C){mm:Mem}(dV:E.m0=some mm){S:St}{m:Mem}{a:Act}{w:World}(hr:Rel C S m a w)(kQ:S.fo=false){key esz:Nat}{p:Option Addr}{n c:Nat}(h1:ZA8 m mm esz p n c)
  (h2:∀b,(Tok.mk (.slice p n c) esz).blk=some b->nfz S b S.ids (ntk S b [key] S.tkeys)):
  Rel C { S with tok:=λk=>bif Nat.beq k key then some ⟨.slice p n c,esz⟩ else S.tok k,tkeys:=key::S.tkeys } (m.cutA p (n*esz)) a w:=by
 obtain⟨lF,hW⟩:=hY.m0 mm dV
 have lF:C.me=mm:=(hr.fo kQ).trans lF
 rcases h1 with⟨rfl,rfl,rfl⟩|⟨b,rfl,iL,jQ,mQ,eP⟩
 ·exact hr.tokNil key _ rfl
 ·obtain⟨q1,q2⟩:=Zhn (h2 b rfl)
  have cF:(m.cutA (some ⟨b,0,none⟩) (n*esz)).le m:=⟨λb' o v hv=>by
   simp only[Mem.cutA]at hv
   split at hv
   ·cases hv
   ·exact hv,λ_ _ h=>h⟩
  have lV:∀b',b'≠b->∀o,m.cutA (some ⟨b,0,none⟩) (n*esz) b' o=m b' o:=λb' hb o=>by simp[Mem.cutA,hb]
  have jM:∀id x,S.L id=some x->x.b≠b:=λid x hx e=>by
   have ho:=hr.own id x hx
   cases hz:x.fz with
   | true=>exact q2 id x (hr.ids id x hx) hx hz e
   | false=>
    obtain⟨v,hv⟩:=mQ 0 jQ
    have:=ho.free hz 0
    rw[e,hv]at this;cases this
  have dA:Rel C S (m.cutA (some ⟨b,0,none⟩) (n*esz)) a w:=hr.lessMem cF ⟨λb' o v hv=>by
   by_cases hb:b'=b
   ·subst hb;rw[lF]at hv;rw[eP o]at hv;cases hv
   ·rw[lV b' hb];exact hr.le _ _ _ hv,λb e he=>hr.le.k b e he⟩ (λid x hx _ o=>lV _ (jM id x hx) o)
  obtain⟨v0,zO⟩:=mQ 0 jQ
  have hM:∀M,Dom C S m a w M->M b:=λM hd=>(hd.new b 0 v0 zO).resolve_left λh=>by rw[lF,eP 0]at h;cases h
  have cM:∀o,o < c*esz->∃v,w.cell? ⟨b,o,none⟩=some v:=λo ho=>by
   obtain⟨v,hv⟩:=mQ o ho
   exact⟨v,hr.sub _ _ _ hv⟩
  obtain⟨cur,T,fr,hh⟩:∃cur T fr,w.heap[b]?=some (.cells cur T fr):=by
   obtain⟨v,hv⟩:=cM 0 jQ
   unfold World.cell? at hv
   cases hh:w.heap[b]? with
   | none=>simp[hh]at hv
   | some ob=>
    cases ob <;> simp[hh]at hv
    exact⟨_,_,_,rfl⟩
  have bW:c*esz<=cur.size:=by
   obtain⟨v,hv⟩:=cM (c*esz - 1) (by omega)
   simp only[World.cell?,hh]at hv
   simp at hv
   have:=(Array.getElem?_eq_some_iff.1 hv).1
   omega
  obtain⟨M,hd⟩:=hr.dom
  have fQ:Wr w b:=hW _ _ _ hd.p b (hM M hd)
  refine dA.tokUpd key _ (.inr ⟨b,0,n,c,cur,T,fr,rfl,iL,hh,by rw[Nat.zero_add];exact bW,fQ cur T fr hh,λo ho _=>by rw[Nat.zero_add]at ho;simp[Mem.cutA,ho]⟩) (λb' hb'=>?_) ?_
  ·have:b'=b:=by simp[Tok.blk]at hb';exact hb'.symm
   subst this
   exact⟨⟨jM,by rw[lF];exact eP⟩,λk' t' cT ht'=>Zi9 q1 k' t' (hr.tkeys k' t' ht') ht' (by simpa using cT)⟩
  ·obtain⟨M1,iR⟩:=dA.dom
   refine⟨M,⟨hd.p,hd.lt,hd.own,hd.tok,hd.mks,hd.new.less cF⟩,λb' hb'=>?_⟩
   have:b'=b:=by simp[Tok.blk]at hb';exact hb'.symm
   subst this
   exact hM M hd
theorem Rel.unacq{C:Ctx}{S:St}{m:Mem}{a:Act}{w:World}(hr:Rel C S m a w){key:Nat}{t:Tok}(ht:S.tok key=some t):
  ∃zs:List Value,zs.length=(slC t.v - slN t.v)*t.esz/\Rel C { S with tok:=λk=>bif Nat.beq k key then none else S.tok k } (m.addA (slA t.v) (slN t.v*t.esz) zs) a w:=by
 have dA:Rel C { S with tok:=λk=>bif Nat.beq k key then none else S.tok k } m a w:=by
  refine hr.restrict rfl rfl (λ_ _ hx=>hx) (λk t' hk=>?_) (λi sv he=>?_) hr.ids (λk t' hk=>?_)
  ·by_cases e:k=key
   ·subst e;simp at hk
   ·simp[Zam e]at hk;exact .inl hk
  ·obtain⟨v,h1,h2⟩:=hr.env i sv he
   exact⟨v,by cases sv <;> exact h1,h2⟩
  ·by_cases e:k=key
   ·subst e;simp at hk
   ·simp[Zam e]at hk;exact hr.tkeys k t' hk
 obtain⟨g1,g2⟩:=hr.toks key t ht
 rcases g1 with g1|⟨b,o0,n,c,cur,T,fr,hv,iL,hh,bW,eW,cV⟩
 ·rw[g1]
  exact⟨[],by simp[slC,slN],dA⟩
 ·have dD:t.blk=some b:=by simp[Tok.blk,hv]
  rw[hv]
  simp only[slC,slN,slA]
  have zP:c*t.esz=n*t.esz+(c - n)*t.esz:=by rw[<-Nat.add_mul];congr 1;omega
  obtain⟨P0,sW⟩:∃P0,P0=o0+n*t.esz:=⟨_,rfl⟩
  refine⟨(cur.toList.drop P0).take ((c - n)*t.esz),by simp;omega,?_⟩
  simp only[Mem.addA]
  rw[<-sW]at cV ⊢
  obtain⟨zs,sE⟩:∃zs,zs=(cur.toList.drop (P0)).take ((c - n)*t.esz):=⟨_,rfl⟩
  rw[<-sE]
  have rn:∀q v,zs[q]?=some v->cur[P0+q]?=some v:=λq v hq=>by
   rw[sE,List.getElem?_take]at hq
   split at hq
   ·rw[List.getElem?_drop]at hq;simpa using hq
   ·cases hq
  have cF:m.le (m.addAt b (P0) zs):=⟨λb' o v hv'=>by
   simp only[Mem.addAt]
   split
   ·rename_i hc
    obtain⟨rfl,ho⟩:=hc
    cases hz:zs[o - P0]? with
    | none=>simp only[hz];exact hv'
    | some u=>
     have hq:=(List.getElem?_eq_some_iff.1 hz).1
     rw[sE,List.length_take]at hq
     rw[cV o ho (by omega)]at hv';cases hv'
   ·exact hv',λ_ _ h=>h⟩
  have lV:∀b',b'≠b->∀o,m.addAt b (P0) zs b' o=m b' o:=λb' hb o=>by simp[Mem.addAt,hb]
  have vA:∀id x,S.L id=some x->x.b≠b:=(g2 b dD).1
  refine⟨dA.defers,dA.size,dA.env,λid x hx=>?_,dA.apart,dA.ids,λk t' hk=>?_,dA.tkeys,dA.tapart,⟨λb' o v hv'=>?_,hr.sub.k⟩,mLt dA.le cF,?_,dA.fo⟩
  ·obtain⟨q1,q2,q3,q4⟩:=hr.own id x hx
   exact⟨q1,λhz o=>by rw[lV _ (vA id x hx)];exact q2 hz o,λhz j u hu=>cF _ _ _ (q3 hz j u hu),q4⟩
  ·obtain⟨q1,q2⟩:=dA.toks k t' hk
   refine⟨q1.same (λb' _=>rfl) (λb' o hb' hn=>?_),q2⟩
   have cT:b'≠b:=λe=>by
    subst e
    by_cases e:k=key
    ·subst e;simp at hk
    ·simp[Zam e]at hk
     exact e (hr.tapart k key t' t _ hk ht hb' dD)
   rw[lV b' cT];exact hn
  ·by_cases hb:b'=b
   ·subst hb
    simp only[Mem.addAt]at hv'
    by_cases ho:P0<=o
    ·simp only[ho,and_self,if_true]at hv'
     cases hz:zs[o - P0]? with
     | none=>simp only[hz]at hv';exact hr.sub _ _ _ hv'
     | some u=>
      simp only[hz]at hv';cases hv'
      have:=rn _ _ hz
      rw[show P0+(o - P0)=o by omega]at this
      simp only[World.cell?,hh]
      simpa using this
    ·simp only[ho,and_false,if_false]at hv';exact hr.sub _ _ _ hv'
   ·rw[lV b' hb]at hv';exact hr.sub _ _ _ hv'
  ·obtain⟨M,hd⟩:=hr.dom
   refine⟨M,hd.p,hd.lt,hd.own,λk t' b' hk hb'=>?_,hd.mks,hd.new.addAt _ (hd.tok key t _ ht dD)⟩
   ·by_cases e:k=key
    ·subst e;simp at hk
    ·simp[Zam e]at hk;exact hd.tok k t' b' hk hb'
theorem ZwU{E:Env}{C:Ctx}(hY:YOk E C){kz:Option (Nat×Nat)}{f:(St->Mem->Prop)->St->Mem->Prop}{K:St->Mem->Prop}{S:St}{m:Mem}{a:Act}{w:World}{p:Prop}(hr:Rel C S m a w)(h:ZwT E kz f K S m)
  (hf:∀(K':St->Mem->Prop) S' m',Rel C S' m' a w->f K' S' m'->(∀S2 m2 a2 w2,K' S2 m2->Rel C S2 m2 a2 w2->∃S3 m3,K S3 m3/\Rel C S3 m3 a2 w2)->p):p:=by
 unfold ZwT at h
 split at h
 ·exact hf _ _ _ hr h λS2 m2 a2 w2 hk bJ=>⟨S2,m2,hk,bJ⟩
 ·rename_i key esz
  obtain⟨h3,h4⟩:=Zac h
  cases dV:E.m0 with
  | none=>simp[dV]at h4
  | some mm=>
   simp only[dV]at h4
   obtain⟨z0,q,n',c,z1,z2,z3⟩:=h4
   refine hf _ _ _ (hr.acq hY dV z0 z1 z2) z3 λS2 m2 a2 w2 hk bJ=>?_
   split at hk
   ·exact hk.elim
   ·rename_i t ht
    obtain⟨gA,iO⟩:=Zac hk
    obtain⟨zs,ro,qu⟩:=bJ.unacq ht
    exact⟨_,_,iO zs ro,qu⟩
theorem Zhu:∀{A:List (Nat×Shape)} {xs:List Value} {e:Nat->Option SV} {i:Nat} {sv:SV},xs.length=A.length->ZbU e A xs i=some sv->(e i=some sv/\i ∉ A.map (·.1))\/∃(q:Nat)(sh:Shape)(v:Value),A[q]?=some (i,sh)/\xs[q]?=some v/\sv=.v v
 | [],xs,e,i,sv,_,h=>.inl ⟨by simpa[ZbU]using h,by simp⟩
 | (t,s)::A,[],e,i,sv,hl,h=>by simp at hl
 | (t,s)::A,v::xs,e,i,sv,hl,h=>by
  by_cases hi:i=t
  ·subst hi
   simp[ZbU]at h
   exact .inr ⟨0,s,v,by simp,by simp,h.symm⟩
  ·simp only[ZbU,Zam hi,cond_false]at h
   rcases Zhu (by simpa using hl) h with⟨h1,h2⟩|⟨q,sh,u,h1,h2,h3⟩
   ·exact .inl ⟨h1,by simp only[List.map_cons,List.mem_cons,not_or];exact⟨hi,h2⟩⟩
   ·exact .inr ⟨q+1,sh,u,by simpa using h1,by simpa using h2,h3⟩
theorem Zhv:∀(ps:List Nat)(vs:List Value)(t:Array Value),vs.length=ps.length->ps.Nodup->
  ((ps.zip vs).foldl (λ(t:Array Value)(x:Nat×Value)=>t.setIfInBounds x.1 x.2) t).size=t.size/\
  (∀i,i ∉ ps->((ps.zip vs).foldl (λ(t:Array Value)(x:Nat×Value)=>t.setIfInBounds x.1 x.2) t)[i]?=t[i]?)/\
  (∀(q i:Nat)(v:Value),ps[q]?=some i->vs[q]?=some v->i < t.size->((ps.zip vs).foldl (λ(t:Array Value)(x:Nat×Value)=>t.setIfInBounds x.1 x.2) t)[i]?=some v)
 | [],vs,t,_,_=>⟨rfl,λ_ _=>rfl,λq i v h=>by simp at h⟩
 | p::ps,[],t,h,_=>by simp at h
 | p::ps,v::vs,t,h,hn=>by
  obtain⟨hp,hn⟩:=List.nodup_cons.1 hn
  obtain⟨h1,h2,h3⟩:=Zhv ps vs (t.setIfInBounds p v) (by simpa using h) hn
  simp only[List.zip_cons_cons,List.foldl_cons]
  refine⟨by simpa using h1,λi hi=>?_,λq i u hq hu bF=>?_⟩
  ·simp only[List.mem_cons,not_or]at hi
   rw[h2 i hi.2,Array.getElem?_setIfInBounds_ne (Ne.symm hi.1)]
  ·cases q with
   | zero=>
    simp at hq hu
    subst hq hu
    rw[h2 p hp]
    simp[bF]
   | succ q=>exact h3 q i u (by simpa using hq) (by simpa using hu) (by simpa using bF)
theorem Zhw:∀{a b:List Nat},ZjF a b=true->a=b
 | [],[],_=>rfl
 | [],_::_,h=>by simp[ZjF]at h
 | _::_,[],h=>by simp[ZjF]at h
 | x::a,y::b,h=>by
  simp only[ZjF,Bool.and_eq_true]at h
  rw[Nat.eq_of_beq_eq_true h.1,Zhw h.2]
theorem ZdE:∀{l:List Shape} {x:List Value},Shape.fitsL l x=true->x.length=l.length
 | [],[],_=>rfl
 | [],_::_,h=>by simp[Shape.fitsL]at h
 | _::_,[],h=>by simp[Shape.fitsL]at h
 | _::l,_::x,h=>by
  simp only[Shape.fitsL,Bool.and_eq_true]at h
  simp[ZdE h.2]
section
variable {C:Ctx} {S:St} {m:Mem} {a:Act} {w w':World} {M M':Nat->Prop}
structure Apart (M':Nat->Prop)(S:St)(m:Mem)(a:Act):Prop where
 box:∀id x,S.L id=some x->¬M' x.b
 tok:∀k t b,S.tok k=some t->t.blk=some b->¬M' b
 mks:∀D,Zf8 D∈a.defers->¬M' D
 mem:∀b o v,m b o=some v->¬M' b
 kn:∀b e,m.k b=some e->¬M' b
theorem Rel.markAt(h:Rel C S m a w){D:Nat}(hD:Zf8 D∈a.defers):w.heap[D]?=some (.deferred (some [])):=by
 obtain⟨ms,h1,h2,h3⟩:=h.defers
 rw[h1]at hD
 obtain⟨D',h4,h5⟩:=List.mem_map.1 hD
 have:D'=D:=by simpa[Zf8]using h5
 exact this ▸ h3 D' h4
theorem Rel.foreign(h:Rel C S m a w)(hd:Dom C S m a w M)(hM:∀k,M' k->M k)(cU:Apart M' S m a)(hu:Upd M' w w'):Rel C S m a w'/\Dom C S m a w' (ZwO M w w'):=by
 have hd':Dom C S m a w' (ZwO M w w'):=hd.step ⟨hu.os,hu.tape,hu.output,hu.size,λk hk hn=>hu.block k hk (λhm=>hn (hM k hm)),hu.wr⟩ (NewM.refl _ _)
 refine⟨⟨?_,h.size,h.env,λid x hx=>?_,h.apart,h.ids,λk t ht=>?_,h.tkeys,h.tapart,⟨λb o v hv=>?_,λb e he=>(h.sub.k b e he).same (hu.block b (h.sub.k b e he).lt (cU.kn b e he))⟩,h.le,⟨_,hd'⟩,h.fo⟩,hd'⟩
 ·obtain⟨ms,h1,h2,h3⟩:=h.defers
  refine⟨ms,h1,h2,λD hD=>?_⟩
  rw[hu.block D (Array.getElem?_eq_some_iff.1 (h3 D hD)).1 (cU.mks D (by rw[h1];exact List.mem_map.2 ⟨D,hD,rfl⟩))];exact h3 D hD
 ·exact(h.own id x hx).same (hu.block _ (h.own id x hx).lt (cU.box id x hx)) (Mem.le_refl m) (h.own id x hx).free
 ·obtain⟨h1,h2⟩:=h.toks k t ht
  exact⟨h1.same (λb hb=>hu.block b (h1.lt hb) (cU.tok k t b ht hb)) (λ_ _ _ hn=>hn),h2⟩
 ·rw[ZcE (hu.block b (h.sub.lt hv) (cU.mem b o v hv))];exact h.sub b o v hv
def Zru:Obj->Bool
 | .cells _ _ _=>true
 | .map _ _=>true
 | _=>false
theorem Zcd{w:World}{k l:Nat}{o:Obj}{r:Loop}(h:w.heap[k]?=some o)(hm:Zru o=true)(hl:w.heap[l]?=some (.loop r)):k≠l:=λe=>by subst e;rw[h]at hl;cases hl;cases hm
theorem Rel.swap{C2:Ctx}{S2:St}{a2:Act}(h:Rel C S m a w)(hn:C2.n=C.n)(hm:C2.me.le m)(hL:S2.L=S.L)(dL:S2.ids=S.ids)(bU:S2.tok=S.tok)(dC:S2.tkeys=S.tkeys)
  (cZ:∀i sv,S2.env i=some sv->∃v,S2.den sv=some v/\a2.tmps[i]?=some v) (bW:a2.tmps.size=C2.n)
  (gF:∃ms:List Nat,a2.defers=ms.map Zf8/\ms.Nodup/\∀D∈ms,w'.heap[D]?=some (.deferred (some [])))
  (eH:∀(k:Nat)(o:Obj),w.heap[k]?=some o->Zru o=true->w'.heap[k]?=w.heap[k]?) (bQ:∀k t b,S.tok k=some t->t.blk=some b->C2.me.free b) (kQ:S2.fo=false->C2.me=C2.m0) (hd:∃M,Dom C2 S2 m a2 w' M):Rel C2 S2 m a2 w':=by
 refine⟨gF,bW,cZ,λid x hx=>?_,λid id' x x' hx hx'=>?_,λid x hx=>?_,λk t ht=>?_,λk t ht=>?_,λk k' t t' b ht ht'=>?_,⟨λb o v hv=>?_,λb e he=>?_⟩,hm,hd,kQ⟩
 ·rw[hL]at hx
  have ho:=h.own id x hx
  obtain⟨sp,fr,hc,_⟩:=ho.cells
  exact ho.same (eH _ _ hc rfl) (Mem.le_refl m) ho.free
 ·rw[hL]at hx hx';exact h.apart id id' x x' hx hx'
 ·rw[hL]at hx;rw[dL];exact h.ids id x hx
 ·rw[bU]at ht
  obtain⟨h1,h2⟩:=h.toks k t ht
  refine⟨h1.same (λb hb=>?_) (λ_ _ _ hn=>hn),λb hb=>⟨λid x hx=>?_,?_⟩⟩
  ·rcases h1 with h1|⟨b',o0,n,c,cur,T,fr,hv,_,hh,_⟩
   ·simp[Tok.blk,h1]at hb
   ·simp[Tok.blk,hv]at hb;subst hb;exact eH _ _ hh rfl
  ·rw[hL]at hx;exact(h2 b hb).1 id x hx
  ·exact bQ k t b ht hb
 ·rw[bU]at ht;rw[dC];exact h.tkeys k t ht
 ·rw[bU]at ht ht';exact h.tapart k k' t t' b ht ht'
 ·have h1:=h.sub b o v hv
  have:∃c T fr,w.heap[b]?=some (Obj.cells c T fr):=by
   unfold World.cell? at h1
   split at h1
   ·rename_i c T fr hc;exact⟨c,T,fr,hc⟩
   ·cases h1
  obtain⟨c,T,fr,hc⟩:=this
  rw[ZcE (eH _ _ hc rfl)];exact h1
 ·obtain⟨es,cl,h1,h2⟩:=h.sub.k b e he
  exact⟨es,cl,(eH _ _ h1 rfl).trans h1,h2⟩
end
def Zoq(C:Ctx)(X:Nat->Prop)(h:Nat->Option Obj)(B:Nat)(me:Mem)(eU:C.m0.le me):Ctx where
 n:=C.n
 m0:=C.m0
 me:=me
 mle:=eU
 p:=λg Mr w=>∃M,C.p g M w/\(∀k,M k->k < w.heap.size)/\(∀k,Mr k->M k)/\(∀k,X k->M k/\¬Mr k/\w.heap[k]?=h k)/\B<=w.heap.size
 st:=by
  rintro g Mr M2 w w' ⟨M,h1,h2,h3,h4,h5⟩ hu hg
  refine⟨ZwO M w w',C.st g M _ w w' h1 ⟨hu.os,hu.tape,hu.output,hu.size,λk hk hn=>hu.block k hk (λhm=>hn (h3 k hm)),hu.wr⟩ (λ_ hk=>hk),?_,?_,?_,Nat.le_trans h5 hu.size⟩
  ·rintro k (hk|hk)
   ·exact Nat.lt_of_lt_of_le (h2 k hk) hu.size
   ·exact hk.2
  ·intro k hk
   exact(hg k hk).imp_left (h3 k)
  ·intro k hk
   obtain⟨g1,g2,g3⟩:=h4 k hk
   have bF:=h2 k g1
   refine⟨.inl g1,λhm=>?_,?_⟩
   ·rcases hg k hm with h|h
    ·exact g2 h
    ·omega
   ·rw[hu.block k bF g2];exact g3
abbrev Zz9(C:Ctx)(X:Nat->Prop)(h:Nat->Option Obj)(B:Nat):Ctx:=Zoq C X h B C.me C.mle
theorem ZkZ{E:Env}{C:Ctx}{X:Nat->Prop}{h:Nat->Option Obj}{B:Nat}(hY:YOk E C){me:Mem}{eU:C.m0.le me}(cF:C.me.le me)(oQ:NewM C.me me X):YOk E (Zoq C X h B me eU):=by
 have key:∀{M:Nat->Prop} {w w':World},(∀k,M k->k < w.heap.size)->(∀k,X k->M k/\True)->Sub me w->Frn C.me M w w'->Sub me w':=λ{M w w'} h2 h4 hs hf=>⟨λb o v hv=>by
  rcases oQ.c b o v hv with h|h
  ·exact hf.sub.c b o v h
  ·rw[ZcE (hf.block b (h2 b (h4 b h).1) (h4 b h).1)];exact hs.c b o v hv,λb e he=>by
  rcases oQ.k b e he with h|h
  ·exact hf.sub.k b e h
  ·exact(hs.k b e he).same (hf.block b (h2 b (h4 b h).1) (h4 b h).1)⟩
 refine⟨?_,?_,λmm eO=>⟨(hY.m0 mm eO).1,λg Mr w ⟨M,h1,h2,h3,h4,h5⟩ k hk=>(hY.m0 mm eO).2 g M w h1 k (h3 k hk)⟩⟩
 rotate_left
 ·rintro Y vZ F n l g v Mr w mi hF bF hy kS cB ⟨M,h1,h2,h3,h4,h5⟩ hs
  obtain⟨fn,tmps,asg,bdy,lT,dX⟩:=hY.yY Y vZ F n l g v M w mi hF h2 hy (mLt cF kS) ⟨λb o u hu=>by
   rcases cB.c b o u hu with h|h
   ·exact(oQ.c b o u h).imp_right λh=>(h4 b h).1
   ·exact .inr (h3 b h),λb e he=>by
   rcases cB.k b e he with h|h
   ·exact(oQ.k b e h).imp_right λh=>(h4 b h).1
   ·exact .inr (h3 b h)⟩ h1 hs
  refine⟨fn,tmps,asg,bdy,lT,dX.mono ?_⟩
  rintro e w' ⟨rfl,hp,hf⟩
  refine⟨rfl,⟨M,hp,λk hk=>Nat.lt_of_lt_of_le (h2 k hk) hf.size,h3,λk hk=>?_,Nat.le_trans h5 hf.size⟩,hf.size,λk hk hm=>hf.block k hk (h3 k hm),key h2 (λk hk=>⟨(h4 k hk).1,trivial⟩) (hs.less kS) hf⟩
  obtain⟨g1,g2,g3⟩:=h4 k hk
  exact⟨g1,g2,by rw[hf.block k (h2 k g1) g1];exact g3⟩
 rintro Y vZ F n l g v Mr w hF bF hy ⟨M,h1,h2,h3,h4,h5⟩ hs
 obtain⟨fn,tmps,asg,bdy,lT,dX⟩:=hY.y Y vZ F n l g v M w hF h2 hy h1 (hs.less cF)
 refine⟨fn,tmps,asg,bdy,lT,dX.mono ?_⟩
 rintro e w' ⟨b,rfl,hp,hf⟩
 refine⟨b,rfl,⟨M,hp,λk hk=>Nat.lt_of_lt_of_le (h2 k hk) hf.size,h3,λk hk=>?_,Nat.le_trans h5 hf.size⟩,hf.size,λk hk hm=>hf.block k hk (h3 k hm),key h2 (λk hk=>⟨(h4 k hk).1,trivial⟩) hs hf⟩
 obtain⟨g1,g2,g3⟩:=h4 k hk
 exact⟨g1,g2,by rw[hf.block k (h2 k g1) g1];exact g3⟩
def ROk(F:Fence)(C:Ctx):Prop:=∀l,F.round=some l->∀g M w,C.p g M w->∃r,w.heap[l]?=some (.loop r)
def Zk0:Obj->Bool
 | .cells _ _ _=>false
 | _=>true
theorem Zor{o:Obj}(h:Zk0 o=true):ZwN o:=λc T fr e=>by subst e;simp[Zk0]at h
theorem Zfz{M:Nat->Prop}{w:World}{l:Nat}{o:Obj}(ho:Zk0 o=true)(hl:M l):Upd M w (w.putObj l o):=
 ⟨rfl,rfl,rfl,by simp[World.putObj],λk hk hn=>World.putObj_heap_other (λe=>hn (e ▸ hl)),λk hk c T fr hh i hi=>by
  by_cases e:k=l
  ·subst e
   by_cases bF:k < w.heap.size
   ·rw[World.putObj_heap_same bF]at hh
    exact Zor ho c T fr (Option.some.inj hh) i hi
   ·have h1:=(Array.getElem?_eq_some_iff.1 hh).1
    have h2:(w.putObj k o).heap.size=w.heap.size:=by simp[World.putObj]
    omega
  ·rw[World.putObj_heap_other e]at hh;exact hk c T fr hh i hi⟩
theorem ZcR(w:World)(l:Nat)(o:Obj):(w.putObj l o).heap.size=w.heap.size:=by simp[World.putObj]
theorem FOk.inRound{F:Fence}(h:FOk F)(l:Nat):FOk (F.inRound l):=by
 rcases h with rfl|⟨l',rfl⟩
 ·exact .inr ⟨l,rfl⟩
 ·exact .inr ⟨l,rfl⟩
section
variable {C:Ctx} {S:St} {m:Mem} {a:Act} {w w':World} {M M':Nat->Prop}
theorem Rel.alloc(h:Rel C S m a w)(hd:Dom C S m a w M){o:Obj}(ho:Zk0 o=true):Rel C S m a (w.alloc o)/\Dom C S m a (w.alloc o) (ZwO M w (w.alloc o)):=by
 have hk:Keep w.heap.size [] w (w.alloc o):=Keep.alloc (Nat.le_refl _) (Zor ho)
 refine⟨h.world hk (h.sub.alloc _) (Mem.le_refl m) (NewM.refl _ _),hd.step (hk.upd (by simp)) (NewM.refl _ _)⟩
theorem Zg0(M:Nat->Prop)(w:World)(o:Obj):ZwO M w (w.alloc o) w.heap.size:=.inr ⟨Nat.le_refl _,by simp⟩
theorem Rel.enter{P:Program}(hr:Rel C S m a w){F:Fence}(hR:ROk F C)(fn:FuncId)(ps:Array Tmp)(asg bdy:Code):
  ∃l mk w1 D,(Instr.enterLoop fn a.tmps ps asg bdy F.round).run P w=.ok (l,mk) w1/\Rel C S m { a with defers:=mk++a.defers } w1/\(∃M,Dom C S m { a with defers:=mk++a.defers } w1 M/\M l)/\
   w1.heap[l]?=some (.loop { state:=.ready,pending:=none,fn,tmps:=a.tmps,params:=ps,assign:=asg,body:=bdy,defers:=D }):=by
 obtain⟨M,hd⟩:=hr.dom
 cases v3:F.round with
 | none=>
  obtain⟨h1,d1⟩:=hr.alloc hd (o:=.deferred (some [])) rfl
  obtain⟨h2,d2⟩:=h1.alloc d1 (o:=.loop { state:=.ready,pending:=none,fn,tmps:=a.tmps,params:=ps,assign:=asg,body:=bdy,defers:=w.heap.size }) rfl
  have e1:(w.alloc (.deferred (some []))).heap.size=w.heap.size+1:=by simp
  have g1:((w.alloc (.deferred (some []))).alloc (.loop { state:=.ready,pending:=none,fn,tmps:=a.tmps,params:=ps,assign:=asg,body:=bdy,defers:=w.heap.size })).heap[w.heap.size]?=some (.deferred (some [])):=by
   rw[Below.heap_alloc _ _ _ (by simp)];exact heap_alloc_new w _
  refine⟨_,_,_,w.heap.size,run_enterLoop_outer _ _ _ _ _,?_,?_,?_⟩
  ·obtain⟨ms,k1,k2,k3⟩:=h2.defers
   have hD:∃M,Dom C S m { a with defers:=[Zf8 w.heap.size]++a.defers } ((w.alloc (.deferred (some []))).alloc (.loop { state:=.ready,pending:=none,fn,tmps:=a.tmps,params:=ps,assign:=asg,body:=bdy,defers:=w.heap.size })) M:=
    ⟨_,d2.p,d2.lt,d2.own,d2.tok,λD hD=>by
     simp only[List.singleton_append,List.mem_cons]at hD
     rcases hD with hD|hD
     ·have:D=w.heap.size:=by simpa[Zf8]using hD
      subst this
      exact .inl (Zg0 _ _ _)
     ·exact d2.mks D hD,d2.new⟩
   refine⟨⟨w.heap.size::ms,by simp[k1,Zf8],?_,?_⟩,h2.size,h2.env,h2.own,h2.apart,h2.ids,h2.toks,h2.tkeys,h2.tapart,h2.sub,h2.le,hD,h2.fo⟩
   ·refine List.nodup_cons.2 ⟨λhm=>?_,k2⟩
    obtain⟨ms',q1,q2,q3⟩:=hr.defers
    have:w.heap.size∈ms':=by
     have e:Zf8 w.heap.size∈a.defers:=by
      have:a.defers=ms.map Zf8:=k1
      rw[this];exact List.mem_map.2 ⟨_,hm,rfl⟩
     rw[q1]at e
     obtain⟨D',r1,r2⟩:=List.mem_map.1 e
     have:D'=w.heap.size:=by simpa[Zf8]using r2
     exact this ▸ r1
    have:=(Array.getElem?_eq_some_iff.1 (q3 _ this)).1
    omega
   ·intro D hD
    rcases List.mem_cons.1 hD with rfl|hD
    ·exact g1
    ·exact k3 D hD
  ·refine⟨_,⟨d2.p,d2.lt,d2.own,d2.tok,λD hD=>?_,d2.new⟩,by rw[<-e1];exact Zg0 _ _ _⟩
   simp only[List.singleton_append,List.mem_cons]at hD
   rcases hD with hD|hD
   ·have:D=w.heap.size:=by simpa[Zf8]using hD
    subst this
    exact .inl (Zg0 _ _ _)
   ·exact d2.mks D hD
  ·rw[<-e1];exact heap_alloc_new _ _
 | some l0=>
  obtain⟨r0,h0⟩:=hR l0 v3 _ _ _ hd.p
  obtain⟨h1,d1⟩:=hr.alloc hd (o:=.loop { state:=.ready,pending:=none,fn,tmps:=a.tmps,params:=ps,assign:=asg,body:=bdy,defers:=r0.defers }) rfl
  exact⟨_,_,_,r0.defers,run_enterLoop_inner h0 _ _ _ _ _,h1,⟨_,d1,Zg0 _ _ _⟩,heap_alloc_new _ _⟩
theorem Zin{S:St}{ds:List Nat}{A:LoopAnn}{g:Int}{xs:List Value}{css:List (List Value)}{tvs:List Value}{sv:SV}{v:Value}(h:S.den sv=some v):(Zbd S ds A g xs css tvs).den sv=some v:=by
 cases sv with
 | v u=>exact h
 | loc id off=>
  simp only[St.den]at h ⊢
  cases hx:S.L id with
  | none=>simp[hx]at h
  | some x=>
   obtain⟨y,hy,hb⟩:=Zfy (l:=A.boxes) (css:=css) hx
   simp only[hx]at h
   simp only[Zbd,hy,hb];exact h
 | sl id n c=>
  simp only[St.den]at h ⊢
  cases hx:S.L id with
  | none=>simp[hx]at h
  | some x=>
   obtain⟨y,hy,hb⟩:=Zfy (l:=A.boxes) (css:=css) hx
   simp only[hx]at h
   simp only[Zbd,hy,hb];exact h
end
def Zk1(E:Env)(T:KT->St->Mem->Prop)(c:Code):Prop:=
 ∀{F:Fence} (_:FOk F) {C:Ctx} (_:YOk E C) (_:ROk F C) (n:Nat),Zbt C.n c=true->∀{S:St} {m:Mem} {a:Act} {w:World} {K:KT} {Q:Exit->Act->World->Prop},Rel C S m a w->T K S m->
  (∀e S' m' a' w',K e S' m'->Rel C S' m' a' w'->Q e a' w')->c.wpIn F n E.P Q a w
def Zkc(tvs:List Value):Prop:=∀v∈tvs,ZeR v=true
def ZwV(K:KT)(c:Code)(S:St)(m:Mem):Prop:=match c with
 | .ret=>K .ret S m
 | .exit id=>K (.exit id) S m
 | .goto l=>K (.goto l) S m
 | _=>False
section
variable {C:Ctx} {S:St} {m:Mem} {a:Act} {w w':World} {M M':Nat->Prop}
def Zdk(fn:FuncId)(tmps:Array Value)(ps:Array Tmp)(x y:Code)(D:Nat)(st:LoopState)(pe:Option Code):Loop:=
 {state:=st,pending:=pe,fn,tmps,params:=ps,assign:=x,body:=y,defers:=D }
def Zs8(C:Ctx)(S:St)(m:Mem)(A:LoopAnn)(I:List Value->List (List Value)->List Value->Mem->Nat->Prop)(K:KT)(a1:Act)(l:Nat)(rec:LoopState->Option Code->Loop)(k:Int)(M':Nat->Prop)(W:World):Prop:=
 ∃(g:Int) (css:List (List Value)) (tvs:List Value) (m':Mem),css.length=A.boxes.length/\tvs.length=A.toks.length/\Zkc tvs/\(A.gh=false->g=S.gh)/\m.le m'/\
  Rel C (Zbd S [] { A with slots:=[] } g [] css tvs) m' a1 W/\
  (∃M,Dom C (Zbd S [] { A with slots:=[] } g [] css tvs) m' a1 W M/\M l/\¬M' l/\(∀k,M' k->M k)/\Apart M' (Zbd S [] { A with slots:=[] } g [] css tvs) m' a1)/\
  ((0<=k/\I (ghs A.gh g []) css tvs m' k.toNat/\W.heap[l]?=some (.loop (rec .ready none)))\/
   (k=-1/\∃c,W.heap[l]?=some (.loop (rec .done (some c)))/\ZwV K c (Zbd S [] { A with slots:=[] } g [] css tvs) m'))
theorem Zna{A:LoopAnn}{I:List Value->List (List Value)->List Value->Mem->Nat->Prop}{K:KT}{a1:Act}{l:Nat}{rec:LoopState->Option Code->Loop}:Zuf (Zs8 C S m A I K a1 l rec):=by
 rintro k M' M2 W W' ⟨g,css,tvs,m',h1,h2,h3,h4,h5,hr,⟨M,hd,hl,hl',hM,cU⟩,hc⟩ hu hg
 obtain⟨eV,nA⟩:=hr.foreign hd hM cU hu
 have iF:=hd.lt l hl
 have v4:W'.heap[l]?=W.heap[l]?:=hu.block l iF hl'
 have key:∀k,k < W.heap.size->¬M' k->¬M2 k:=λk hk hn h=>by
  rcases hg k h with h|h
  ·exact hn h
  ·omega
 refine⟨g,css,tvs,m',h1,h2,h3,h4,h5,eV,⟨_,nA,.inl hl,key l iF hl',λk hk=>?_,?_⟩,?_⟩
 ·rcases hg k hk with h|h
  ·exact .inl (hM k h)
  ·exact .inr h
 ·refine⟨λid x hx=>key _ (hr.own id x hx).lt (cU.box id x hx),λk t b ht hb=>key _ ((hr.toks k t ht).1.lt hb) (cU.tok k t b ht hb),λD hD=>key _ (hd.lt D (hd.mks D hD)) (cU.mks D hD),λb o v hv=>key _ (hr.sub.lt hv) (cU.mem b o v hv),λb e he=>key _ (hr.sub.k b e he).lt (cU.kn b e he)⟩
 ·rw[v4];exact hc
end
section
variable {C:Ctx} {S:St} {m:Mem} {a:Act} {w w':World} {M M':Nat->Prop}
theorem Zl9{a b:Nat}(h:Nat.blt a b=true):a < b:=by simpa[Nat.blt_eq]using h
theorem Zfp{w:World}{k l:Nat}{c T fr}{r:Loop}(h:w.heap[k]?=some (.cells c T fr))(hl:w.heap[l]?=some (.loop r)):k≠l:=λe=>by subst e;rw[h]at hl;cases hl
theorem Zgg{w:World}{k l:Nat}{c T fr d}(h:w.heap[k]?=some (.cells c T fr))(hl:w.heap[l]?=some (.deferred d)):k≠l:=λe=>by subst e;rw[h]at hl;cases hl
theorem Own.isCells{m:Mem}{w:World}{x:Box}(h:Own m w x):∃c T fr,w.heap[x.b]?=some (.cells c T fr):=by
 obtain⟨sp,fr,hh,_⟩:=h.cells
 exact⟨_,_,_,hh⟩
theorem TokOk.isCells{m:Mem}{w:World}{t:Tok}(h:TokOk m w t){b:Nat}(hb:t.blk=some b):∃c T fr,w.heap[b]?=some (.cells c T fr):=by
 rcases h with h|⟨b',o0,n,c,cur,T,fr,hv,_,hh,_⟩
 ·simp[Tok.blk,h]at hb
 ·simp[Tok.blk,hv]at hb;subst hb;exact⟨_,_,_,hh⟩
theorem Sub.isCells{m:Mem}{w:World}(h:Sub m w){b o:Nat}{v:Value}(hv:m b o=some v):∃c T fr,w.heap[b]?=some (.cells c T fr):=by
 have h1:=h b o v hv
 unfold World.cell? at h1
 split at h1
 ·rename_i c T fr hc;exact⟨c,T,fr,hc⟩
 ·cases h1
theorem Rel.intoRound{S0 S1:St}{a1:Act}{l:Nat}{r:Loop}{tm:Array Value}(hr:Rel C S0 m a1 w)(hd:Dom C S0 m a1 w M)(hl:M l)(hl':¬M' l)(hM:∀k,M' k->M k)(cU:Apart M' S0 m a1)(cQ:w.heap[l]?=some (.loop r))
  (hL:S1.L=S0.L) (dL:S1.ids=S0.ids) (bU:S1.tok=S0.tok) (dC:S1.tkeys=S0.tkeys) (hg:S1.gh=S0.gh) (hf:S1.fo=S0.fo) (bW:tm.size=C.n) (cZ:∀i sv,S1.env i=some sv->∃v,S1.den sv=some v/\tm[i]?=some v):
  Rel (Zz9 C (λk=>M' k\/k=l\/Zf8 k∈a1.defers) (λk=>w.heap[k]?) w.heap.size) S1 m { tmps:=tm,defers:=[] } w:=by
 have hX:∀k,(∃c T fr,w.heap[k]?=some (.cells c T fr))->¬M' k->¬(M' k\/k=l\/Zf8 k∈a1.defers):=by
  rintro k ⟨c,T,fr,hk⟩ hn (h|h|h)
  ·exact hn h
  ·exact Zfp hk cQ h
  ·exact Zgg hk (hr.markAt h) rfl
 refine hr.swap rfl hr.le hL dL bU dC cZ bW ⟨[],rfl,List.nodup_nil,by simp⟩ (λ_ _ _ _=>rfl) (λk t b ht hb=>((hr.toks k t ht).2 b hb).2) (λh=>hr.fo (hf ▸ h)) ⟨λk=>M k/\¬(M' k\/k=l\/Zf8 k∈a1.defers),?_,λk hk=>hd.lt k hk.1,λid x hx=>?_,λk t b ht hb=>?_,by simp,⟨λb o v hv=>?_,λb e he=>?_⟩⟩
 ·rw[hg]
  refine⟨M,hd.p,hd.lt,λk hk=>hk.1,λk hk=>⟨?_,λh=>h.2 hk,rfl⟩,Nat.le_refl _⟩
  rcases hk with h|h|h
  ·exact hM k h
  ·exact h ▸ hl
  ·exact hd.mks k h
 ·rw[hL]at hx
  exact⟨hd.own id x hx,hX _ (hr.own id x hx).isCells (cU.box id x hx)⟩
 ·rw[bU]at ht
  exact⟨hd.tok k t b ht hb,hX _ ((hr.toks k t ht).1.isCells hb) (cU.tok k t b ht hb)⟩
 ·exact(hd.new b o v hv).imp_right λh=>⟨h,hX _ (hr.sub.isCells hv) (cU.mem b o v hv)⟩
 ·refine(hd.new.k b e he).imp_right λh=>⟨h,?_⟩
  obtain⟨es,cl,h1,_⟩:=hr.sub.k b e he
  rintro(h|h|h)
  ·exact cU.kn b e he h
  ·exact Zcd h1 rfl cQ h
  ·have:=hr.markAt h
   rw[h1]at this;cases this
theorem Rel.beginRound{X:Nat->Prop}{h1:Nat->Option Obj}{B:Nat}{me:Mem}{eU:C.m0.le me}{S1:St}{ar:Act}{l:Nat}{r r':Loop}(hr:Rel (Zoq C X h1 B me eU) S1 m ar w)(hl:X l)(cQ:w.heap[l]?=some (.loop r)):
  Rel (Zoq C X (λk=>(w.putObj l (.loop r')).heap[k]?) B me eU) S1 m ar (w.putObj l (.loop r')):=by
 have cT:∀(k:Nat)(o:Obj),w.heap[k]?=some o->Zru o=true->(w.putObj l (.loop r')).heap[k]?=w.heap[k]?:=λk o hk hm=>World.putObj_heap_other (Zcd hk hm cQ)
 obtain⟨ms,q1,q2,q3⟩:=hr.defers
 refine hr.swap rfl hr.le rfl rfl rfl rfl hr.env hr.size ⟨ms,q1,q2,λD hD=>?_⟩ cT (λk t b ht hb=>((hr.toks k t ht).2 b hb).2) hr.fo ?_
 ·rw[World.putObj_heap_other (λe=>by have:=q3 D hD;rw[e,cQ]at this;cases this)];exact q3 D hD
 ·obtain⟨Mr,hd⟩:=hr.dom
  obtain⟨M,p1,p2,p3,p4,p5⟩:=hd.p
  refine⟨Mr,⟨M,C.st _ M M _ _ p1 (Zfz rfl (p4 l hl).1) (λk hk=>.inl hk),λk hk=>by rw[ZcR];exact p2 k hk,p3,λk hk=>⟨(p4 k hk).1,(p4 k hk).2.1,rfl⟩,by rw[ZcR];exact p5⟩,λk hk=>by rw[ZcR];exact hd.lt k hk,hd.own,hd.tok,hd.mks,hd.new⟩
theorem Rel.outOfRound{X:Nat->Prop}{h1:Nat->Option Obj}{B:Nat}{S' S2:St}{a3 a1:Act}{l:Nat}{r r':Loop}(hr:Rel (Zz9 C X h1 B) S' m a3 w)(hl:X l)(cQ:w.heap[l]?=some (.loop r))
  (dV:∀b o v,C.me b o=some v->¬X b) (nB:∀b e,C.me.k b=some e->¬X b) (v5:∀D,Zf8 D∈a1.defers->X D) (hX':∀k,M' k->X k) (v6:∀D,Zf8 D∈a1.defers->¬M' D)
  (hL:S2.L=S'.L) (dL:S2.ids=S'.ids) (bU:S2.tok=S'.tok) (dC:S2.tkeys=S'.tkeys) (hg:S2.gh=S'.gh) (hf:S2.fo=S'.fo) (bW:a1.tmps.size=C.n) (cZ:∀i sv,S2.env i=some sv->∃v,S2.den sv=some v/\a1.tmps[i]?=some v)
  (gF:∃ms:List Nat,a1.defers=ms.map Zf8/\ms.Nodup/\∀D∈ms,w.heap[D]?=some (.deferred (some []))):
  Rel C S2 m a1 (w.putObj l (.loop r'))/\∃M,Dom C S2 m a1 (w.putObj l (.loop r')) M/\M l/\(∀k,M' k->M k)/\Apart M' S2 m a1:=by
 have cT:∀(k:Nat)(o:Obj),w.heap[k]?=some o->Zru o=true->(w.putObj l (.loop r')).heap[k]?=w.heap[k]?:=λk o hk hm=>World.putObj_heap_other (Zcd hk hm cQ)
 obtain⟨ms,q1,q2,q3⟩:=gF
 obtain⟨Mr,hd⟩:=hr.dom
 obtain⟨M,p1,p2,p3,p4,p5⟩:=hd.p
 have hD:Dom C S2 m a1 (w.putObj l (.loop r')) M:=by
  refine⟨hg ▸ C.st _ M M _ _ p1 (Zfz rfl (p4 l hl).1) (λk hk=>.inl hk),λk hk=>by rw[ZcR];exact p2 k hk,λid x hx=>p3 _ (hd.own id x (hL ▸ hx)),λk t b ht hb=>p3 _ (hd.tok k t b (bU ▸ ht) hb),λD hD=>(p4 D (v5 D hD)).1,hd.new.mono p3⟩
 refine⟨hr.swap rfl hr.le hL dL bU dC cZ bW ⟨ms,q1,q2,λD hD=>?_⟩ cT (λk t b ht hb=>((hr.toks k t ht).2 b hb).2) (λh=>hr.fo (hf ▸ h)) ⟨M,hD⟩,?_⟩
 ·rw[World.putObj_heap_other (λe=>by have:=q3 D hD;rw[e,cQ]at this;cases this)];exact q3 D hD
 ·refine⟨M,hD,(p4 l hl).1,λk hk=>(p4 k (hX' k hk)).1,?_⟩
  refine⟨λid x hx h=>(p4 _ (hX' _ h)).2.1 (hd.own id x (hL ▸ hx)),λk t b ht hb h=>(p4 _ (hX' _ h)).2.1 (hd.tok k t b (bU ▸ ht) hb),v6,λb o v hv h=>?_,λb e he h=>?_⟩
  ·rcases hd.new b o v hv with h2|h2
   ·exact dV b o v h2 (hX' b h)
   ·exact(p4 b (hX' b h)).2.1 h2
  ·rcases hd.new.k b e he with h2|h2
   ·exact nB b e h2 (hX' b h)
   ·exact(p4 b (hX' b h)).2.1 h2
theorem Rel.atX{X:Nat->Prop}{h1:Nat->Option Obj}{B:Nat}{me:Mem}{eU:C.m0.le me}{S':St}{a3:Act}(hr:Rel (Zoq C X h1 B me eU) S' m a3 w):B<=w.heap.size/\∀k,X k->w.heap[k]?=h1 k:=by
 obtain⟨Mr,hd⟩:=hr.dom
 obtain⟨M,p1,p2,p3,p4,p5⟩:=hd.p
 exact⟨p5,λk hk=>(p4 k hk).2.2⟩
theorem Znb{th:Bool}{E:Env}{A:LoopAnn}{I:List Value->List (List Value)->List Value->Mem->Nat->Prop}{K:KT}{a1:Act}{l:Nat}{fn:FuncId}{ps:Array Tmp}{x y:Code}{D:Nat}{Tx Ty:KT->St->Mem->Prop}{xs:List (List Value)}
  (rp:Zk1 E Tx x) (rq:Zk1 E Ty y) (v7:∀{K:KT} {S:St} {m:Mem},Tx K S m->Tx (λe S' m'=>K e S' m'/\leT th m m') S m) (v8:∀{K:KT} {S:St} {m:Mem},Ty K S m->Ty (λe S' m'=>K e S' m'/\leT th m m') S m) (oR:YOk E C) (rr:Zbt C.n x=true) (ru:Zbt C.n y=true) (oS:ps.toList.all (Nat.blt · C.n)=true) (hS:StOk S) (bW:a1.tmps.size=C.n) (cZ:∀i sv,S.env i=some sv->∃v,S.den sv=some v/\a1.tmps[i]?=some v)
  (v9:ZjF ps.toList (A.slots.map (·.1))=true) (qv:Zbs ps.toList=true) (dN:∀v∈xs,Shape.fitsL (A.slots.map (·.2)) v=true)
  (hb:ZwJ A.gh S.gh λy=>Shape.allL (A.slots.map (·.2)) λx=>ZkS A.boxes λcss=>ZkT A.toks λtvs=>∀(m':Mem)(n:Nat),m.le m'->xs[n]?=some x->I (ghs A.gh y []) css tvs m' n->
     Tx (λe S1 m1=>match e with
      | .normal=>Ty (λe S' m''=>ZzX th m m'' (Zj5 A.gh S'.gh S.gh S'.fo S.fo (ZkU (ZbJ S' A S.ids) (ZbJ S A S.ids) (ZkV (Za8 S' A S.tkeys) (Za8 S A S.tkeys) (ZsK S' A.boxes λcss'=>Ze5 S' A.toks λtvs'=>match e with
       | .normal=>I (ghs A.gh S'.gh []) css' tvs' m'' (n+1)
       | e=>Zoi K e (Zbd S [] { A with slots:=[] } S'.gh [] css' tvs') m''))))) S1 m1
      | _=>False) (Zbd S [] A y x css tvs) m'):
  ZlY E.P m (Zs8 C S m A I K a1 l (Zdk fn a1.tmps ps x y D)) (λl' g v=>l'=l/\0<=g/\xs[g.toNat]?=some v):=by
 rintro F n l' k v M' w hF bF ⟨rfl,rv,yw⟩ ⟨g,css,tvs,m',h1,h2,h3,h4,h5,hr,⟨M,hd,hl,hl',hM,cU⟩,hc⟩ bV
 rcases hc with⟨_,hI,cQ⟩|⟨gA,_⟩
 rotate_left
 ·omega
 have iS:=Zhw v9
 have rx:=dN v (List.mem_of_getElem? yw)
 have jP:v.length=ps.toList.length:=by rw[iS,ZdE rx];simp
 have dI:=ZaH qv
 have hy:=run_yield (P:=E.P) (args:=v.toArray) cQ (by simpa[Zdk]using jP)
 simp only[Zdk]at hy
 refine⟨_,_,_,_,hy,roundIn_of_wpIn (hF.fn _) ?_⟩
 have nC:((ps.zip v.toArray).foldl (λtmps (x:Tmp×Value)=>tmps.setIfInBounds x.1 x.2) a1.tmps)=((ps.toList.zip v).foldl (λ(t:Array Value)(x:Nat×Value)=>t.setIfInBounds x.1 x.2) a1.tmps):=by
  rw[<-Array.foldl_toList,Array.toList_zip]
 obtain⟨f1,f2,f3⟩:=Zhv ps.toList v a1.tmps jP dI
 have lW:=hF.inRound l'
 have dA:=hr.intoRound (S1:=Zbd S [] A g v css tvs) (tm:=(ps.toList.zip v).foldl (λ(t:Array Value)(x:Nat×Value)=>t.setIfInBounds x.1 x.2) a1.tmps) hd hl hl' hM cU cQ rfl rfl rfl rfl rfl rfl (by rw[f1];exact bW) (by
  intro i sv he
  simp only[Zbd]at he
  rcases Zhu (by rw[ZdE rx];simp) he with⟨g1,g2⟩|⟨q,sh,u,g1,g2,g3⟩
  ·simp only[List.any_nil,cond_false]at g1
   obtain⟨u,g3,g4⟩:=cZ i sv g1
   exact⟨u,Zin g3,by rw[f2 i (by rw[iS];exact g2)];exact g4⟩
  ·subst g3
   refine⟨u,rfl,f3 q i u ?_ g2 ?_⟩
   ·rw[iS,List.getElem?_map,g1];rfl
   ·have:i∈ps.toList:=by rw[iS];exact List.mem_map.2 ⟨_,List.mem_of_getElem? g1,rfl⟩
    have:=List.all_eq_true.1 oS i this
    rw[bW];exact Zl9 this)
 rw[nC]
 have wa:∀b o v,C.me b o=some v->¬(M' b\/b=l'\/Zf8 b∈a1.defers):=by
  intro b o v hv
  have hv':m' b o=some v:=hr.le b o v hv
  obtain⟨c,T,fr,hc⟩:=hr.sub.isCells hv'
  rintro(h|h|h)
  ·exact cU.mem b o v hv' h
  ·exact Zfp hc cQ h
  ·exact Zgg hc (hr.markAt h) rfl
 have ry:∀b e,C.me.k b=some e->¬(M' b\/b=l'\/Zf8 b∈a1.defers):=by
  intro b e he
  have he':m'.k b=some e:=hr.le.k b e he
  obtain⟨es,cl,h1,_⟩:=hr.sub.k b e he'
  rintro(h|h|h)
  ·exact cU.kn b e he' h
  ·exact Zcd h1 rfl cQ h
  ·have:=hr.markAt h
   rw[h1]at this;cases this
 have eQ:=ZdC (ZdB (Shape.allL_fits _ _ (ZfK hb h4) v rx) css h1) tvs h2 h3 m' k.toNat h5 yw hI
 refine rp lW (ZkZ oR (Mem.le_refl _) (NewM.refl _ _)) ?_ n rr dA (v7 eQ) ?_
 ·intro l2 oT g2 Mr w2 hp
  have:l2=l':=by simpa using oT.symm
  subst this
  obtain⟨M2,_,_,_,p4,_⟩:=hp
  exact⟨_,by rw[(p4 l2 (.inr (.inl rfl))).2.2];exact cQ⟩
 rintro e S1 m1 a2 w1 ⟨hk,lX⟩ eV
 cases e with
 | normal=>
  obtain⟨z1,z2⟩:=eV.atX
  have gG:w1.heap[l']?=some (.loop (Zdk fn a1.tmps ps x y D .ready none)):=by rw[z2 l' (.inr (.inl rfl))];exact cQ
  refine⟨_,run_beginRound gG rfl,?_⟩
  have td:=eV.beginRound (r':={ Zdk fn a1.tmps ps x y D .ready none with state:=.busy }) (.inr (.inl rfl)) gG
  have lY:l' < w1.heap.size:=(Array.getElem?_eq_some_iff.1 gG).1
  have dT:(w1.putObj l' (.loop { Zdk fn a1.tmps ps x y D .ready none with state:=.busy })).heap[l']?=some (.loop { Zdk fn a1.tmps ps x y D .ready none with state:=.busy }):=World.putObj_heap_same lY
  refine rq lW (ZkZ oR (Mem.le_refl _) (NewM.refl _ _)) ?_ n ru td (v8 hk) ?_
  ·intro l2 oT g2 Mr w2 hp
   have:l2=l':=by simpa using oT.symm
   subst this
   obtain⟨M2,_,_,_,p4,_⟩:=hp
   exact⟨_,by rw[(p4 l2 (.inr (.inl rfl))).2.2];exact dT⟩
  rintro e S' m'' a3 w3 ⟨hk,iT⟩ pH
  obtain⟨q0,hk⟩:=Zs1 hk
  obtain⟨q1,qf,hk⟩:=Zea hk
  obtain⟨q2,hk⟩:=Zdb.1 hk
  obtain⟨q3,hk⟩:=Zdc.1 hk
  obtain⟨css',g1,g2,hk⟩:=ZcY hk
  obtain⟨tvs',k1,k2,hk⟩:=ZbK hk
  obtain⟨y1,y2⟩:=pH.atX
  have fR:w3.heap[l']?=some (.loop { Zdk fn a1.tmps ps x y D .ready none with state:=.busy }):=by rw[y2 l' (.inr (.inl rfl))];exact dT
  have kS:m.le m'':=by
   cases th with
   | true=>exact q0 rfl
   | false=>exact mLt h5 (mLt lX iT)
  have hx:Rel (Zz9 C (λk=>M' k\/k=l'\/Zf8 k∈a1.defers) (λk=>(w1.putObj l' (.loop { Zdk fn a1.tmps ps x y D .ready none with state:=.busy })).heap[k]?) w.heap.size) (Zbd { S with env:=λ_=>none } [] { A with slots:=[] } S'.gh [] css' tvs') m'' a3 w3:=by
   have hh:Rel (Zz9 C (λk=>M' k\/k=l'\/Zf8 k∈a1.defers) (λk=>(w1.putObj l' (.loop { Zdk fn a1.tmps ps x y D .ready none with state:=.busy })).heap[k]?) w.heap.size) { S' with env:=λ_=>none } m'' a3 w3:=
    pH.restrict rfl rfl (λ_ _ h=>h) (λ_ _ h=>.inl h) (λi sv h=>(by cases h)) pH.ids pH.tkeys
   exact ZdL (S:={ S with env:=λ_=>none }) (S':={ S' with env:=λ_=>none }) (A:={ A with slots:=[] }) ⟨λi sv h=>(by cases h),hS.ids,hS.tkeys⟩ hh qf (λ_ _=>rfl) q2 q3 (by simp) g1 g2 k1 k2
  have gF:∃ms:List Nat,a1.defers=ms.map Zf8/\ms.Nodup/\∀D∈ms,w3.heap[D]?=some (.deferred (some [])):=by
   obtain⟨ms,r1,r2,r3⟩:=hr.defers
   refine⟨ms,r1,r2,λD' hD'=>?_⟩
   have hm:Zf8 D'∈a1.defers:=by rw[r1];exact List.mem_map.2 ⟨_,hD',rfl⟩
   rw[y2 D' (.inr (.inr hm)),World.putObj_heap_other (λe=>by have:=r3 D' hD';rw[e,cQ]at this;cases this),z2 D' (.inr (.inr hm))];exact r3 D' hD'
  have dE:=λ(r':Loop)=>hx.outOfRound (S2:=Zbd S [] { A with slots:=[] } S'.gh [] css' tvs') (a1:=a1) (M':=M') (r':=r') (.inr (.inl rfl)) fR wa ry (λD' hD'=>.inr (.inr hD')) (λk hk=>.inl hk) cU.mks rfl rfl rfl rfl rfl rfl bW (by
   intro i sv he
   simp only[Zbd,ZbU,List.any_nil,cond_false]at he
   obtain⟨u,g3,g4⟩:=cZ i sv he
   exact⟨u,Zin g3,g4⟩) gF
  have uS:l' < w3.heap.size:=(Array.getElem?_eq_some_iff.1 fR).1
  have te:∀r',Frn m M' w (w3.putObj l' (.loop r')):=λr'=>by
   refine⟨by rw[ZcR];exact y1,λk hk nD=>?_,(dE r').1.sub.less kS⟩
   ·have cT:k≠l':=λe=>hl' (e ▸ nD)
    rw[World.putObj_heap_other cT,y2 k (.inl nD),World.putObj_heap_other cT,z2 k (.inl nD)]
  have iQ:Zkc tvs':=by
   intro u hu
   obtain⟨i,hi⟩:=List.getElem?_of_mem hu
   have bF:=(List.getElem?_eq_some_iff.1 hi).1
   obtain⟨qe,kT⟩:∃qe,A.toks[i]?=some qe:=⟨_,List.getElem?_eq_getElem (by omega)⟩
   exact(k2 i qe.1 qe.2 u kT hi).1
  have fin:∀(c:Code) ,ZwV K c (Zbd S [] { A with slots:=[] } S'.gh [] css' tvs') m''->∃v w',(Instr.endRound l' (some c)).run E.P w3=.ok v w'/\∃b,Ending.returned v=Ending.returned (.bool b)/\Zs8 C S m A I K a1 l' (Zdk fn a1.tmps ps x y D) (if b then k+1 else -1) M' w'/\Frn m M' w w':=by
   intro c hc
   refine⟨_,_,run_endRound (some c) fR,false,rfl,?_,te _⟩
   obtain⟨o1,M3,o2,o3,o4,o5⟩:=dE (Zdk fn a1.tmps ps x y D .done (some c))
   exact⟨S'.gh,css',tvs',m'',g1,k1,iQ,q1,kS,o1,⟨M3,o2,o3,hl',o4,o5⟩,.inr ⟨rfl,c,World.putObj_heap_same uS,hc⟩⟩
  cases e with
  | normal=>
   refine⟨_,_,run_endRound none fR,true,rfl,?_,te _⟩
   obtain⟨o1,M3,o2,o3,o4,o5⟩:=dE (Zdk fn a1.tmps ps x y D .ready none)
   refine⟨S'.gh,css',tvs',m'',g1,k1,iQ,q1,kS,o1,⟨M3,o2,o3,hl',o4,o5⟩,.inl ⟨by simp;omega,?_,World.putObj_heap_same uS⟩⟩
   have:(k+1).toNat=k.toNat+1:=by omega
   simp only[if_true,this]
   exact hk
  | ret=>exact fin _ hk
  | exit id=>exact fin _ hk
  | goto t=>exact fin _ hk
  | panic ch=>exact hk.elim
  | outgrown=>exact hk.elim
 | exit id=>exact hk.elim
 | goto t=>exact hk.elim
 | ret=>exact hk.elim
 | panic ch=>exact hk.elim
 | outgrown=>exact hk.elim
end
section
variable {C:Ctx} {S:St} {m:Mem} {a:Act} {w w':World}
theorem Rel.afterRange{S2:St}{a1:Act}{l:Nat}{r r':Loop}{M:Nat->Prop}(hr:Rel C S2 m a1 w)(hd:Dom C S2 m a1 w M)(hl:M l)(cQ:w.heap[l]?=some (.loop r)):Rel C S2 m a1 (w.putObj l (.loop r')):=by
 obtain⟨ms,q1,q2,q3⟩:=hr.defers
 refine hr.swap rfl hr.le rfl rfl rfl rfl hr.env hr.size ⟨ms,q1,q2,λD hD=>?_⟩ (λk o hk hm=>World.putObj_heap_other (Zcd hk hm cQ)) (λk t b ht hb=>((hr.toks k t ht).2 b hb).2) hr.fo ⟨_,hd.step (Zfz rfl hl) (NewM.refl _ _)⟩
 rw[World.putObj_heap_other (λe=>by have:=q3 D hD;rw[e,cQ]at this;cases this)];exact q3 D hD
theorem Zos{th:Bool}{E:Env}{F:Fence}(hF:FOk F)(oR:YOk E C)(hR:ROk F C)(n:Nat){A:LoopAnn}{f:Operand}{ps:Array Tmp}{x y:Code}{Tx Ty:KT->St->Mem->Prop}
  (rp:Zk1 E Tx x) (rq:Zk1 E Ty y) (v7:∀{K:KT} {S:St} {m:Mem},Tx K S m->Tx (λe S' m'=>K e S' m'/\leT th m m') S m) (v8:∀{K:KT} {S:St} {m:Mem},Ty K S m->Ty (λe S' m'=>K e S' m'/\leT th m m') S m)
  (rr:Zbt C.n x=true) (ru:Zbt C.n y=true) (oS:ps.toList.all (Nat.blt · C.n)=true)
  {K:KT} {Q:Exit->Act->World->Prop} (hr:Rel C S m a w) (h:Zoj th E.P A f ps.toList Tx Ty K S m) (hK:∀e S' m' a' w',K e S' m'->Rel C S' m' a' w'->Q e a' w'):(Code.rangeFunc f ps x y).wpIn F n E.P Q a w:=by
 unfold Zoj at h
 split at h
 rotate_left
 ·exact h.elim
 rename_i g first captured oL
 obtain⟨hc,kS⟩:=Zac h
 obtain⟨mi,nE,qt,xs,tf,dN,I,h0,hb,jT⟩:=Zs0 kS
 simp only[Bool.and_eq_true]at hc
 obtain⟨v,e1,_,e2⟩:=hr.ev_val oL
 simp only[St.den,Option.some.injEq]at e1
 refine wpIn_rangeFunc λfn qr=>?_
 obtain⟨l,mk,w1,D,mY,dA,⟨M1,iR,lY⟩,cQ⟩:=hr.enter (P:=E.P) hR fn ps x y
 obtain⟨a1,nF⟩:∃a1,a1=({ a with defers:=mk++a.defers }:Act):=⟨_,rfl⟩
 rw[<-nF]at dA iR
 have iI:a1.tmps=a.tmps:=by rw[nF]
 have nG:w1.heap[l]?=some (.loop (Zdk fn a1.tmps ps x y D .ready none)):=by rw[iI];exact cQ
 refine⟨l,mk,w1,{ target:=.fn (.func g) captured,args:=first++#[.func (.yield l) #[] #[]] },w1,g,(first.toList++.func (.yield l) #[] #[]::captured.toList).toArray,w1,mY,?_,λf' _=>hF.fn f',?_,λhs=>by rw[hF.depth]at hs;simp at hs,?_⟩
 ·simp only[resolve,e2,<-e1,Deferred.ofValue]
  simp[go_sem]
 ·have eY:first++#[Value.func (.yield l) #[] #[]]++captured=(first.toList++Value.func (.yield l) #[] #[]::captured.toList).toArray:=Array.ext' (by simp)
  simp only[invoke,eY]
  exact tf.1 _ _
 ·obtain⟨css,g1,g2,h0⟩:=ZcY h0
  obtain⟨tvs,k1,k2,hI⟩:=ZbK h0
  have iQ:Zkc tvs:=by
   intro u hu
   obtain⟨i,hi⟩:=List.getElem?_of_mem hu
   have bF:=(List.getElem?_eq_some_iff.1 hi).1
   obtain⟨qe,kT⟩:∃qe,A.toks[i]?=some qe:=⟨_,List.getElem?_eq_getElem (by omega)⟩
   exact(k2 i qe.1 qe.2 u kT hi).1
  have rz:Rel C (Zbd S [] { A with slots:=[] } S.gh [] css tvs) m a1 w1:=ZdL dA.ok dA rfl (SameOut.refl _ _) rfl rfl (by simp) g1 g2 k1 k2
  have rA:Zs8 C S mi A I K a1 l (Zdk fn a1.tmps ps x y D) 0 (λ_=>False) w1:=by
   refine⟨S.gh,css,tvs,m,g1,k1,iQ,λ_=>rfl,nE,rz,?_,.inl ⟨Int.le_refl _,hI,nG⟩⟩
   have nA:Dom C (Zbd S [] { A with slots:=[] } S.gh [] css tvs) m a1 w1 M1:=by
    refine⟨iR.p,iR.lt,λid y hy=>?_,λk t b ht hb=>?_,iR.mks,iR.new⟩
    ·simp only[Zbd]at hy
     rcases Zfx hy with⟨i,x',cs,q1,q2,q3,q4⟩|⟨q1,q2⟩
     ·rw[q4];exact iR.own id x' q3
     ·exact iR.own id y q2
    ·simp only[Zbd]at ht
     rcases ZdD ht with⟨i,e,u,q1,q2,q3⟩|⟨q1,q2⟩
     ·obtain⟨_,q5⟩:=k2 i k e u q1 q2
      subst q3
      rcases q5 with q5|q5
      ·exact iR.tok k _ b q5 hb
      ·simp[Tok.blk,q5]at hb
     ·exact iR.tok k t b q2 hb
   exact⟨M1,nA,lY,λh=>h,λ_ h=>h.elim,⟨λ_ _ _ h=>h,λ_ _ _ _ _ h=>h,λ_ _ h=>h,λ_ _ _ _ h=>h,λ_ _ _ h=>h⟩⟩
  have cZ:∀i sv,S.env i=some sv->∃v,S.den sv=some v/\a1.tmps[i]?=some v:=λi sv he=>dA.env i sv he
  have kU:=Znb (th:=th) (E:=E) (S:=S) (m:=mi) (K:=K) (l:=l) (fn:=fn) (D:=D) rp rq v7 v8 oR rr ru oS hr.ok dA.size cZ hc.1 hc.2 dN hb
  refine hF.calls ((tf.2 _ Zna l w1 (dA.sub.less nE) rA kU).mono ?_)
  rintro e w2 ⟨v,M2,rfl,bF,eJ⟩
  rw[<-nF]
  rcases eJ with eJ|eJ
  all_goals obtain⟨gg,css2,tvs2,m2,y1,y2,y3,y4,y5,y6,⟨M3,y7,y8,y9,y10,y11⟩,y12⟩:=eJ
  ·rcases y12 with⟨_,tg,fS⟩|⟨hk,_⟩
   ·refine⟨none,_,run_endLoop fS (by simp[Zdk]),?_⟩
    have:=ZdC (ZdB (ZfK jT y4) css2 y1) tvs2 y2 y3 m2 y5 (by simpa using tg)
    exact hK _ _ _ _ _ this (y6.afterRange y7 y8 fS)
   ·omega
  ·rcases y12 with⟨hk,_⟩|⟨_,c,fS,lI⟩
   ·omega
   ·refine⟨some c,_,run_endLoop fS (by simp[Zdk]),?_⟩
    have hR:=λr'=>y6.afterRange (r':=r') y7 y8 fS
    cases c with
    | ret=>exact wpIn_ret (hK _ _ _ _ _ lI (hR _))
    | exit id=>exact wpIn_exit (hK _ _ _ _ _ lI (hR _))
    | goto t=>exact wpIn_goto (hK _ _ _ _ _ lI (hR _))
    | _=>exact lI.elim
end
section
variable {C:Ctx} {S:St} {m:Mem} {a:Act} {w w':World} {M M':Nat->Prop}
noncomputable def Mem.on(m:Mem)(Z:Nat->Prop):Mem:=m.off (λb=>¬Z b)
theorem Mem.on_c{m:Mem}{Z:Nat->Prop}{b o:Nat}{v:Value}(h:m.on Z b o=some v):Z b/\m b o=some v:=by
 by_cases hz:Z b
 ·exact⟨hz,by unfold Mem.on at h;rw[Mem.off_at (λh=>h hz)]at h;exact h⟩
 ·unfold Mem.on at h;rw[Mem.off_free hz o]at h;cases h
theorem Mem.on_k{m:Mem}{Z:Nat->Prop}{b:Nat}{e:List (Value×Value)}(h:(m.on Z).k b=some e):Z b/\m.k b=some e:=by
 by_cases hz:Z b
 ·exact⟨hz,by unfold Mem.on at h;rw[Mem.off_k (λh=>h hz)]at h;exact h⟩
 ·unfold Mem.on at h;rw[Mem.off_kn hz]at h;cases h
theorem Mem.on_at{m:Mem}{Z:Nat->Prop}{b:Nat}(hz:Z b)(o:Nat):m.on Z b o=m b o:=by unfold Mem.on;rw[Mem.off_at (λh=>h hz)]
theorem Mem.on_kat{m:Mem}{Z:Nat->Prop}{b:Nat}(hz:Z b):(m.on Z).k b=m.k b:=by unfold Mem.on;rw[Mem.off_k (λh=>h hz)]
theorem Mem.or_right{a b:Mem}{i o:Nat}(h:a i o=none):a.or b i o=b i o:=by simp[Mem.or,h]
theorem Mem.or_kright{a b:Mem}{i:Nat}(h:a.k i=none):(a.or b).k i=b.k i:=by simp[Mem.or,h]
theorem ZfM{α:Type}{x:Option α}(h:∀v,x≠some v):x=none:=by
 cases x with
 | none=>rfl
 | some v=>exact absurd rfl (h v)
theorem Rel.orMem{m0 m1 mi:Mem}(h:Rel C S m1 a w)(hd:Dom C S m1 a w M)(hM:∀k,M' k->M k)(cU:Apart M' S m1 a)(h0:m0.le m1)(hs:Sub mi w)(hn:NewM m0 mi M'):
  Rel C S (m1.or mi) a w/\Dom C S (m1.or mi) a w M:=by
 have bQ:∀b,¬M' b->∀o,m1 b o=none->m1.or mi b o=none:=λb hb o ho=>by
  rw[Mem.or_right ho]
  refine ZfM λv hv=>?_
  rcases hn.c b o v hv with h1|h1
  ·rw[h0.c b o v h1]at ho;cases ho
  ·exact hb h1
 have cB:NewM C.me (m1.or mi) M:=⟨λb o v hv=>by
  rcases Mem.or_some hv with h1|⟨h1,h2⟩
  ·exact hd.new.c b o v h1
  ·rcases hn.c b o v h2 with h3|h3
   ·rw[h0.c b o v h3]at h1;cases h1
   ·exact .inr (hM b h3),λb v hv=>by
  rcases Mem.or_k hv with h1|⟨h1,h2⟩
  ·exact hd.new.k b v h1
  ·rcases hn.k b v h2 with h3|h3
   ·rw[h0.k b v h3]at h1;cases h1
   ·exact .inr (hM b h3)⟩
 have nA:Dom C S (m1.or mi) a w M:=⟨hd.p,hd.lt,hd.own,hd.tok,hd.mks,cB⟩
 refine⟨⟨h.defers,h.size,h.env,λid x hx=>?_,h.apart,h.ids,λk t ht=>?_,h.tkeys,h.tapart,⟨λb o v hv=>?_,λb e he=>?_⟩,mLt h.le (Mem.le_or _ _),⟨M,nA⟩,h.fo⟩,nA⟩
 ·have ho:=h.own id x hx
  exact⟨ho.cells,λhz o=>bQ _ (cU.box id x hx) o (ho.free hz o),λhz=>(ho.known hz).mono (Mem.le_or _ _),ho.whole⟩
 ·obtain⟨h1,h2⟩:=h.toks k t ht
  exact⟨h1.same (λ_ _=>rfl) (λb o hb hn=>bQ b (cU.tok k t b ht hb) o hn),h2⟩
 ·rcases Mem.or_some hv with h1|⟨_,h2⟩
  ·exact h.sub.c b o v h1
  ·exact hs.c b o v h2
 ·rcases Mem.or_k he with h1|⟨_,h2⟩
  ·exact h.sub.k b e h1
  ·exact hs.k b e h2
noncomputable def meY(C:Ctx)(mi:Mem)(M':Nat->Prop):Mem:=C.me.or (mi.on M')
theorem Zqv(C:Ctx)(mi:Mem)(M':Nat->Prop):C.m0.le (meY C mi M'):=mLt C.mle (Mem.le_or _ _)
theorem Zot(C:Ctx)(mi:Mem)(M':Nat->Prop):NewM C.me (meY C mi M') M':=⟨λb o v hv=>by
 rcases Mem.or_some hv with h1|⟨_,h2⟩
 ·exact .inl h1
 ·exact .inr (Mem.on_c h2).1,λb v hv=>by
 rcases Mem.or_k hv with h1|⟨_,h2⟩
 ·exact .inl h1
 ·exact .inr (Mem.on_k h2).1⟩
theorem Rel.intoRoundY{m0 m1 mi:Mem}{S0 S1:St}{a1:Act}{l:Nat}{r:Loop}{tm:Array Value}(hr:Rel C S0 m1 a1 w)(hd:Dom C S0 m1 a1 w M)(hl:M l)(hl':¬M' l)(hM:∀k,M' k->M k)(cU:Apart M' S0 m1 a1)(cQ:w.heap[l]?=some (.loop r))
  (dV:m0.le m1) (bV:Sub mi w) (hn:NewM m0 mi M') (hL:S1.L=S0.L) (dL:S1.ids=S0.ids) (bU:S1.tok=S0.tok) (dC:S1.tkeys=S0.tkeys) (hg:S1.gh=S0.gh) (hf:S1.fo=true) (bW:tm.size=C.n) (cZ:∀i sv,S1.env i=some sv->∃v,S1.den sv=some v/\tm[i]?=some v):
  Rel (Zoq C (λk=>M' k\/k=l\/Zf8 k∈a1.defers) (λk=>w.heap[k]?) w.heap.size (meY C mi M') (Zqv C mi M')) S1 (m1.or mi) { tmps:=tm,defers:=[] } w:=by
 obtain⟨eV,nA⟩:=hr.orMem hd hM cU dV bV hn
 have hX:∀k o,w.heap[k]?=some o->Zru o=true->¬M' k->¬(M' k\/k=l\/Zf8 k∈a1.defers):=by
  rintro k o hk hm hn (h|h|h)
  ·exact hn h
  ·exact Zcd hk hm cQ h
  ·have:=hr.markAt h
   rw[this]at hk;cases hk;cases hm
 have cE:∀{b o v},w.cell? ⟨b,o,none⟩=some v->∃ob,w.heap[b]?=some ob/\Zru ob=true:=λ{b o v} h1=>by
  unfold World.cell? at h1
  split at h1
  ·rename_i c T fr hc;exact⟨_,hc,rfl⟩
  ·cases h1
 refine eV.swap (C2:=Zoq C (λk=>M' k\/k=l\/Zf8 k∈a1.defers) (λk=>w.heap[k]?) w.heap.size (meY C mi M') (Zqv C mi M')) rfl ⟨λb o v hv=>?_,λb v hv=>?_⟩ hL dL bU dC cZ bW ⟨[],rfl,List.nodup_nil,by simp⟩ (λ_ _ _ _=>rfl) (λk t b ht hb o=>?_) (λh=>by rw[hf]at h;cases h) ⟨λk=>M k/\¬(M' k\/k=l\/Zf8 k∈a1.defers),?_,λk hk=>hd.lt k hk.1,λid x hx=>?_,λk t b ht hb=>?_,by simp,⟨λb o v hv=>?_,λb v hv=>?_⟩⟩
 ·rcases Mem.or_some hv with h1|⟨_,h2⟩
  ·exact(Mem.le_or _ _).c b o v (hr.le.c b o v h1)
  ·obtain⟨h3,h4⟩:=Mem.on_c h2
   rw[Mem.or_right (ZfM λu hu=>cU.mem b o u hu h3)];exact h4
 ·rcases Mem.or_k hv with h1|⟨_,h2⟩
  ·exact(Mem.le_or _ _).k b v (hr.le.k b v h1)
  ·obtain⟨h3,h4⟩:=Mem.on_k h2
   rw[Mem.or_kright (ZfM λu hu=>cU.kn b u hu h3)];exact h4
 ·have h1:=((hr.toks k t ht).2 b hb).2 o
  show(meY C mi M') b o=none
  unfold meY
  rw[Mem.or_right h1]
  exact ZfM λu hu=>cU.tok k t b ht hb (Mem.on_c hu).1
 ·rw[hg]
  refine⟨M,hd.p,hd.lt,λk hk=>hk.1,λk hk=>⟨?_,λh=>h.2 hk,rfl⟩,Nat.le_refl _⟩
  rcases hk with h|h|h
  ·exact hM k h
  ·exact h ▸ hl
  ·exact hd.mks k h
 ·rw[hL]at hx
  obtain⟨c,T,fr,hc⟩:=(hr.own id x hx).isC
  exact⟨hd.own id x hx,hX _ _ hc rfl (cU.box id x hx)⟩
 ·rw[bU]at ht
  obtain⟨c,T,fr,hc⟩:=(hr.toks k t ht).1.isCells hb
  exact⟨hd.tok k t b ht hb,hX _ _ hc rfl (cU.tok k t b ht hb)⟩
 ·rcases Mem.or_some hv with h1|⟨h1,h2⟩
  ·rcases hd.new.c b o v h1 with h3|h3
   ·exact .inl ((Mem.le_or _ _).c b o v h3)
   ·obtain⟨ob,h4,h5⟩:=cE (hr.sub.c b o v h1)
    exact .inr ⟨h3,hX _ _ h4 h5 (cU.mem b o v h1)⟩
  ·rcases hn.c b o v h2 with h3|h3
   ·rw[dV.c b o v h3]at h1;cases h1
   ·refine .inl ?_
    show(meY C mi M') b o=some v
    unfold meY
    rw[Mem.or_right (ZfM λu hu=>by rw[hr.le.c b o u hu]at h1;cases h1),Mem.on_at h3];exact h2
 ·rcases Mem.or_k hv with h1|⟨h1,h2⟩
  ·rcases hd.new.k b v h1 with h3|h3
   ·exact .inl ((Mem.le_or _ _).k b v h3)
   ·obtain⟨es,cl,h4,_⟩:=hr.sub.k b v h1
    exact .inr ⟨h3,hX _ _ h4 rfl (cU.kn b v h1)⟩
  ·rcases hn.k b v h2 with h3|h3
   ·rw[dV.k b v h3]at h1;cases h1
   ·refine .inl ?_
    show(meY C mi M').k b=some v
    unfold meY
    rw[Mem.or_kright (ZfM λu hu=>by rw[hr.le.k b u hu]at h1;cases h1),Mem.on_kat h3];exact h2
theorem Rel.outOfRoundY{m0 mi:Mem}{X:Nat->Prop}{h1:Nat->Option Obj}{B:Nat}{S' S2:St}{a3 a1:Act}{l:Nat}{r r':Loop}(hr:Rel (Zoq C X h1 B (meY C mi M') (Zqv C mi M')) S' m a3 w)(hl:X l)(cQ:w.heap[l]?=some (.loop r))
  (sF:∀b o v,C.me b o=some v->¬X b) (ti:∀b e,C.me.k b=some e->¬X b) (v5:∀D,Zf8 D∈a1.defers->X D) (hX':∀k,M' k->X k) (v6:∀D,Zf8 D∈a1.defers->¬M' D)
  (dV:∀b o v,m0 b o=some v->¬M' b) (nB:∀b e,m0.k b=some e->¬M' b) (hn:NewM m0 mi M')
  (hL:S2.L=S'.L) (dL:S2.ids=S'.ids) (bU:S2.tok=S'.tok) (dC:S2.tkeys=S'.tkeys) (hg:S2.gh=S'.gh) (hf:S2.fo=false->C.me=C.m0) (bW:a1.tmps.size=C.n) (cZ:∀i sv,S2.env i=some sv->∃v,S2.den sv=some v/\a1.tmps[i]?=some v)
  (gF:∃ms:List Nat,a1.defers=ms.map Zf8/\ms.Nodup/\∀D∈ms,w.heap[D]?=some (.deferred (some []))):
  Rel C S2 (m.less m0 mi) a1 (w.putObj l (.loop r'))/\∃M,Dom C S2 (m.less m0 mi) a1 (w.putObj l (.loop r')) M/\M l/\(∀k,M' k->M k)/\Apart M' S2 (m.less m0 mi) a1:=by
 have hZ:∀b,m0.newC mi b->M' b:=λb ⟨o,v,g1,g2⟩=>by
  rcases hn.c b o v g1 with g|g
  ·rw[g2]at g;cases g
  ·exact g
 have zQ:∀b,m0.newK mi b->M' b:=λb ⟨e,g1,g2⟩=>by
  rcases hn.k b e g1 with g|g
  ·rw[g2]at g;cases g
  ·exact g
 have cT:∀(k:Nat)(o:Obj),w.heap[k]?=some o->Zru o=true->(w.putObj l (.loop r')).heap[k]?=w.heap[k]?:=λk o hk hm=>World.putObj_heap_other (Zcd hk hm cQ)
 obtain⟨ms,q1,q2,q3⟩:=gF
 obtain⟨Mr,hd⟩:=hr.dom
 obtain⟨M,p1,p2,p3,p4,p5⟩:=hd.p
 have cB:NewM C.me m M:=⟨λb o v hv=>by
  rcases hd.new.c b o v hv with h|h
  ·exact((Zot C mi M').c b o v h).imp_right λh=>(p4 b (hX' b h)).1
  ·exact .inr (p3 b h),λb e he=>by
  rcases hd.new.k b e he with h|h
  ·exact((Zot C mi M').k b e h).imp_right λh=>(p4 b (hX' b h)).1
  ·exact .inr (p3 b h)⟩
 have hD:Dom C S2 m a1 (w.putObj l (.loop r')) M:=
  ⟨hg ▸ C.st _ M M _ _ p1 (Zfz rfl (p4 l hl).1) (λk hk=>.inl hk),λk hk=>by rw[ZcR];exact p2 k hk,λid x hx=>p3 _ (hd.own id x (hL ▸ hx)),λk t b ht hb=>p3 _ (hd.tok k t b (bU ▸ ht) hb),λD hD=>(p4 D (v5 D hD)).1,cB⟩
 have cF:C.me.le m:=mLt (Mem.le_or _ _) hr.le
 have r1:Rel C S2 m a1 (w.putObj l (.loop r')):=hr.swap (C2:=C) rfl cF hL dL bU dC cZ bW ⟨ms,q1,q2,λD hD=>by
  rw[World.putObj_heap_other (λe=>by have:=q3 D hD;rw[e,cQ]at this;cases this)];exact q3 D hD⟩ cT (λk t b ht hb o=>ZfM λu hu=>by
   have h2:(C.me.or (mi.on M')) b o=none:=((hr.toks k t ht).2 b hb).2 o
   rw[(Mem.le_or _ _).c b o u hu]at h2;cases h2) hf ⟨M,hD⟩
 have uT:∀id x,S2.L id=some x->¬m0.newC mi x.b:=λid x hx h=>(p4 _ (hX' _ (hZ _ h))).2.1 (hd.own id x (hL ▸ hx))
 have tj:∀b o v,C.me b o=some v->¬m0.newC mi b:=λb o v hv h=>sF b o v hv (hX' b (hZ b h))
 have tn:∀b e,C.me.k b=some e->¬m0.newK mi b:=λb e he h=>ti b e he (hX' b (zQ b h))
 refine⟨r1.lessMem (Mem.less_le _ _ _) ⟨λb o v hv=>by rw[Mem.less_at (tj b o v hv)];exact cF.c b o v hv,λb e he=>by rw[Mem.less_k (tn b e he)];exact cF.k b e he⟩ (λid x hx _ o=>Mem.less_at (uT id x hx) o),M,
  ⟨hD.p,hD.lt,hD.own,hD.tok,hD.mks,hD.new.less (Mem.less_le _ _ _)⟩,(p4 l hl).1,λk hk=>(p4 k (hX' k hk)).1,?_⟩
 refine⟨λid x hx h=>(p4 _ (hX' _ h)).2.1 (hd.own id x (hL ▸ hx)),λk t b ht hb h=>(p4 _ (hX' _ h)).2.1 (hd.tok k t b (bU ▸ ht) hb),v6,λb o v hv h=>?_,λb e he h=>?_⟩
 ·by_cases hz:m0.newC mi b
  ·rw[Mem.less_free hz o]at hv;cases hv
  ·rw[Mem.less_at hz]at hv
   rcases hd.new.c b o v hv with h2|h2
   ·rcases Mem.or_some h2 with h3|⟨_,h3⟩
    ·exact sF b o v h3 (hX' b h)
    ·exact hz ⟨o,v,(Mem.on_c h3).2,ZfM λu hu=>dV b o u hu h⟩
   ·exact(p4 b (hX' b h)).2.1 h2
 ·by_cases hz:m0.newK mi b
  ·rw[Mem.less_kn hz]at he;cases he
  ·rw[Mem.less_k hz]at he
   rcases hd.new.k b e he with h2|h2
   ·rcases Mem.or_k h2 with h3|⟨_,h3⟩
    ·exact ti b e h3 (hX' b h)
    ·exact hz ⟨e,(Mem.on_k h3).2,ZfM λu hu=>nB b u hu h⟩
   ·exact(p4 b (hX' b h)).2.1 h2
end
section
variable {C:Ctx} {S:St} {m0:Mem} {a:Act} {w w':World} {M M':Nat->Prop}
def Zrv(C:Ctx)(S:St)(m0:Mem)(A:LoopAnn)(I:List Value->List (List Value)->List Value->Mem->Nat->Prop)(a1:Act)(l:Nat)(rec:LoopState->Option Code->Loop)(k:Int)(M':Nat->Prop)(W:World):Prop:=
 ∃(g:Int) (css:List (List Value)) (tvs:List Value) (m':Mem),css.length=A.boxes.length/\tvs.length=A.toks.length/\Zkc tvs/\(A.gh=false->g=S.gh)/\m0.le m'/\
  Rel C (Zbd S [] { A with slots:=[] } g [] css tvs) m' a1 W/\
  (∃M,Dom C (Zbd S [] { A with slots:=[] } g [] css tvs) m' a1 W M/\M l/\¬M' l/\(∀k,M' k->M k)/\Apart M' (Zbd S [] { A with slots:=[] } g [] css tvs) m' a1)/\
  0<=k/\I (ghs A.gh g []) css tvs m' k.toNat/\W.heap[l]?=some (.loop (rec .ready none))
theorem Zk2{A:LoopAnn}{I:List Value->List (List Value)->List Value->Mem->Nat->Prop}{a1:Act}{l:Nat}{rec:LoopState->Option Code->Loop}:Zuf (Zrv C S m0 A I a1 l rec):=by
 rintro k M' M2 W W' ⟨g,css,tvs,m',h1,h2,h3,h4,h5,hr,⟨M,hd,hl,hl',hM,cU⟩,sF,oU,hc⟩ hu hg
 obtain⟨eV,nA⟩:=hr.foreign hd hM cU hu
 have iF:=hd.lt l hl
 have v4:W'.heap[l]?=W.heap[l]?:=hu.block l iF hl'
 have key:∀k,k < W.heap.size->¬M' k->¬M2 k:=λk hk hn h=>by
  rcases hg k h with h|h
  ·exact hn h
  ·omega
 refine⟨g,css,tvs,m',h1,h2,h3,h4,h5,eV,⟨_,nA,.inl hl,key l iF hl',λk hk=>?_,?_⟩,sF,oU,by rw[v4];exact hc⟩
 ·rcases hg k hk with h|h
  ·exact .inl (hM k h)
  ·exact .inr h
 ·exact⟨λid x hx=>key _ (hr.own id x hx).lt (cU.box id x hx),λk t b ht hb=>key _ ((hr.toks k t ht).1.lt hb) (cU.tok k t b ht hb),λD hD=>key _ (hd.lt D (hd.mks D hD)) (cU.mks D hD),λb o v hv=>key _ (hr.sub.lt hv) (cU.mem b o v hv),λb e he=>key _ (hr.sub.k b e he).lt (cU.kn b e he)⟩
theorem Zk3{E:Env}{A:LoopAnn}{I:List Value->List (List Value)->List Value->Mem->Nat->Prop}{a1:Act}{l:Nat}{fn:FuncId}{ps:Array Tmp}{x y:Code}{D:Nat}{Tx Ty:KT->St->Mem->Prop}{n0:Nat}{V:Nat->List Value->Mem->Prop}
  (rp:Zk1 E Tx x) (rq:Zk1 E Ty y) (oR:YOk E C) (rr:Zbt C.n x=true) (ru:Zbt C.n y=true) (oS:ps.toList.all (Nat.blt · C.n)=true) (hS:StOk S) (kQ:S.fo=false) (bW:a1.tmps.size=C.n) (cZ:∀i sv,S.env i=some sv->∃v,S.den sv=some v/\a1.tmps[i]?=some v)
  (v9:ZjF ps.toList (A.slots.map (·.1))=true) (qv:Zbs ps.toList=true) (dN:∀i v mi,V i v mi->Shape.fitsL (A.slots.map (·.2)) v=true)
  (hb:ZwJ A.gh S.gh λy=>Shape.allL (A.slots.map (·.2)) λx=>ZkS A.boxes λcss=>ZkT A.toks λtvs=>∀(m' mi:Mem)(k:Nat),k < n0->m0.le m'->m0.le mi->mi.le (m'.or mi)->(∀b,m0.newC mi b->m'.free b)->V k x mi->I (ghs A.gh y []) css tvs m' k->
     Tx (λe S1 m1=>match e with
      | .normal=>Ty (λe S' m''=>match e with
       | .normal=>Zj5 A.gh S'.gh S.gh S'.fo true (ZkU (ZbJ S' A S.ids) (ZbJ S A S.ids) (ZkV (Za8 S' A S.tkeys) (Za8 S A S.tkeys) (ZsK S' A.boxes λcss'=>Ze5 S' A.toks λtvs'=>m0.le m''/\I (ghs A.gh S'.gh []) css' tvs' (m''.less m0 mi) (k+1))))
       | _=>False) S1 m1
      | _=>False) (Zbd { S with fo:=true } [] A y x css tvs) (m'.or mi)):
  ZnS E.P m0 (Zrv C S m0 A I a1 l (Zdk fn a1.tmps ps x y D)) (λl' g v mi=>l'=l/\∃i:Nat,g=(i:Int)/\i < n0/\V i v mi):=by
 rintro F n l' k v M' w mi hF bF ⟨rfl,i,rfl,eL,hV⟩ kS oQ ⟨g,css,tvs,m',h1,h2,h3,h4,h5,hr,⟨M,hd,hl,hl',hM,cU⟩,_,hI,cQ⟩ bV
 have hI:I (ghs A.gh g []) css tvs m' i:=hI
 have iS:=Zhw v9
 have rx:=dN i v mi hV
 have jP:v.length=ps.toList.length:=by rw[iS,ZdE rx];simp
 have dI:=ZaH qv
 have hy:=run_yield (P:=E.P) (args:=v.toArray) cQ (by simpa[Zdk]using jP)
 simp only[Zdk]at hy
 refine⟨_,_,_,_,hy,roundIn_of_wpIn (hF.fn _) ?_⟩
 have nC:((ps.zip v.toArray).foldl (λtmps (x:Tmp×Value)=>tmps.setIfInBounds x.1 x.2) a1.tmps)=((ps.toList.zip v).foldl (λ(t:Array Value)(x:Nat×Value)=>t.setIfInBounds x.1 x.2) a1.tmps):=by
  rw[<-Array.foldl_toList,Array.toList_zip]
 obtain⟨f1,f2,f3⟩:=Zhv ps.toList v a1.tmps jP dI
 have lW:=hF.inRound l'
 have dA:=hr.intoRoundY (S1:=Zbd { S with fo:=true } [] A g v css tvs) (tm:=(ps.toList.zip v).foldl (λ(t:Array Value)(x:Nat×Value)=>t.setIfInBounds x.1 x.2) a1.tmps) hd hl hl' hM cU cQ h5 bV oQ rfl rfl rfl rfl rfl rfl (by rw[f1];exact bW) (by
  intro i sv he
  simp only[Zbd]at he
  rcases Zhu (by rw[ZdE rx];simp) he with⟨g1,g2⟩|⟨q,sh,u,g1,g2,g3⟩
  ·simp only[List.any_nil,cond_false]at g1
   obtain⟨u,g3,g4⟩:=cZ i sv g1
   exact⟨u,Zin (S:={ S with fo:=true }) (by cases sv <;> exact g3),by rw[f2 i (by rw[iS];exact g2)];exact g4⟩
  ·subst g3
   refine⟨u,rfl,f3 q i u ?_ g2 ?_⟩
   ·rw[iS,List.getElem?_map,g1];rfl
   ·have:i∈ps.toList:=by rw[iS];exact List.mem_map.2 ⟨_,List.mem_of_getElem? g1,rfl⟩
    have:=List.all_eq_true.1 oS i this
    rw[bW];exact Zl9 this)
 rw[nC]
 have wa:∀b o v,C.me b o=some v->¬(M' b\/b=l'\/Zf8 b∈a1.defers):=by
  intro b o v hv
  have hv':m' b o=some v:=hr.le b o v hv
  obtain⟨c,T,fr,hc⟩:=hr.sub.isCells hv'
  rintro(h|h|h)
  ·exact cU.mem b o v hv' h
  ·exact Zfp hc cQ h
  ·exact Zgg hc (hr.markAt h) rfl
 have ry:∀b e,C.me.k b=some e->¬(M' b\/b=l'\/Zf8 b∈a1.defers):=by
  intro b e he
  have he':m'.k b=some e:=hr.le.k b e he
  obtain⟨es,cl,h1,_⟩:=hr.sub.k b e he'
  rintro(h|h|h)
  ·exact cU.kn b e he' h
  ·exact Zcd h1 rfl cQ h
  ·have:=hr.markAt h
   rw[h1]at this;cases this
 have dV:∀b o v,m0 b o=some v->¬M' b:=λb o v hv=>cU.mem b o v (h5.c b o v hv)
 have nB:∀b e,m0.k b=some e->¬M' b:=λb e he=>cU.kn b e (h5.k b e he)
 have eP:∀b,m0.newC mi b->m'.free b:=λb ⟨o,v,g1,g2⟩ o'=>ZfM λu hu=>by
  rcases oQ.c b o v g1 with g|g
  ·rw[g2]at g;cases g
  ·exact cU.mem b o' u hu g
 have zR:YOk E (Zoq C (λk=>M' k\/k=l'\/Zf8 k∈a1.defers) (λk=>w.heap[k]?) w.heap.size (meY C mi M') (Zqv C mi M')):=ZkZ oR (Mem.le_or _ _) ((Zot C mi M').mono λ_=>.inl)
 have eQ:=ZdC (ZdB (Shape.allL_fits _ _ (ZfK hb h4) v rx) css h1) tvs h2 h3 m' mi i eL h5 kS (hr.sub.le_or bV) eP hV hI
 refine rp lW zR ?_ n rr dA eQ ?_
 ·intro l2 oT g2 Mr w2 hp
  have:l2=l':=by simpa using oT.symm
  subst this
  obtain⟨M2,_,_,_,p4,_⟩:=hp
  exact⟨_,by rw[(p4 l2 (.inr (.inl rfl))).2.2];exact cQ⟩
 rintro e S1 m1 a2 w1 hk eV
 cases e with
 | normal=>
  obtain⟨z1,z2⟩:=eV.atX
  have gG:w1.heap[l']?=some (.loop (Zdk fn a1.tmps ps x y D .ready none)):=by rw[z2 l' (.inr (.inl rfl))];exact cQ
  refine⟨_,run_beginRound gG rfl,?_⟩
  have td:=eV.beginRound (r':={ Zdk fn a1.tmps ps x y D .ready none with state:=.busy }) (.inr (.inl rfl)) gG
  have lY:l' < w1.heap.size:=(Array.getElem?_eq_some_iff.1 gG).1
  have dT:(w1.putObj l' (.loop { Zdk fn a1.tmps ps x y D .ready none with state:=.busy })).heap[l']?=some (.loop { Zdk fn a1.tmps ps x y D .ready none with state:=.busy }):=World.putObj_heap_same lY
  refine rq lW (ZkZ oR (Mem.le_or _ _) ((Zot C mi M').mono λ_=>.inl)) ?_ n ru td hk ?_
  ·intro l2 oT g2 Mr w2 hp
   have:l2=l':=by simpa using oT.symm
   subst this
   obtain⟨M2,_,_,_,p4,_⟩:=hp
   exact⟨_,by rw[(p4 l2 (.inr (.inl rfl))).2.2];exact dT⟩
  rintro e S' m'' a3 w3 hk pH
  cases e with
  | normal=>
   obtain⟨q1,qf,hk⟩:=Zea hk
   obtain⟨q2,hk⟩:=Zdb.1 hk
   obtain⟨q3,hk⟩:=Zdc.1 hk
   obtain⟨css',g1,g2,hk⟩:=ZcY hk
   obtain⟨tvs',k1,k2,tq,hk⟩:=ZbK hk
   obtain⟨y1,y2⟩:=pH.atX
   have fR:w3.heap[l']?=some (.loop { Zdk fn a1.tmps ps x y D .ready none with state:=.busy }):=by rw[y2 l' (.inr (.inl rfl))];exact dT
   have hx:Rel (Zoq C (λk=>M' k\/k=l'\/Zf8 k∈a1.defers) (λk=>(w1.putObj l' (.loop { Zdk fn a1.tmps ps x y D .ready none with state:=.busy })).heap[k]?) w.heap.size (meY C mi M') (Zqv C mi M')) (Zbd { S with env:=λ_=>none,fo:=true } [] { A with slots:=[] } S'.gh [] css' tvs') m'' a3 w3:=by
    have hh:=pH.restrict (S2:={ S' with env:=λ_=>none }) rfl rfl (λ_ _ h=>h) (λ_ _ h=>.inl h) (λi sv h=>(by cases h)) pH.ids pH.tkeys
    exact ZdL (S:={ S with env:=λ_=>none,fo:=true }) (S':={ S' with env:=λ_=>none }) (A:={ A with slots:=[] }) ⟨λi sv h=>(by cases h),hS.ids,hS.tkeys⟩ hh qf (λ_ _=>rfl) q2 q3 (by simp) g1 g2 k1 k2
   have gF:∃ms:List Nat,a1.defers=ms.map Zf8/\ms.Nodup/\∀D∈ms,w3.heap[D]?=some (.deferred (some [])):=by
    obtain⟨ms,r1,r2,r3⟩:=hr.defers
    refine⟨ms,r1,r2,λD' hD'=>?_⟩
    have hm:Zf8 D'∈a1.defers:=by rw[r1];exact List.mem_map.2 ⟨_,hD',rfl⟩
    rw[y2 D' (.inr (.inr hm)),World.putObj_heap_other (λe=>by have:=r3 D' hD';rw[e,cQ]at this;cases this),z2 D' (.inr (.inr hm))];exact r3 D' hD'
   obtain⟨o1,M3,o2,o3,o4,o5⟩:=hx.outOfRoundY (S2:=Zbd S [] { A with slots:=[] } S'.gh [] css' tvs') (a1:=a1) (M':=M') (m0:=m0) (r':=Zdk fn a1.tmps ps x y D .ready none) (.inr (.inl rfl)) fR wa ry (λD' hD'=>.inr (.inr hD')) (λk hk=>.inl hk) cU.mks dV nB oQ rfl rfl rfl rfl rfl (λh=>hr.fo h) bW (by
    intro i sv he
    simp only[Zbd,ZbU,List.any_nil,cond_false]at he
    obtain⟨u,g3,g4⟩:=cZ i sv he
    exact⟨u,Zin g3,g4⟩) gF
   have uS:l' < w3.heap.size:=(Array.getElem?_eq_some_iff.1 fR).1
   have pA:m0.le (m''.less m0 mi):=⟨λb o v hv=>by
    rw[Mem.less_at (λhz=>by
     have h6:=eP b hz o
     rw[h5.c b o v hv]at h6;cases h6)];exact tq.c b o v hv,λb e he=>by
    rw[Mem.less_k (λ⟨e',z1,z2⟩=>by rw[he]at z2;cases z2)];exact tq.k b e he⟩
   have iQ:Zkc tvs':=by
    intro u hu
    obtain⟨i,hi⟩:=List.getElem?_of_mem hu
    have bF:=(List.getElem?_eq_some_iff.1 hi).1
    obtain⟨qe,kT⟩:∃qe,A.toks[i]?=some qe:=⟨_,List.getElem?_eq_getElem (by omega)⟩
    exact(k2 i qe.1 qe.2 u kT hi).1
   refine⟨_,_,run_endRound none fR,rfl,⟨S'.gh,css',tvs',m''.less m0 mi,g1,k1,iQ,q1,pA,o1,⟨M3,o2,o3,hl',o4,o5⟩,by omega,?_,World.putObj_heap_same uS⟩,?_⟩
   ·have:((i:Int)+1).toNat=i+1:=by omega
    rw[this];exact hk
   ·refine⟨by rw[ZcR];exact y1,λk hk nD=>?_,o1.sub.less pA⟩
    have cT:k≠l':=λe=>hl' (e ▸ nD)
    rw[World.putObj_heap_other cT,y2 k (.inl nD),World.putObj_heap_other cT,z2 k (.inl nD)]
  | _=>exact hk.elim
 | exit id=>exact hk.elim
 | goto t=>exact hk.elim
 | ret=>exact hk.elim
 | panic ch=>exact hk.elim
 | outgrown=>exact hk.elim
theorem Znc{E:Env}{m:Mem}{F:Fence}(hF:FOk F)(oR:YOk E C)(hR:ROk F C)(n:Nat){A:LoopAnn}{f:Operand}{ps:Array Tmp}{x y:Code}{Tx Ty:KT->St->Mem->Prop}
  (rp:Zk1 E Tx x) (rq:Zk1 E Ty y) (rr:Zbt C.n x=true) (ru:Zbt C.n y=true) (oS:ps.toList.all (Nat.blt · C.n)=true)
  {K:KT} {Q:Exit->Act->World->Prop} (hr:Rel C S m a w) (h:Zj6 E A f ps.toList Tx Ty K S m) (hK:∀e S' m' a' w',K e S' m'->Rel C S' m' a' w'->Q e a' w'):(Code.rangeFunc f ps x y).wpIn F n E.P Q a w:=by
 unfold Zj6 at h
 split at h
 rotate_left
 ·exact h.elim
 rename_i g first captured mm oL eO
 obtain⟨hc,Y,n0,V,R,tf,wc,dN,I,h0,hb,jT⟩:=Zac h
 simp only[Bool.and_eq_true]at hc
 have kQ:S.fo=false:=by simpa using hc.1.2
 obtain⟨v,e1,_,e2⟩:=hr.ev_val oL
 simp only[St.den,Option.some.injEq]at e1
 refine wpIn_rangeFunc λfn qr=>?_
 obtain⟨l,mk,w1,D,mY,dA,⟨M1,iR,lY⟩,cQ⟩:=hr.enter (P:=E.P) hR fn ps x y
 obtain⟨a1,nF⟩:∃a1,a1=({ a with defers:=mk++a.defers }:Act):=⟨_,rfl⟩
 rw[<-nF]at dA iR
 have iI:a1.tmps=a.tmps:=by rw[nF]
 have nG:w1.heap[l]?=some (.loop (Zdk fn a1.tmps ps x y D .ready none)):=by rw[iI];exact cQ
 have eU:C.me=mm:=(hr.fo kQ).trans (oR.m0 mm eO).1
 have uU:∀b,Y b->∃o,w1.heap[b]?=some o/\Zru o=true/\∀c T fr,o≠.cells c T fr:=λb hb=>by
  obtain⟨_,e,he⟩:=wc b hb
  obtain⟨es,cl,h1,_⟩:=dA.sub.k b e he
  exact⟨_,h1,rfl,λ_ _ _ h=>by cases h⟩
 have zS:∀b,Y b->M1 b:=λb hb=>by
  obtain⟨h1,e,he⟩:=wc b hb
  rcases iR.new.k b e he with h2|h2
  ·rw[eU,h1]at h2;cases h2
  ·exact h2
 have iP:∀(b:Nat),Y b->∀c T fr,w1.heap[b]?≠some (.cells c T fr):=λb hb c T fr hh=>by
  obtain⟨o,h1,_,h2⟩:=uU b hb
  rw[h1]at hh;exact h2 c T fr (Option.some.inj hh)
 have zT:¬Y l:=λhb=>by
  obtain⟨o,h1,h2,_⟩:=uU l hb
  rw[cQ]at h1;cases h1;cases h2
 have wd:C.me.le (m.off Y):=⟨λb o u hu=>by
  rw[Mem.off_at (λhb=>by
   obtain⟨c,T,fr,hh⟩:=dA.sub.isCells (dA.le.c b o u hu)
   exact iP b hb c T fr hh)];exact dA.le.c b o u hu,λb e he=>by
  rw[Mem.off_k (λhb=>by
   rw[eU,(wc b hb).1]at he;cases he)];exact dA.le.k b e he⟩
 have uV:Rel C S (m.off Y) a1 w1:=dA.lessMem (Mem.off_le _ _) wd (λid x hx _ o=>Mem.off_at (λhb=>by
  obtain⟨c,T,fr,hh⟩:=(dA.own id x hx).isC
  exact iP _ hb c T fr hh) o)
 have cU:Apart Y S (m.off Y) a1:=⟨λid x hx hb=>by
  obtain⟨c,T,fr,hh⟩:=(dA.own id x hx).isC
  exact iP _ hb c T fr hh,λk t b ht we hb=>by
  obtain⟨c,T,fr,hh⟩:=(dA.toks k t ht).1.isCells we
  exact iP _ hb c T fr hh,λD hD hb=>by
  obtain⟨o,g1,g2,_⟩:=uU D hb
  rw[dA.markAt hD]at g1;cases g1;exact(by cases g2),λb o u hu hb=>(by
  rw[Mem.off_free hb]at hu;cases hu),λb e he hb=>(by
  rw[Mem.off_kn hb]at he;cases he)⟩
 refine⟨l,mk,w1,{ target:=.fn (.func g) captured,args:=first++#[.func (.yield l) #[] #[]] },w1,g,(first.toList++.func (.yield l) #[] #[]::captured.toList).toArray,w1,mY,?_,λf' _=>hF.fn f',?_,λhs=>by rw[hF.depth]at hs;simp at hs,?_⟩
 ·simp only[resolve,e2,<-e1,Deferred.ofValue]
  simp[go_sem]
 ·have eY:first++#[Value.func (.yield l) #[] #[]]++captured=(first.toList++Value.func (.yield l) #[] #[]::captured.toList).toArray:=Array.ext' (by simp)
  simp only[invoke,eY]
  exact tf.1 _ _
 ·obtain⟨css,g1,g2,h0⟩:=ZcY h0
  obtain⟨tvs,k1,k2,hI⟩:=ZbK h0
  have iQ:Zkc tvs:=by
   intro u hu
   obtain⟨i,hi⟩:=List.getElem?_of_mem hu
   have bF:=(List.getElem?_eq_some_iff.1 hi).1
   obtain⟨qe,kT⟩:∃qe,A.toks[i]?=some qe:=⟨_,List.getElem?_eq_getElem (by omega)⟩
   exact(k2 i qe.1 qe.2 u kT hi).1
  have rz:Rel C (Zbd S [] { A with slots:=[] } S.gh [] css tvs) (m.off Y) a1 w1:=ZdL uV.ok uV rfl (SameOut.refl _ _) rfl rfl (by simp) g1 g2 k1 k2
  have uT:∀id y,(Zbd S [] { A with slots:=[] } S.gh [] css tvs).L id=some y->∃id x,S.L id=some x/\x.b=y.b:=λid y hy=>by
   simp only[Zbd]at hy
   rcases Zfx hy with⟨i,x',cs,q1,q2,q3,q4⟩|⟨q1,q2⟩
   ·exact⟨id,x',q3,by rw[q4]⟩
   ·exact⟨id,y,q2,rfl⟩
  have dC:∀k t b,(Zbd S [] { A with slots:=[] } S.gh [] css tvs).tok k=some t->t.blk=some b->∃t,S.tok k=some t/\t.blk=some b:=λk t b ht hb=>by
   simp only[Zbd]at ht
   rcases ZdD ht with⟨i,e,u,q1,q2,q3⟩|⟨q1,q2⟩
   ·obtain⟨_,q5⟩:=k2 i k e u q1 q2
    subst q3
    rcases q5 with q5|q5
    ·exact⟨_,q5,hb⟩
    ·simp[Tok.blk,q5]at hb
   ·exact⟨t,q2,hb⟩
  have rA:Zrv C S (m.off Y) A I a1 l (Zdk fn a1.tmps ps x y D) 0 Y w1:=by
   refine⟨S.gh,css,tvs,m.off Y,g1,k1,iQ,λ_=>rfl,Mem.le_refl _,rz,?_,Int.le_refl _,hI,nG⟩
   have nA:Dom C (Zbd S [] { A with slots:=[] } S.gh [] css tvs) (m.off Y) a1 w1 M1:=by
    refine⟨iR.p,iR.lt,λid y hy=>?_,λk t b ht hb=>?_,iR.mks,iR.new.less (Mem.off_le _ _)⟩
    ·obtain⟨id',x,q1,q2⟩:=uT id y hy
     rw[<-q2];exact iR.own id' x q1
    ·obtain⟨t',q1,q2⟩:=dC k t b ht hb
     exact iR.tok k t' b q1 q2
   refine⟨M1,nA,lY,zT,zS,⟨λid y hy hb=>?_,λk t b ht hb=>?_,cU.mks,cU.mem,cU.kn⟩⟩
   ·obtain⟨id',x,q1,q2⟩:=uT id y hy
    exact cU.box id' x q1 (q2 ▸ hb)
   ·obtain⟨t',q1,q2⟩:=dC k t b ht hb
    exact cU.tok k t' b q1 q2
  have cZ:∀i sv,S.env i=some sv->∃v,S.den sv=some v/\a1.tmps[i]?=some v:=λi sv he=>dA.env i sv he
  have kU:=Zk3 (E:=E) (S:=S) (m0:=m.off Y) (l:=l) (fn:=fn) (D:=D) rp rq oR rr ru oS hr.ok kQ dA.size cZ hc.2.1 hc.2.2 dN hb
  refine hF.calls ((tf.2 _ Zk2 l w1 dA.sub (λb hb=>by
   obtain⟨o,q1,_,q2⟩:=uU b hb
   exact⟨(Array.getElem?_eq_some_iff.1 q1).1,λc T fr hh=>by rw[q1]at hh;exact(q2 c T fr (Option.some.inj hh)).elim⟩) rA kU).mono ?_)
  rintro e w2 ⟨v,M2,me,rfl,bF,eJ,lH,oT,lR,zU⟩
  rw[<-nF]
  obtain⟨gg,css2,tvs2,m2,y1,y2,y3,y4,y5,y6,⟨M3,y7,y8,y9,y10,y11⟩,_,tg,fS⟩:=eJ
  refine⟨none,_,run_endLoop fS (by simp[Zdk]),?_⟩
  obtain⟨z1,z2⟩:=y6.orMem y7 y10 y11 y5 lH lR
  have:=ZdC (ZdB (ZfK jT y4) css2 y1) tvs2 y2 y3 m2 me y5 oT (y6.sub.le_or lH) (by simpa using tg) zU
  exact hK _ _ _ _ _ this (z1.afterRange z2 y8 fS)
end
end Go.Eng