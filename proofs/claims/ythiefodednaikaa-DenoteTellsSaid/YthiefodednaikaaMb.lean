/- The engine: a reckoner over the code of a program in Lean, with its soundness; it names no program. No condition. -/
import Derived.Test.YthiefodednaikaaMa
import Derived.RangeFuncNested
import Derived.RangeFuncLeaves
set_option linter.unusedVariables false
set_option linter.unusedSimpArgs false
namespace Go.Eng
open Go Go.RowKit
theorem Zcf{n:Int}(h0 : -9223372036854775808≤n)(h1:n≤9223372036854775807):IntKind.i64.wrap n=n:=by
 simp only[IntKind.wrap,IntKind.bits,IntKind.signed,Bool.true_and]
 split
 ·rename_i h;simp at h;omega
 ·rename_i h;simp at h;omega
def Ztv(E:Env)(S:St)(T:TypeId)(l c:Operand)(d:Option Tmp)(K:St→Prop):Prop:=match d with
 | none=>False
 | some d=>match Zay E T with
  | none=>False
  | some (e,j)=>match S.L d with
   | some _=>False
   | none=>wv S l fun vl=>wv S c fun vc=>chk (ZbI vl&&ZbI vc) ((0≤intOf vl∧intOf vl≤intOf vc∧intOf vc*j.bytes≤281474976710656∧intOf vc≤9223372036854775807)∧
     ∀b,K ((S.newL d { b:=b,cs:=(List.replicate (intOf vc).toNat j.zero.cells.toList).flatten,T:=e,cap:=(intOf vc).toNat*j.size,fz:=false,full:=true }).put (some d) (some (.sl d (intOf vl).toNat (intOf vc).toNat))))
def Zqc(E:Env)(S:St)(m:Mem)(T:TypeId)(l c:Operand)(d:Option Tmp)(K:St→Mem→Prop):Prop:=match d with
 | none=>False
 | some d=>match Zay E T with
  | none=>False
  | some (e,j)=>wv S l fun vl=>wv S c fun vc=>chk (ZbI vl&&ZbI vc) ((0≤intOf vl∧intOf vl≤intOf vc∧intOf vc*j.bytes≤281474976710656∧intOf vc≤9223372036854775807)∧
     ∀b,m.free b→K (S.put (some d) (some (.v (.slice (some ⟨b,0,none⟩) (intOf vl).toNat (intOf vc).toNat)))) (m.add b (List.replicate (intOf vc).toNat j.zero.cells.toList).flatten))
def ZrB(E:Env)(d:Option Tmp):Bool:=match d with
 | none=>false
 | some d=>E.mkM d
theorem Zjt(zs:List Value):∀(c:Nat),(List.range (c*zs.length)).map (fun i=>zs.toArray[i % zs.toArray.size]!)=(List.replicate c zs).flatten
 | 0=>by simp
 | c+1=>by
  rw[Nat.add_mul,Nat.one_mul,List.replicate_succ',List.flatten_append,←Zjt zs c,List.range_add,List.map_append]
  congr 1
  simp only[List.flatten_cons,List.flatten_nil,List.append_nil,List.map_map]
  refine List.ext_getElem (by simp) fun i h1 h2=>?_
  simp only[List.length_map,List.length_range]at h1
  simp only[List.getElem_map,List.getElem_range,Function.comp,List.size_toArray]
  rw[Nat.mul_comm,Nat.mul_add_mod,Nat.mod_eq_of_lt h1]
  simp[h1]
section
variable {C:Ctx} {S:St} {m:Mem} {a:Act} {w:World}
theorem Zmv{E:Env}(hE:E.ok){T:TypeId}{l c:Operand}{d:Option Tmp}{K:St→Prop}(hd:∀t,d=some t→t < C.n)(hr:Rel C S m a w)(h:Ztv E S T l c d K):
  ∃S' v w',K S'∧Rel C S' m (a.put d v) w'∧(Instr.makeSlice T (a.eval l) (a.eval c)).run E.P w=.ok v w':=by
 unfold Ztv at h
 cases d with
 | none=>exact h.elim
 | some d=>
  simp only at h
  cases hs:Zay E T with
  | none=>simp[hs]at h
  | some ej=>
   obtain⟨e,j⟩:=ej
   simp only[hs]at h
   cases hL:S.L d with
   | some x=>simp[hL]at h
   | none=>
    simp only[hL]at h
    obtain⟨vl,iv,h⟩:=Zaz h
    obtain⟨vc,kj,h⟩:=Zaz h
    obtain⟨h1,⟨h2,h3,h4,h5⟩,hk⟩:=Zae h
    simp only[Bool.and_eq_true]at h1
    obtain⟨kl,jk⟩:=ZaQ h1.1
    obtain⟨kc,kX⟩:=ZaQ h1.2
    generalize pU:intOf vl=nl at *
    generalize gE:intOf vc=nc at *
    obtain⟨i,eW,gI,iF⟩:=ZaF hs
    have cX:=hE e j iF
    have hu:=(hE T i eW).run_und (w:=w)
    rw[gI]at hu
    have bW:=cX.run_size (w:=w)
    have hz:=cX.run_zero (w:=w)
    obtain⟨x,g1,_,_,g4⟩:=cX.run_info (w:=w)
    have gF:j.zero.cells.toList.length=j.size:=by simpa using cX.zsize
    have bP:((List.replicate nc.toNat j.zero.cells.toList).flatten).length=nc.toNat*j.size:=by simp[cX.zsize]
    have hb:=hr.newBox (d:=d) hL (x:={ b:=w.heap.size,cs:=(List.replicate nc.toNat j.zero.cells.toList).flatten,T:=e,cap:=nc.toNat*j.size,fz:=false,full:=true }) (m':=m) [] rfl (by simpa using bP) (fun _=>bP) (.inl ⟨rfl,rfl⟩)
    simp only[List.append_nil]at hb
    refine⟨_,.slice (some ⟨w.heap.size,0,none⟩) nl.toNat nc.toNat,_,hk w.heap.size,hb.put (some d) hd (by simp[St.den,St.newL]),?_⟩
    rw[hr.ev iv,hr.ev kj,jk,kX]
    have w1:IntKind.i64.wrap nl=nl:=Zcf (by omega) (by omega)
    have w2:IntKind.i64.wrap nc=nc:=Zcf (by omega) (by omega)
    have nI:0≤nc:=by omega
    have c1:¬(nc < 0):=by omega
    have c2:¬(nl < 0):=by omega
    have c3:¬(nc < nl):=by omega
    have c4:¬(281474976710656 < (x.bytes:Int)*nc):=by rw[g4,Int.mul_comm];omega
    have dA:(Array.map (fun i=>(if nc.toNat*j.size=0 then(#[]:Array Value)else j.zero.cells)[i % (if nc.toNat*j.size=0 then(#[]:Array Value)else j.zero.cells).size]!) (Array.range (nc.toNat*j.size)))=(List.replicate nc.toNat j.zero.cells.toList).flatten.toArray:=by
     have:=Zjt j.zero.cells.toList nc.toNat
     rw[gF]at this
     apply Array.ext'
     by_cases h0:nc.toNat*j.size=0
     ·have iI:(List.replicate nc.toNat j.zero.cells.toList).flatten=[]:=List.eq_nil_of_length_eq_zero (by rw[bP,h0])
      simp[h0,iI]
     ·simp only[h0,if_false,Array.toList_map,Array.toList_range]
      rw[←this]
    by_cases h0:nc.toNat*j.size=0
    ·simp only[h0,if_true]at dA
     simp[Instr.makeSlice,hu,asInt,asIntOf,g1,w1,w2,c1,c2,c3,c4,bW,h0,newRow,←dA]
    ·simp only[h0,if_false]at dA
     simp[Instr.makeSlice,hu,asInt,asIntOf,g1,w1,w2,c1,c2,c3,c4,bW,h0,hz,newRow,←dA]
theorem Zll{E:Env}(hE:E.ok){T:TypeId}{l c:Operand}{d:Option Tmp}{K:St→Mem→Prop}(hd:∀t,d=some t→t < C.n)(hr:Rel C S m a w)(h:Zqc E S m T l c d K):
  ∃S' m' v w',K S' m'∧Rel C S' m' (a.put d v) w'∧(Instr.makeSlice T (a.eval l) (a.eval c)).run E.P w=.ok v w':=by
 unfold Zqc at h
 cases d with
 | none=>exact h.elim
 | some d=>
  simp only at h
  cases hs:Zay E T with
  | none=>simp[hs]at h
  | some ej=>
   obtain⟨e,j⟩:=ej
   simp only[hs]at h
   obtain⟨vl,iv,h⟩:=Zaz h
   obtain⟨vc,kj,h⟩:=Zaz h
   obtain⟨h1,⟨h2,h3,h4,h5⟩,hk⟩:=Zae h
   simp only[Bool.and_eq_true]at h1
   obtain⟨kl,jk⟩:=ZaQ h1.1
   obtain⟨kc,kX⟩:=ZaQ h1.2
   generalize pU:intOf vl=nl at *
   generalize gE:intOf vc=nc at *
   obtain⟨i,eW,gI,iF⟩:=ZaF hs
   have cX:=hE e j iF
   have hu:=(hE T i eW).run_und (w:=w)
   rw[gI]at hu
   have bW:=cX.run_size (w:=w)
   have hz:=cX.run_zero (w:=w)
   obtain⟨x,g1,_,_,g4⟩:=cX.run_info (w:=w)
   have gF:j.zero.cells.toList.length=j.size:=by simpa using cX.zsize
   have bP:((List.replicate nc.toNat j.zero.cells.toList).flatten).length=nc.toNat*j.size:=by simp[cX.zsize]
   have dD:∀o,m w.heap.size o=none:=fun o=>by
    cases he:m w.heap.size o with
    | none=>rfl
    | some u=>have:=hr.sub.lt he;omega
   have cB:Sub (m.add w.heap.size (List.replicate nc.toNat j.zero.cells.toList).flatten) (w.alloc (.cells ((List.replicate nc.toNat j.zero.cells.toList).flatten).toArray e (0,0))):=fun b o v hv=>by
    by_cases hb:b=w.heap.size
    ·subst hb
     rw[Mem.add_same]at hv
     have:(w.alloc (.cells ((List.replicate nc.toNat j.zero.cells.toList).flatten).toArray e (0,0))).heap[w.heap.size]?=some (.cells ((List.replicate nc.toNat j.zero.cells.toList).flatten).toArray e (0,0)):=by show(w.heap.push _)[w.heap.size]?=_;simp
     simp only[World.cell?,this]
     simpa using hv
    ·rw[Mem.add_other _ hb]at hv
     rw[Zbc (w:=w) (Below.heap_alloc w _ b (hr.sub.lt hv))];exact hr.sub _ _ _ hv
   have kh:=hr.world (m':=m.add w.heap.size (List.replicate nc.toNat j.zero.cells.toList).flatten) (Keep.alloc (Nat.le_refl _) (Zjj _ _)) cB (Mem.le_add dD _) (fun b o v hv=>by
    by_cases hb:b=w.heap.size
    ·exact .inr (by omega)
    ·rw[Mem.add_other _ hb]at hv;exact .inl hv)
   refine⟨_,_,.slice (some ⟨w.heap.size,0,none⟩) nl.toNat nc.toNat,_,hk w.heap.size dD,kh.put (some d) hd rfl,?_⟩
   rw[hr.ev iv,hr.ev kj,jk,kX]
   have w1:IntKind.i64.wrap nl=nl:=Zcf (by omega) (by omega)
   have w2:IntKind.i64.wrap nc=nc:=Zcf (by omega) (by omega)
   have nI:0≤nc:=by omega
   have c1:¬(nc < 0):=by omega
   have c2:¬(nl < 0):=by omega
   have c3:¬(nc < nl):=by omega
   have c4:¬(281474976710656 < (x.bytes:Int)*nc):=by rw[g4,Int.mul_comm];omega
   have dA:(Array.map (fun i=>(if nc.toNat*j.size=0 then(#[]:Array Value)else j.zero.cells)[i % (if nc.toNat*j.size=0 then(#[]:Array Value)else j.zero.cells).size]!) (Array.range (nc.toNat*j.size)))=(List.replicate nc.toNat j.zero.cells.toList).flatten.toArray:=by
    have:=Zjt j.zero.cells.toList nc.toNat
    rw[gF]at this
    apply Array.ext'
    by_cases h0:nc.toNat*j.size=0
    ·have iI:(List.replicate nc.toNat j.zero.cells.toList).flatten=[]:=List.eq_nil_of_length_eq_zero (by rw[bP,h0])
     simp[h0,iI]
    ·simp only[h0,if_false,Array.toList_map,Array.toList_range]
     rw[←this]
   by_cases h0:nc.toNat*j.size=0
   ·simp only[h0,if_true]at dA
    simp[Instr.makeSlice,hu,asInt,asIntOf,g1,w1,w2,c1,c2,c3,c4,bW,h0,newRow,←dA]
   ·simp only[h0,if_false]at dA
    simp[Instr.makeSlice,hu,asInt,asIntOf,g1,w1,w2,c1,c2,c3,c4,bW,h0,hz,newRow,←dA]
def frW(fr:Option Mem)(b:Nat)(p:Prop):Prop:=match fr with
 | none=>p
 | some m=>m.free b→p
theorem Zsj{fr:Option Mem}{m:Mem}{b:Nat}{p:Prop}(eQ:∀m',fr=some m'→m'=m)(hf:m.free b)(h:frW fr b p):p:=by
 cases fr with
 | none=>exact h
 | some m'=>exact h (by rw[eQ m' rfl];exact hf)
theorem Zo3{fr:Option Mem}{b:Nat}{p q:Prop}(h:p→q)(hx:frW fr b p):frW fr b q:=by
 cases fr with
 | none=>exact h hx
 | some m=>exact fun hf=>h (hx hf)
def Zlm(E:Env)(S:St)(fr:Option Mem)(T:TypeId)(l c:Operand)(d:Option Tmp)(key:Nat)(K:St→Prop):Prop:=match d with
 | none=>False
 | some d=>match Zay E T with
  | none=>False
  | some (e,j)=>wv S l fun vl=>wv S c fun vc=>chk (ZbI vl&&ZbI vc) ((intOf vl=0∧0≤intOf vc∧intOf vc*j.bytes≤281474976710656∧intOf vc≤9223372036854775807)∧
     ∀b,frW fr b (K (({ S with tok:=fun k=>bif Nat.beq k key then some ⟨.slice (some ⟨b,0,none⟩) 0 (intOf vc).toNat,j.size⟩ else S.tok k,tkeys:=key::S.tkeys }:St).put (some d) (some (.v (.slice (some ⟨b,0,none⟩) 0 (intOf vc).toNat))))))
theorem ZgJ{E:Env}(hE:E.ok){T:TypeId}{l c:Operand}{d:Option Tmp}{key:Nat}{K:St→Prop}{fr:Option Mem}(eQ:∀m',fr=some m'→m'=m)(hd:∀t,d=some t→t < C.n)(hr:Rel C S m a w)(h:Zlm E S fr T l c d key K):
  ∃S' v w',K S'∧Rel C S' m (a.put d v) w'∧(Instr.makeSlice T (a.eval l) (a.eval c)).run E.P w=.ok v w'∧
   (c=.const (.int .i64 0)→∃i e,E.tt T=some i∧i.d=.slice e∧v=.slice (some ⟨w.heap.size,0,none⟩) 0 0∧w'=w.alloc (.cells #[] e (0,0))):=by
 unfold Zlm at h
 cases d with
 | none=>exact h.elim
 | some d=>
  simp only at h
  cases hs:Zay E T with
  | none=>simp[hs]at h
  | some ej=>
   obtain⟨e,j⟩:=ej
   simp only[hs]at h
   obtain⟨vl,iv,h⟩:=Zaz h
   obtain⟨vc,kj,h⟩:=Zaz h
   obtain⟨h1,⟨h2,h3,h4,h5⟩,hk⟩:=Zae h
   simp only[Bool.and_eq_true]at h1
   obtain⟨kl,jk⟩:=ZaQ h1.1
   obtain⟨kc,kX⟩:=ZaQ h1.2
   generalize pU:intOf vl=nl at *
   generalize gE:intOf vc=nc at *
   subst h2
   obtain⟨i,eW,gI,iF⟩:=ZaF hs
   have cX:=hE e j iF
   have hu:=(hE T i eW).run_und (w:=w)
   rw[gI]at hu
   have bW:=cX.run_size (w:=w)
   have hz:=cX.run_zero (w:=w)
   obtain⟨x,g1,_,_,g4⟩:=cX.run_info (w:=w)
   have gF:j.zero.cells.toList.length=j.size:=by simpa using cX.zsize
   have bP:((List.replicate nc.toNat j.zero.cells.toList).flatten).length=nc.toNat*j.size:=by simp[cX.zsize]
   have cB:Sub m (w.alloc (.cells ((List.replicate nc.toNat j.zero.cells.toList).flatten).toArray e (0,0))):=fun b o v hv=>by
    rw[Zbc (w:=w) (Below.heap_alloc w _ b (hr.sub.lt hv))];exact hr.sub _ _ _ hv
   have kh:Rel C S m a (w.alloc (.cells ((List.replicate nc.toNat j.zero.cells.toList).flatten).toArray e (0,0))):=hr.world (Keep.alloc (Nat.le_refl _) (Zjj _ _)) cB (Mem.le_refl m) (fun b o v hv=>.inl hv)
   have dD:∀o,m w.heap.size o=none:=fun o=>by
    cases he:m w.heap.size o with
    | none=>rfl
    | some u=>have:=hr.sub.lt he;omega
   have bY:TokOk m (w.alloc (.cells ((List.replicate nc.toNat j.zero.cells.toList).flatten).toArray e (0,0))) ⟨.slice (some ⟨w.heap.size,0,none⟩) 0 nc.toNat,j.size⟩:=
    .inr ⟨w.heap.size,0,0,nc.toNat,((List.replicate nc.toNat j.zero.cells.toList).flatten).toArray,e,(0,0),rfl,Nat.zero_le _,by show(w.heap.push _)[w.heap.size]?=_;simp,by show 0+nc.toNat*j.size≤((List.replicate nc.toNat j.zero.cells.toList).flatten).length;rw[bP,Nat.zero_add];exact Nat.le_refl _,fun o _ ho=>by simp at ho,fun o _ _=>dD o⟩
   have eZ:∀b,(Tok.mk (.slice (some ⟨w.heap.size,0,none⟩) 0 nc.toNat) j.size).blk=some b→b=w.heap.size:=fun b hb=>by simp[Tok.blk]at hb;exact hb.symm
   have fW:=kh.tokUpd key _ bY (fun b hb=>by
    have:=eZ b hb
    subst this
    refine⟨⟨fun id x hx e=>?_,fun o=>?_⟩,fun k' t' _ hk' hb'=>?_⟩
    ·have:=(hr.own id x hx).lt;omega
    ·cases he:C.m0 w.heap.size o with
     | none=>rfl
     | some u=>have:=hr.sub.lt (hr.le _ _ _ he);omega
    ·have:=(hr.toks k' t' hk').1.lt hb';omega) (by
    obtain⟨M,hd'⟩:=hr.dom
    refine⟨_,hd'.step (m':=m) ((Keep.alloc (Nat.le_refl _) (Zjj _ _):Keep w.heap.size [] w _).upd (by simp)) (fun b o u hu=>.inl hu),fun b hb=>?_⟩
    have:=eZ b hb
    subst this
    exact .inr ⟨Nat.le_refl _,by show w.heap.size < (w.heap.push _).size;simp⟩)
   have eD:=hk w.heap.size
   have nJ:=Zsj eQ dD eD
   refine⟨_,.slice (some ⟨w.heap.size,0,none⟩) 0 nc.toNat,_,nJ,fW.put (some d) hd rfl,?_,fun hc=>⟨i,e,eW,gI,?_,?_⟩⟩
   rotate_left
   ·subst hc
    have:vc=.int .i64 0:=by simpa[St.val,St.ev,St.den]using kj.symm
    subst this
    simp only[intOf]at gE;subst gE;rfl
   ·subst hc
    have:vc=.int .i64 0:=by simpa[St.val,St.ev,St.den]using kj.symm
    subst this
    simp only[intOf]at gE;subst gE;rfl
   rw[hr.ev iv,hr.ev kj,jk,kX]
   have w1:IntKind.i64.wrap 0=0:=Zcf (by omega) (by omega)
   have w2:IntKind.i64.wrap nc=nc:=Zcf (by omega) (by omega)
   have c1:¬(nc < 0):=by omega
   have c2:¬((0:Int) < 0):=by omega
   have c4:¬(281474976710656 < (x.bytes:Int)*nc):=by rw[g4,Int.mul_comm];omega
   have dA:(Array.map (fun i=>(if nc.toNat*j.size=0 then(#[]:Array Value)else j.zero.cells)[i % (if nc.toNat*j.size=0 then(#[]:Array Value)else j.zero.cells).size]!) (Array.range (nc.toNat*j.size)))=((List.replicate nc.toNat j.zero.cells.toList).flatten).toArray:=by
    have:=Zjt j.zero.cells.toList nc.toNat
    rw[gF]at this
    apply Array.ext'
    by_cases h0:nc.toNat*j.size=0
    ·have iI:(List.replicate nc.toNat j.zero.cells.toList).flatten=[]:=List.eq_nil_of_length_eq_zero (by rw[bP,h0])
     simp[h0,iI]
    ·simp only[h0,if_false,Array.toList_map,Array.toList_range]
     rw[←this]
   by_cases h0:nc.toNat*j.size=0
   ·simp only[h0,if_true]at dA
    simp[Instr.makeSlice,hu,asInt,asIntOf,g1,w1,w2,c1,c2,c4,bW,h0,newRow,←dA]
   ·simp only[h0,if_false]at dA
    simp[Instr.makeSlice,hu,asInt,asIntOf,g1,w1,w2,c1,c2,c4,bW,h0,hz,newRow,←dA]
theorem Rel.freeze(h:Rel C S m a w){id:Nat}{x:Box}(hx:S.L id=some x)(n:Nat)(hn:∃cells T fr,w.heap[x.b]?=some (.cells cells T fr)∧cells.size=n):Rel C S m a (w.freeze ⟨x.b,n,none⟩ 1):=by
 obtain⟨sp,fr,hh,hc,hf⟩:=(h.own id x hx).cells
 obtain⟨cells,T,fr',hh',pV⟩:=hn
 rw[hh]at hh'
 simp only[Option.some.injEq,Obj.cells.injEq]at hh'
 obtain⟨e1,_,_⟩:=hh'
 have eX:n=x.cap:=by rw[←pV,←e1];simpa using hc
 have bZ:∀k,k≠x.b→(w.freeze ⟨x.b,n,none⟩ 1).heap[k]?=w.heap[k]?:=fun k hk=>by
  simp only[World.freeze,Nat.one_ne_zero,if_false,Array.getElem?_modify]
  rw[if_neg (by simpa using Ne.symm hk)]
 have cW:∃fr',(w.freeze ⟨x.b,n,none⟩ 1).heap[x.b]?=some (.cells (x.cs++sp).toArray x.T fr')∧(fr'.1=fr'.2∨x.cap≤fr'.1):=by
  obtain⟨lo,hi⟩:=fr
  refine⟨if lo == hi then(n,n+1)else(min lo n,max hi (n+1)),?_,?_⟩
  ·simp only[World.freeze,Nat.one_ne_zero,if_false,Array.getElem?_modify,if_true,hh,Option.map_some]
  ·split
   ·right;simp only;omega
   ·rename_i cU
    simp only at hf
    rcases hf with hf|hf
    ·simp[hf]at cU
    ·right;simp only;omega
 obtain⟨fr2,cW,nK⟩:=cW
 have cQ:∀(b o:Nat),(w.freeze ⟨x.b,n,none⟩ 1).cell? ⟨b,o,none⟩=w.cell? ⟨b,o,none⟩:=fun b o=>by
  by_cases hb:b=x.b
  ·subst hb;simp only[World.cell?,cW,hh]
  ·exact Zbc (bZ b hb) o
 have ly:(w.freeze ⟨x.b,n,none⟩ 1).os=w.os∧(w.freeze ⟨x.b,n,none⟩ 1).tape=w.tape∧(w.freeze ⟨x.b,n,none⟩ 1).output=w.output∧(w.freeze ⟨x.b,n,none⟩ 1).heap.size=w.heap.size:=by
  simp[World.freeze]
 have:=h.upd (w':=w.freeze ⟨x.b,n,none⟩ 1) (m':=m) (L':=S.L) [x.b] ⟨ly.1,ly.2.1,ly.2.2.1,by omega,fun k _ hk=>bZ k (by simpa using hk),fun k hk=>by
  by_cases gT:k=x.b
  ·subst gT
   intro c1 T1 fr1 nL i hi nM
   rw[cW]at nL
   simp only[Option.some.injEq,Obj.cells.injEq]at nL
   obtain⟨rfl,rfl,rfl⟩:=nL
   have:i < x.cap:=by rw[←hc];simpa using hi
   omega
  ·exact hk.of_eq (bZ k gT)⟩ (fun b o v hv=>by rw[cQ];exact h.sub b o v hv) (Mem.le_refl m) (fun _ _ _ hv=>.inl hv) (fun _=>rfl)
  (fun i y hy=>by
   by_cases hi:i=id
   ·subst hi
    rw[hx]at hy;cases hy
    have ho:=(h.own _ x hx)
    exact .inr ⟨⟨sp,fr2,cW,hc,nK⟩,ho.free,ho.known,ho.whole⟩
   ·refine .inl ⟨hy,?_⟩
    simp only[List.mem_singleton]
    exact fun e=>hi (h.apart i id y x hy hx e))
  (fun b hb=>⟨id,x,hx,by simp at hb;exact hb.symm⟩)
 exact this
theorem ZcW{P:Program}{w:World}(b o:Nat){cells:Array Value}{T:TypeId}{fr:Nat×Nat}(h:w.heap[b]?=some (.cells cells T fr)):
  (markStringish ⟨b,o,none⟩).run P w=.ok () (w.freeze ⟨b,cells.size,none⟩ 1):=by
 simp[markStringish,World.shape?,h]
end
def ZaD(s:ByteArray):List Value:=s.data.toList.map fun b=>.int .u8 b.toNat
def Zcn(E:Env)(s d:TypeId):Bool:=ZeM E s&&(match Zay E d with
 | none=>false
 | some (_,j)=>match j.d with
  | .int .u8=>true
  | _=>false)
def Zu3(S:St)(m:Mem)(x:Operand)(d:Option Tmp)(K:St→Mem→Prop):Prop:=
 wv S x fun v=>chk (ZlV v) (∀(b c:Nat),m.free b→(ZbO v).size≤c→K (S.put d (some (.v (.slice (some ⟨b,0,none⟩) (ZbO v).size c)))) (m.add b (ZaD (ZbO v))))
section
variable {C:Ctx} {S:St} {m:Mem} {a:Act} {w:World}
theorem Zmw{E:Env}(hE:E.ok){s d:TypeId}(eS:Zcn E s d=true){x:Operand}{t:Option Tmp}{K:St→Mem→Prop}(hd:∀t',t=some t'→t' < C.n)(hr:Rel C S m a w)(h:Zu3 S m x t K):
  ∃S' m' v w',K S' m'∧Rel C S' m' (a.put t v) w'∧(convert s d (a.eval x)).run E.P w=.ok v w':=by
 unfold Zu3 at h
 obtain⟨v,hv,h⟩:=Zaz h
 obtain⟨h1,hk⟩:=Zae h
 have he:=hr.ev hv
 have dT:=Zcl h1
 generalize ZbO v=bs at *
 subst dT
 unfold Zcn at eS
 rw[Bool.and_eq_true]at eS
 obtain⟨i,hi,cK⟩:=ZfP eS.1
 have eS:=eS.2
 cases hs:Zay E d with
 | none=>simp[hs]at eS
 | some ej=>
  obtain⟨e,j⟩:=ej
  simp only[hs]at eS
  obtain⟨k,hZ,eG,kZ⟩:=ZaF hs
  have gD:j.d=.int .u8:=by
   cases gD:j.d with
   | int kk=>cases kk <;> simp[gD]at eS <;> rfl
   | _=>simp[gD]at eS
  have lF:=(hE s i hi).run_und (w:=w)
  rw[cK]at lF
  have mO:=(hE d k hZ).run_und (w:=w)
  rw[eG]at mO
  have km:=(hE e j kZ).run_und (w:=w)
  rw[gD]at km
  generalize eX:grownCap w bs.size 0 e=cap
  have cM:bs.size≤cap:=by rw[←eX];exact grownCap_ge w bs.size 0 e
  have bR:m.free w.heap.size:=fun o=>by
   cases he:m w.heap.size o with
   | none=>rfl
   | some v=>have:=hr.sub.lt he;omega
  obtain⟨cells,iJ⟩:∃cells,cells=(ZaD bs++List.replicate (cap - bs.size) (Value.int .u8 0)).toArray:=⟨_,rfl⟩
  obtain⟨w1,ko⟩:∃w1,w1=w.drew.alloc (.cells cells e (0,0)):=⟨_,rfl⟩
  have lA:w1.heap[w.heap.size]?=some (.cells cells e (0,0)):=by rw[ko];exact heap_alloc_new w.drew _
  obtain⟨w2,ia⟩:∃w2,w2=w1.freeze ⟨w.heap.size,cells.size,none⟩ 1:=⟨_,rfl⟩
  have bZ:∀k,k≠w.heap.size→w2.heap[k]?=w1.heap[k]?:=fun k hk=>by
   rw[ia]
   simp only[World.freeze,Nat.one_ne_zero,if_false,Array.getElem?_modify]
   rw[if_neg (by simpa using Ne.symm hk)]
  have cW:∃fr',w2.heap[w.heap.size]?=some (.cells cells e fr'):=by
   rw[ia]
   simp only[World.freeze,Nat.one_ne_zero,if_false,Array.getElem?_modify,if_true,lA,Option.map_some]
   exact⟨_,rfl⟩
  obtain⟨fr',cW⟩:=cW
  have nN:Wr w2 w.heap.size:=by
   intro c1 T1 fr1 hh i hi
   rw[ia]at hh
   simp[World.freeze,Array.getElem?_modify,lA]at hh
   obtain⟨rfl,rfl,rfl⟩:=hh
   simp only;omega
  have kp:Keep w.heap.size [] w w1:=(Keep.drew w).trans (by rw[ko];exact Keep.alloc (B:=w.heap.size) (w:=w.drew) (show w.heap.size≤w.drew.heap.size from Nat.le_refl _) (Zjj _ _))
  have kq:Keep w.heap.size [] w1 w2:=by
   refine⟨by rw[ia];simp[World.freeze],by rw[ia];simp[World.freeze],by rw[ia];simp[World.freeze],by rw[ia];simp[World.freeze],fun k hk _=>bZ k (by omega),fun k hk=>?_⟩
   by_cases gT:k=w.heap.size
   ·subst gT;exact nN
   ·exact hk.of_eq (bZ k gT)
  have dS:=kp.trans kq
  have eP:Sub (m.add w.heap.size (ZaD bs)) w2:=by
   intro b' o v hv
   by_cases fO:b'=w.heap.size
   ·subst fO
    rw[Mem.add_same]at hv
    have bA:=(List.getElem?_eq_some_iff.1 hv).1
    simp only[World.cell?,cW,Option.isSome_none,Bool.false_eq_true,if_false,iJ,List.getElem?_toArray]
    rw[List.getElem?_append_left bA,hv]
   ·rw[Mem.add_other _ fO]at hv
    have bA:=hr.sub.lt hv
    rw[Zbc (w:=w) (dS.block b' bA (by simp))];exact hr.sub _ _ _ hv
  have bB:Rel C S (m.add w.heap.size (ZaD bs)) a w2:=hr.world dS eP (Mem.le_add bR _) (fun b' o v hv=>by
   by_cases fO:b'=w.heap.size
   ·exact .inr (by omega)
   ·rw[Mem.add_other _ fO]at hv;exact .inl hv)
  refine⟨_,_,.slice (some ⟨w.heap.size,0,none⟩) bs.size cap,w2,hk w.heap.size cap bR cM,bB.put t hd rfl,?_⟩
  have nO:=ZcW (P:=E.P) (w:=w1) w.heap.size 0 lA
  have dA:(Array.map (fun b:UInt8=>Value.int .u8 (b.toNat:Int)) bs.data++Array.replicate (cap - bs.size) (Value.int .u8 0))=cells:=by
   rw[iJ]
   apply Array.ext'
   simp[ZaD]
  have qJ:(newRow e cells).run E.P w.drew=.ok ⟨w.heap.size,0,none⟩ w1:=by
   rw[ko];simp[newRow]
  rw[he]
  simp only[convert,Sem.run_bind,lF,Result.andThen_ok,mO,km,Conv.stringToBytes]
  simp[Question.forced]
  rw[show(Question.appendCap bs.size 0 e).cut (w.tape w.drawn (Question.appendCap bs.size 0 e))=cap from eX,dA,qJ]
  simp only[Result.andThen_ok,nO,←ia]
end
def Zco(E:Env)(s d:TypeId):Bool:=ZeM E d&&(match Zay E s with
 | none=>false
 | some (_,j)=>match j.d with
  | .int .u8=>true
  | _=>false)
def Zeg(S:St)(m:Mem)(x:Operand)(K:Value→Prop):Prop:=match S.ev x with
 | some (.sl id n c)=>match S.L id with
  | none=>False
  | some bx=>∃bs:ByteArray,Nat.beq bs.size n=true∧ZaD bs=bx.cs.take n∧K (.string bs)
 | _=>wv S x fun v=>chk (ZbJ v) (∃bs:ByteArray,bs.size=slN v∧rowRd m (slA v) (ZaD bs)∧K (.string bs))
theorem Zdd(s:ByteArray):(ZaD s).length=s.size:=by
 unfold ZaD ByteArray.size
 rw[List.length_map,Array.length_toList]
theorem Zqd(ns:List UInt8):∀s:ByteArray,(ns.map fun b:UInt8=>(b.toNat:Int)).foldl (fun(r:ByteArray)(n:Int)=>r.push (UInt8.ofNat n.toNat)) s=⟨s.data++ns.toArray⟩:=by
 induction ns with
 | nil=>intro s;simp
 | cons b l ih=>
  intro s
  rw[List.map_cons,List.foldl_cons,ih]
  congr 1
  apply Array.ext'
  simp[ByteArray.push]
theorem Zln{P:Program}{w:World}{s d e:TypeId}{a:Option Addr}{c:Nat}{bs:ByteArray}(hs:P.underlying s=some (.slice e))(he:P.underlying e=some (.int .u8))(hd:P.underlying d=some .string)
  (cN:∀j v,(ZaD bs)[j]?=some v→∃b o,a=some ⟨b,o,none⟩∧w.cell? ⟨b,o+j,none⟩=some v):(convert s d (.slice a bs.size c)).run P w=.ok (.string bs) w:=by
 rw[run_convert_bytes_string w s d e a bs.size c hs he hd]
 cases a with
 | none=>
  have h0:ZaD bs=[]:=by
   cases h:ZaD bs with
   | nil=>rfl
   | cons v l=>obtain⟨_,_,h1,_⟩:=cN 0 v (by rw[h];rfl);cases h1
  have hb:bs.size=0:=by rw[←Zdd,h0];rfl
  have:bs=ByteArray.empty:=by
   cases bs with
   | mk data=>
    have:data=#[]:=Array.eq_empty_of_size_eq_zero hb
    subst this;rfl
  subst this
  simp[Conv.bytesToString]
 | some a=>
  have hl:(loadCells a bs.size).run P w=.ok (((bs.data.toList.map fun b:UInt8=>(b.toNat:Int))).map (Value.int .u8)).toArray w:=by
   have kr:(bs.data.toList.map fun b:UInt8=>(b.toNat:Int)).map (Value.int .u8)=ZaD bs:=by simp[ZaD]
   rw[kr]
   by_cases h0:bs.size=0
   ·have:ZaD bs=[]:=List.eq_nil_of_length_eq_zero (by rw[Zdd,h0])
    rw[this,h0];rfl
   ·obtain⟨v,hv⟩:∃v,(ZaD bs)[0]?=some v:=⟨_,List.getElem?_eq_getElem (by rw[Zdd];omega)⟩
    obtain⟨b,o,ha,_⟩:=cN 0 v hv
    cases ha
    rw[←Zdd]
    exact ZdB b o _ (fun j u hu=>by obtain⟨_,_,h1,h2⟩:=cN j u hu;cases h1;exact h2)
  have fW:(⟨ByteArray.empty.data++bs.data.toList.toArray⟩:ByteArray)=bs:=by
   cases bs with
   | mk data=>
    congr 1
    apply Array.ext'
    show((#[]:Array UInt8)++data.toList.toArray).toList=data.toList
    simp
  rw[run_bytesToString w a bs.size c _ hl,Zqd,fW]
section
variable {C:Ctx} {S:St} {m:Mem} {a:Act} {w:World}
theorem ZgK{E:Env}(hE:E.ok){s d:TypeId}(eS:Zco E s d=true){x:Operand}{K:Value→Prop}(hr:Rel C S m a w)(h:Zeg S m x K):
  ∃v,K v∧(convert s d (a.eval x)).run E.P w=.ok v w:=by
 unfold Zco at eS
 rw[Bool.and_eq_true]at eS
 obtain⟨i,hi,cK⟩:=ZfP eS.1
 have eS:=eS.2
 cases hs:Zay E s with
 | none=>simp[hs]at eS
 | some ej=>
  obtain⟨e,j⟩:=ej
  simp only[hs]at eS
  obtain⟨k,hZ,eG,kZ⟩:=ZaF hs
  have gD:j.d=.int .u8:=by
   cases gD:j.d with
   | int kk=>cases kk <;> simp[gD]at eS <;> rfl
   | _=>simp[gD]at eS
  have mO:E.P.underlying d=some .string:=by rw[(hE d i hi).und,cK]
  have lF:E.P.underlying s=some (.slice e):=by rw[(hE s k hZ).und,eG]
  have km:E.P.underlying e=some (.int .u8):=by rw[(hE e j kZ).und,gD]
  have gen:∀{v:Value},S.val x=some v→(∃bs,ZbJ v=true∧bs.size=slN v∧(∀j u,(ZaD bs)[j]?=some u→∃b o,slA v=some ⟨b,o,none⟩∧w.cell? ⟨b,o+j,none⟩=some u)∧K (.string bs))→∃v,K v∧(convert s d (a.eval x)).run E.P w=.ok v w:=by
   rintro v hv ⟨bs,h1,h2,h3,h4⟩
   obtain⟨ba,n,c,rfl⟩:∃ba n c,v=.slice ba n c:=⟨_,_,_,Zbx h1⟩
   simp only[slN,slA]at h2 h3
   subst h2
   exact⟨_,h4,by rw[hr.ev hv];exact Zln lF km mO h3⟩
  unfold Zeg at h
  split at h
  ·rename_i id n c he
   cases hL:S.L id with
   | none=>simp[hL]at h
   | some bx=>
    simp only[hL]at h
    obtain⟨bs,h1,h2,h3⟩:=h
    have h1:=Nat.eq_of_beq_eq_true h1
    refine gen (v:=.slice (some ⟨bx.b,0,none⟩) n c) (by simp[St.val,he,St.den,hL]) ⟨bs,rfl,h1,fun j u hu=>⟨bx.b,0,rfl,?_⟩,h3⟩
    rw[Nat.zero_add]
    refine(hr.own id bx hL).cell ?_
    rw[h2]at hu
    rw[List.getElem?_take]at hu
    split at hu
    ·exact hu
    ·cases hu
  ·obtain⟨v,hv,h⟩:=Zaz h
   obtain⟨h1,bs,h2,h3,h4⟩:=Zae h
   refine gen hv ⟨bs,h1,h2,fun j u hu=>?_,h4⟩
   rcases h3 with h3|⟨b,o,h5,h6⟩
   ·rw[h3]at hu;simp at hu
   ·exact⟨b,o,h5,hr.sub _ _ _ (h6 j u hu)⟩
end
def Mem.upd(m:Mem)(b o:Nat)(vs:List Value):Mem:=fun b' o'=>if b'=b∧o≤o'∧o' < o+vs.length then vs[o' - o]? else m b' o'
theorem Mem.upd_other(m:Mem){b b':Nat}(h:b'≠b)(o:Nat)(vs:List Value)(o':Nat):m.upd b o vs b' o'=m b' o':=by
 simp only[Mem.upd];rw[if_neg (fun hc=>h hc.1)]
theorem Mem.le_upd{m0 m:Mem}(h:m0.le m){b:Nat}(hb:m0.free b)(o:Nat)(vs:List Value):m0.le (m.upd b o vs):=fun b' o' v hv=>by
 by_cases e:b'=b
 ·subst e;rw[hb o']at hv;cases hv
 ·rw[Mem.upd_other m e];exact h _ _ _ hv
def Zmx(E:Env)(x:Operand):Option Nat:=bif E.thaw then(match x with
 | .tmp t=>E.stAt t
 | _=>none)else none
def ZgL(E:Env)(S:St)(m:Mem)(T:TypeId)(key:Nat)(x:Operand)(v:Value)(K:Mem→Prop):Prop:=wv S x fun p=>match E.tt T with
 | none=>False
 | some i=>match S.tok key with
  | none=>match E.m0 with
   | none=>False
   | some m0=>chk (Zjk p&&(Nat.beq v.cells.size i.size&&Zca v.cells.toList)) ((∃vs:List Value,vs.length=i.size∧m.reads (Zp2 p) (Zp3 p) vs)∧Mem.free m0 (Zp2 p)∧Nat.blt 0 i.size=true∧nfz S (Zp2 p) S.ids (K (m.upd (Zp2 p) (Zp3 p) v.cells.toList)))
  | some t=>chk (Zjk p&&(Nat.beq v.cells.size i.size&&Zca v.cells.toList)) (t.v=.slice (some ⟨Zp2 p,0,none⟩) (slN t.v) (slC t.v)∧Zp3 p+i.size≤slN t.v*t.esz∧K (m.upd (Zp2 p) (Zp3 p) v.cells.toList))
section
variable {C:Ctx} {S:St} {m:Mem} {a:Act} {w:World}
theorem Rel.storeOwn(hr:Rel C S m a w){b o:Nat}{vs:List Value}{cur:Array Value}{TT:TypeId}{fr:Nat×Nat}{w':World}(cJ:w.heap[b]?=some (.cells cur TT fr))(gw:Wr w b)(bW:o+vs.length≤cur.size)
  (hw':w'=w.setRow b (Zar cur.toList o vs).toArray) (hM:∀M,Dom C S m a w M→M b) (h0:C.m0.free b) (nP:∀id x,S.L id=some x→x.b≠b)
  (bY:∀k t o0 n c,S.tok k=some t→t.v=.slice (some ⟨b,o0,none⟩) n c→∀q,o≤q→q < o+vs.length→o0+n*t.esz≤q→q < o0+c*t.esz→False):Rel C S (m.upd b o vs) a w':=by
 have bZ:∀k,k≠b→w'.heap[k]?=w.heap[k]?:=fun k hk=>by rw[hw'];exact setRow_other w b k _ hk
 have cW:w'.heap[b]?=some (.cells (Zar cur.toList o vs).toArray TT fr):=by rw[hw'];exact setRow_heap w b cur _ TT fr cJ
 have eY:(Zar cur.toList o vs).length=cur.size:=by
  rw[ZbY (by rw[Array.length_toList];omega),Array.length_toList]
 have eA:∀o,o < cur.size→¬(fr.1≤o∧o < fr.2):=gw cur TT fr cJ
 have eP:Sub (m.upd b o vs) w':=by
  intro b1 o1 u hu
  by_cases hb:b1=b
  ·subst hb
   simp only[Mem.upd,true_and]at hu
   simp only[World.cell?,cW,Option.isSome_none,Bool.false_eq_true,if_false,List.getElem?_toArray]
   have kt:o+vs.length≤cur.toList.length:=by simp;omega
   have et:(List.take o cur.toList).length=o:=by simp;simp at kt;omega
   by_cases fT:o≤o1∧o1 < o+vs.length
   ·rw[if_pos fT]at hu
    simp only[Zar]
    rw[List.append_assoc,List.getElem?_append_right (by omega),et,List.getElem?_append_left (by omega)]
    exact hu
   ·rw[if_neg fT]at hu
    have jH:=hr.sub _ _ _ hu
    simp only[World.cell?,cJ,Option.isSome_none,Bool.false_eq_true,if_false]at jH
    rw[←Array.getElem?_toList]at jH
    simp only[Zar]
    by_cases mP:o1 < o
    ·rw[List.append_assoc,List.getElem?_append_left (by omega),List.getElem?_take,if_pos mP];exact jH
    ·rw[List.getElem?_append_right (by simp at fT et ⊢;omega),List.getElem?_drop]
     have:o+vs.length+(o1 - (List.take o cur.toList++vs).length)=o1:=by
      rw[List.length_append,et];omega
     rw[this];exact jH
  ·rw[Mem.upd_other m hb]at hu
   rw[Zbc (bZ b1 hb)];exact hr.sub _ _ _ hu
 refine⟨?_,hr.size,hr.env,fun id y hy=>?_,hr.apart,hr.ids,fun k t' ht'=>?_,hr.tkeys,hr.tapart,eP,Mem.le_upd hr.le h0 _ _,?_⟩
 ·obtain⟨ms,d1,d2,d3⟩:=hr.defers
  refine⟨ms,d1,d2,fun D hD=>?_⟩
  rw[bZ D (fun e=>by have:=d3 D hD;rw[e,cJ]at this;cases this)];exact d3 D hD
 ·have ho:=hr.own id y hy
  have cU:=nP id y hy
  exact⟨by rw[bZ _ cU];exact ho.cells,fun hz o1=>by rw[Mem.upd_other m cU];exact ho.free hz o1,fun hz j u hu=>by rw[Mem.upd_other m cU];exact ho.known hz j u hu,ho.whole⟩
 ·obtain⟨q1,q2⟩:=hr.toks k t' ht'
  refine⟨?_,q2⟩
  by_cases eD:t'.blk=some b
  ·rcases q1 with q1|⟨b',o0,n,c,cur',TT',fr',hv,gE,hh,gJ,qK,bR⟩
   ·exact .inl q1
   obtain rfl:b'=b:=by simpa[Tok.blk,hv]using eD
   rw[cJ]at hh
   simp only[Option.some.injEq,Obj.cells.injEq]at hh
   obtain⟨rfl,rfl,rfl⟩:=hh
   have cI:=bY k t' o0 n c ht' hv
   refine .inr ⟨b',o0,n,c,_,TT,fr,hv,gE,cW,by simp only[List.size_toArray,eY];exact gJ,fun o1 iE=>eA o1 (by simpa only[List.size_toArray,eY]using iE),fun o1 iE eR=>?_⟩
   simp only[Mem.upd]
   rw[if_neg (fun hc=>cI o1 hc.2.1 hc.2.2 iE eR)];exact bR o1 iE eR
  ·have cU:∀b1,t'.blk=some b1→b1≠b:=fun b1 eL e=>by subst e;exact eD eL
   exact q1.same (fun b1 eL=>bZ _ (cU b1 eL)) (fun b1 o1 eL hn=>by rw[Mem.upd_other m (cU b1 eL)];exact hn)
 ·obtain⟨M,hd⟩:=hr.dom
  have hu:Upd M w w':=⟨by rw[hw'];rfl,by rw[hw'];rfl,by rw[hw'];rfl,by rw[hw'];simp,fun k hk hn=>bZ k (fun e=>hn (e ▸ hM M hd)),fun k hk=>by
   by_cases gT:k=b
   ·subst gT
    intro c1 T1 fr1 hh i hi
    rw[cW]at hh
    simp only[Option.some.injEq,Obj.cells.injEq]at hh
    obtain⟨rfl,rfl,rfl⟩:=hh
    exact eA i (by simpa only[List.size_toArray,eY]using hi)
   ·exact hk.of_eq (bZ k gT)⟩
  exact⟨_,hd.step hu (fun b1 o1 u eU=>by
   by_cases hb:b1=b
   ·exact .inr (.inl (hb ▸ hM M hd))
   ·rw[Mem.upd_other m hb]at eU;exact .inl eU)⟩
theorem ZgM{E:Env}{T:TypeId}{i:TI}(cA:TOk E.P T i){w:World}{b o:Nat}{v:Value}{cur:Array Value}{TT:TypeId}{fr:Nat×Nat}(cJ:w.heap[b]?=some (.cells cur TT fr))(gw:Wr w b)(bW:o+v.cells.toList.length≤cur.size)
  (h1:v.cells.size=i.size) (dW:v.cells.all Value.oneCell'=true):(Instr.storeAt T (ptr b o) v).run E.P w=.ok () (w.setRow b (Zar cur.toList o v.cells.toList).toArray):=by
 have lG:=Zbr (P:=E.P) b o TT fr v.cells.toList 0 cur w cJ (fun o ho=>gw cur TT fr cJ o ho) (by omega) (fun u hu=>by
  rw[Array.all_eq_true_iff_forall_mem]at dW;exact dW u (by simpa using hu))
 have bL:(storeVar T ⟨b,o,none⟩ v).run E.P w=.ok () (w.setRow b (Zar cur.toList o v.cells.toList).toArray):=by
  have hz:=cA.run_size (w:=w)
  simp only[storeVar,Sem.run_bind,hz,Result.andThen_ok,h1,ne_eq,not_true_eq_false,if_false]
  rw[lG]
  simp[Zar]
 simp[Instr.storeAt,Instr.sureAddr,ptr,bL]
theorem ZgN{E:Env}(hE:E.ok)(hY:YOk E C){T:TypeId}{key:Nat}{x:Operand}{v:Value}{K:Mem→Prop}(hr:Rel C S m a w)(h:ZgL E S m T key x v K):
  ∃m' w',K m'∧Rel C S m' a w'∧(Instr.storeAt T (a.eval x) v).run E.P w=.ok () w':=by
 unfold ZgL at h
 obtain⟨p,hp,h⟩:=Zaz h
 have he:=hr.ev hp
 cases ht:E.tt T with
 | none=>simp[ht]at h
 | some i=>
  simp only[ht]at h
  have cA:=hE T i ht
  cases hk:S.tok key with
  | none=>
   simp only[hk]at h
   cases eE:E.m0 with
   | none=>simp[eE]at h
   | some mm=>
    simp only[eE]at h
    obtain⟨jl,hW⟩:=hY.m0 mm eE
    obtain⟨h1,⟨us,lF,cN⟩,h3,h5,h4⟩:=Zae h
    simp only[Bool.and_eq_true]at h1
    have lH:=ZbX h1.1
    generalize Zp2 p=b at *
    generalize Zp3 p=o at *
    have bW:=Nat.eq_of_beq_eq_true h1.2.1
    have dW:=Zfr h1.2.2
    have bP:v.cells.toList.length=i.size:=by simpa using bW
    have eT:0 < i.size:=by simpa[Nat.blt_eq]using h5
    obtain⟨mQ,qL⟩:=ZfW h4
    obtain⟨u,hu⟩:∃u,us[i.size - 1]?=some u:=⟨_,List.getElem?_eq_getElem (by omega)⟩
    have cQ:=hr.sub _ _ _ (cN _ _ hu)
    obtain⟨cur,TT,fr,cJ⟩:∃c T fr,w.heap[b]?=some (.cells c T fr):=by
     unfold World.cell? at cQ
     split at cQ
     ·rename_i c T fr hc;exact⟨c,T,fr,hc⟩
     ·cases cQ
    have dB:o+(i.size - 1) < cur.size:=by
     simp only[World.cell?,cJ,Option.isSome_none,Bool.false_eq_true,if_false]at cQ
     exact(Array.getElem?_eq_some_iff.1 cQ).1
    have jF:∀M,Dom C S m a w M→M b:=fun M hd=>by
     rcases hd.new _ _ _ (cN _ _ hu)with h6|h6
     ·rw[jl,h3]at h6;cases h6
     ·exact h6
    have gw:Wr w b:=by
     obtain⟨M,hd⟩:=hr.dom
     exact hW _ _ _ hd.p b (jF M hd)
    refine⟨_,_,mQ,hr.storeOwn cJ gw (by omega) rfl jF (jl ▸ h3) (fun id y hy e=>?_) (fun k t o0 n c iw hv q il k7 pW pX=>?_),?_⟩
    ·have ho:=hr.own id y hy
     cases hz:y.fz with
     | true=>exact qL id y (hr.ids id y hy) hy hz e
     | false=>
      have:=ho.free hz (o+(i.size - 1))
      rw[e,cN _ _ hu]at this;cases this
    ·rcases(hr.toks k t iw).1 with q0|⟨b',o',n',c',_,_,_,hv',_,_,_,_,bR⟩
     ·rw[hv]at q0;cases q0
     ·rw[hv]at hv'
      simp only[Value.slice.injEq,Option.some.injEq,Addr.mk.injEq,and_true]at hv'
      obtain⟨⟨rfl,rfl⟩,rfl,rfl⟩:=hv'
      have h7:=bR _ pW pX
      obtain⟨u7,qM⟩:∃u7,us[q - o]?=some u7:=⟨us[q - o]'(by omega),List.getElem?_eq_getElem _⟩
      have h8:=cN _ _ qM
      rw[show o+(q - o)=q by omega,h7]at h8;cases h8
    ·rw[he,lH];exact ZgM cA cJ gw (by omega) bW dW
  | some t=>
   simp only[hk]at h
   obtain⟨h1,h2,h3,h4⟩:=Zae h
   simp only[Bool.and_eq_true]at h1
   have lH:=ZbX h1.1
   generalize Zp2 p=b at *
   generalize Zp3 p=o at *
   have bW:=Nat.eq_of_beq_eq_true h1.2.1
   have dW:=Zfr h1.2.2
   have bP:v.cells.toList.length=i.size:=by simpa using bW
   obtain⟨g1,g2⟩:=hr.toks key t hk
   have eZ:t.blk=some b:=by unfold Tok.blk;rw[h2]
   obtain⟨g2,g3⟩:=g2 b eZ
   rcases g1 with g1|⟨b',o0,n,c,cur,TT,fr,hv,gE,cJ,gJ,eA,bR⟩
   ·rw[g1]at h2;cases h2
   rw[hv]at h2
   simp only[Value.slice.injEq,Option.some.injEq,Addr.mk.injEq,and_true]at h2
   obtain⟨⟨rfl,rfl⟩,_,_⟩:=h2
   rw[hv]at h3
   simp only[slN]at h3
   have cI:n*t.esz≤c*t.esz:=Nat.mul_le_mul_right _ gE
   have gw:Wr w b':=fun c1 T1 fr1 hh o ho=>by
    rw[cJ]at hh
    simp only[Option.some.injEq,Obj.cells.injEq]at hh
    obtain⟨rfl,rfl,rfl⟩:=hh
    exact eA o ho
   refine⟨_,_,h4,hr.storeOwn cJ gw (by omega) rfl (fun M hd=>hd.tok key t b' hk eZ) g3 g2 (fun k t' o' n' c' iw hv' q il k7 pW pX=>?_),?_⟩
   ·have:k=key:=hr.tapart k key t' t b' iw hk (by simp[Tok.blk,hv']) eZ
    subst this
    rw[hk]at iw;cases iw
    rw[hv]at hv'
    simp only[Value.slice.injEq,Option.some.injEq,Addr.mk.injEq,and_true,true_and]at hv'
    obtain⟨rfl,rfl,rfl⟩:=hv'
    omega
   ·rw[he,lH];exact ZgM cA cJ gw (by omega) bW dW
end
def ZnW(E:Env)(S:St)(m:Mem)(T:TypeId)(id:Nat)(vd vs:Value)(K:Int→St→Prop):Prop:=match Zay E T with
 | none=>False
 | some (e,j)=>match S.L id with
  | none=>False
  | some bx=>chk (ZbJ vd&&(ZbJ vs&&!bx.fz)) (m.free bx.b→∃(o:Nat)(xs:List Value),slA vd=some ⟨bx.b,o,none⟩∧xs.length=min (slN vs) (slN vd)*j.size∧o+xs.length≤bx.cs.length∧(∀u∈xs,u.oneCell'=true)∧
    (rowRd m (slA vs) xs∨∃o',slA vs=some ⟨bx.b,o',none⟩∧∀i u,xs[i]?=some u→bx.cs[o'+i]?=some u)∧K ((min (slN vs) (slN vd):Nat):Int) (S.setL id (some { bx with cs:=Zar bx.cs o xs })))
theorem Zlo{P:Program}{w:World}{m:Mem}{x:Box}(hx:Own m w x)(o:Nat)(xs:List Value)(h1:∀u∈xs,u.oneCell'=true)(hb:o+xs.length≤x.cs.length):
  ∃w',(storeCells ⟨x.b,o,none⟩ xs 0).run P w=.ok () w'∧w'.os=w.os∧w'.tape=w.tape∧w'.output=w.output∧w'.heap.size=w.heap.size∧(∀k,k≠x.b→w'.heap[k]?=w.heap[k]?)∧
   (x.fz=false→Own m w' { x with cs:=Zar x.cs o xs }):=by
 obtain⟨sp,fr,hh,hc,hf⟩:=hx.cells
 have h3:=Zbr (P:=P) x.b o x.T fr xs 0 _ w hh (fun o ho=>by have ho':o < x.cap:=(by simpa[hc]using ho);omega) (by simp at hc ⊢;omega) h1
 have h4:(storeCells ⟨x.b,o,none⟩ xs 0).run P w=.ok () (w.setRow x.b (Zar (x.cs++sp) o xs).toArray):=by
  rw[h3]
  simp[Zar]
 refine⟨_,h4,rfl,rfl,rfl,by simp,fun k hk=>setRow_other w x.b k _ hk,fun hz=>?_⟩
 refine⟨⟨sp,fr,?_,?_,hf⟩,fun _=>hx.free hz,fun hz'=>by simp[hz]at hz',fun gG=>?_⟩
 ·rw[setRow_heap w x.b _ _ x.T fr hh,ZfO (by omega)]
 ·have:=ZbY (cs:=x.cs) (o:=o) (vs:=xs) (by omega)
  simp only[List.length_append]at hc ⊢
  omega
 ·have:=hx.whole gG
  show(Zar x.cs o xs).length=x.cap
  rw[ZbY (by omega)];exact this
section
variable {C:Ctx} {S:St} {m:Mem} {a:Act} {w:World}
theorem Zmy{E:Env}(hE:E.ok){T xT ty:TypeId}{id:Nat}{vd vs:Value}{K:Int→St→Prop}(hr:Rel C S m a w)(h:ZnW E S m T id vd vs K):
  ∃n S' w',K n S'∧Rel C S' m a w'∧(Builtin.copy_ #[T,xT] ty #[vd,vs]).run E.P w=.ok (.int .i64 n) w':=by
 unfold ZnW at h
 cases hs:Zay E T with
 | none=>simp[hs]at h
 | some ej=>
  obtain⟨e,j⟩:=ej
  simp only[hs]at h
  cases hL:S.L id with
  | none=>simp[hL]at h
  | some bx=>
   simp only[hL]at h
   obtain⟨h1,hq⟩:=Zae h
   simp only[Bool.and_eq_true,Bool.not_eq_true']at h1
   obtain⟨o,xs,h2,h3,h4,h5,h6,hk⟩:=hq ((hr.own id bx hL).free h1.2.2)
   clear hq h
   have nQ:=Zbx h1.1
   have dT:=Zbx h1.2.1
   generalize slA vd=ad at *
   generalize slN vd=nd at *
   generalize slC vd=cd at *
   generalize slA vs=as at *
   generalize slN vs=ns at *
   generalize slC vs=cs at *
   subst nQ dT h2
   obtain⟨i,eW,gI,iF⟩:=ZaF hs
   have cX:=hE e j iF
   have hu:=(hE T i eW).run_und (w:=w)
   rw[gI]at hu
   have bW:=cX.run_size (w:=w)
   have j7:=hr.own id bx hL
   have jG:(Builtin.firstCells j.size (min ns nd) (.slice as ns cs)).run E.P w=.ok xs.toArray w:=by
    rcases h6 with h6|⟨o',h6,h7⟩
    ·exact Za3 hr.sub h6 _ _ _ _ h3
    ·subst h6
     refine run_firstCells_some w j.size _ _ ns cs xs h3 (fun i u hu=>?_)
     rw[ZbK]
     obtain⟨sp,fr,hh,_⟩:=j7.cells
     have h8:=h7 i u hu
     have h9:=(List.getElem?_eq_some_iff.1 h8).1
     simp only[World.cell?,hh,Option.isSome_none,Bool.false_eq_true,if_false,List.getElem?_toArray]
     rw[List.getElem?_append_left h9];exact h8
   obtain⟨w',bL,e1,e2,e3,e4,e5,e6⟩:=Zlo (P:=E.P) j7 o xs h5 h4
   refine⟨_,_,w',hk,hr.store hL h1.2.2 rfl e1 e2 e3 e4 e5 (e6 h1.2.2),?_⟩
   have jm:Nat.min ns nd=min ns nd:=rfl
   simp[Builtin.copy_,hu,Builtin.lenOf,bW,jm,jG,bL,goInt]
end
end Go.Eng
namespace Go.Eng
open Go Go.RowKit
def ZfZ(E:Env)(s d:TypeId):Bool:=match E.tt s with
 | none=>false
 | some i=>match i.d with
  | .slice e=>Nat.beq s d&&(match E.tt e with
   | none=>false
   | some j=>match j.d with
    | .int .u8=>true
    | _=>false)
  | _=>false
def opW(E:Env)(S:St)(m:Mem)(o:Oper)(K:St→Mem→Prop):Prop:=match o.op with
 | .move x=>K (S.put o.dst (S.ev x)) m
 | .assign x=>K (S.put o.dst (S.ev x)) m
 | .pick c x y=>wv S c fun v=>chk (Zgt v) (br (Zck v) (K (S.put o.dst (S.ev x)) m) (K (S.put o.dst (S.ev y)) m))
 | .load T x=>match Zo2 E o.dst with
  | none=>Zfs E S m T x fun v=>K (S.put o.dst (some (.v v))) m
  | some y=>bif E.fix.isSome then False else Zfs E S m T x fun v=>ldW y v fun v=>K (S.put o.dst (some (.v v))) m
 | .store T x y=>wv S y fun v=>match Zmx E x with
  | none=>Zgv E S T x v fun S'=>K (S'.put o.dst none) m
  | some key=>bif E.fix.isSome then False else ZgL E S m T key x v fun m'=>K (S.put o.dst none) m'
 | .alloc T=>Zqa E S T o.dst fun S'=>K S' m
 | .box T x=>wv S x fun v=>bif ZfT E o.dst then(bif E.fix.isSome then False else Zu2 E S m T v o.dst K)else Zwl E S T v o.dst fun S'=>K S' m
 | .buildSlice T len parts=>match ZcK E o.dst with
  | none=>Zef E S m T len parts.toList o.dst K
  | some ke=>bif E.fix.isSome then False else match len,parts.toList with
   | 0,[]=>Zlm E S (some m) T (.const (.int .i64 0)) (.const (.int .i64 0)) o.dst ke.1 fun S'=>K S' m
   | _,_=>False
 | .makeSlice T l c=>match ZcK E o.dst with
  | none=>bif ZrB E o.dst then(bif E.fix.isSome then False else Zqc E S m T l c o.dst K)else Ztv E S T l c o.dst fun S'=>K S' m
  | some ke=>bif E.fix.isSome then False else Zlm E S none T l c o.dst ke.1 fun S'=>K S' m
 | .convert s d x=>bif ZfZ E s d then(match S.ev x with
   | some (.sl id n c)=>K (S.put o.dst (some (.sl id n c))) m
   | _=>False)
  else bif Zcn E s d then(bif E.fix.isSome then False else Zu3 S m x o.dst K)
  else bif Zco E s d then(bif E.fix.isSome then False else Zeg S m x fun v=>K (S.put o.dst (some (.v v))) m)
  else Zcs E S o fun sv=>K (S.put o.dst (some sv)) m
 | .call c=>match c.callee with
  | .value f=>ZtG E o.dst S m (Ztu E o.type o.dst f c.args.toList K)
  | .builtin .append=>match c.args.toList,c.argTypes.toList,o.dst with
   | [s,x],[T,xT],some d=>ZtG E (some d) S m fun S m=>wv S s fun vs=>wv S x fun vx=>ZeZ E S m T xT (E.tokOf d) vs vx fun v tk m'=>K ({ S with tok:=tk,tkeys:=E.tokOf d::S.tkeys }.put (some d) (some (.v v))) m'
   | _,_,_=>False
  | .builtin .copy=>match c.args.toList,c.argTypes.toList with
   | [d,s],[T,xT]=>(match ZeN E d with
    | none=>False
    | some id=>wv S d fun vd=>wv S s fun vs=>ZnW E S m T id vd vs fun n S'=>K (S'.put o.dst (some (.v (.int .i64 n)))) m)
   | _,_=>False
  | _=>Zcs E S o fun sv=>K (S.put o.dst (some sv)) m
 | _=>Zcs E S o fun sv=>K (S.put o.dst (some sv)) m
section
variable {C:Ctx} {S:St} {m:Mem} {a:Act} {w:World}
theorem ZgO{E:Env}(hE:E.ok){o:Oper}(hd:∀t,o.dst=some t→t < C.n)(hr:Rel C S m a w){K:St→Mem→Prop}(h:Zcs E S o fun sv=>K (S.put o.dst (some sv)) m){F:Fence}{n:Nat}{next:Act→World→Prop}{Q:Exit→Act→World→Prop}
  (hK:∀S' m' a' w',K S' m'→Rel C S' m' a' w'→next a' w'):o.uponIn F n E.P a next Q ((execOp a.eval o).run E.P w):=by
 obtain⟨sv,v,hk,nR,bL⟩:=Zmq hE hr h
 rw[bL]
 exact hK _ _ _ _ hk (hr.put o.dst hd nR)
theorem Zlp{C:Ctx}{S:St}{m:Mem}{a:Act}{w:World}{E:Env}{rt:TypeId}{g:FuncId}{args:List Value}{key esz:Nat}{K:Value→St→Mem→Prop}(hr:Rel C S m a w)(h:Zp9 E S m rt g args key esz K):
  Zgw E.P g∧Calls E.P g args.toArray w fun e w'=>∃v S' m',e=.returned v∧K v S' m'∧Rel C S' m' a w':=by
 obtain⟨R,eK,eC,bS⟩:=h
 refine⟨eK.1,(eK.2 w hr.sub).mono ?_⟩
 rintro e w' ⟨v,m',rfl,cI,cB,cR,dS,bY,eZ,hR⟩
 have hk:=Shape.all_fits _ _ bS v (eC _ _ _ hR) m' cI hR
 have kh:=hr.world dS cB cI cR
 refine⟨v,_,m',rfl,hk,kh.tokUpd key ⟨v,esz⟩ bY (fun b hb=>?_) ?_⟩
 ·have cM:=eZ b hb
  refine⟨⟨fun id x hx e=>?_,fun o=>?_⟩,fun k' t' _ hk' hb'=>?_⟩
  ·have:=(hr.own id x hx).lt;omega
  ·cases he:C.m0 b o with
   | none=>rfl
   | some u=>have:=hr.sub.lt (hr.le _ _ _ he);omega
  ·have:=(hr.toks k' t' hk').1.lt hb';omega
 ·obtain⟨M,hd⟩:=hr.dom
  refine⟨_,hd.step (m':=m') (dS.upd (by simp)) (fun b o u hu=>(cR b o u hu).imp_right fun h=>.inr ⟨h,cB.lt hu⟩),fun b hb=>?_⟩
  exact .inr ⟨eZ b hb,bY.lt hb⟩
theorem Zlq{C:Ctx}{S:St}{m:Mem}{a:Act}{w:World}{E:Env}{rt:TypeId}{g:FuncId}{args:List Value}{ids:List Nat}{ks:List (Nat×Nat)}{K:Value→St→Mem→Prop}(hY:YOk E C)(hr:Rel C S m a w)(h:Zh9 E S m rt g args ids ks K):
  Zgw E.P g∧Calls E.P g args.toArray w fun e w'=>∃v S' m',e=.returned v∧K v S' m'∧Rel C S' m' a w':=by
 unfold Zh9 at h
 cases hb:Za5 S ids with
 | none=>simp[hb]at h
 | some bxs=>
 simp only[hb]at h
 cases eE:E.m0 with
 | none=>simp[eE]at h
 | some mm=>
 simp only[eE]at h
 obtain⟨h1,Y,R,eK,c1,c2,eC,bS⟩:=Zae h
 simp only[Bool.and_eq_true,List.all_eq_true]at h1
 obtain⟨jl,hW⟩:=hY.m0 mm eE
 obtain⟨bP,cH⟩:=ZbR hb
 obtain⟨tlen,tmem⟩:=ZiO (S:=S) (ks:=ks)
 generalize ZdI S ks=tks at *
 have tlen:tks.length=(ks.map (·.1)).length:=by rw[List.length_map];exact tlen
 have jk:(ks.map (·.1)).length=ks.length:=List.length_map _
 generalize jn:ks.map (·.1)=kl at *
 have dQ:=ZaC h1.2.1
 have pY:=ZaC h1.2.2
 have tk_of:∀t∈tks,∀b,t.blk=some b→∃k∈kl,S.tok k=some t:=fun t ht b hb=>by
  obtain⟨i,hi⟩:=List.getElem?_of_mem ht
  obtain⟨k,q1,q2⟩:=tmem i t hi
  rcases q2 with q2|q2
  ·exact⟨k,List.mem_of_getElem? q1,q2⟩
  ·simp[Tok.blk,q2]at hb
 have im:∀b,Y b→b < w.heap.size∧(∀D,w.heap[b]?≠some (.deferred D))∧C.m0.free b∧(∀M,Dom C S m a w M→M b)∧(∀id x,S.L id=some x→x.b≠b)∧(∀k t,S.tok k=some t→t.blk=some b→k∈kl):=fun b mR=>by
  rcases c2 b mR with⟨t,ht,dG⟩|⟨q1,⟨o,v,q2⟩,q3⟩
  ·obtain⟨k,hk,iw⟩:=tk_of t ht b dG
   obtain⟨g1,g2⟩:=hr.toks k t iw
   refine⟨g1.lt dG,fun D e=>?_,(g2 b dG).2,fun M hd=>hd.tok k t b iw dG,(g2 b dG).1,fun k' t' hk' hb'=>?_⟩
   ·rcases g1 with g1|⟨b',o0,n,c,cur,T,fr,hv,_,hh,_⟩
    ·simp[Tok.blk,g1]at dG
    ·simp[Tok.blk,hv]at dG;subst dG;rw[hh]at e;cases e
   ·rw[hr.tapart k' k t' t b hk' iw hb' dG];exact hk
  ·obtain⟨q4,q5⟩:=ZfW q3
   have hs:=hr.sub b o v q2
   refine⟨hr.sub.lt q2,fun D e=>?_,by rw[jl];exact q1,fun M hd=>?_,fun id x hx e=>?_,fun k t iw dG=>?_⟩
   ·unfold World.cell? at hs
    rw[e]at hs
    simp at hs
   ·rcases hd.new b o v q2 with h6|h6
    ·rw[jl,q1]at h6;cases h6
    ·exact h6
   ·have ho:=hr.own id x hx
    cases hz:x.fz with
    | true=>exact q5 id x (hr.ids id x hx) hx hz e
    | false=>
     have:=ho.free hz o
     rw[e,q2]at this;cases this
   ·exact Classical.byContradiction fun hn=>ZhM q4 k t (hr.tkeys k t iw) iw hn dG
 have eJ:∀x∈bxs,Own m w x∧x.fz=false∧¬Y x.b:=fun x hx=>by
  obtain⟨i,hi⟩:=List.getElem?_of_mem hx
  obtain⟨id,_,hL⟩:=cH i x hi
  exact⟨hr.own id x hL,by simpa using h1.1 x hx,fun hy=>(im _ hy).2.2.2.2.1 id x hL rfl⟩
 have j9:(bxs.map (·.b)).Nodup:=ZfS hr.apart hb dQ
 have jL:Ztt tks:=fun i j t t' b hi hj eL dO=>by
  obtain⟨k,q1,q2⟩:=tmem i t hi
  obtain⟨k',q3,q4⟩:=tmem j t' hj
  have q2:S.tok k=some t:=q2.resolve_right fun e=>by simp[Tok.blk,e]at eL
  have q4:S.tok k'=some t':=q4.resolve_right fun e=>by simp[Tok.blk,e]at dO
  have:=hr.tapart k k' t t' b q2 q4 eL dO
  subst this
  have hi':=(List.getElem?_eq_some_iff.1 q1).1
  exact(List.getElem?_inj (l:=kl) (i:=i) (j:=j) hi' pY).1 (by rw[q1,q3])
 refine⟨eK.1,(eK.2 w hr.sub eJ j9 (fun t ht=>?_) jL (fun b mR=>⟨(im b mR).1,?_⟩)).mono ?_⟩
 ·refine⟨?_,c1 t ht⟩
  obtain⟨i,hi⟩:=List.getElem?_of_mem ht
  obtain⟨k,_,q2⟩:=tmem i t hi
  rcases q2 with q2|q2
  ·exact(hr.toks k t q2).1
  ·exact .inl q2
 ·obtain⟨M,hd⟩:=hr.dom
  exact hW _ _ _ hd.p b ((im b mR).2.2.2.1 M hd)
 rintro e w' ⟨v,m',css,tvs,rfl,cI,cB,cR,hu,eY,cS,fV,ku,nS,hR⟩
 have fP:∀u∈tvs,ZbJ u=true:=fun u hu=>by
  obtain⟨i,hi⟩:=List.getElem?_of_mem hu
  have bA:=(List.getElem?_eq_some_iff.1 hi).1
  exact(ku i (tks[i]'(by omega)) u (List.getElem?_eq_getElem (by omega)) hi).1
 have hk:=Zky (ZgG (Shape.all_fits _ _ bS v (eC _ _ _ _ hR) m' cI (fun b o u hu=>(cR b o u hu).imp_right fun h=>h.imp_right fun h o=>by
  cases he:m b o with
  | none=>rfl
  | some u=>have:=hr.sub.lt he;omega)) css (by omega)) tvs (by omega) fP hR
 refine⟨v,_,m',rfl,hk,?_⟩
 have lI:∀b,b < w.heap.size→¬Y b→∀o,m b o=none→m' b o=none:=fun b bA hn o ho=>by
  cases he:m' b o with
  | none=>rfl
  | some u=>
   rcases cR b o u he with h|h|h
   ·rw[ho]at h;cases h
   ·exact absurd h hn
   ·omega
 have dS:∀b,¬Y b→∀o u,m b o=some u→m' b o=some u:=fun b hn o u h=>cI b o u (by rw[Mem.off_at hn];exact h)
 have k8:∀id y,(Zct S ids bxs css).L id=some y→∃x,S.L id=some x∧x.b=y.b:=fun id y hy=>by
  rcases Zed (S:=S) dQ bP (by omega:css.length=ids.length) id with⟨_,h4⟩|⟨i,x,cs,h3,h4,h5,h6⟩
  ·exact⟨y,by rw[←h4];exact hy,rfl⟩
  ·obtain⟨id',g1,g2⟩:=cH i x h4
   rw[h3]at g1;cases g1
   rw[h6]at hy;cases hy
   exact⟨x,g2,rfl⟩
 have pZ:∀id x,S.L id=some x→∃y,(Zct S ids bxs css).L id=some y∧y.b=x.b:=fun id x hx=>by
  rcases Zed (S:=S) dQ bP (by omega:css.length=ids.length) id with⟨_,h4⟩|⟨i,x',cs,h3,h4,h5,h6⟩
  ·exact⟨x,by rw[h4];exact hx,rfl⟩
  ·obtain⟨id',g1,g2⟩:=cH i x' h4
   rw[h3]at g1;cases g1
   rw[hx]at g2;cases g2
   exact⟨_,h6,rfl⟩
 have mS:∀M,Dom C S m a w M→∀b,b∈bxs.map (·.b)→M b:=fun M hd b hb=>by
  obtain⟨z,hz,rfl⟩:=List.mem_map.1 hb
  obtain⟨i,hi⟩:=List.getElem?_of_mem hz
  obtain⟨id',_,g2⟩:=cH i z hi
  exact hd.own id' z g2
 have mT:∀b,b∈bxs.map (·.b)→∃id x,S.L id=some x∧x.b=b:=fun b hb=>by
  obtain⟨z,hz,rfl⟩:=List.mem_map.1 hb
  obtain⟨i,hi⟩:=List.getElem?_of_mem hz
  obtain⟨id',_,g2⟩:=cH i z hi
  exact⟨id',z,g2,rfl⟩
 have iK:(Zct S ids bxs css).env=S.env∧(Zct S ids bxs css).ids=S.ids∧(Zct S ids bxs css).tkeys=S.tkeys∧(Zct S ids bxs css).gh=S.gh:=by rw[Zcy];exact⟨rfl,rfl,rfl,rfl⟩
 have kv:∀k t,ZnV S.tok kl tks tvs k=some t→(k ∉ kl∧S.tok k=some t)∨∃(q:Nat)(t0:Tok)(tv:Value),kl[q]?=some k∧tks[q]?=some t0∧tvs[q]?=some tv∧t=⟨tv,t0.esz⟩:=fun k t ht=>by
  rcases Zkz (tok:=S.tok) pY tlen (by omega:tvs.length=kl.length) k with⟨q1,q2⟩|⟨q,t0,tv,q1,q2,q3,q4⟩
  ·exact .inl ⟨q1,by rw[←q2];exact ht⟩
  ·rw[ht]at q4;cases q4
   exact .inr ⟨q,t0,tv,q1,q2,q3,rfl⟩
 refine⟨?_,hr.size,fun i sv he=>?_,fun id y hy=>?_,fun id id' y y' hy hy' e=>?_,fun id y hy=>?_,fun k t ht=>?_,fun k t ht=>?_,fun k k' t t' b ht ht' eL dO=>?_,cB,fun b o u nT=>?_,?_⟩
 ·obtain⟨ms,q1,q2,q3⟩:=hr.defers
  refine⟨ms,q1,q2,fun D hD=>?_⟩
  rw[hu.block D (Array.getElem?_eq_some_iff.1 (q3 D hD)).1 (fun hm=>?_)]
  ·exact q3 D hD
  ·rcases hm with hm|hm
   ·obtain⟨id,x,g1,g2⟩:=mT D hm
    obtain⟨sp,fr,g3,_⟩:=(hr.own id x g1).cells
    have:=q3 D hD
    rw[←g2,g3]at this;cases this
   ·exact(im D hm).2.1 _ (q3 D hD)
 ·simp only[iK.1]at he
  obtain⟨u,q1,q2⟩:=hr.env i sv he
  refine⟨u,?_,q2⟩
  cases sv with
  | v x=>exact q1
  | loc id off=>
   simp only[St.den]at q1 ⊢
   cases hx:S.L id with
   | none=>simp[hx]at q1
   | some x=>
    obtain⟨y,g1,g2⟩:=pZ id x hx
    simp only[hx]at q1
    simp only[g1,g2];exact q1
  | sl id n c=>
   simp only[St.den]at q1 ⊢
   cases hx:S.L id with
   | none=>simp[hx]at q1
   | some x=>
    obtain⟨y,g1,g2⟩:=pZ id x hx
    simp only[hx]at q1
    simp only[g1,g2];exact q1
 ·rcases Zed (S:=S) dQ bP (by omega:css.length=ids.length) id with⟨h3,h4⟩|⟨i,x,cs,h3,h4,h5,h6⟩
  ·have hy':S.L id=some y:=by rw[←h4];exact hy
   have ho:=hr.own id y hy'
   have hn:¬Y y.b:=fun hh=>(im _ hh).2.2.2.2.1 id y hy' rfl
   have cJ:w'.heap[y.b]?=w.heap[y.b]?:=hu.block _ ho.lt (fun hm=>by
    rcases hm with hm|hm
    ·obtain⟨z,hz,nC⟩:=List.mem_map.1 hm
     obtain⟨i,hi⟩:=List.getElem?_of_mem hz
     obtain⟨id',g1,g2⟩:=cH i z hi
     have:=hr.apart _ _ _ _ g2 hy' nC
     subst this
     exact h3 (List.mem_of_getElem? g1)
    ·exact hn hm)
   exact⟨by rw[cJ];exact ho.cells,fun hz o=>lI _ ho.lt hn o (ho.free hz o),fun hz j u hu=>dS _ hn _ _ (ho.known hz j u hu),ho.whole⟩
  ·simp only[h6,Option.some.injEq]at hy
   subst hy
   exact cS i x cs h4 h5
 ·obtain⟨x,g1,g2⟩:=k8 id y hy
  obtain⟨x',g3,g4⟩:=k8 id' y' hy'
  exact hr.apart _ _ _ _ g1 g3 (by rw[g2,g4,e])
 ·obtain⟨x,g1,g2⟩:=k8 id y hy
  simp only[iK.2.1];exact hr.ids id x g1
 ·rcases kv k t ht with⟨q1,q2⟩|⟨q,t0,tv,q1,q2,q3,rfl⟩
  ·obtain⟨g1,g2⟩:=hr.toks k t q2
   have hn:∀b,t.blk=some b→¬Y b:=fun b hb hh=>q1 ((im b hh).2.2.2.2.2 k t q2 hb)
   refine⟨g1.same (fun b hb=>hu.block b (g1.lt hb) (fun hm=>?_)) (fun b o hb=>lI b (g1.lt hb) (hn b hb) o),fun b hb=>⟨fun id y hy=>?_,(g2 b hb).2⟩⟩
   ·rcases hm with hm|hm
    ·obtain⟨id,x,g3,g4⟩:=mT b hm
     exact(g2 b hb).1 id x g3 g4
    ·exact hn b hb hm
   ·obtain⟨x,g3,g4⟩:=k8 id y hy
    rw[←g4];exact(g2 b hb).1 id x g3
  ·obtain⟨g1,g2,g3⟩:=ku q t0 tv q2 q3
   refine⟨g2,fun b hb=>⟨fun id y hy=>?_,?_⟩⟩
   ·obtain⟨x,g4,g5⟩:=k8 id y hy
    rw[←g5]
    rcases(g3 b hb).1 with h|h
    ·exact(im b h).2.2.2.2.1 id x g4
    ·have:=(hr.own id x g4).lt;omega
   ·rcases(g3 b hb).1 with h|h
    ·exact(im b h).2.2.1
    ·intro o
     cases he:C.m0 b o with
     | none=>rfl
     | some u=>have:=hr.sub.lt (hr.le _ _ _ he);omega
 ·rcases kv k t ht with⟨q1,q2⟩|⟨q,t0,tv,q1,q2,q3,rfl⟩
  ·exact List.mem_append_right _ (hr.tkeys k t q2)
  ·exact List.mem_append_left _ (List.mem_of_getElem? q1)
 ·have cross:∀(k k':Nat)(t t':Tok),(k ∉ kl∧S.tok k=some t)→(∃(q:Nat)(t0:Tok)(tv:Value),kl[q]?=some k'∧tks[q]?=some t0∧tvs[q]?=some tv∧t'=⟨tv,t0.esz⟩)→t.blk=some b→t'.blk=some b→False:=by
   rintro k k' t t' ⟨q1,q2⟩ ⟨q,t0,tv,q3,q4,q5,rfl⟩ e1 e2
   rcases((ku q t0 tv q4 q5).2.2 b e2).1 with h|h
   ·exact q1 ((im b h).2.2.2.2.2 k t q2 e1)
   ·have:=(hr.toks k t q2).1.lt e1;omega
  rcases kv k t ht with h3|h3 <;> rcases kv k' t' ht' with h4|h4
  ·exact hr.tapart k k' t t' b h3.2 h4.2 eL dO
  ·exact(cross k k' t t' h3 h4 eL dO).elim
  ·exact(cross k' k t' t h4 h3 dO eL).elim
  ·obtain⟨q,t0,tv,q1,q2,q3,rfl⟩:=h3
   obtain⟨q',t0',tv',q1',q2',q3',rfl⟩:=h4
   have hz:∀(q:Nat)(t0:Tok)(tv:Value),tks[q]?=some t0→tvs[q]?=some tv→((tks.zip tvs).map fun q=>(⟨q.2,q.1.esz⟩:Tok))[q]?=some ⟨tv,t0.esz⟩:=fun q t0 tv h5 h6=>by
    rw[List.getElem?_map,(List.getElem?_zip_eq_some (z:=(t0,tv))).2 ⟨h5,h6⟩];rfl
   have:=nS q q' _ _ b (hz q t0 tv q2 q3) (hz q' t0' tv' q2' q3') eL dO
   subst this
   rw[q1]at q1';cases q1';rfl
 ·refine dS b (fun hh=>?_) o u (hr.le b o u nT)
  rw[(im b hh).2.2.1 o]at nT;cases nT
 ·obtain⟨M,hd⟩:=hr.dom
  have hu':Upd M w w':=⟨hu.os,hu.tape,hu.output,hu.size,fun k hk hn=>hu.block k hk (fun hm=>hn (by
   rcases hm with hm|hm
   ·exact mS M hd k hm
   ·exact(im k hm).2.2.2.1 M hd)),hu.wr⟩
  have eB:=hd.step (m':=m') hu' (fun b o u h=>by
   rcases cR b o u h with h|h|h
   ·exact .inl h
   ·exact .inr (.inl ((im b h).2.2.2.1 M hd))
   ·exact .inr (.inr ⟨h,cB.lt (by assumption)⟩))
  refine⟨_,by simpa only[iK.2.2.2]using eB.p,eB.lt,fun id y hy=>?_,fun k t b ht hb=>?_,eB.mks,eB.new⟩
  ·obtain⟨x,g1,g2⟩:=k8 id y hy
   rw[←g2];exact eB.own id x g1
  ·rcases kv k t ht with⟨q1,q2⟩|⟨q,t0,tv,q1,q2,q3,rfl⟩
   ·exact eB.tok k t b q2 hb
   ·obtain⟨g1,g2,g3⟩:=ku q t0 tv q2 q3
    rcases(g3 b hb).1 with h|h
    ·exact .inl ((im b h).2.2.2.1 M hd)
    ·exact .inr ⟨h,g2.lt hb⟩
theorem Zn8{C:Ctx}{S:St}{m:Mem}{a:Act}{w:World}{E:Env}{rt:TypeId}{g:FuncId}{args:List Value}{K:Value→Int→Prop}(hY:YOk E C)(hr:Rel C S m a w)(h:ZvR E rt g args K S m):
  Zgw E.P g∧Calls E.P g args.toArray w fun e w'=>∃v gh,e=.returned v∧K v gh∧Rel C { S with gh:=gh } m a w':=by
 unfold ZvR at h
 split at h
 ·exact h.elim
 rename_i Y gu
 obtain⟨l,xs,go,stop,gU,nU,eC,bS⟩:=h
 have qN:=hY.y Y gu
 obtain⟨M0,hd⟩:=hr.dom
 let at':Int→Int:=fun j=>if j < 0 then -1 else S.gh+j
 let p:Int→(Nat→Prop)→World→Prop:=fun j M w1=>C.p (at' j) (fun k=>M0 k∨M k) w1∧(∀k,M k→w.heap.size≤k)∧w.heap.size≤w1.heap.size∧(∀k,M0 k→w1.heap[k]?=w.heap[k]?)∧Sub m w1
 have nV:∀b o v,m b o=some v→b < w.heap.size:=fun b o v hv=>hr.sub.lt hv
 have hp:ZtL p:=by
  rintro j M M' w1 w2 ⟨h1,h2,h3,h4,h5⟩ hu hM'
  have cT:∀k,M' k→w.heap.size≤k:=fun k hk=>by
   rcases hM' k hk with hk|hk
   ·exact h2 k hk
   ·exact Nat.le_trans h3 hk.1
  have eB:∀k,k < w.heap.size→w2.heap[k]?=w1.heap[k]?:=fun k hk=>hu.block k (Nat.lt_of_lt_of_le hk h3) fun hm=>by have:=h2 k hm;omega
  refine⟨C.st _ _ _ _ _ h1 ⟨hu.os,hu.tape,hu.output,hu.size,fun k hk hn=>hu.block k hk fun hm=>hn (.inr hm),hu.wr⟩ (fun k hk=>?_),cT,Nat.le_trans h3 hu.size,fun k hk=>by rw[eB k (hd.lt k hk)];exact h4 k hk,fun b o v hv=>?_⟩
  ·rcases hk with hk|hk
   ·exact .inl (.inl hk)
   ·rcases hM' k hk with hk|hk
    ·exact .inl (.inr hk)
    ·exact .inr hk
  ·rw[Zbc (eB b (nV b o v hv))];exact h5 b o v hv
 have nW:p 0 (fun _=>False) w:=by
  refine⟨?_,fun _ h=>h.elim,Nat.le_refl _,fun _ _=>rfl,hr.sub⟩
  have e1:at' 0=S.gh:=by simp[at']
  have e2:(fun k=>M0 k∨False)=M0:=by funext k;simp
  rw[e1]
  show C.p S.gh (fun k=>M0 k∨False) w
  rw[e2];exact hd.p
 have qO:Zkx E.P m p (fun l' g v=>l'=l∧0≤g∧xs[g.toNat]?=some v):=by
  rintro F n l' j v M w1 hF lJ ⟨rfl,hj,fN⟩ ⟨h1,h2,h3,h4,h5⟩ cB
  have e1:at' j=S.gh+((j.toNat:Nat):Int):=by
   show(if j < 0 then -1 else S.gh+j)=_
   rw[if_neg (by omega)];omega
  rw[e1]at h1
  have bA:∀k,M0 k∨M k→k < w1.heap.size:=fun k hk=>by
   rcases hk with hk|hk
   ·exact Nat.lt_of_lt_of_le (hd.lt k hk) h3
   ·exact lJ k hk
  have qP:=qN F n l' _ v (fun k=>M0 k∨M k) w1 hF bA (nU _ _ fN) h1 (fun b o v hv=>cB b o v (hr.le b o v hv))
  obtain⟨fn,tmps,asg,bdy,lK,fA⟩:=qP
  refine⟨fn,tmps,asg,bdy,lK,fA.mono ?_⟩
  rintro e w2 ⟨b,rfl,mU,eQ⟩
  have jM:Sub m w2:=fun b o v hv=>by
   rcases hd.new b o v hv with h6|h6
   ·exact eQ.sub b o v h6
   ·have hb:=eQ.block b (Nat.lt_of_lt_of_le (hd.lt b h6) h3) (.inl h6)
    rw[Zbc hb];exact cB b o v hv
  refine⟨b,rfl,⟨?_,h2,Nat.le_trans h3 eQ.size,fun k hk=>?_,jM⟩,⟨eQ.size,fun k hk hm=>eQ.block k hk (.inr hm),jM⟩⟩
  ·cases b with
   | true=>
    have e2:at' (j+1)=S.gh+((j.toNat:Nat):Int)+1:=by
     show(if j+1 < 0 then -1 else S.gh+(j+1))=_
     rw[if_neg (by omega)];omega
    simp only[if_true]at mU ⊢
    rw[e2];exact mU
   | false=>
    simp only[Bool.false_eq_true,if_false]at mU ⊢
    exact mU
  ·rw[eQ.block k (Nat.lt_of_lt_of_le (hd.lt k hk) h3) (.inl hk)];exact h4 k hk
 refine⟨gU.1,(gU.2 p hp w hr.sub nW qO).mono ?_⟩
 rintro e w' ⟨v,M,rfl,lJ,jo⟩
 have fin:∀j,p j M w'→Rel C { S with gh:=at' j } m a w':=by
  rintro j ⟨h1,h2,h3,h4,h5⟩
  refine hr.yielded hd (C.st _ _ _ _ _ h1 (Upd.refl _ _) fun k hk=>.inl (.inl hk)) ⟨h3,fun k _ hk=>h4 k hk,fun b o v hv=>h5 b o v (hr.le b o v hv)⟩
 have hv:go v∨stop v:=by
  rcases jo with h|h
  ·exact .inl h.1
  ·exact .inr h.1
 have hk:=Shape.all_fits _ _ bS v (eC v hv)
 rcases jo with⟨h1,h2⟩|⟨h1,h2⟩
 ·have:=fin _ h2
  have e1:at' (xs.length:Int)=S.gh+(xs.length:Int):=by
   show(if((xs.length:Nat):Int) < 0 then -1 else S.gh+((xs.length:Nat):Int))=_
   rw[if_neg (by omega)]
  rw[e1]at this
  exact⟨v,_,rfl,hk.1 h1,this⟩
 ·have:=fin _ h2
  have e1:at' (-1)=-1:=rfl
  rw[e1]at this
  exact⟨v,_,rfl,hk.2 h1,this⟩
theorem Zqe{E:Env}(hE:E.ok){F:Fence}(hF:FOk F)(hY:YOk E C){o:Oper}(hd:∀t,o.dst=some t→t < C.n)(hr:Rel C S m a w){K:St→Mem→Prop}(h:opW E S m o K){n:Nat}{next:Act→World→Prop}{Q:Exit→Act→World→Prop}
  (hK:∀S' m' a' w',K S' m'→Rel C S' m' a' w'→next a' w'):o.uponIn F n E.P a next Q ((execOp a.eval o).run E.P w):=by
 obtain⟨dst,op,type,pos,after,guard⟩:=o
 cases op with
 | move x=>exact hK _ _ _ _ h (hr.putEv' dst hd x)
 | assign x=>exact hK _ _ _ _ h (hr.putEv' dst hd x)
 | pick c x y=>
  obtain⟨v,hv,h⟩:=Zaz h
  obtain⟨h1,h2⟩:=Zae h
  have he:=hr.ev hv
  obtain⟨b,rfl⟩:∃b,v=.bool b:=⟨_,Zbt h1⟩
  have bL:(execOp a.eval ⟨dst,.pick c x y,type,pos,after,guard⟩).run E.P w=.ok (.value (if b then a.eval x else a.eval y)) w:=by
   simp[execOp,he,asBool]
  rw[bL]
  simp only[Zck]at h2
  cases b
  ·exact hK _ _ _ _ h2 (hr.putEv' dst hd y)
  ·exact hK _ _ _ _ h2 (hr.putEv' dst hd x)
 | load T x=>
  have h':∃v,K (S.put dst (some (.v v))) m∧(Instr.loadAt T (a.eval x)).run E.P w=.ok v w:=by
   simp only[opW]at h
   cases k9:Zo2 E dst with
   | none=>
    simp only[k9]at h
    exact ZfR hE hr h
   | some y=>
    simp only[k9]at h
    cases cF:E.fix with
    | some f=>simp[cF]at h
    | none=>
     simp only[cF,Option.isSome_none,cond_false]at h
     obtain⟨v,hk,bL⟩:=ZfR hE hr h
     exact⟨v,Zsh hk,bL⟩
  obtain⟨v,hk,bL⟩:=h'
  have dC:(execOp a.eval ⟨dst,.load T x,type,pos,after,guard⟩).run E.P w=.ok (.value v) w:=by simp[execOp,bL]
  rw[dC]
  exact hK _ _ _ _ hk (hr.put dst hd rfl)
 | store T x y=>
  obtain⟨v,hv,h⟩:=Zaz h
  have he:=hr.ev hv
  cases jp:Zmx E x with
  | none=>
   simp only[jp]at h
   obtain⟨S',w',hk,bB,bL⟩:=Zli hE hr h
   have dC:(execOp a.eval ⟨dst,.store T x y,type,pos,after,guard⟩).run E.P w=.ok .skip w':=by simp[execOp,he,bL]
   rw[dC]
   exact hK _ _ _ _ hk (bB.putNone dst _)
  | some key=>
   simp only[jp]at h
   cases cF:E.fix with
   | some f=>simp[cF]at h
   | none=>
    simp only[cF,Option.isSome_none,cond_false]at h
    obtain⟨m',w',hk,bB,bL⟩:=ZgN hE hY hr h
    have dC:(execOp a.eval ⟨dst,.store T x y,type,pos,after,guard⟩).run E.P w=.ok .skip w':=by simp[execOp,he,bL]
    rw[dC]
    exact hK _ _ _ _ hk (bB.putNone dst _)
 | alloc T=>
  simp only[opW,Zqa]at h
  cases dst with
  | none=>exact h.elim
  | some d=>
   simp only at h
   cases ht:E.tt T with
   | none=>simp[ht]at h
   | some i=>
    simp only[ht]at h
    cases hL:S.L d with
    | some x=>simp[hL]at h
    | none=>
     simp only[hL]at h
     have cA:=hE T i ht
     have hz:=cA.run_zero (w:=w)
     have gF:i.zero.cells.toList.length=i.size:=by simpa using cA.zsize
     have hb:=hr.newBox (d:=d) hL (x:={ b:=w.heap.size,cs:=i.zero.cells.toList,T:=T,cap:=i.size,fz:=false,full:=true }) (m':=m) [] rfl (by simpa using gF) (fun _=>gF) (.inl ⟨rfl,rfl⟩)
     simp only[List.append_nil,Array.toArray_toList]at hb
     have bL:(execOp a.eval ⟨some d,.alloc T,type,pos,after,guard⟩).run E.P w=.ok (.value (.pointer (some ⟨w.heap.size,0,none⟩))) (w.alloc (.cells i.zero.cells T (0,0))):=by
      simp[execOp,Instr.alloc,hz,newVar,newRow]
     rw[bL]
     exact hK _ _ _ _ (h w.heap.size) (hb.put (some d) hd (by simp[St.den,St.newL]))
 | box T x=>
  obtain⟨v,hv,h⟩:=Zaz h
  have he:=hr.ev hv
  cases kw:ZfT E dst with
  | true=>
   simp only[kw,cond_true]at h
   cases cF:E.fix with
   | some f=>simp[cF]at h
   | none=>
    simp only[cF,Option.isSome_none,cond_false,Zu2]at h
    cases dst with
    | none=>exact h.elim
    | some d=>
     simp only at h
     cases ht:E.tt T with
     | none=>simp[ht]at h
     | some i=>
      simp only[ht]at h
      cases hL:S.L d with
      | some x=>simp[hL]at h
      | none=>
       simp only[hL]at h
       obtain⟨h1,h2⟩:=Zae h
       have bW:=Nat.eq_of_beq_eq_true h1
       have gF:v.cells.toList.length=i.size:=by simpa using bW
       have bR:m.free w.heap.size:=fun o=>by
        cases he:m w.heap.size o with
        | none=>rfl
        | some v=>have:=hr.sub.lt he;omega
       have hb:=hr.newBox (d:=d) hL (x:={ b:=w.heap.size,cs:=v.cells.toList,T:=T,cap:=i.size,fz:=true,full:=true }) (m':=m.add w.heap.size v.cells.toList) [] rfl (by simpa using gF) (fun _=>gF) (.inr ⟨rfl,rfl⟩)
       simp only[List.append_nil,Array.toArray_toList]at hb
       have bL:(execOp a.eval ⟨some d,.box T x,type,pos,after,guard⟩).run E.P w=.ok (.value (.pointer (some ⟨w.heap.size,0,none⟩))) (w.alloc (.cells v.cells T (0,0))):=by
        simp[execOp,he,Instr.box,newVar,newRow]
       rw[bL]
       exact hK _ _ _ _ (Zn6 (h2 w.heap.size _ (Mem.le_add bR _) (fun j v hv=>by rw[Mem.add_same];simpa using hv)) bR (fun b' o u hu=>by
        by_cases e:b'=w.heap.size
        ·exact .inr e
        ·rw[Mem.add_other _ e]at hu;exact .inl hu)) (hb.put (some d) hd (by simp[St.den,St.newL]))
  | false=>
  simp only[kw,cond_false]at h
  simp only[Zwl]at h
  cases dst with
  | none=>exact h.elim
  | some d=>
   simp only at h
   cases ht:E.tt T with
   | none=>simp[ht]at h
   | some i=>
    simp only[ht]at h
    cases hL:S.L d with
    | some x=>simp[hL]at h
    | none=>
     simp only[hL]at h
     obtain⟨h1,h2⟩:=Zae h
     have bW:=Nat.eq_of_beq_eq_true h1
     have gF:v.cells.toList.length=i.size:=by simpa using bW
     have hb:=hr.newBox (d:=d) hL (x:={ b:=w.heap.size,cs:=v.cells.toList,T:=T,cap:=i.size,fz:=false,full:=true }) (m':=m) [] rfl (by simpa using gF) (fun _=>gF) (.inl ⟨rfl,rfl⟩)
     simp only[List.append_nil,Array.toArray_toList]at hb
     have bL:(execOp a.eval ⟨some d,.box T x,type,pos,after,guard⟩).run E.P w=.ok (.value (.pointer (some ⟨w.heap.size,0,none⟩))) (w.alloc (.cells v.cells T (0,0))):=by
      simp[execOp,he,Instr.box,newVar,newRow]
     rw[bL]
     exact hK _ _ _ _ (h2 w.heap.size) (hb.put (some d) hd (by simp[St.den,St.newL]))
 | buildSlice T len parts=>
  simp only[opW]at h
  cases gK:ZcK E dst with
  | some ke=>
   simp only[gK]at h
   cases cF:E.fix with
   | some f=>simp[cF]at h
   | none=>
    simp only[cF,Option.isSome_none,cond_false]at h
    split at h
    ·rename_i hp
     have qQ:parts=#[]:=by rw[←Array.toArray_toList (xs:=parts),hp]
     subst qQ
     obtain⟨S',v,w',hk,bB,_,hx⟩:=ZgJ hE (fun m' e=>by cases e;rfl) hd hr h
     obtain⟨i,e,g1,g2,rfl,rfl⟩:=hx rfl
     have hu:=(hE T i g1).run_und (w:=w)
     rw[g2]at hu
     have bW:∃n,(Go.sizeOf e).run E.P w=.ok n w:=by
      unfold Zlm at h
      cases dst with
      | none=>exact h.elim
      | some d=>
       simp only at h
       cases hs:Zay E T with
       | none=>simp[hs]at h
       | some ej=>
        obtain⟨e',j⟩:=ej
        obtain⟨i',q1,q2,q3⟩:=ZaF hs
        rw[g1]at q1;cases q1
        rw[g2]at q2;cases q2
        exact⟨_,(hE _ j q3).run_size (w:=w)⟩
     obtain⟨n0,bW⟩:=bW
     have bL:(execOp a.eval ⟨dst,.buildSlice T 0 #[],type,pos,after,guard⟩).run E.P w=.ok (.value (.slice (some ⟨w.heap.size,0,none⟩) 0 0)) (w.alloc (.cells #[] e (0,0))):=by
      simp[execOp,Instr.buildSlice,hu,bW,newRow,Instr.fill]
      congr 2
      apply Array.ext'
      simp
     rw[bL]
     exact hK _ _ _ _ hk bB
    ·exact h.elim
  | none=>
  simp only[gK,Zef]at h
  cases dst with
  | none=>exact h.elim
  | some d=>
   simp only at h
   cases ht:E.tt T with
   | none=>simp[ht]at h
   | some t=>
    simp only[ht]at h
    have fQ:=hE T t ht
    cases nX:t.d with
    | slice e=>
     simp only[nX]at h
     cases hi:E.tt e with
     | none=>simp[hi]at h
     | some i=>
      simp only[hi]at h
      have cA:=hE e i hi
      cases hL:S.L d with
      | some x=>simp[hL]at h
      | none=>
       simp only[hL]at h
       obtain⟨h1,h2⟩:=Zae h
       simp only[Bool.and_eq_true,Nat.ble_eq]at h1
       have h3:=ZbQ hr h2
       obtain⟨h4,h5⟩:=Zae h3
       generalize dT:List.map a.eval (List.map (fun x=>x.2) parts.toList)=vs at *
       have bP:parts.toList.length=len:=Nat.eq_of_beq_eq_true h1.2.1
       have iv:vs.length=len:=by rw[←dT];simpa using bP
       have eY:(Zbo vs).length=len*i.size:=by rw[Zmt h4,iv]
       have bR:m.free w.heap.size:=fun o=>by
        cases he:m w.heap.size o with
        | none=>rfl
        | some v=>have:=hr.sub.lt he;omega
       have hb:=hr.newBox (d:=d) hL (x:={ b:=w.heap.size,cs:=Zbo vs,T:=e,cap:=len*i.size,fz:=true,full:=true }) (m':=m.add w.heap.size (Zbo vs)) [] rfl (by simpa using eY) (fun _=>eY) (.inr ⟨rfl,rfl⟩)
       simp only[List.append_nil]at hb
       have hu:=fQ.run_und (w:=w)
       rw[nX]at hu
       have bW:=cA.run_size (w:=w)
       have hz:=cA.run_zero (w:=w)
       have kx:(parts.map fun x=>(x.1,a.eval x.2)).toList=(List.range' 0 vs.length).zip vs:=by
        have e1:=ZgH h1.1
        simp only[List.length_map]at e1
        rw[bP,←iv]at e1
        rw[←e1,←dT,List.map_map,List.zip_map']
        simp
       have gF:i.zero.cells.toList.length=i.size:=by simpa using cA.zsize
       have nY:∀zz:Array Value,((Array.range (len*i.size)).map (fun q=>zz[q % zz.size]!)).toList.length=vs.length*i.size:=fun zz=>by simp[iv]
       have jN:∀zz:Array Value,Instr.fill (fun q=>some (q*i.size,i.size)) ((Array.range (len*i.size)).map (fun q=>zz[q % zz.size]!)) (parts.map fun x=>(x.1,a.eval x.2)).toList=some (Zbo vs).toArray:=fun zz=>by
        have:=ZkA i.size vs 0 [] ((Array.range (len*i.size)).map (fun q=>zz[q % zz.size]!)).toList h4 (by simp) (nY zz)
        rw[kx]
        simpa only[List.nil_append,Array.toArray_toList]using this
       have cI:¬(16777216 < len*i.size):=by omega
       have bL:(execOp a.eval ⟨some d,.buildSlice T len parts,type,pos,after,guard⟩).run E.P w=.ok (.value (.slice (some ⟨w.heap.size,0,none⟩) len len)) (w.alloc (.cells (Zbo vs).toArray e (0,0))):=by
        by_cases h0:len*i.size=0
        ·have:=jN #[]
         simp only[h0]at this
         simp[execOp,Instr.buildSlice,hu,bW,h0,newRow]
         simp at this
         simp[this]
        ·have:=jN i.zero.cells
         simp[execOp,Instr.buildSlice,hu,bW,cI,h0,hz,newRow]
         simp at this
         simp[this]
       rw[bL]
       exact hK _ _ _ _ (h5 w.heap.size bR) (hb.put (some d) hd (by simp[St.den,St.newL]))
    | _=>simp[nX]at h
 | makeSlice T l c=>
  have h':∃S' m' v w',K S' m'∧Rel C S' m' (a.put dst v) w'∧(Instr.makeSlice T (a.eval l) (a.eval c)).run E.P w=.ok v w':=by
   simp only[opW]at h
   cases gK:ZcK E dst with
   | none=>
    simp only[gK]at h
    cases la:ZrB E dst with
    | false=>
     simp only[la,cond_false]at h
     obtain⟨S',v,w',g⟩:=Zmv hE hd hr h
     exact⟨S',m,v,w',g⟩
    | true=>
     simp only[la,cond_true]at h
     cases cF:E.fix with
     | some f=>simp[cF]at h
     | none=>
      simp only[cF,Option.isSome_none,cond_false]at h
      exact Zll hE hd hr h
   | some ke=>
    simp only[gK]at h
    cases cF:E.fix with
    | some f=>simp[cF]at h
    | none=>
     simp only[cF,Option.isSome_none,cond_false]at h
     obtain⟨S',v,w',g1,g2,g3,_⟩:=ZgJ hE (fun m' e=>by cases e) hd hr h
     exact⟨S',m,v,w',g1,g2,g3⟩
  obtain⟨S',m',v,w',hk,bB,bL⟩:=h'
  have dC:(execOp a.eval ⟨dst,.makeSlice T l c,type,pos,after,guard⟩).run E.P w=.ok (.value v) w':=by simp[execOp,bL]
  rw[dC]
  exact hK _ _ _ _ hk bB
 | convert s d x=>
  simp only[opW]at h
  cases iy:ZfZ E s d with
  | false=>
   simp only[iy,cond_false]at h
   cases eS:Zcn E s d with
   | false=>
    simp only[eS,cond_false]at h
    cases lL:Zco E s d with
    | false=>
     simp only[lL,cond_false]at h
     exact ZgO hE hd hr h hK
    | true=>
     simp only[lL,cond_true]at h
     cases cF:E.fix with
     | some f=>simp[cF]at h
     | none=>
      simp only[cF,Option.isSome_none,cond_false]at h
      obtain⟨v,hk,bL⟩:=ZgK hE lL hr h
      have dC:(execOp a.eval ⟨dst,.convert s d x,type,pos,after,guard⟩).run E.P w=.ok (.value v) w:=by simp[execOp,bL]
      rw[dC]
      exact hK _ _ _ _ hk (hr.put dst hd rfl)
   | true=>
    simp only[eS,cond_true]at h
    cases cF:E.fix with
    | some f=>simp[cF]at h
    | none=>
     simp only[cF,Option.isSome_none,cond_false]at h
     obtain⟨S',m',v,w',hk,bB,bL⟩:=Zmw hE eS hd hr h
     have dC:(execOp a.eval ⟨dst,.convert s d x,type,pos,after,guard⟩).run E.P w=.ok (.value v) w':=by simp[execOp,bL]
     rw[dC]
     exact hK _ _ _ _ hk bB
  | true=>
   simp only[iy,cond_true]at h
   cases he:S.ev x with
   | none=>simp[he]at h
   | some sv=>
    cases sv with
    | v u=>simp[he]at h
    | loc id off=>simp[he]at h
    | sl id n' c=>
     simp only[he]at h
     obtain⟨v,h1,h2,h3⟩:=hr.ev_val he
     simp only[St.den]at h1
     cases hL:S.L id with
     | none=>simp[hL]at h1
     | some bx=>
      simp only[hL,Option.some.injEq]at h1
      unfold ZfZ at iy
      cases ht:E.tt s with
      | none=>simp[ht]at iy
      | some i=>
       simp only[ht]at iy
       cases cK:i.d with
       | slice e=>
        simp only[cK,Bool.and_eq_true]at iy
        have qR:s=d:=Nat.eq_of_beq_eq_true iy.1
        subst qR
        cases hj:E.tt e with
        | none=>simp[hj]at iy
        | some j=>
         simp only[hj]at iy
         have hu:=(hE s i ht).run_und (w:=w)
         have km:=(hE e j hj).run_und (w:=w)
         rw[cK]at hu
         obtain⟨sp,fr,hh,hc,hf⟩:=(hr.own id bx hL).cells
         have nO:=ZcW (P:=E.P) bx.b 0 hh
         have bB:=hr.freeze hL _ ⟨_,_,_,hh,rfl⟩
         have gD:j.d=.int .u8:=by
          cases gD:j.d with
          | int kk=>cases kk <;> simp[gD]at iy <;> rfl
          | _=>simp[gD]at iy
         rw[gD]at km
         have bL:(execOp a.eval ⟨dst,.convert s s x,type,pos,after,guard⟩).run E.P w=.ok (.value (.slice (some ⟨bx.b,0,none⟩) n' c)) (w.freeze ⟨bx.b,(bx.cs++sp).toArray.size,none⟩ 1):=by
          simp only[execOp,h3,←h1]
          simp only[convert,Sem.run_bind,hu,Result.andThen_ok,beq_self_eq_true,km,nO,Sem.run_pure]
         rw[bL]
         exact hK _ _ _ _ h (bB.put dst hd (by simp[St.den,hL]))
       | _=>simp[cK]at iy
 | call c=>
  obtain⟨callee,args,argTypes⟩:=c
  cases callee with
  | value f=>
   simp only[opW]at h
   obtain⟨S,m,hr,h⟩:=ZhL hr h
   simp only[Ztu]at h
   cases he:S.ev f with
   | none=>simp[he]at h
   | some sv=>
    obtain⟨v,h1,h2,h3⟩:=hr.ev_val he
    cases sv with
    | v fv=>
     cases fv with
     | func fn first captured=>
      cases fn with
      | func g=>
       simp only[he]at h
       simp only[St.den,Option.some.injEq]at h1
       have qS:Zgw E.P g∧Calls E.P g (first.toList++List.map a.eval args.toList++captured.toList).toArray w fun e w'=>∃v S' m',e=.returned v∧K (S'.put dst (some (.v v))) m'∧Rel C S' m' a w':=by
        cases gU:Zee E dst with
        | some ks=>
         simp only[gU]at h
         cases cF:E.fix with
         | some f=>simp[cF]at h
         | none=>
          simp only[cF,Option.isSome_none,cond_false]at h
          have h4:=ZbQ hr h
          exact Zlq hY hr h4
        | none=>
        simp only[gU]at h
        cases lb:Zrx E dst with
        | true=>
         simp only[lb,cond_true]at h
         cases cF:E.fix with
         | some f=>simp[cF]at h
         | none=>
          simp only[cF,Option.isSome_none,cond_false]at h
          have h4:=ZbQ hr h
          obtain⟨h5,h6⟩:=Zn8 hY hr h4
          refine⟨h5,h6.mono ?_⟩
          rintro e w' ⟨v,gh,rfl,h7,h8⟩
          exact⟨v,_,m,rfl,h7,h8⟩
        | false=>
        simp only[lb,cond_false]at h
        cases gK:ZcK E dst with
        | none=>
         simp only[gK]at h
         have h4:=ZbQ hr h
         exact Zmr hr h4
        | some ke=>
         simp only[gK]at h
         cases cF:E.fix with
         | some f=>simp[cF]at h
         | none=>
          simp only[cF,Option.isSome_none,cond_false]at h
          split at h
          ·have h4:=ZbQ hr h
           exact Zlp hr h4
          ·exact h.elim
       obtain⟨ky,bX⟩:=qS
       have bL:(execOp a.eval ⟨dst,.call ⟨.value f,args,argTypes⟩,type,pos,after,guard⟩).run E.P w=.ok (.enter g (first.toList++List.map a.eval args.toList++captured.toList).toArray) w:=by
        have gL:(first++Array.map a.eval args++captured)=(first.toList++List.map a.eval args.toList++captured.toList).toArray:=Array.ext' (by simp)
        simp only[execOp,resolve,h3,←h1,Deferred.ofValue]
        simp only[Sem.run_bind,Sem.run_pure,Result.andThen_ok,invoke,gL]
        exact ky _ _
       rw[bL]
       refine⟨fun hs=>by rw[hF.depth]at hs;simp at hs,?_⟩
       refine hF.calls (bX.mono ?_)
       rintro e w' ⟨v,S',m',rfl,hk,bB⟩
       exact hK _ _ _ _ hk (bB.put dst hd rfl)
      | yield l=>
       simp only[he]at h
       cases cF:E.fix with
       | some f=>simp[cF]at h
       | none=>
        simp only[cF,Option.isSome_none,cond_false]at h
        cases gu:E.yl with
        | none=>simp[gu]at h
        | some Y=>
         cases mV:first.toList with
         | cons x l=>simp[gu,mV]at h
         | nil=>
          cases nZ:captured.toList with
          | cons x l=>simp[gu,mV,nZ]at h
          | nil=>
           simp only[gu,mV,nZ]at h
           obtain⟨hy,hZ,eG⟩:=ZbQ hr h
           have oa:first=#[]:=by rw[←Array.toArray_toList (xs:=first),mV]
           have oe:captured=#[]:=by rw[←Array.toArray_toList (xs:=captured),nZ]
           subst oa oe
           obtain⟨M,hd'⟩:=hr.dom
           obtain⟨fn,tmps,asg,bdy,lK,fA⟩:=hY.y Y gu F (n - 1) l S.gh _ M w hF hd'.lt hy hd'.p (fun b o v hv=>hr.sub b o v (hr.le b o v hv))
           simp only[St.den,Option.some.injEq]at h1
           have bL:(execOp a.eval ⟨dst,.call ⟨.value f,args,argTypes⟩,type,pos,after,guard⟩).run E.P w=.ok (.round l fn tmps asg bdy) w:=by
            have gL:(#[]++Array.map a.eval args)=(List.map a.eval args.toList).toArray:=Array.ext' (by simp)
            simp only[execOp,resolve,h3,←h1,Deferred.ofValue]
            simp only[Sem.run_bind,Sem.run_pure,Result.andThen_ok,invoke,gL]
            simpa using lK
           rw[bL]
           refine⟨fun hs=>by rw[hF.depth]at hs;simp at hs,fA.mono ?_⟩
           rintro e w' ⟨b,rfl,hp,eQ⟩
           cases b with
           | true=>exact hK _ _ _ _ hZ ((hr.yielded hd' hp eQ).put dst hd rfl)
           | false=>exact hK _ _ _ _ eG ((hr.yielded hd' hp eQ).put dst hd rfl)
      | _=>simp[he]at h
     | _=>simp[he]at h
    | _=>simp[he]at h
  | invoke r m=>exact ZgO hE hd hr h hK
  | builtin b=>
   cases b with
   | append=>
    simp only[opW]at h
    split at h
    ·rename_i s x T xT d hA hT
     obtain⟨S,m,hr,h⟩:=ZhL hr h
     obtain⟨vs,dT,h⟩:=Zaz h
     obtain⟨vx,qT,h⟩:=Zaz h
     have ha:args=#[s,x]:=by rw[←Array.toArray_toList (xs:=args),hA]
     have dP:argTypes=#[T,xT]:=by rw[←Array.toArray_toList (xs:=argTypes),hT]
     subst ha dP
     obtain⟨v,tk,m',w',hk,bB,bL⟩:=Zjs (ty:=type) hE hr h
     have dC:(execOp a.eval ⟨some d,.call ⟨.builtin .append,#[s,x],#[T,xT]⟩,type,pos,after,guard⟩).run E.P w=.ok (.value v) w':=by
      simp[execOp,resolve,invoke,builtin,hr.ev dT,hr.ev qT,bL]
     rw[dC]
     exact hK _ _ _ _ hk (bB.put (some d) hd rfl)
    ·exact h.elim
   | copy=>
    simp only[opW]at h
    split at h
    ·rename_i d s T xT hA hT
     cases hh:ZeN E d with
     | none=>simp[hh]at h
     | some id=>
      simp only[hh]at h
      obtain⟨vd,nQ,h⟩:=Zaz h
      obtain⟨vs,dT,h⟩:=Zaz h
      have ha:args=#[d,s]:=by rw[←Array.toArray_toList (xs:=args),hA]
      have dP:argTypes=#[T,xT]:=by rw[←Array.toArray_toList (xs:=argTypes),hT]
      subst ha dP
      obtain⟨n,S',w',hk,bB,bL⟩:=Zmy (ty:=type) (xT:=xT) hE hr h
      have dC:(execOp a.eval ⟨dst,.call ⟨.builtin .copy,#[d,s],#[T,xT]⟩,type,pos,after,guard⟩).run E.P w=.ok (.value (.int .i64 n)) w':=by
       simp[execOp,resolve,invoke,builtin,hr.ev nQ,hr.ev dT,bL]
      rw[dC]
      exact hK _ _ _ _ hk (bB.put dst hd rfl)
    ·exact h.elim
   | _=>exact ZgO hE hd hr h hK
 | _=>exact ZgO hE hd hr h hK
end
end Go.Eng
namespace Go.Eng
open Go Go.RowKit
mutual
def Shape.ex:Shape→(Value→Prop)→Prop
 | .any,k=>∃v,k v
 | .int ki,k=>∃n:Int,k (.int ki n)
 | .bool,k=>∃b:Bool,k (.bool b)
 | .str,k=>∃s:ByteArray,k (.string s)
 | .slice,k=>∃(a:Option Addr)(n c:Nat),k (.slice a n c)
 | .agg l,k=>Shape.exL l fun vs=>k (.agg vs.toArray)
 | .tup l,k=>Shape.exL l fun vs=>k (.tuple vs.toArray)
 | .fn,k=>∃(g:Nat)(fi ca:List Value),k (.func (.func g) fi.toArray ca.toArray)
 | .cells,k=>∃cs:List Value,k (.agg cs.toArray)
 | .ptr,k=>∃b o:Nat,k (.pointer (some ⟨b,o,none⟩))
def Shape.exL:List Shape→(List Value→Prop)→Prop
 | [],k=>k []
 | s::l,k=>Shape.ex s fun v=>Shape.exL l fun vs=>k (v::vs)
end
mutual
theorem Shape.ex_elim:∀(s:Shape)(k:Value→Prop),s.ex k→∃v,k v
 | .any,k,h=>h
 | .int ki,k,h=>by simp only[Shape.ex]at h;obtain⟨n,h⟩:=h;exact⟨_,h⟩
 | .bool,k,h=>by simp only[Shape.ex]at h;obtain⟨n,h⟩:=h;exact⟨_,h⟩
 | .str,k,h=>by simp only[Shape.ex]at h;obtain⟨n,h⟩:=h;exact⟨_,h⟩
 | .slice,k,h=>by simp only[Shape.ex]at h;obtain⟨a,n,c,h⟩:=h;exact⟨_,h⟩
 | .agg l,k,h=>by
  simp only[Shape.ex]at h
  obtain⟨vs,_,h⟩:=Shape.exL_elim l _ h
  exact⟨_,h⟩
 | .tup l,k,h=>by
  simp only[Shape.ex]at h
  obtain⟨vs,_,h⟩:=Shape.exL_elim l _ h
  exact⟨_,h⟩
 | .fn,k,h=>by simp only[Shape.ex]at h;obtain⟨_,_,_,h⟩:=h;exact⟨_,h⟩
 | .cells,k,h=>by simp only[Shape.ex]at h;obtain⟨_,h⟩:=h;exact⟨_,h⟩
 | .ptr,k,h=>by simp only[Shape.ex]at h;obtain⟨_,_,h⟩:=h;exact⟨_,h⟩
theorem Shape.exL_elim:∀(l:List Shape)(k:List Value→Prop),Shape.exL l k→∃vs,vs.length=l.length∧k vs
 | [],k,h=>⟨[],rfl,h⟩
 | s::l,k,h=>by
  simp only[Shape.exL]at h
  obtain⟨v,h⟩:=Shape.ex_elim s _ h
  obtain⟨vs,hl,h⟩:=Shape.exL_elim l _ h
  exact⟨v::vs,by simp[hl],h⟩
end
def ZdD:Value→Bool
 | .tuple _=>true
 | _=>false
def opG(E:Env)(ops:Array Oper)(o:Oper)(S:St)(m:Mem)(K:St→Mem→Prop):Prop:=match o.guard with
 | none=>opW E S m o K
 | some (j,want)=>match ops.toList[j]? with
  | none=>False
  | some oj=>match oj.dst with
   | none=>False
   | some t=>match S.env t with
    | some (.v v)=>bif ZdD v then K (S.put o.dst (some (.v undef))) m else chk (Zgt v) (match want with
     | true=>br (Zck v) (opW E S m o K) (K (S.put o.dst (some (.v undef))) m)
     | false=>br (Zck v) (K (S.put o.dst (some (.v undef))) m) (opW E S m o K))
    | _=>False
def Zft(ops:Array Oper)(o:Oper):Option Nat:=match o.guard with
 | none=>none
 | some (j,_)=>match ops.toList[j]? with
  | none=>none
  | some oj=>oj.dst
def Zvk(E:Env)(ops:Array Oper)(o:Oper)(S:St)(m:Mem)(K:St→Mem→Prop):Prop:=match Zft ops o with
 | none=>opG E ops o S m K
 | some t=>match S.env t with
  | some (.v v)=>bif ZdD v then opG E ops o S m K else chk (Zgt v) (br (Zck v) (opG E ops o (S.put (some t) (some (.v (.bool true)))) m K) (opG E ops o (S.put (some t) (some (.v (.bool false)))) m K))
  | _=>False
def ZtH(E:Env)(ops:Array Oper):List Nat→(St→Mem→Prop)→St→Mem→Prop
 | [],K,S,m=>K S m
 | i::l,K,S,m=>match ops.toList[i]? with
  | none=>False
  | some o=>Zvk E ops o S m (ZtH E ops l K)
def ZvT(n:Nat)(o:Oper):Bool:=match o.dst with
 | none=>true
 | some d=>Nat.blt d n
def ZkB(n:Nat):List Oper→Bool
 | []=>true
 | o::l=>ZvT n o&&ZkB n l
def Zbd(n:Nat):Code→Bool
 | .region _ ops _=>ZkB n ops.toList
 | .seq a b=>Zbd n a&&Zbd n b
 | .cond _ a b=>Zbd n a&&Zbd n b
 | .block _ a=>Zbd n a
 | .loop a=>Zbd n a
 | .scope a=>Zbd n a
 | .rangeFunc _ ps a b=>ps.toList.all (Nat.blt · n)&&(Zbd n a&&Zbd n b)
 | _=>true
def Zao:List Oper→List Nat
 | []=>[]
 | o::l=>match o.dst with
  | none=>Zao l
  | some d=>d::Zao l
def Zh3:Code→List Nat
 | .region _ ops _=>Zao ops.toList
 | .seq a b=>Zh3 a++Zh3 b
 | .cond _ a b=>Zh3 a++Zh3 b
 | .block _ a=>Zh3 a
 | .loop a=>Zh3 a
 | .scope a=>Zh3 a
 | .rangeFunc _ ps a b=>ps.toList++(Zh3 a++Zh3 b)
 | _=>[]
def ZaJ:Code→Nat
 | .region id _ _=>id
 | .seq a _=>ZaJ a
 | .cond _ a _=>ZaJ a
 | .block _ a=>ZaJ a
 | .loop a=>ZaJ a
 | .scope a=>ZaJ a
 | .rangeFunc _ _ a _=>ZaJ a
 | _=>0
def Zgx(S:St):List (Nat×Shape)→(List Value→Prop)→Prop
 | [],k=>k []
 | (t,sh)::l,k=>wv S (.tmp t) fun v=>chk (sh.fits v) (Zgx S l fun vs=>k (v::vs))
def ZrC(S:St):List Nat→(List (List Value)→Prop)→Prop
 | [],k=>k []
 | id::l,k=>match S.L id with
  | none=>False
  | some x=>ZrC S l fun css=>k (x.cs::css)
def Zqf(S:St)(k:Nat):Value:=match S.tok k with
 | some t=>t.v
 | none=>.slice none 0 0
def Zfu(S:St):List (Nat×Nat)→(List Value→Prop)→Prop
 | [],k=>k []
 | (q,esz)::l,k=>chk (ZbJ (Zqf S q)&&(match S.tok q with
  | some t=>Nat.beq t.esz esz
  | none=>true)) (Zfu S l fun vs=>k (Zqf S q::vs))
def Zbs(e:Nat→Option SV):List (Nat×Shape)→List Value→(Nat→Option SV)
 | (t,_)::l,v::vs=>fun i=>bif Nat.beq i t then some (.v v)else Zbs e l vs i
 | _,_=>e
def ZgA(L:Nat→Option Box):List Nat→List (List Value)→(Nat→Option Box)
 | id::l,cs::css=>fun i=>bif Nat.beq i id then(match L i with
  | some x=>some { x with cs:=cs }
  | none=>none)else ZgA L l css i
 | _,_=>L
def Ze0(tk:Nat→Option Tok):List (Nat×Nat)→List Value→(Nat→Option Tok)
 | (q,esz)::l,v::vs=>fun i=>bif Nat.beq i q then some ⟨v,esz⟩ else Ze0 tk l vs i
 | _,_=>tk
def Zbu(S:St)(ds:List Nat)(A:LoopAnn)(g:Int)(xs:List Value)(css:List (List Value))(tvs:List Value):St:=
 {env:=Zbs (fun i=>bif ds.any (Nat.beq i ·)then none else S.env i) A.slots xs
  L:=ZgA S.L A.boxes css
  ids:=S.ids
  tok:=Ze0 S.tok A.toks tvs
  tkeys:=A.toks.map (·.1)++S.tkeys
  gh:=g }
def ghs(b:Bool)(g:Int)(xs:List Value):List Value:=bif b then .int .i64 g::xs else xs
def Zu4(b:Bool)(g:Int)(k:Int→Prop):Prop:=bif b then ∀y,k y else k g
def ZkC(b:Bool)(x y:Int)(p:Prop):Prop:=bif b then p else match x,y with
 | .ofNat 0,.ofNat 0=>p
 | x,y=>x=y∧p
theorem Zd0{b:Bool}{x y:Int}{p:Prop}(h:ZkC b x y p):(b=false→x=y)∧p:=by
 cases b with
 | true=>exact⟨fun h=>(by cases h),h⟩
 | false=>
  simp only[ZkC,cond_false]at h
  split at h
  ·exact⟨fun _=>rfl,h⟩
  ·exact⟨fun _=>h.1,h.2⟩
theorem ZgP{b:Bool}{g:Int}{k:Int→Prop}(h:Zu4 b g k){y:Int}(hy:b=false→y=g):k y:=by
 cases b with
 | true=>exact h y
 | false=>rw[hy rfl];exact h
def Zmz:List Nat→(List (List Value)→Prop)→Prop
 | [],k=>k []
 | _::l,k=>∀cs,Zmz l fun css=>k (cs::css)
def ZmA:List (Nat×Nat)→(List Value→Prop)→Prop
 | [],k=>k []
 | _::l,k=>∀(a:Option Addr)(n c:Nat),ZmA l fun vs=>k (.slice a n c::vs)
def Zbz(S:St)(A:LoopAnn)(ids:List Nat):List (Option Box):=ids.map fun id=>bif A.boxes.any (Nat.beq id ·)then(match S.L id with
 | some x=>some { x with cs:=[] }
 | none=>none)else S.L id
def ZaZ(S:St)(A:LoopAnn)(ks:List Nat):List (Option Tok):=ks.map fun k=>bif A.toks.any (fun q=>Nat.beq k q.1)then none else S.tok k
def ZlY(a b:List (Option Box))(p:Prop):Prop:=match a,b with
 | [],[]=>p
 | a,b=>a=b∧p
def ZlZ(a b:List (Option Tok))(p:Prop):Prop:=match a,b with
 | [],[]=>p
 | a,b=>a=b∧p
theorem ZcA{a b:List (Option Box)}{p:Prop}:ZlY a b p↔a=b∧p:=by
 unfold ZlY
 split
 ·simp
 ·exact Iff.rfl
theorem ZcB{a b:List (Option Tok)}{p:Prop}:ZlZ a b p↔a=b∧p:=by
 unfold ZlZ
 split
 ·simp
 ·exact Iff.rfl
abbrev KT:=Exit→St→Mem→Prop
def leT(th:Bool)(m m':Mem):Prop:=bif th then True else m.le m'
theorem leT.of{th:Bool}{m m':Mem}(h:m.le m'):leT th m m':=by
 cases th with
 | true=>trivial
 | false=>exact h
theorem leT.refl(th:Bool)(m:Mem):leT th m m:=.of (Mem.le_refl m)
theorem leT.trans{th:Bool}{a b c:Mem}(h:leT th a b)(k:leT th b c):leT th a c:=by
 cases th with
 | true=>trivial
 | false=>exact Mem.le_trans h k
def Env.cold(E:Env):Env:={ E with thaw:=false }
def Zwm(th:Bool)(A:LoopAnn)(ds:List Nat)(body:KT→St→Mem→Prop)(K:KT)(S:St)(m:Mem):Prop:=
 ∃I:List Value→List (List Value)→List Value→Mem→Nat→Prop,
  (Zgx S A.slots fun xs=>ZrC S A.boxes fun css=>Zfu S A.toks fun tvs=>∃n,I (ghs A.gh S.gh xs) css tvs m n)∧
  Zu4 A.gh S.gh fun y=>Shape.allL (A.slots.map (·.2)) fun xs=>Zmz A.boxes fun css=>ZmA A.toks fun tvs=>∀(m':Mem)(n:Nat),leT th m m'→I (ghs A.gh y xs) css tvs m' n→
   body (fun e S' m''=>match e with
    | .normal=>ZkC A.gh S'.gh S.gh (ZlY (Zbz S' A S.ids) (Zbz S A S.ids) (ZlZ (ZaZ S' A S.tkeys) (ZaZ S A S.tkeys) (Zgx S' A.slots fun xs'=>ZrC S' A.boxes fun css'=>Zfu S' A.toks fun tvs'=>∃n',n' < n∧I (ghs A.gh S'.gh xs') css' tvs' m'' n')))
    | e=>K e S' m'') (Zbu S ds A y xs css tvs) m'
def Zxb(th:Bool)(A:LoopAnn)(ds:List Nat)(x y:KT→St→Mem→Prop)(K:KT)(S:St)(m:Mem):Prop:=
 ∃J:List Value→List (List Value)→List Value→Mem→Prop,
  x (fun e S' m'=>match e with
   | .normal=>ZkC A.gh S'.gh S.gh (ZlY (Zbz S' A S.ids) (Zbz S A S.ids) (ZlZ (ZaZ S' A S.tkeys) (ZaZ S A S.tkeys) (Zgx S' A.slots fun xs=>ZrC S' A.boxes fun css=>Zfu S' A.toks fun tvs=>J (ghs A.gh S'.gh xs) css tvs m')))
   | e=>K e S' m') S m∧
  Zu4 A.gh S.gh fun g=>Shape.allL (A.slots.map (·.2)) fun xs=>Zmz A.boxes fun css=>ZmA A.toks fun tvs=>∀m':Mem,leT th m m'→J (ghs A.gh g xs) css tvs m'→y K (Zbu S ds A g xs css tvs) m'
def Zf0:LoopAnn:=⟨[],[],[],false⟩
def Zwn(outs:List (Nat×Shape))(ds:List Nat)(body:(St→Mem→Prop)→St→Mem→Prop)(K:St→Mem→Prop)(S:St)(m:Mem):Prop:=
 Shape.exL (outs.map (·.2)) fun xs=>(body (fun S' _=>ZkC false S'.gh S.gh (ZlY (Zbz S' Zf0 S.ids) (Zbz S Zf0 S.ids) (ZlZ (ZaZ S' Zf0 S.tkeys) (ZaZ S Zf0 S.tkeys) (Zgx S' outs fun xs'=>xs'=xs)))) S m)∧
  K { S with env:=Zbs (fun i=>bif ds.any (Nat.beq i ·)then none else S.env i) outs xs } m
def IX(P:Program)(g:FuncId)(first captured:List Value)(m:Mem)(xs:List (List Value)):Prop:=
 Zgw P g∧∀(p:Int→(Nat→Prop)→World→Prop),ZtL p→∀(l:Nat)(w:World),Sub m w→p 0 (fun _=>False) w→
  Zkx P m p (fun l' g v=>l'=l∧0≤g∧xs[g.toNat]?=some v)→
  Calls P g (first++.func (.yield l) #[] #[]::captured).toArray w fun e w'=>∃v M,e=.returned v∧(∀k,M k→k < w'.heap.size)∧(p xs.length M w'∨p (-1) M w')
def Zlr:List Nat→List Nat→Bool
 | [],[]=>true
 | a::l,b::l'=>Nat.beq a b&&Zlr l l'
 | _,_=>false
def ZmB(K:KT)(e:Exit)(S:St)(m:Mem):Prop:=match e with
 | .ret=>K .ret S m
 | .exit id=>K (.exit id) S m
 | .goto l=>K (.goto l) S m
 | _=>False
def Zwo(th:Bool)(m:Mem)(k:Mem→Prop):Prop:=bif th then ∃mi,Mem.le mi m∧k mi else k m
def Zwf(th:Bool)(mi m:Mem)(p:Prop):Prop:=bif th then(mi.le m∧p)else p
theorem Zqg{th:Bool}{m:Mem}{k:Mem→Prop}(h:Zwo th m k):∃mi:Mem,mi.le m∧(th=false→mi=m)∧k mi:=by
 cases th with
 | true=>obtain⟨mi,h1,h2⟩:=h;exact⟨mi,h1,fun e=>(by cases e),h2⟩
 | false=>exact⟨m,Mem.le_refl m,fun _=>rfl,h⟩
theorem Zqh{th:Bool}{mi m:Mem}{p:Prop}(h:Zwf th mi m p):(th=true→mi.le m)∧p:=by
 cases th with
 | true=>exact⟨fun _=>h.1,h.2⟩
 | false=>exact⟨fun e=>(by cases e),h⟩
theorem Zqi{th:Bool}{m:Mem}{k k':Mem→Prop}(h:∀mi:Mem,mi.le m→(th=false→mi=m)→k mi→k' mi)(hx:Zwo th m k):Zwo th m k':=by
 cases th with
 | true=>obtain⟨mi,h1,h2⟩:=hx;exact⟨mi,h1,h mi h1 (fun e=>(by cases e)) h2⟩
 | false=>exact h m (Mem.le_refl m) (fun _=>rfl) hx
theorem Zqj{th:Bool}{mi m:Mem}{p q:Prop}(h:p→q)(hx:Zwf th mi m p):Zwf th mi m q:=by
 cases th with
 | true=>exact⟨hx.1,h hx.2⟩
 | false=>exact h hx
def ZmC(th:Bool)(P:Program)(A:LoopAnn)(f:Operand)(ps:List Nat)(assign body:KT→St→Mem→Prop)(K:KT)(S:St)(m:Mem):Prop:=match S.ev f with
 | some (.v (.func (.func g) first captured))=>chk (Zlr ps (A.slots.map (·.1))&&Za0 ps) (Zwo th m fun mi=>∃xs:List (List Value),IX P g first.toList captured.toList mi xs∧(∀x∈xs,Shape.fitsL (A.slots.map (·.2)) x=true)∧
   ∃I:List Value→List (List Value)→List Value→Mem→Nat→Prop,
    (ZrC S A.boxes fun css=>Zfu S A.toks fun tvs=>I (ghs A.gh S.gh []) css tvs m 0)∧
    (Zu4 A.gh S.gh fun y=>Shape.allL (A.slots.map (·.2)) fun x=>Zmz A.boxes fun css=>ZmA A.toks fun tvs=>∀(m':Mem)(n:Nat),mi.le m'→xs[n]?=some x→I (ghs A.gh y []) css tvs m' n→
     assign (fun e S1 m1=>match e with
      | .normal=>body (fun e S' m''=>Zwf th mi m'' (ZkC A.gh S'.gh S.gh (ZlY (Zbz S' A S.ids) (Zbz S A S.ids) (ZlZ (ZaZ S' A S.tkeys) (ZaZ S A S.tkeys) (ZrC S' A.boxes fun css'=>Zfu S' A.toks fun tvs'=>match e with
       | .normal=>I (ghs A.gh S'.gh []) css' tvs' m'' (n+1)
       | e=>ZmB K e (Zbu S [] { A with slots:=[] } S'.gh [] css' tvs') m''))))) S1 m1
      | _=>False) (Zbu S [] A y x css tvs) m')∧
    (Zu4 A.gh S.gh fun y=>Zmz A.boxes fun css=>ZmA A.toks fun tvs=>∀m':Mem,mi.le m'→I (ghs A.gh y []) css tvs m' xs.length→K .normal (Zbu S [] { A with slots:=[] } y [] css tvs) m'))
 | _=>False
def Mem.cutA(m:Mem)(a:Option Addr)(o:Nat):Mem:=match a with
 | some ⟨b,_,_⟩=>fun b' o'=>if b'=b∧o≤o' then none else m b' o'
 | none=>m
def Mem.addA(m:Mem)(a:Option Addr)(o:Nat)(zs:List Value):Mem:=match a with
 | some ⟨b,o0,_⟩=>m.addAt b (o0+o) zs
 | none=>m
def ZwW(m m0:Mem)(esz:Nat)(a:Option Addr)(n c:Nat):Prop:=
 (a=none∧n=0∧c=0)∨∃b,a=some ⟨b,0,none⟩∧n≤c∧0 < c*esz∧(∀o,o < c*esz→∃v,m b o=some v)∧m0.free b
def ZtO(E:Env)(kz:Option (Nat×Nat))(f:(St→Mem→Prop)→St→Mem→Prop)(K:St→Mem→Prop)(S:St)(m:Mem):Prop:=match kz with
 | none=>f K S m
 | some (key,esz)=>chk (E.thaw&&E.fix.isNone) (match E.m0 with
  | none=>False
  | some m0=>∃(a:Option Addr)(n c:Nat),ZwW m m0 esz a n c∧(∀b,(Tok.mk (.slice a n c) esz).blk=some b→nfz S b S.ids (ntk S b [key] S.tkeys))∧
    f (fun S' m'=>match S'.tok key with
     | none=>False
     | some t=>chk (ZbJ t.v) (∀zs:List Value,zs.length=(slC t.v - slN t.v)*t.esz→K { S' with tok:=fun k=>bif Nat.beq k key then none else S'.tok k } (m'.addA (slA t.v) (slN t.v*t.esz) zs)))
     {S with tok:=fun k=>bif Nat.beq k key then some ⟨.slice a n c,esz⟩ else S.tok k,tkeys:=key::S.tkeys } (m.cutA a (n*esz)))
def W(E:Env)(ZaV:Nat→Array Oper→(St→Mem→Prop)→St→Mem→Prop):Code→KT→St→Mem→Prop
 | .skip,K,S,m=>K .normal S m
 | .label _,K,S,m=>K .normal S m
 | .region id ops draw,K,S,m=>match E.joins id with
  | none=>bif draw then ZaV id ops (K .normal) S m else ZtO E (E.acq id) (ZtH E ops (List.range ops.size)) (K .normal) S m
  | some outs=>Zwn outs (Zao ops.toList) (fun k S m=>bif draw then(bif E.last id then False else ZaV id ops k S m)else ZtH E.cold ops (List.range ops.size) k S m) (K .normal) S m
 | .seq x y,K,S,m=>match E.cuts (ZaJ y)with
  | none=>W E ZaV x (fun e S' m'=>match e with
   | .normal=>W E ZaV y K S' m'
   | e=>K e S' m') S m
  | some A=>Zxb E.thaw A (Zh3 x) (W E ZaV x) (W E ZaV y) K S m
 | .cond c x y,K,S,m=>wv S c fun v=>chk (Zgt v) (br (Zck v) (W E ZaV x K S m) (W E ZaV y K S m))
 | .block id x,K,S,m=>W E ZaV x (fun e S' m'=>match e with
  | .exit id'=>bif Nat.beq id' id then K .normal S' m' else K (.exit id') S' m'
  | e=>K e S' m') S m
 | .loop x,K,S,m=>Zwm E.thaw (E.loops (ZaJ x)) (Zh3 x) (W E ZaV x) K S m
 | .exit id,K,S,m=>K (.exit id) S m
 | .ret,K,S,m=>K .ret S m
 | .rangeFunc f ps x y,K,S,m=>ZmC E.thaw E.P (E.loops (ZaJ y)) f ps.toList (W E ZaV x) (W E ZaV y) K S m
 | .scope x,K,S,m=>W E ZaV x (fun e S' m'=>match e with
  | .goto _=>False
  | e=>K e S' m') S m
 | _,_,_,_=>False
section
variable {C:Ctx} {S:St} {m:Mem} {a:Act} {w:World}
theorem Zde{E:Env}(hE:E.ok){F:Fence}(hF:FOk F)(hY:YOk E C){ops:Array Oper}{o:Oper}(hd:∀t,o.dst=some t→t < C.n)(hr:Rel C S m a w){K:St→Mem→Prop}(h:opG E ops o S m K){n:Nat}{next:Act→World→Prop}{Q:Exit→Act→World→Prop}
  (hK:∀S' m' a' w',K S' m'→Rel C S' m' a' w'→next a' w'):
  if Region.wanted o (yielded ops a.tmps)then o.wpIn F n E.P a w next Q else(∀f,o.about E.P w a.eval=some f→F.fn f)∧next (a.put o.dst undef) w:=by
 have p6:opW E S m o K→o.wpIn F n E.P a w next Q:=fun hh=>by
  have gX:∀c,o.op≠.defer c:=fun c e=>by
   obtain⟨dst,op,type,pos,after,guard⟩:=o
   simp only at e;subst e
   simp[opW,Zcs]at hh
  refine⟨fun f _=>hF.fn f,?_⟩
  rw[Oper.semAt_eq _ _ _ gX]
  exact Zqe hE hF hY hd hr hh hK
 have jp:K (S.put o.dst (some (.v undef))) m→(∀f,o.about E.P w a.eval=some f→F.fn f)∧next (a.put o.dst undef) w:=fun hh=>
  ⟨fun f _=>hF.fn f,hK _ _ _ _ hh (hr.put o.dst hd rfl)⟩
 unfold opG at h
 cases hg:o.guard with
 | none=>
  simp only[hg]at h
  simp only[Region.wanted,hg,if_true]
  exact p6 h
 | some jw=>
  obtain⟨j,want⟩:=jw
  simp only[hg]at h
  cases hj:ops.toList[j]? with
  | none=>simp[hj]at h
  | some oj=>
   simp only[hj]at h
   have hj':ops[j]?=some oj:=by simpa using hj
   cases ht:oj.dst with
   | none=>simp[ht]at h
   | some t=>
    simp only[ht]at h
    cases he:S.env t with
    | none=>simp[he]at h
    | some sv=>
     cases sv with
     | loc id off=>simp[he]at h
     | sl id n' c=>simp[he]at h
     | v v=>
      simp only[he]at h
      obtain⟨v',h1,h2⟩:=hr.env t _ he
      simp only[St.den,Option.some.injEq]at h1
      subst h1
      cases hu:ZdD v with
      | true=>
       simp only[hu,cond_true]at h
       have:Region.wanted o (yielded ops a.tmps)=false:=by
        cases v <;> simp[ZdD]at hu
        simp[Region.wanted,hg,yielded,hj',ht,h2]
       simp only[this,Bool.false_eq_true,if_false]
       exact jp h
      | false=>
       simp only[hu,cond_false]at h
       obtain⟨h3,h4⟩:=Zae h
       obtain⟨b,rfl⟩:∃b,v=.bool b:=⟨_,Zbt h3⟩
       have hw:Region.wanted o (yielded ops a.tmps)=(b == want):=by
        simp[Region.wanted,hg,yielded,hj',ht,h2]
       rw[hw]
       simp only[Zck]at h4
       cases b <;> cases want <;> simp only[br]at h4 <;> simp <;> first
        | exact p6 h4
        | exact jp h4
theorem Rel.refine{t:Nat}{v:Value}(hr:Rel C S m a w)(he:S.env t=some (.v v)):Rel C (S.put (some t) (some (.v v))) m a w:=by
 have:S.put (some t) (some (.v v))=S:=by
  unfold St.put
  have:(fun i=>bif Nat.beq i t then some (SV.v v)else S.env i)=S.env:=by
   funext i
   by_cases hi:i=t
   ·subst hi;simp[he]
   ·simp[Zam hi]
  simp only[this]
 rw[this];exact hr
theorem ZhO{E:Env}(hE:E.ok){F:Fence}(hF:FOk F)(hY:YOk E C){ops:Array Oper}{o:Oper}(hd:∀t,o.dst=some t→t < C.n)(hr:Rel C S m a w){K:St→Mem→Prop}(h:Zvk E ops o S m K){n:Nat}{next:Act→World→Prop}{Q:Exit→Act→World→Prop}
  (hK:∀S' m' a' w',K S' m'→Rel C S' m' a' w'→next a' w'):
  if Region.wanted o (yielded ops a.tmps)then o.wpIn F n E.P a w next Q else(∀f,o.about E.P w a.eval=some f→F.fn f)∧next (a.put o.dst undef) w:=by
 unfold Zvk at h
 split at h
 ·exact Zde hE hF hY hd hr h hK
 ·rename_i t _
  split at h
  ·rename_i v he
   cases hu:ZdD v with
   | true=>simp only[hu,cond_true]at h;exact Zde hE hF hY hd hr h hK
   | false=>
    simp only[hu,cond_false]at h
    obtain⟨h1,h2⟩:=Zae h
    obtain⟨b,rfl⟩:∃b,v=.bool b:=⟨_,Zbt h1⟩
    have eV:=hr.refine he
    cases b
    ·exact Zde hE hF hY hd eV h2 hK
    ·exact Zde hE hF hY hd eV h2 hK
  ·exact h.elim
theorem Zcp{n:Nat}:∀{l:List Oper},ZkB n l=true→∀(i:Nat) o,l[i]?=some o→∀t,o.dst=some t→t < n
 | [],_,i,o,h,_,_=>by simp at h
 | x::l,hl,i,o,h,t,ht=>by
  simp only[ZkB,Bool.and_eq_true]at hl
  cases i with
  | zero=>
   simp at h;subst h
   simp[ZvT,ht]at hl
   exact hl.1
  | succ i=>exact Zcp hl.2 i o (by simpa using h) t ht
theorem ZhP{E:Env}(hE:E.ok){F:Fence}(hF:FOk F)(hY:YOk E C){ops:Array Oper}(bA:ZkB C.n ops.toList=true){n:Nat}{Q:Exit→Act→World→Prop}:∀(l:List Nat){K:St→Mem→Prop}{S:St}{m:Mem}{a:Act}{w:World},Rel C S m a w→ZtH E ops l K S m→
  (∀S' m' a' w',K S' m'→Rel C S' m' a' w'→Q .normal a' w')→wpOpsIn F n E.P ops Q l a w
 | [],K,S,m,a,w,hr,h,hK=>hK _ _ _ _ h hr
 | i::l,K,S,m,a,w,hr,h,hK=>by
  simp only[ZtH]at h
  cases ho:ops.toList[i]? with
  | none=>simp[ho]at h
  | some o=>
   simp only[ho]at h
   have ho':ops[i]?=some o:=by simpa using ho
   have:=ZhO hE hF hY (Zcp bA i o ho) hr h (n:=n) (Q:=Q) (next:=wpOpsIn F n E.P ops Q l) (fun S' m' a' w' hk bB=>ZhP hE hF hY bA l bB hk hK)
   simp only[wpOpsIn,ho']
   exact this
end
end Go.Eng
namespace Go.Eng
open Go Go.RowKit
def SameOut(ds:List Nat)(S S':St):Prop:=∀i,i ∉ ds→S'.env i=S.env i
theorem SameOut.refl(ds:List Nat)(S:St):SameOut ds S S:=fun _ _=>rfl
theorem SameOut.trans{ds:List Nat}{a b c:St}(h:SameOut ds a b)(k:SameOut ds b c):SameOut ds a c:=fun i hi=>(k i hi).trans (h i hi)
theorem SameOut.mono{ds ds':List Nat}{a b:St}(h:SameOut ds a b)(k:∀i,i∈ds→i∈ds'):SameOut ds' a b:=fun i hi=>h i (fun hm=>hi (k i hm))
theorem SameOut.put{ds:List Nat}{S S':St}(h:SameOut ds S S'){d:Option Tmp}(hd:∀t,d=some t→t∈ds)(x:Option SV):SameOut ds S (S'.put d x):=by
 cases d with
 | none=>exact h
 | some d=>
  intro i hi
  have cU:i≠d:=fun e=>hi (e ▸ hd d rfl)
  simp[St.put,Zam cU,h i hi]
theorem ZgQ{b:Bool}{p q p' q':Prop}(h:p→p')(k:q→q')(x:br b p q):br b p' q':=by
 cases b
 ·exact k x
 ·exact h x
theorem Zag{b:Bool}{p p':Prop}(h:p→p')(x:chk b p):chk b p':=ZgQ h id x
theorem ZaA{S:St}{x:Operand}{k k':Value→Prop}(h:∀v,k v→k' v)(hx:wv S x k):wv S x k':=by
 unfold wv at *
 split at hx
 ·exact h _ hx
 ·exact hx
theorem Zcc{S:St}:∀{l:List Operand} {k k':List Value→Prop},(∀v,k v→k' v)→wvs S l k→wvs S l k'
 | [],k,k',h,hx=>h _ hx
 | x::l,k,k',h,hx=>ZaA (fun v hv=>Zcc (fun vs dT=>h _ dT) hv) hx
theorem ZgR{l:List Value}{n:Nat}{k k':Value→Prop}(h:∀v,k v→k' v)(hx:Zrt l n k):Zrt l n k':=by
 unfold Zrt at *
 split at hx
 ·exact h _ hx
 ·exact hx
theorem Zo4:∀{n:Nat} {k k':List Value→Prop},(∀v,k v→k' v)→exN n k→exN n k'
 | 0,k,k',h,hx=>h _ hx
 | n+1,k,k',h,⟨v,hx⟩=>⟨v,Zo4 (fun l hl=>h _ hl) hx⟩
theorem allL_mono:∀{n:Nat} {k k':List (List Value)→Prop},(∀v,k v→k' v)→allL n k→allL n k'
 | 0,k,k',h,hx=>h _ hx
 | n+1,k,k',h,hx=>fun cs=>allL_mono (fun l hl=>h _ hl) (hx cs)
mutual
theorem Shape.all_mono:∀(s:Shape){k k':Value→Prop},(∀v,k v→k' v)→s.all k→s.all k'
 | .any,k,k',h,hx=>by simp only[Shape.all]at *;exact fun v=>h _ (hx v)
 | .int ki,k,k',h,hx=>by simp only[Shape.all]at *;exact fun v=>h _ (hx v)
 | .bool,k,k',h,hx=>by simp only[Shape.all]at *;exact fun v=>h _ (hx v)
 | .str,k,k',h,hx=>by simp only[Shape.all]at *;exact fun v=>h _ (hx v)
 | .slice,k,k',h,hx=>by simp only[Shape.all]at *;exact fun a n c=>h _ (hx a n c)
 | .agg l,k,k',h,hx=>by simp only[Shape.all]at *;exact Shape.allL_mono l (fun vs dT=>h _ dT) hx
 | .tup l,k,k',h,hx=>by simp only[Shape.all]at *;exact Shape.allL_mono l (fun vs dT=>h _ dT) hx
 | .fn,k,k',h,hx=>by simp only[Shape.all]at *;exact fun g fi ca=>h _ (hx g fi ca)
 | .cells,k,k',h,hx=>by simp only[Shape.all]at *;exact fun cs=>h _ (hx cs)
 | .ptr,k,k',h,hx=>by simp only[Shape.all]at *;exact fun b o=>h _ (hx b o)
theorem Shape.allL_mono:∀(l:List Shape){k k':List Value→Prop},(∀v,k v→k' v)→Shape.allL l k→Shape.allL l k'
 | [],k,k',h,hx=>by simp only[Shape.allL]at *;exact h _ hx
 | s::l,k,k',h,hx=>by simp only[Shape.allL]at *;exact Shape.all_mono s (fun v hv=>Shape.allL_mono l (fun vs dT=>h _ dT) hv) hx
end
mutual
theorem Shape.ex_mono:∀(s:Shape){k k':Value→Prop},(∀v,k v→k' v)→s.ex k→s.ex k'
 | .any,k,k',h,hx=>by simp only[Shape.ex]at *;obtain⟨v,hx⟩:=hx;exact⟨v,h _ hx⟩
 | .int ki,k,k',h,hx=>by simp only[Shape.ex]at *;obtain⟨v,hx⟩:=hx;exact⟨v,h _ hx⟩
 | .bool,k,k',h,hx=>by simp only[Shape.ex]at *;obtain⟨v,hx⟩:=hx;exact⟨v,h _ hx⟩
 | .str,k,k',h,hx=>by simp only[Shape.ex]at *;obtain⟨v,hx⟩:=hx;exact⟨v,h _ hx⟩
 | .slice,k,k',h,hx=>by simp only[Shape.ex]at *;obtain⟨a,n,c,hx⟩:=hx;exact⟨a,n,c,h _ hx⟩
 | .agg l,k,k',h,hx=>by simp only[Shape.ex]at *;exact Shape.exL_mono l (fun vs dT=>h _ dT) hx
 | .tup l,k,k',h,hx=>by simp only[Shape.ex]at *;exact Shape.exL_mono l (fun vs dT=>h _ dT) hx
 | .fn,k,k',h,hx=>by simp only[Shape.ex]at *;obtain⟨g,fi,ca,hx⟩:=hx;exact⟨g,fi,ca,h _ hx⟩
 | .cells,k,k',h,hx=>by simp only[Shape.ex]at *;obtain⟨cs,hx⟩:=hx;exact⟨cs,h _ hx⟩
 | .ptr,k,k',h,hx=>by simp only[Shape.ex]at *;obtain⟨b,o,hx⟩:=hx;exact⟨b,o,h _ hx⟩
theorem Shape.exL_mono:∀(l:List Shape){k k':List Value→Prop},(∀v,k v→k' v)→Shape.exL l k→Shape.exL l k'
 | [],k,k',h,hx=>by simp only[Shape.exL]at *;exact h _ hx
 | s::l,k,k',h,hx=>by simp only[Shape.exL]at *;exact Shape.ex_mono s (fun v hv=>Shape.exL_mono l (fun vs dT=>h _ dT) hv) hx
end
theorem Zqk{op:BinOp}{k:IntKind}{a b:Int}{r r':Value→Prop}(h:∀v,r v→r' v)(x:ZuY op k a b r):ZuY op k a b r':=by
 cases op <;> simp only[ZuY]at * <;> first
  | exact h _ x
  | exact⟨x.1,h _ x.2⟩
  | exact x
theorem ZmD{op:BinOp}{k:IntKind}{a b:Int}{r r':Value→Prop}(h:∀v,r v→r' v)(x:Zjl op k a b r):Zjl op k a b r':=by
 cases op <;> simp only[Zjl]at * <;> first
  | exact⟨x.1,h _ x.2⟩
  | exact x
theorem Zql{op:BinOp}{a b:ByteArray}{r r':Value→Prop}(h:∀v,r v→r' v)(x:ZuZ op a b r):ZuZ op a b r':=by
 cases op <;> simp only[ZuZ]at * <;> first
  | exact h _ x
  | exact⟨x.1,h _ x.2⟩
  | exact x
theorem Zju{op:BinOp}{b:Bool}{r r':Value→Prop}(h:∀v,r v→r' v)(x:Zru op b r):Zru op b r':=by
 cases op <;> simp only[Zru]at * <;> first
  | exact h _ x
  | exact x
theorem ZmE{E:Env}{op:BinOp}{T:TypeId}{x y:Value}{r r':Value→Prop}(h:∀v,r v→r' v)(hx:ZuU E op T x y r):ZuU E op T x y r':=by
 unfold ZuU at *
 cases ht:E.tt T with
 | none=>simp[ht]at hx
 | some i=>
  simp only[ht]at *
  cases hd:i.d <;> simp only[hd]at * <;> first
   | exact hx.elim
   | exact Zag (fun y=>Zql h y) hx
   | exact Zag (Zju h) hx
   | exact Zag (fun⟨b,hb,y⟩=>⟨b,hb,Zju h y⟩) hx
   | (cases hs:ZiL op <;> simp only[hs,cond_true,cond_false]at * <;> first
     | exact Zag (Zqk h) hx
     | exact Zag (ZmD h) hx)
theorem ZkD{place:Nat→Option (Nat×Nat)}:∀{parts:List (Nat×Value)} {cs:List Value} {k k':List Value→Prop},(∀v,k v→k' v)→ZlW place cs parts k→ZlW place cs parts k'
 | [],cs,k,k',h,hx=>h _ hx
 | (i,v)::rest,cs,k,k',h,hx=>by
  simp only[ZlW]at *
  cases hp:place i with
  | none=>simp[hp]at hx
  | some os=>simp only[hp]at *;exact Zag (ZkD h) hx
theorem Zbl{x:Option Value}{d y:Nat}{r r':Nat→Prop}(h:∀v,r v→r' v)(hx:ZgE x d y r):ZgE x d y r':=by
 cases x with
 | none=>exact h _ hx
 | some v=>exact Zag (fun⟨a,b⟩=>⟨a,h _ b⟩) hx
theorem Zjv{S:St}{x:Option Operand}{r r':Option Value→Prop}(h:∀v,r v→r' v)(hx:Zu1 S x r):Zu1 S x r':=by
 cases x with
 | none=>exact h _ hx
 | some v=>exact ZaA (fun v hv=>h _ hv) hx
theorem ZiP{E:Env}{T:TypeId}{v:Value}{lo hi mx:Option Value}{r r':Value→Prop}(h:∀v,r v→r' v)(hx:Zh8 E T v lo hi mx r):Zh8 E T v lo hi mx r':=by
 unfold Zh8 at *
 cases he:ZhI E T with
 | some sz=>simp only[he]at *;exact Zag (fun y=>Zbl (fun m y=>Zbl (fun h' y=>Zbl (fun l y=>Zag (h _) y) y) y) y) hx
 | none=>
  simp only[he]at *
  cases hs:ZeM E T <;> simp only[hs,cond_true,cond_false]at *
  exact Zag (fun y=>Zbl (fun h' y=>Zbl (fun l y=>h _ y) y) y) hx
theorem ZkE{E:Env}{S:St}{o:Oper}{k k':SV→Prop}(h:∀v,k v→k' v)(hx:Zcs E S o k):Zcs E S o k':=by
 obtain⟨dst,op,type,pos,after,guard⟩:=o
 cases op <;> simp only[Zcs]at * <;> try exact hx.elim
 case unOp op T x=>
  refine ZaA (fun v y=>?_) hx
  cases op <;> simp only at *
  ·split at y <;> first|exact Zag (h _) y|exact y.elim
  ·split at y <;> first|exact Zag (h _) y|exact y.elim
  ·exact Zag (h _) y
 case binOp=>exact ZaA (fun v y=>ZaA (fun v' y=>ZmE (fun r y=>h _ y) y) y) hx
 case convert=>
  refine ZaA (fun v y=>?_) hx
  unfold Zp8 at *
  (repeat' split at y) <;> first|exact y.elim|exact Zag (h _) y
 case makeFunc=>exact Zcc (fun v y=>Zcc (fun v' y=>h _ y) y) hx
 case fieldAddr=>
  (repeat' split at hx) <;> first|exact hx.elim|exact h _ hx|exact Zag (h _) hx
 case indexAddr=>
  refine ZaA (fun v y=>Zag (fun y=>?_) y) hx
  split at y
  ·exact y.elim
  ·refine⟨y.1,?_⟩
   have y2:=y.2
   (repeat' split at y2) <;> first|exact y2.elim|exact h _ y2|exact Zag (h _) y2
  ·(repeat' split at y) <;> first
    | exact y.elim
    | exact⟨y.1,h _ y.2⟩
    | exact Zag (fun⟨b,o,h1,h2,h3⟩=>⟨b,o,h1,h2,h _ h3⟩) y
 case index=>
  refine ZaA (fun v y=>ZaA (fun v' y=>Zag (fun y=>?_) y) y) hx
  cases hs:ZeM E _ <;> simp only[hs,cond_true,cond_false]at *
  ·split at y
   ·exact Zag (fun⟨a,b⟩=>⟨a,ZgR (fun u hu=>h _ hu) b⟩) y
   ·exact y.elim
  ·exact Zag (fun⟨a,b⟩=>⟨a,h _ b⟩) y
 case build=>
  split at hx
  ·exact hx.elim
  ·exact Zcc (fun vs y=>ZkD (fun r y=>h _ y) y) hx
 case extract=>exact ZaA (fun v y=>Zag (fun y=>ZgR (fun u hu=>h _ hu) y) y) hx
 case makeInterface=>exact ZaA (fun v y=>Zag (h _) y) hx
 case nilCheck=>(repeat' split at hx) <;> first|exact hx.elim|exact h _ hx|exact Zag (h _) hx
 case slice=>exact ZaA (fun v y=>Zjv (fun l y=>Zjv (fun h' y=>Zjv (fun m y=>ZiP (fun r y=>h _ y) y) y) y) y) hx
 case call c=>
  split at hx
  ·split at hx
   ·refine ZaA (fun v y=>?_) hx
    unfold Zvi at *
    (repeat' split at y) <;> first|exact y.elim|exact Zag (h _) y|exact h _ y
   ·exact hx.elim
  ·split at hx
   ·refine ZaA (fun v y=>ZaA (fun v' y=>?_) y) hx
    split at y
    ·exact Zag (h _) y
    ·exact y.elim
   ·exact hx.elim
  ·split at hx
   ·refine ZaA (fun v y=>ZaA (fun v' y=>?_) y) hx
    split at y
    ·exact Zag (h _) y
    ·exact y.elim
   ·refine ZaA (fun v y=>ZaA (fun v' y=>ZaA (fun v'' y=>?_) y) y) hx
    split at y
    ·exact Zag (h _) y
    ·exact y.elim
   ·exact hx.elim
  ·exact hx.elim
end Go.Eng
namespace Go.Eng
open Go Go.RowKit
def dl(d:Option Tmp):List Nat:=match d with
 | none=>[]
 | some t=>[t]
theorem Zvl{d:Option Tmp}{t:Nat}(h:d=some t):t∈dl d:=by subst h;simp[dl]
theorem Zcg(S:St)(d:Option Tmp)(x:Option SV):SameOut (dl d) S (S.put d x):=(SameOut.refl _ S).put (fun t ht=>Zvl ht) x
theorem ZcX{ds:List Nat}{S S':St}(h:S'.env=S.env):SameOut ds S S':=fun i _=>by rw[h]
theorem ZgS{i:TI}{m:Mem}{b o:Nat}{k k':Value→Prop}(h:∀v,k v→k' v)(hx:Zcx i m b o k):Zcx i m b o k':=by
 unfold Zcx at *
 cases ha:i.agg <;> simp only[ha,cond_true,cond_false]at *
 ·obtain⟨v,h1,h2⟩:=hx;exact⟨v,h1,h _ h2⟩
 ·cases hb:Nat.ble i.size 16 <;> simp only[hb,cond_true,cond_false]at *
  ·obtain⟨vs,h1,h2,h3⟩:=hx;exact⟨vs,h1,h2,h _ h3⟩
  ·exact Zo4 (fun vs ⟨a,b⟩=>⟨a,h _ b⟩) hx
theorem Zdf{i:TI}{x:Box}{off:Nat}{k k':Value→Prop}(h:∀v,k v→k' v)(hx:Zce i x off k):Zce i x off k':=by
 unfold Zce at *
 cases ha:i.agg <;> simp only[ha,cond_true,cond_false]at *
 ·exact ZgR h hx
 ·cases hb:(x.full&&(Nat.beq x.cap i.size&&Nat.beq off 0)) <;> simp only[hb,cond_true,cond_false]at *
  ·exact Zag (h _) hx
  ·exact h _ hx
theorem Zfv{E:Env}{S:St}{m:Mem}{T:TypeId}{x:Operand}{k k':Value→Prop}(h:∀v,k v→k' v)(hx:Zfs E S m T x k):Zfs E S m T x k':=by
 unfold Zfs at *
 split at hx
 ·exact hx.elim
 ·split at hx
  ·split at hx
   ·exact hx.elim
   ·exact Zdf h hx
  ·split at hx
   ·exact Zag (ZgS h) hx
   ·split at hx
    ·exact hx.elim
    ·exact Zag (fun⟨a,b⟩=>⟨a,Zdf h b⟩) hx
  ·exact hx.elim
theorem ZkF{E:Env}{S:St}{m:Mem}{T:TypeId}{id:Nat}{vd vs:Value}{k k':Int→St→Prop}(h:∀n S',S'.env=S.env→k n S'→k' n S')(hx:ZnW E S m T id vd vs k):ZnW E S m T id vd vs k':=by
 unfold ZnW at *
 split at hx
 ·exact hx.elim
 ·split at hx
  ·exact hx.elim
  ·exact Zag (fun g hf=>by
   obtain⟨o,xs,h1,h2,h3,h4,h5,h6⟩:=g hf
   exact⟨o,xs,h1,h2,h3,h4,h5,h _ _ rfl h6⟩) hx
theorem Zf1{E:Env}{S:St}{T:TypeId}{x:Operand}{v:Value}{k k':St→Prop}(h:∀S',S'.env=S.env→k S'→k' S')(hx:Zgv E S T x v k):Zgv E S T x v k':=by
 unfold Zgv at *
 split at hx
 ·exact hx.elim
 ·split at hx
  ·split at hx
   ·exact hx.elim
   ·refine Zag (fun y=>?_) hx
    cases hb:(_&&(Nat.beq _ _&&Nat.beq _ 0)) <;> simp only[hb,cond_true,cond_false]at *
    ·exact Zag (h _ rfl) y
    ·exact h _ rfl y
  ·split at hx
   ·exact hx.elim
   ·split at hx
    ·exact hx.elim
    ·exact Zag (fun⟨a,b,c⟩=>⟨a,b,h _ rfl c⟩) hx
  ·exact hx.elim
theorem ZmF(S:St)(ids:List Nat)(bxs:List Box)(css:List (List Value)):(Zct S ids bxs css).env=S.env:=by
 rw[Zcy]
theorem ZmG{E:Env}{S:St}{m:Mem}{rt:TypeId}{g:FuncId}{args:List Value}{key esz:Nat}{K K':Value→St→Mem→Prop}(h:∀v S' m',S'.env=S.env→m.le m'→K v S' m'→K' v S' m')(hx:Zp9 E S m rt g args key esz K):Zp9 E S m rt g args key esz K':=by
 obtain⟨R,h1,h2,h3⟩:=hx
 exact⟨R,h1,h2,Shape.all_mono _ (fun v y m' hm hr=>h v _ m' rfl hm (y m' hm hr)) h3⟩
theorem ZkG{E:Env}{S:St}{m:Mem}{rt:TypeId}{g:FuncId}{args:List Value}{ids:List Nat}{K K':Value→St→Mem→Prop}(h:∀v S' m',S'.env=S.env→m.le m'→K v S' m'→K' v S' m')(hx:ZlX E S m rt g args ids K):ZlX E S m rt g args ids K':=by
 unfold ZlX at *
 split at hx
 ·exact hx.elim
 ·refine Zag (fun⟨R,h0,h1,h2,h3⟩=>⟨R,h0,h1,h2,Shape.all_mono _ (fun v y m' hm=>allL_mono (fun css y hR=>h _ _ _ (ZmF _ _ _ _) hm (y hR)) (y m' hm)) h3⟩) hx
theorem ZiQ{E:Env}{S:St}{m:Mem}{rt:TypeId}{g:FuncId}{args:List Value}{ids:List Nat}{ks:List (Nat×Nat)}{K K':Value→St→Mem→Prop}(h:∀v S' m',S'.env=S.env→K v S' m'→K' v S' m')(hx:Zh9 E S m rt g args ids ks K):Zh9 E S m rt g args ids ks K':=by
 unfold Zh9 at *
 split at hx
 ·exact hx.elim
 ·split at hx
  ·exact hx.elim
  ·exact Zag (fun⟨Y,R,h1,h2,h3,h4,h5⟩=>⟨Y,R,h1,h2,h3,h4,Shape.all_mono _ (fun v y m' hm hn=>allL_mono (fun css y=>ZhN (fun tvs y hR=>h _ _ _ (ZmF S _ _ _) (y hR)) y) (y m' hm hn)) h5⟩) hx
theorem Zia{S:St}{m:Mem}{x:Operand}{k k':Value→Prop}(h:∀v,k v→k' v)(hx:Zeg S m x k):Zeg S m x k':=by
 unfold Zeg at *
 split at hx
 ·split at hx
  ·exact hx.elim
  ·obtain⟨bs,h1,h2,h3⟩:=hx
   exact⟨bs,h1,h2,h _ h3⟩
 ·exact ZaA (fun v y=>Zag (fun⟨bs,h1,h2,h3⟩=>⟨bs,h1,h2,h _ h3⟩) y) hx
theorem Zqm{E:Env}{rt:TypeId}{g:FuncId}{args:List Value}{K K':Value→Int→Prop}{S:St}{m:Mem}(h:∀v gh,K v gh→K' v gh)(hx:ZvR E rt g args K S m):ZvR E rt g args K' S m:=by
 unfold ZvR at *
 split at hx
 ·exact hx.elim
 ·obtain⟨l,xs,go,stop,h1,h2,h3,h4⟩:=hx
  exact⟨l,xs,go,stop,h1,h2,h3,Shape.all_mono _ (fun v hv=>⟨fun hg=>h _ _ (hv.1 hg),fun hs=>h _ _ (hv.2 hs)⟩) h4⟩
theorem ZgT{E:Env}{S:St}{m:Mem}{T xT:TypeId}{key:Nat}{vs vx:Value}{K K':Value→(Nat→Option Tok)→Mem→Prop}(h:∀v tk m',m.le m'→K v tk m'→K' v tk m')(hx:ZeZ E S m T xT key vs vx K):ZeZ E S m T xT key vs vx K':=by
 unfold ZeZ at *
 split at hx
 ·exact hx.elim
 ·split at hx
  ·exact hx.elim
  ·have hb:∀{j:TI},ZuV E S m j key vs vx K→ZuV E S m j key vs vx K':=fun⟨ht,xs,ys,a1,a2,a3,a4,a5,a6,a7,a8⟩=>⟨ht,xs,ys,a1,a2,a3,a4,a5,a6,a7,fun a' c' m' h1 h2=>Zmu (h _ _ _ h1) (a8 a' c' m' h1 h2)⟩
   refine Zag (fun y=>?_) hx
   cases fV:E.tails with
   | false=>rw[fV]at y;exact hb y
   | true=>rw[fV]at y;exact ZgQ (Zag (h _ _ _ (Mem.le_refl m))) hb y
def ZmH(E:Env)(o:Oper):Prop:=(∀T x y,o.op=.store T x y→Zmx E x=none)∧(∀f as ats,o.op=.call ⟨.value f,as,ats⟩→Zee E o.dst=none)
theorem Zsk(E:Env)(o:Oper):E.thaw=true∨ZmH E o:=by
 cases h:E.thaw with
 | true=>exact .inl rfl
 | false=>exact .inr ⟨fun T x y _=>by simp[Zmx,h],fun _ _ _ _=>by simp[Zee,h]⟩
theorem Zl6{th:Bool}{E:Env}{S:St}{m:Mem}{o:Oper}(gY:th=true∨ZmH E o){K K':St→Mem→Prop}(h0:∀S' m',SameOut (dl o.dst) S S'→leT th m m'→K S' m'→K' S' m')(hx:opW E S m o K):opW E S m o K':=by
 have h:∀S' m',SameOut (dl o.dst) S S'→m.le m'→K S' m'→K' S' m':=fun S' m' hs hm=>h0 S' m' hs (.of hm)
 have hp:∀x,K (S.put o.dst x) m→K' (S.put o.dst x) m:=fun x=>h _ _ (Zcg S _ x) (Mem.le_refl m)
 have fR:∀(S1:St) x m',S1.env=S.env→m.le m'→K (S1.put o.dst x) m'→K' (S1.put o.dst x) m':=fun S1 x m' he hm=>h _ _ ((ZcX he).trans (Zcg S1 _ x)) hm
 obtain⟨dst,op,type,pos,after,guard⟩:=o
 simp only at hp fR
 have eF:∀(o:Oper),o.dst=dst→Zcs E S o (fun sv=>K (S.put dst (some sv)) m)→Zcs E S o (fun sv=>K' (S.put dst (some sv)) m):=fun o ho y=>ZkE (fun sv y=>hp _ y) y
 cases op with
 | move x=>exact hp _ hx
 | assign x=>exact hp _ hx
 | pick c x y=>exact ZaA (fun v y=>Zag (fun y=>ZgQ (hp _) (hp _) y) y) hx
 | load T x=>
  simp only[opW]at hx ⊢
  cases k9:Zo2 E dst with
  | none=>simp only[k9]at hx ⊢;exact Zfv (fun v y=>hp _ y) hx
  | some y=>
   simp only[k9]at hx ⊢
   cases cF:E.fix with
   | some f=>simp[cF]at hx
   | none=>
    simp only[cF,Option.isSome_none,cond_false]at hx ⊢
    exact Zfv (fun v y=>Zsi (fun v y=>hp _ y) y) hx
 | store T x y=>
  refine ZaA (fun v y=>?_) hx
  cases jp:Zmx E x with
  | none=>
   simp only[jp]at y ⊢
   exact Zf1 (fun S' he y=>fR S' _ _ he (Mem.le_refl m) y) y
  | some key=>
   simp only[jp]at y ⊢
   have gY:th=true:=by
    rcases gY with h|h
    ·exact h
    ·have:=h.1 T x _ rfl;rw[jp]at this;cases this
   cases cF:E.fix with
   | some f=>simp[cF]at y
   | none=>
    simp only[cF,Option.isSome_none,cond_false]at y ⊢
    unfold ZgL at *
    refine ZaA (fun p y=>?_) y
    split at y
    ·exact y.elim
    ·split at y
     ·split at y
      ·exact y.elim
      ·exact Zag (fun⟨y1,y2,y3,y4⟩=>⟨y1,y2,y3,Zjr (h0 _ _ (Zcg S _ _) (by rw[gY];trivial)) y4⟩) y
     ·exact Zag (fun⟨y1,y2,y3⟩=>⟨y1,y2,h0 _ _ (Zcg S _ _) (by rw[gY];trivial) y3⟩) y
 | alloc T=>
  simp only[opW,Zqa]at *
  split at hx
  ·exact hx.elim
  ·split at hx
   ·exact hx.elim
   ·split at hx
    ·exact hx.elim
    ·exact fun b=>fR _ _ _ rfl (Mem.le_refl m) (hx b)
 | box T x=>
  refine ZaA (fun v y=>?_) hx
  simp only at y ⊢
  cases kw:ZfT E dst with
  | true=>
   simp only[kw,cond_true]at y ⊢
   cases cF:E.fix with
   | some f=>simp[cF]at y
   | none=>
    simp only[cF,Option.isSome_none,cond_false,Zu2]at y ⊢
    split at y
    ·exact y.elim
    ·split at y
     ·exact y.elim
     ·split at y
      ·exact y.elim
      ·exact Zag (fun y b m' hm hb=>Zn7 (fR _ _ _ rfl hm) (y b m' hm hb)) y
  | false=>
  simp only[kw,cond_false]at y ⊢
  simp only[Zwl]at *
  split at y
  ·exact y.elim
  ·split at y
   ·exact y.elim
   ·split at y
    ·exact y.elim
    ·exact Zag (fun y b=>fR _ _ _ rfl (Mem.le_refl m) (y b)) y
 | buildSlice T len parts=>
  cases gK:ZcK E dst with
  | some ke=>
   simp only[opW,gK]at hx ⊢
   cases cF:E.fix with
   | some f=>simp[cF]at hx
   | none=>
    simp only[cF,Option.isSome_none,cond_false]at hx ⊢
    split at hx
    ·simp only[Zlm]at hx ⊢
     split at hx
     ·exact hx.elim
     ·split at hx
      ·exact hx.elim
      ·exact ZaA (fun v y=>ZaA (fun v' y=>Zag (fun⟨a,y⟩=>⟨a,fun b=>Zo3 (fR _ _ _ rfl (Mem.le_refl m)) (y b)⟩) y) y) hx
    ·exact hx.elim
  | none=>
  simp only[opW,gK,Zef]at hx ⊢
  split at hx
  ·exact hx.elim
  ·split at hx
   ·exact hx.elim
   ·split at hx
    ·split at hx
     ·exact hx.elim
     ·split at hx
      ·exact hx.elim
      ·exact Zag (fun y=>Zcc (fun vs y=>Zag (fun y b hf=>fR _ _ _ rfl (Mem.le_add hf _) (y b hf)) y) y) hx
    ·exact hx.elim
 | makeSlice T l c=>
  simp only[opW]at hx ⊢
  cases gK:ZcK E dst with
  | none=>
   simp only[gK]at hx ⊢
   cases la:ZrB E dst with
   | true=>
    simp only[la,cond_true]at hx ⊢
    cases cF:E.fix with
    | some f=>simp[cF]at hx
    | none=>
     simp only[cF,Option.isSome_none,cond_false,Zqc]at hx ⊢
     split at hx
     ·exact hx.elim
     ·split at hx
      ·exact hx.elim
      ·exact ZaA (fun v y=>ZaA (fun v' y=>Zag (fun⟨a,y⟩=>⟨a,fun b hf=>fR _ _ _ rfl (Mem.le_add hf _) (y b hf)⟩) y) y) hx
   | false=>
   simp only[la,cond_false,Ztv]at hx ⊢
   split at hx
   ·exact hx.elim
   ·split at hx
    ·exact hx.elim
    ·split at hx
     ·exact hx.elim
     ·exact ZaA (fun v y=>ZaA (fun v' y=>Zag (fun⟨a,y⟩=>⟨a,fun b=>fR _ _ _ rfl (Mem.le_refl m) (y b)⟩) y) y) hx
  | some ke=>
   simp only[gK]at hx ⊢
   cases cF:E.fix with
   | some f=>simp[cF]at hx
   | none=>
    simp only[cF,Option.isSome_none,cond_false,Zlm]at hx ⊢
    split at hx
    ·exact hx.elim
    ·split at hx
     ·exact hx.elim
     ·exact ZaA (fun v y=>ZaA (fun v' y=>Zag (fun⟨a,y⟩=>⟨a,fun b=>Zo3 (fR _ _ _ rfl (Mem.le_refl m)) (y b)⟩) y) y) hx
 | convert s d x=>
  simp only[opW]at *
  cases hb:ZfZ E s d <;> simp only[hb,cond_true,cond_false]at *
  ·cases eS:Zcn E s d <;> simp only[eS,cond_true,cond_false]at *
   ·cases lL:Zco E s d <;> simp only[lL,cond_true,cond_false]at *
    ·exact eF _ rfl hx
    ·cases cF:E.fix with
     | some f=>simp[cF]at hx
     | none=>
      simp only[cF,Option.isSome_none,cond_false]at hx ⊢
      exact Zia (fun v y=>hp _ y) hx
   ·cases cF:E.fix with
    | some f=>simp[cF]at hx
    | none=>
     simp only[cF,Option.isSome_none,cond_false]at hx ⊢
     exact ZaA (fun v y=>Zag (fun y b c hf hc=>fR _ _ _ rfl (Mem.le_add hf _) (y b c hf hc)) y) hx
  ·split at hx
   ·exact hp _ hx
   ·exact hx.elim
 | call c=>
  obtain⟨callee,args,argTypes⟩:=c
  cases callee with
  | value f=>
   simp only[opW]at *
   refine Zjq (fun S2 m2 dH aY hx=>?_) hx
   simp only[Ztu]at hx ⊢
   split at hx
   ·cases gU:Zee E dst with
    | some ks=>
     simp only[gU]at hx ⊢
     have gY:th=true:=by
      rcases gY with h|h
      ·exact h
      ·have:=h.2 _ _ _ rfl;simp only at this;rw[gU]at this;cases this
     cases cF:E.fix with
     | some f=>simp[cF]at hx
     | none=>
      simp only[cF,Option.isSome_none,cond_false]at hx ⊢
      exact Zcc (fun vs y=>ZiQ (fun v S' m' he y=>h0 _ _ ((ZcX (he.trans dH)).trans (Zcg S' _ _)) (by rw[gY];trivial) y) y) hx
    | none=>
    simp only[gU]at hx ⊢
    cases lb:Zrx E dst with
    | true=>
     simp only[lb,cond_true]at hx ⊢
     cases cF:E.fix with
     | some f=>simp[cF]at hx
     | none=>
      simp only[cF,Option.isSome_none,cond_false]at hx ⊢
      exact Zcc (fun vs y=>Zqm (fun v gh y=>fR _ _ _ dH aY y) y) hx
    | false=>
    simp only[lb,cond_false]at hx ⊢
    split at hx
    ·exact Zcc (fun vs y=>ZkG (fun v S' m' he hm y=>fR S' _ _ (he.trans dH) (Mem.le_trans aY hm) y) y) hx
    ·cases cF:E.fix with
     | some f=>simp[cF]at hx
     | none=>
      simp only[cF,Option.isSome_none,cond_false]at hx ⊢
      split at hx
      ·exact Zcc (fun vs y=>ZmG (fun v S' m' he hm y=>fR S' _ _ (he.trans dH) (Mem.le_trans aY hm) y) y) hx
      ·exact hx.elim
   ·cases cF:E.fix with
    | some f=>simp[cF]at hx
    | none=>
     simp only[cF,Option.isSome_none,cond_false]at hx ⊢
     split at hx
     ·exact Zcc (fun vs ⟨y1,y2,y3⟩=>⟨y1,fR _ _ _ dH aY y2,fR _ _ _ dH aY y3⟩) hx
     ·exact hx.elim
   ·exact hx.elim
  | invoke r mm=>
   simp only[opW]at *
   exact eF _ rfl hx
  | builtin b=>
   cases b with
   | append=>
    simp only[opW]at *
    split at hx
    ·exact Zjq (fun S2 m2 dH aY hx=>ZaA (fun v y=>ZaA (fun v' y=>ZgT (fun v tk m' hm y=>fR _ _ _ dH (Mem.le_trans aY hm) y) y) y) hx) hx
    ·exact hx.elim
   | copy=>
    simp only[opW]at *
    split at hx
    ·split at hx
     ·exact hx.elim
     ·exact ZaA (fun v y=>ZaA (fun v' y=>ZkF (fun n S' he y=>fR S' _ _ he (Mem.le_refl m) y) y) y) hx
    ·exact hx.elim
   | _=>
    simp only[opW]at *
    exact eF _ rfl hx
 | _=>
  simp only[opW]at *
  exact eF _ rfl hx
theorem Zf2{th:Bool}{E:Env}{ops:Array Oper}{S:St}{m:Mem}{o:Oper}(gY:th=true∨ZmH E o){K K':St→Mem→Prop}(h:∀S' m',SameOut (dl o.dst) S S'→leT th m m'→K S' m'→K' S' m')(hx:opG E ops o S m K):opG E ops o S m K':=by
 unfold opG at *
 have hs:K (S.put o.dst (some (.v undef))) m→K' (S.put o.dst (some (.v undef))) m:=h _ _ (Zcg S _ _) (leT.refl _ m)
 split at hx
 ·exact Zl6 gY h hx
 ·split at hx
  ·exact hx.elim
  ·split at hx
   ·exact hx.elim
   ·split at hx
    ·rename_i v _
     cases hu:ZdD v <;> simp only[hu,cond_true,cond_false]at *
     ·refine Zag (fun y=>?_) hx
      split at y
      ·exact ZgQ (Zl6 gY h) hs y
      ·exact ZgQ hs (Zl6 gY h) y
     ·exact hs hx
    ·exact hx.elim
theorem ZaU:∀{l:List Oper} {i:Nat} {o:Oper} {t:Nat},l[i]?=some o→o.dst=some t→t∈Zao l
 | [],i,o,t,h,_=>by simp at h
 | x::l,0,o,t,h,ht=>by simp at h;subst h;simp[Zao,ht]
 | x::l,i+1,o,t,h,ht=>by
  have:=ZaU (l:=l) (by simpa using h) ht
  simp only[Zao]
  cases x.dst with
  | none=>exact this
  | some d=>simp[this]
theorem Zjw{ops:Array Oper}{o:Oper}{t:Nat}(h:Zft ops o=some t):t∈Zao ops.toList:=by
 unfold Zft at h
 split at h
 ·cases h
 ·split at h
  ·cases h
  ·rename_i hj;exact ZaU hj h
theorem Zjx{E:Env}{ops:Array Oper}{S:St}{m:Mem}{o:Oper}(ho:∀t,o.dst=some t→t∈Zao ops.toList){K K':St→Mem→Prop}(h:∀S' m',SameOut (Zao ops.toList) S S'→leT E.thaw m m'→K S' m'→K' S' m')(hx:Zvk E ops o S m K):Zvk E ops o S m K':=by
 have hm:∀{S':St},SameOut (dl o.dst) S S'→SameOut (Zao ops.toList) S S':=fun hs=>hs.mono fun q hq=>by
  cases hd:o.dst with
  | none=>simp[hd,dl]at hq
  | some t=>simp[hd,dl]at hq;subst hq;exact ho _ hd
 unfold Zvk at *
 split at hx
 ·exact Zf2 (Zsk E o) (fun S' m' hs hm' y=>h _ _ (hm hs) hm' y) hx
 ·rename_i t ht
  have mW:=Zjw ht
  have hb:∀b:Bool,opG E ops o (S.put (some t) (some (.v (.bool b)))) m K→opG E ops o (S.put (some t) (some (.v (.bool b)))) m K':=fun b=>Zf2 (Zsk E o) (fun S' m' hs hm' y=>h _ _ (by
   have h1:SameOut (Zao ops.toList) S (S.put (some t) (some (.v (.bool b)))):=(SameOut.refl _ S).put (fun t' e=>by cases e;exact mW) _
   refine h1.trans (hs.mono fun q hq=>?_)
   cases hd:o.dst with
   | none=>simp[hd,dl]at hq
   | some t=>simp[hd,dl]at hq;subst hq;exact ho _ hd) hm' y)
  split at hx
  ·rename_i v _
   cases hu:ZdD v with
   | true=>simp only[hu,cond_true]at hx ⊢;exact Zf2 (Zsk E o) (fun S' m' hs hm' y=>h _ _ (hm hs) hm' y) hx
   | false=>simp only[hu,cond_false]at hx ⊢;exact Zag (ZgQ (hb true) (hb false)) hx
  ·exact hx.elim
theorem ZgU{E:Env}{ops:Array Oper}:∀{l:List Nat} {S:St} {m:Mem} {K K':St→Mem→Prop},(∀S' m',SameOut (Zao ops.toList) S S'→leT E.thaw m m'→K S' m'→K' S' m')→ZtH E ops l K S m→ZtH E ops l K' S m
 | [],S,m,K,K',h,hx=>h _ _ (SameOut.refl _ S) (leT.refl _ m) hx
 | i::l,S,m,K,K',h,hx=>by
  simp only[ZtH]at *
  cases ho:ops.toList[i]? with
  | none=>simp[ho]at hx
  | some o=>
   simp only[ho]at hx ⊢
   exact Zjx (fun t ht=>ZaU ho ht) (fun S' m' hs hm y=>ZgU (fun S'' m'' hs' hm' y=>h _ _ (SameOut.trans hs hs') (leT.trans hm hm') y) y) hx
theorem ZmI{S:St}:∀{l:List Nat} {k k':List (List Value)→Prop},(∀v,k v→k' v)→ZrC S l k→ZrC S l k'
 | [],k,k',h,hx=>h _ hx
 | id::l,k,k',h,hx=>by
  simp only[ZrC]at *
  split at hx
  ·exact hx.elim
  ·exact ZmI (fun vs dT=>h _ dT) hx
theorem ZiR{S:St}:∀{l:List (Nat×Nat)} {k k':List Value→Prop},(∀v,k v→k' v)→Zfu S l k→Zfu S l k'
 | [],k,k',h,hx=>h _ hx
 | (q,e)::l,k,k',h,hx=>Zag (fun y=>ZiR (fun vs dT=>h _ dT) y) hx
theorem Zd1:∀{l:List Nat} {k k':List (List Value)→Prop},(∀v,k v→k' v)→Zmz l k→Zmz l k'
 | [],k,k',h,hx=>h _ hx
 | _::l,k,k',h,hx=>fun cs=>Zd1 (fun vs dT=>h _ dT) (hx cs)
theorem Zd2:∀{l:List (Nat×Nat)} {k k':List Value→Prop},(∀v,k v→k' v)→ZmA l k→ZmA l k'
 | [],k,k',h,hx=>h _ hx
 | _::l,k,k',h,hx=>fun a n c=>Zd2 (fun vs dT=>h _ dT) (hx a n c)
theorem ZiS:∀{A:List (Nat×Shape)} {xs:List Value} {e:Nat→Option SV} {i:Nat},(∀q∈A,q.1≠i)→Zbs e A xs i=e i
 | [],xs,e,i,h=>by simp[Zbs]
 | (t,s)::A,[],e,i,h=>by simp[Zbs]
 | (t,s)::A,v::xs,e,i,h=>by
  have h1:i≠t:=fun e=>h (t,s) (by simp) e.symm
  simp only[Zbs,Zam h1,cond_false]
  exact ZiS (fun q hq=>h q (by simp[hq]))
theorem Ze1{ds:List Nat}{i:Nat}:ds.any (Nat.beq i ·)=true↔i∈ds:=by
 rw[List.any_eq_true]
 constructor
 ·rintro⟨x,hx,he⟩;rw[Nat.eq_of_beq_eq_true he];exact hx
 ·intro h;exact⟨i,h,Nat.beq_refl i⟩
theorem Zf3{ds:List Nat}{i:Nat}(h:i ∉ ds):ds.any (Nat.beq i ·)=false:=by
 cases hh:ds.any (Nat.beq i ·)with
 | false=>rfl
 | true=>exact absurd (Ze1.1 hh) h
def Ztw(ds:List Nat)(A:List (Nat×Shape)):Bool:=A.all fun q=>ds.any (Nat.beq q.1 ·)
theorem Zdg{ds:List Nat}{A:List (Nat×Shape)}(hA:Ztw ds A=true){S S':St}{xs:List Value}(h:S'.env=Zbs (fun i=>bif ds.any (Nat.beq i ·)then none else S.env i) A xs):SameOut ds S S':=by
 intro i hi
 rw[h,ZiS]
 ·simp[Zf3 hi]
 ·intro q hq e
  simp only[Ztw,List.all_eq_true]at hA
  exact hi (e ▸ Ze1.1 (hA q hq))
def Zas(E:Env):Code→Bool
 | .region id ops draw=>(match E.joins id with
  | none=>true
  | some outs=>Ztw (Zao ops.toList) outs)
 | .seq a b=>Zas E a&&Zas E b&&(match E.cuts (ZaJ b)with
  | none=>true
  | some A=>Ztw (Zh3 a) A.slots)
 | .cond _ a b=>Zas E a&&Zas E b
 | .block _ a=>Zas E a
 | .loop a=>Zas E a&&Ztw (Zh3 a) (E.loops (ZaJ a)).slots
 | .rangeFunc _ _ a b=>Zas E a&&Zas E b
 | .scope a=>Zas E a
 | _=>true
def leD(E:Env)(id:Nat)(m m':Mem):Prop:=match E.last id with
 | true=>leT E.thaw m m'
 | false=>m.le m'
theorem leD.leT{E:Env}{id:Nat}{m m':Mem}(h:leD E id m m'):leT E.thaw m m':=by
 unfold leD at h
 cases hl:E.last id with
 | true=>rw[hl]at h;exact h
 | false=>rw[hl]at h;exact .of h
theorem leD.le{E:Env}{id:Nat}{m m':Mem}(hl:E.last id=false)(h:leD E id m m'):m.le m':=by
 unfold leD at h;rw[hl]at h;exact h
def ZdY(E:Env)(ZaV:Nat→Array Oper→(St→Mem→Prop)→St→Mem→Prop):Prop:=
 ∀(id:Nat)(ops:Array Oper)(K K':St→Mem→Prop)(S:St)(m:Mem),(∀S' m',SameOut (Zao ops.toList) S S'→leD E id m m'→K S' m'→K' S' m')→ZaV id ops K S m→ZaV id ops K' S m
theorem ZgV{b:Bool}{g:Int}{k k':Int→Prop}(h:∀y,k y→k' y)(hx:Zu4 b g k):Zu4 b g k':=by
 cases b with
 | true=>exact fun y=>h y (hx y)
 | false=>exact h g hx
theorem Zn9{b:Bool}{x y:Int}{p q:Prop}(h:p→q)(hx:ZkC b x y p):ZkC b x y q:=by
 cases b with
 | true=>exact h hx
 | false=>
  simp only[ZkC,cond_false]at *
  split at hx
  ·exact h hx
  ·exact⟨hx.1,h hx.2⟩
theorem Zoa{a b:List (Option Box)}{p q:Prop}(h:p→q)(hx:ZlY a b p):ZlY a b q:=ZcA.2 ⟨(ZcA.1 hx).1,h (ZcA.1 hx).2⟩
theorem Zob{a b:List (Option Tok)}{p q:Prop}(h:p→q)(hx:ZlZ a b p):ZlZ a b q:=ZcB.2 ⟨(ZcB.1 hx).1,h (ZcB.1 hx).2⟩
theorem Zls{K K':KT}{e:Exit}{S:St}{m:Mem}(h:∀e,K e S m→K' e S m)(hx:ZmB K e S m):ZmB K' e S m:=by
 cases e with
 | ret=>exact h _ hx
 | exit id=>exact h _ hx
 | goto l=>exact h _ hx
 | _=>exact hx
theorem leT.up{th:Bool}{mi m m':Mem}(hc:th=false→mi=m)(h:mi.le m'):leT th m m':=by
 cases th with
 | true=>trivial
 | false=>rw[hc rfl]at h;exact h
theorem ZmJ{th:Bool}{P:Program}{A:LoopAnn}{f:Operand}{ps:List Nat}{assign body:KT→St→Mem→Prop}{ds:List Nat}
  (ha:∀{S:St} {m:Mem} {K K':KT},(∀e S' m',leT th m m'→K e S' m'→K' e S' m')→assign K S m→assign K' S m)
  (hb:∀{S:St} {m:Mem} {K K':KT},(∀e S' m',leT th m m'→K e S' m'→K' e S' m')→body K S m→body K' S m)
  {S:St} {m:Mem} {K K':KT} (h:∀e S' m',SameOut ds S S'→leT th m m'→K e S' m'→K' e S' m') (hx:ZmC th P A f ps assign body K S m):ZmC th P A f ps assign body K' S m:=by
 unfold ZmC at *
 split at hx
 ·refine Zag (Zqi fun mi lc jO ⟨xs,h1,h2,I,h3,h4,h5⟩=>⟨xs,h1,h2,I,h3,?_,?_⟩) hx
  all_goals have up:∀{m':Mem},mi.le m'→leT th m m':=fun hm=>leT.up jO hm
  ·refine ZgV (fun y z=>Shape.allL_mono _ (fun x z=>Zd1 (fun css z=>Zd2 (fun tvs z m' n hm hn hI=>?_) z) z) z) h4
   refine ha (fun e S1 m1 aW k=>?_) (z m' n hm hn hI)
   cases e with
   | normal=>
    refine hb (fun e S' m'' aY k=>Zqj (Zn9 (Zoa (Zob (ZmI fun css' k=>?_ )))) k) k
    refine ZiR (fun tvs' k=>?_) k
    cases e with
    | normal=>exact k
    | _=>exact Zls (fun e=>h e _ _ (SameOut.refl _ _) (leT.trans (up hm) (leT.trans aW aY))) k
   | _=>exact k
  ·exact ZgV (fun y z=>Zd1 (fun css z=>Zd2 (fun tvs z m' hm hI=>h _ _ _ (SameOut.refl _ _) (up hm) (z m' hm hI)) z) z) h5
 ·exact hx.elim
theorem Zqn{E:Env}{kz:Option (Nat×Nat)}{ops:Array Oper}{l:List Nat}{S:St}{m:Mem}{K K':St→Mem→Prop}(h:∀S' m',SameOut (Zao ops.toList) S S'→leT E.thaw m m'→K S' m'→K' S' m')
  (y:ZtO E kz (ZtH E ops l) K S m):ZtO E kz (ZtH E ops l) K' S m:=by
 unfold ZtO at *
 split at y
 ·exact ZgU h y
 ·obtain⟨y1,y2⟩:=Zae y
  refine Zaa y1 ?_
  simp only[Bool.and_eq_true]at y1
  split at y2
  ·exact y2
  ·obtain⟨a,n,c,z1,z2,z3⟩:=y2
   refine⟨a,n,c,z1,z2,ZgU (fun S' m' hs _ z=>?_) z3⟩
   split at z
   ·exact z
   ·exact Zag (fun z zs hz=>h _ _ (fun t ht=>hs t ht) (by rw[y1.1];trivial) (z zs hz)) z
theorem ZdJ{E:Env}{ZaV:Nat→Array Oper→(St→Mem→Prop)→St→Mem→Prop}(hD:ZdY E ZaV):∀(c:Code),Zas E c=true→∀{S:St} {m:Mem} {K K':KT},(∀e S' m',SameOut (Zh3 c) S S'→leT E.thaw m m'→K e S' m'→K' e S' m')→W E ZaV c K S m→W E ZaV c K' S m
 | .skip,_,S,m,K,K',h,hx=>h _ _ _ (SameOut.refl _ S) (leT.refl _ m) hx
 | .label _,_,S,m,K,K',h,hx=>h _ _ _ (SameOut.refl _ S) (leT.refl _ m) hx
 | .exit _,_,S,m,K,K',h,hx=>h _ _ _ (SameOut.refl _ S) (leT.refl _ m) hx
 | .ret,_,S,m,K,K',h,hx=>h _ _ _ (SameOut.refl _ S) (leT.refl _ m) hx
 | .region id ops draw,hc,S,m,K,K',h,hx=>by
  simp only[W]at *
  cases hj:E.joins id with
  | none=>
   simp only[hj]at hx ⊢
   cases draw with
   | true=>simp only[cond_true]at *;exact hD _ _ _ _ _ _ (fun S' m' hs hm y=>h _ _ _ hs (leD.leT hm) y) hx
   | false=>
    simp only[cond_false]at *
    exact Zqn (fun S' m' hs hm y=>h _ _ _ hs hm y) hx
  | some outs=>
   simp only[hj]at hx ⊢
   refine Shape.exL_mono _ (fun xs ⟨h1,h2⟩=>⟨h1,h _ _ _ ?_ (leT.refl _ m) h2⟩) hx
   simp only[Zas,hj]at hc
   exact Zdg hc rfl
 | .seq x y,hc,S,m,K,K',h,hx=>by
  simp only[Zas,Bool.and_eq_true]at hc
  simp only[W,Zh3]at *
  cases fB:E.cuts (ZaJ y)with
  | none=>
   simp only[fB]at hx ⊢
   refine ZdJ hD x hc.1.1 (fun e S' m' hs hm hy=>?_) hx
   have hs':SameOut (Zh3 x++Zh3 y) S S':=hs.mono (fun i hi=>by simp[hi])
   cases e with
   | normal=>exact ZdJ hD y hc.1.2 (fun e S'' m'' jq aY hy=>h _ _ _ (hs'.trans (jq.mono (fun i hi=>by simp[hi]))) (leT.trans hm aY) hy) hy
   | _=>exact h _ _ _ hs' hm hy
  | some A=>
   simp only[fB]at hx ⊢ hc
   obtain⟨J,h1,h2⟩:=hx
   refine⟨J,ZdJ hD x hc.1.1 (fun e S' m' hs hm hy=>?_) h1,ZgV (fun g z=>Shape.allL_mono _ (fun xs z=>Zd1 (fun css z=>Zd2 (fun tvs z m' hm hJ=>?_) z) z) z) h2⟩
   ·cases e with
    | normal=>exact hy
    | _=>exact h _ _ _ (hs.mono (fun i hi=>by simp[hi])) hm hy
   ·refine ZdJ hD y hc.1.2 (fun e S' m'' hs aY hy=>h _ _ _ ?_ (leT.trans hm aY) hy) (z m' hm hJ)
    have h3:SameOut (Zh3 x) S (Zbu S (Zh3 x) A g xs css tvs):=Zdg (S':=Zbu S (Zh3 x) A g xs css tvs) hc.2 rfl
    exact(h3.mono (fun i hi=>by simp[hi])).trans (hs.mono (fun i hi=>by simp[hi]))
 | .cond c x y,hc,S,m,K,K',h,hx=>by
  simp only[Zas,Bool.and_eq_true]at hc
  simp only[W,Zh3]at *
  exact ZaA (fun v hy=>Zag (fun hy=>ZgQ (ZdJ hD x hc.1 (fun e S' m' hs hm hy=>h _ _ _ (hs.mono (fun i hi=>by simp[hi])) hm hy)) (ZdJ hD y hc.2 (fun e S' m' hs hm hy=>h _ _ _ (hs.mono (fun i hi=>by simp[hi])) hm hy)) hy) hy) hx
 | .block id x,hc,S,m,K,K',h,hx=>by
  simp only[Zas]at hc
  simp only[W,Zh3]at *
  refine ZdJ hD x hc (fun e S' m' hs hm hy=>?_) hx
  cases e with
  | exit id'=>
   simp only at *
   cases hb:Nat.beq id' id <;> simp only[hb,cond_true,cond_false]at *
   ·exact h _ _ _ hs hm hy
   ·exact h _ _ _ hs hm hy
  | _=>exact h _ _ _ hs hm hy
 | .loop x,hc,S,m,K,K',h,hx=>by
  simp only[Zas,Bool.and_eq_true]at hc
  simp only[W,Zh3]at *
  obtain⟨I,h1,h2⟩:=hx
  refine⟨I,h1,ZgV (fun g y=>Shape.allL_mono _ (fun xs y=>Zd1 (fun css y=>Zd2 (fun tvs y m' n hm hI=>?_) y) y) y) h2⟩
  refine ZdJ hD x hc.1 (fun e S' m'' hs aY hy=>?_) (y m' n hm hI)
  have hs':SameOut (Zh3 x) S S':=(Zdg (S':=Zbu S (Zh3 x) (E.loops (ZaJ x)) g xs css tvs) hc.2 rfl).trans hs
  cases e with
  | normal=>exact hy
  | _=>exact h _ _ _ hs' (leT.trans hm aY) hy
 | .goto _,_,S,m,K,K',h,hx=>by simp[W]at hx
 | .scope x,hc,S,m,K,K',h,hx=>by
  simp only[Zas]at hc
  simp only[W,Zh3]at *
  refine ZdJ hD x hc (fun e S' m' hs hm hy=>?_) hx
  cases e with
  | goto l=>exact hy
  | _=>exact h _ _ _ hs hm hy
 | .rangeFunc f ps x y,hc,S,m,K,K',h,hx=>by
  simp only[Zas,Bool.and_eq_true]at hc
  simp only[W]at *
  exact ZmJ (assign:=W E ZaV x) (body:=W E ZaV y) (fun h'=>ZdJ hD x hc.1 fun e S' m' _ hm hy=>h' e S' m' hm hy) (fun h'=>ZdJ hD y hc.2 fun e S' m' _ hm hy=>h' e S' m' hm hy) (fun e S' m' hs hm=>h e S' m' hs hm) hx
 | .refuse _,_,S,m,K,K',h,hx=>by simp[W]at hx
end Go.Eng
namespace Go.Eng
open Go Go.RowKit
section
variable {C:Ctx} {m:Mem} {a:Act} {w:World}
theorem Rel.restrict{S S2:St}(h:Rel C S m a w)(hg:S2.gh=S.gh)(hL:∀id x,S2.L id=some x→S.L id=some x)(hT:∀k t,S2.tok k=some t→S.tok k=some t∨t.v=.slice none 0 0)
  (dH:∀i sv,S2.env i=some sv→∃v,S2.den sv=some v∧a.tmps[i]?=some v) (dL:∀id x,S2.L id=some x→id∈S2.ids) (lM:∀k t,S2.tok k=some t→k∈S2.tkeys):Rel C S2 m a w:=by
 refine⟨h.defers,h.size,dH,fun id x hx=>h.own id x (hL id x hx),fun id id' x x' hx hx'=>h.apart id id' x x' (hL _ _ hx) (hL _ _ hx'),dL,?_,lM,?_,h.sub,h.le,h.dom.imp fun M d=>d.cut hg (fun id x hx=>⟨id,x,hL id x hx,rfl⟩) (fun k t b ht hb=>?_) rfl (fun _ _ _ hv=>hv)⟩
 ·intro k t ht
  rcases hT k t ht with h1|h1
  ·obtain⟨h2,h3⟩:=h.toks k t h1
   exact⟨h2,fun b hb=>⟨fun id x hx=>(h3 b hb).1 id x (hL _ _ hx),(h3 b hb).2⟩⟩
  ·exact⟨.inl h1,fun b hb=>by simp[Tok.blk,h1]at hb⟩
 ·intro k k' t t' b ht ht' hb hb'
  rcases hT k t ht with h1|h1
  ·rcases hT k' t' ht' with h2|h2
   ·exact h.tapart k k' t t' b h1 h2 hb hb'
   ·simp[Tok.blk,h2]at hb'
  ·simp[Tok.blk,h1]at hb
 ·rcases hT k t ht with h1|h1
  ·exact⟨k,t,h1,hb⟩
  ·simp[Tok.blk,h1]at hb
theorem Rel.forget{S:St}{m':Mem}(h:Rel C S m' a w)(hm:m.le m')(h0:C.m0.le m)(hz:∀id x,S.L id=some x→x.fz=true→m.reads x.b 0 x.cs):Rel C S m a w:=by
 have hn:∀b o,m' b o=none→m b o=none:=fun b o ho=>by
  cases he:m b o with
  | none=>rfl
  | some v=>rw[hm _ _ _ he]at ho;cases ho
 refine⟨h.defers,h.size,h.env,fun id x hx=>?_,h.apart,h.ids,fun k t ht=>?_,h.tkeys,h.tapart,fun b o v hv=>h.sub b o v (hm _ _ _ hv),h0,h.dom.imp fun M d=>d.cut rfl (fun id x hx=>⟨id,x,hx,rfl⟩) (fun k t b ht hb=>⟨k,t,ht,hb⟩) rfl hm⟩
 ·have h1:=h.own id x hx
  exact⟨h1.cells,fun hf o=>hn _ _ (h1.free hf o),hz id x hx,h1.whole⟩
 ·obtain⟨h1,h2⟩:=h.toks k t ht
  exact⟨h1.same (fun _ _=>rfl) (fun b o _ ho=>hn _ _ ho),h2⟩
theorem Zcq{S:St}(hr:Rel C S m a w):∀{l:List (Nat×Shape)} {k:List Value→Prop},Zgx S l k→∃xs,Shape.fitsL (l.map (·.2)) xs=true∧(∀(i:Nat) t sh v,l[i]?=some (t,sh)→xs[i]?=some v→a.tmps[t]?=some v)∧xs.length=l.length∧k xs
 | [],k,h=>⟨[],rfl,by simp,rfl,h⟩
 | (t,sh)::l,k,h=>by
  obtain⟨v,hv,h⟩:=Zaz h
  obtain⟨h1,h2⟩:=Zae h
  obtain⟨xs,g1,g2,g3,g4⟩:=Zcq hr h2
  refine⟨v::xs,by simp[Shape.fitsL,h1,g1],?_,by simp[g3],g4⟩
  intro i t' sh' v' hi hx
  cases i with
  | zero=>
   simp at hi hx
   obtain⟨rfl,rfl⟩:=hi
   subst hx
   simp only[St.val,St.ev]at hv
   cases he:S.env t with
   | none=>simp[he]at hv
   | some sv=>
    simp only[he]at hv
    obtain⟨u,h3,h4⟩:=hr.env t sv he
    rw[hv]at h3;cases h3;exact h4
  | succ i=>exact g2 i t' sh' v' (by simpa using hi) (by simpa using hx)
theorem ZcY{S:St}:∀{l:List Nat} {k:List (List Value)→Prop},ZrC S l k→∃css,css.length=l.length∧(∀(i:Nat) id cs,l[i]?=some id→css[i]?=some cs→∃x,S.L id=some x∧x.cs=cs)∧k css
 | [],k,h=>⟨[],rfl,by simp,h⟩
 | id::l,k,h=>by
  simp only[ZrC]at h
  cases hx:S.L id with
  | none=>simp[hx]at h
  | some x=>
   simp only[hx]at h
   obtain⟨css,g1,g2,g3⟩:=ZcY h
   refine⟨x.cs::css,by simp[g1],?_,g3⟩
   intro i id' cs hi hc
   cases i with
   | zero=>simp at hi hc;subst hi hc;exact⟨x,hx,rfl⟩
   | succ i=>exact g2 i id' cs (by simpa using hi) (by simpa using hc)
theorem ZbS{S:St}:∀{l:List (Nat×Nat)} {k:List Value→Prop},Zfu S l k→∃vs,vs.length=l.length∧(∀(i:Nat) q e v,l[i]?=some (q,e)→vs[i]?=some v→ZbJ v=true∧(S.tok q=some ⟨v,e⟩∨v=.slice none 0 0))∧k vs
 | [],k,h=>⟨[],rfl,by simp,h⟩
 | (q,e)::l,k,h=>by
  obtain⟨h1,h2⟩:=Zae h
  simp only[Bool.and_eq_true]at h1
  obtain⟨vs,g1,g2,g3⟩:=ZbS h2
  refine⟨Zqf S q::vs,by simp[g1],?_,g3⟩
  intro i q' e' v hi hv
  cases i with
  | zero=>
   simp at hi hv
   obtain⟨rfl,rfl⟩:=hi
   subst hv
   refine⟨h1.1,?_⟩
   unfold Zqf
   cases ht:S.tok q with
   | none=>exact .inr rfl
   | some t=>
    left
    have:t.esz=e:=by have:=h1.2;simp only[ht]at this;exact Nat.eq_of_beq_eq_true this
    cases t;simp at this ⊢;exact this
  | succ i=>exact g2 i q' e' v (by simpa using hi) (by simpa using hv)
theorem Zd3:∀{l:List Nat} {k:List (List Value)→Prop},Zmz l k→∀css,css.length=l.length→k css
 | [],k,h,css,hl=>by cases css <;> simp_all [Zmz]
 | _::l,k,h,css,hl=>by
  cases css with
  | nil=>simp at hl
  | cons c css=>exact Zd3 (h c) css (by simpa using hl)
theorem Zd4:∀{l:List (Nat×Nat)} {k:List Value→Prop},ZmA l k→∀vs,vs.length=l.length→(∀v∈vs,ZbJ v=true)→k vs
 | [],k,h,vs,hl,_=>by cases vs <;> simp_all [ZmA]
 | _::l,k,h,vs,hl,hs=>by
  cases vs with
  | nil=>simp at hl
  | cons v vs=>
   have:=Zbx (hs v (by simp))
   rw[this]
   exact Zd4 (h _ _ _) vs (by simpa using hl) (fun u hu=>hs u (by simp[hu]))
theorem ZkH:∀{A:List (Nat×Shape)} {xs:List Value} {e:Nat→Option SV} {i:Nat} {sv:SV},Zbs e A xs i=some sv→e i=some sv∨∃(q:Nat)(sh:Shape)(v:Value),A[q]?=some (i,sh)∧xs[q]?=some v∧sv=.v v
 | [],xs,e,i,sv,h=>.inl (by simpa[Zbs]using h)
 | (t,s)::A,[],e,i,sv,h=>.inl (by simpa[Zbs]using h)
 | (t,s)::A,v::xs,e,i,sv,h=>by
  by_cases hi:i=t
  ·subst hi
   simp[Zbs]at h
   exact .inr ⟨0,s,v,by simp,by simp,h.symm⟩
  ·simp only[Zbs,Zam hi,cond_false]at h
   rcases ZkH h with h1|⟨q,sh,u,h1,h2,h3⟩
   ·exact .inl h1
   ·exact .inr ⟨q+1,sh,u,by simpa using h1,by simpa using h2,h3⟩
theorem Zfw:∀{l:List Nat} {css:List (List Value)} {L:Nat→Option Box} {id:Nat} {y:Box},ZgA L l css id=some y→(∃(i:Nat)(x:Box)(cs:List Value),l[i]?=some id∧css[i]?=some cs∧L id=some x∧y={ x with cs:=cs })∨((∀i,l[i]?=some id→css.length≤i)∧L id=some y)
 | [],css,L,id,y,h=>.inr ⟨by simp,by simpa[ZgA]using h⟩
 | d::l,[],L,id,y,h=>.inr ⟨fun i _=>by simp,by simpa[ZgA]using h⟩
 | d::l,cs::css,L,id,y,h=>by
  by_cases cK:id=d
  ·subst cK
   simp only[ZgA,ZbW,cond_true]at h
   cases hx:L id with
   | none=>simp[hx]at h
   | some x=>simp[hx]at h;exact .inl ⟨0,x,cs,by simp,by simp,rfl,h.symm⟩
  ·simp only[ZgA,Zam cK,cond_false]at h
   rcases Zfw h with⟨i,x,c,h1,h2,h3,h4⟩|⟨h1,h2⟩
   ·exact .inl ⟨i+1,x,c,by simpa using h1,by simpa using h2,h3,h4⟩
   ·refine .inr ⟨fun i hi=>?_,h2⟩
    cases i with
    | zero=>simp at hi;exact absurd hi.symm cK
    | succ i=>have:=h1 i (by simpa using hi);simp;omega
theorem Zd5:∀{l:List Nat} {css:List (List Value)} {L:Nat→Option Box} {id:Nat} {x:Box},L id=some x→∃y,ZgA L l css id=some y∧y.b=x.b
 | [],css,L,id,x,h=>⟨x,by simpa[ZgA]using h,rfl⟩
 | d::l,[],L,id,x,h=>⟨x,by simpa[ZgA]using h,rfl⟩
 | d::l,cs::css,L,id,x,h=>by
  by_cases cK:id=d
  ·subst cK
   exact⟨{ x with cs:=cs },by simp[ZgA,h],rfl⟩
  ·simp only[ZgA,Zam cK,cond_false]
   exact Zd5 h
theorem Zdh:∀{l:List (Nat×Nat)} {vs:List Value} {tk:Nat→Option Tok} {k:Nat} {t:Tok},Ze0 tk l vs k=some t→(∃(i:Nat)(e:Nat)(v:Value),l[i]?=some (k,e)∧vs[i]?=some v∧t=⟨v,e⟩)∨((∀i q,l[i]?=some q→q.1=k→vs.length≤i)∧tk k=some t)
 | [],vs,tk,k,t,h=>.inr ⟨by simp,by simpa[Ze0]using h⟩
 | (q,e)::l,[],tk,k,t,h=>.inr ⟨fun i _ _ _=>by simp,by simpa[Ze0]using h⟩
 | (q,e)::l,v::vs,tk,k,t,h=>by
  by_cases hk:k=q
  ·subst hk
   simp[Ze0]at h
   exact .inl ⟨0,e,v,by simp,by simp,h.symm⟩
  ·simp only[Ze0,Zam hk,cond_false]at h
   rcases Zdh h with⟨i,e',u,h1,h2,h3⟩|⟨h1,h2⟩
   ·exact .inl ⟨i+1,e',u,by simpa using h1,by simpa using h2,h3⟩
   ·refine .inr ⟨fun i p hi hp=>?_,h2⟩
    cases i with
    | zero=>simp at hi;subst hi;exact absurd hp.symm hk
    | succ i=>have:=h1 i p (by simpa using hi) hp;simp;omega
structure StOk (S:St):Prop where
 env:∀i sv,S.env i=some sv→∃v,S.den sv=some v
 ids:∀id x,S.L id=some x→id∈S.ids
 tkeys:∀k t,S.tok k=some t→k∈S.tkeys
theorem Rel.ok{S:St}(h:Rel C S m a w):StOk S:=⟨fun i sv he=>(h.env i sv he).imp fun v hv=>hv.1,h.ids,h.tkeys⟩
theorem Zeh{S S':St}(hS:StOk S){ds:List Nat}{A:LoopAnn}(hr:Rel C S' m a w)(cV:SameOut ds S S')(jP:Zbz S' A S.ids=Zbz S A S.ids)(bY:ZaZ S' A S.tkeys=ZaZ S A S.tkeys)
  {xs:List Value} {css:List (List Value)} {tvs:List Value} (hx:∀(i:Nat) t sh v,A.slots[i]?=some (t,sh)→xs[i]?=some v→a.tmps[t]?=some v)
  (eY:css.length=A.boxes.length) (hc:∀(i:Nat) id cs,A.boxes[i]?=some id→css[i]?=some cs→∃x,S'.L id=some x∧x.cs=cs)
  (fV:tvs.length=A.toks.length) (ht:∀(i:Nat) q e v,A.toks[i]?=some (q,e)→tvs[i]?=some v→ZbJ v=true∧(S'.tok q=some ⟨v,e⟩∨v=.slice none 0 0)):Rel C (Zbu S ds A S'.gh xs css tvs) m a w:=by
 have hL:∀id y,ZgA S.L A.boxes css id=some y→S'.L id=some y:=by
  intro id y hy
  have dW:∀id,id∈S.ids→(bif A.boxes.any (Nat.beq id ·)then(match S'.L id with
    | some x=>some { x with cs:=[] }
    | none=>none)else S'.L id)=(bif A.boxes.any (Nat.beq id ·)then(match S.L id with
    | some x=>some { x with cs:=[] }
    | none=>none)else S.L id):=fun id cK=>by
   simp only[Zbz]at jP
   exact(List.map_inj_left.1 jP) id cK
  rcases Zfw hy with⟨i,x,cs,h1,h2,h3,h4⟩|⟨h1,h2⟩
  ·obtain⟨x',g1,g2⟩:=hc i id cs h1 h2
   have:=dW id (hS.ids id x h3)
   have hm:A.boxes.any (Nat.beq id ·)=true:=Ze1.2 (List.mem_of_getElem? h1)
   simp only[hm,cond_true,g1,h3,Option.some.injEq,Box.mk.injEq,true_and]at this
   rw[g1,h4]
   obtain⟨e1,e2,e3,e4,e5⟩:=this
   cases x;cases x'
   simp_all
  ·have hm:A.boxes.any (Nat.beq id ·)=false:=Zf3 (fun cH=>by
    obtain⟨i,hi⟩:=List.getElem?_of_mem cH
    have h3:=h1 i hi
    have h4:=(List.getElem?_eq_some_iff.1 hi).1
    omega)
   have:=dW id (hS.ids id y h2)
   simp only[hm,cond_false]at this
   rw[this,h2]
 have kv:∀k t,Ze0 S.tok A.toks tvs k=some t→S'.tok k=some t∨t.v=.slice none 0 0:=by
  intro k t hk
  have dW:∀k,k∈S.tkeys→(bif A.toks.any (fun q=>Nat.beq k q.1)then none else S'.tok k)=(bif A.toks.any (fun q=>Nat.beq k q.1)then none else S.tok k):=fun k hk=>by
   simp only[ZaZ]at bY
   exact(List.map_inj_left.1 bY) k hk
  rcases Zdh hk with⟨i,e,v,h1,h2,h3⟩|⟨h1,h2⟩
  ·obtain⟨g1,g2⟩:=ht i k e v h1 h2
   subst h3
   exact g2.imp id id
  ·left
   have hm:A.toks.any (fun q=>Nat.beq k q.1)=false:=by
    cases hh:A.toks.any (fun q=>Nat.beq k q.1)with
    | false=>rfl
    | true=>
     obtain⟨q,hq,he⟩:=List.any_eq_true.1 hh
     obtain⟨i,hi⟩:=List.getElem?_of_mem hq
     have h3:=h1 i q hi (Nat.eq_of_beq_eq_true he).symm
     have h4:=(List.getElem?_eq_some_iff.1 hi).1
     omega
   have:=dW k (hS.tkeys k t h2)
   simp only[hm,cond_false]at this
   rw[this,h2]
 refine hr.restrict rfl hL kv ?_ ?_ ?_
 ·intro i sv he
  simp only[Zbu]at he
  rcases ZkH he with h1|⟨q,sh,v,h1,h2,h3⟩
  ·cases hi:ds.any (Nat.beq i ·)with
   | true=>simp[hi]at h1
   | false=>
    simp only[hi,cond_false]at h1
    have qU:i ∉ ds:=fun hm=>by rw[Ze1.2 hm]at hi;cases hi
    have h2:S'.env i=some sv:=by rw[cV i qU,h1]
    obtain⟨v,h3,h4⟩:=hr.env i sv h2
    refine⟨v,?_,h4⟩
    cases sv with
    | v u=>exact h3
    | loc id off=>
     obtain⟨v0,h5⟩:=hS.env i _ h1
     simp only[St.den]at h5
     cases hx:S.L id with
     | none=>simp[hx]at h5
     | some x=>
      obtain⟨y,hy,_⟩:=Zd5 (l:=A.boxes) (css:=css) hx
      have:=hL id y hy
      simp only[St.den,this]at h3
      simp only[St.den,Zbu,hy];exact h3
    | sl id n c=>
     obtain⟨v0,h5⟩:=hS.env i _ h1
     simp only[St.den]at h5
     cases hx:S.L id with
     | none=>simp[hx]at h5
     | some x=>
      obtain⟨y,hy,_⟩:=Zd5 (l:=A.boxes) (css:=css) hx
      have:=hL id y hy
      simp only[St.den,this]at h3
      simp only[St.den,Zbu,hy];exact h3
  ·subst h3
   exact⟨v,rfl,hx q i sh v h1 h2⟩
 ·intro id y hy
  simp only[Zbu]at hy ⊢
  rcases Zfw hy with⟨i,x,cs,h1,h2,h3,h4⟩|⟨h1,h2⟩
  ·exact hS.ids id x h3
  ·exact hS.ids id y h2
 ·intro k t hk
  simp only[Zbu]at hk ⊢
  rcases Zdh hk with⟨i,e,v,h1,h2,h3⟩|⟨h1,h2⟩
  ·exact List.mem_append_left _ (List.mem_map.2 ⟨(k,e),List.mem_of_getElem? h1,rfl⟩)
  ·exact List.mem_append_right _ (hS.tkeys k t h2)
end
theorem Rel.lessMem{C:Ctx}{S:St}{m m1:Mem}{a:Act}{w:World}(h:Rel C S m a w)(hm:m1.le m)(h0:C.m0.le m1)(hk:∀id x,S.L id=some x→x.fz=true→∀o,m1 x.b o=m x.b o):Rel C S m1 a w:=by
 have dD:∀b o,m b o=none→m1 b o=none:=fun b o hn=>by
  cases he:m1 b o with
  | none=>rfl
  | some v=>have:=hm _ _ _ he;rw[hn]at this;cases this
 refine⟨h.defers,h.size,h.env,fun id x hx=>?_,h.apart,h.ids,fun k t ht=>?_,h.tkeys,h.tapart,fun b o v hv=>h.sub b o v (hm _ _ _ hv),h0,?_⟩
 ·obtain⟨g1,g2,g3,g4⟩:=h.own id x hx
  exact⟨g1,fun hz o=>dD _ _ (g2 hz o),fun hz j u hu=>by rw[hk id x hx hz];exact g3 hz j u hu,g4⟩
 ·obtain⟨g1,g2⟩:=h.toks k t ht
  exact⟨g1.same (fun b _=>rfl) (fun b o _=>dD b o),g2⟩
 ·obtain⟨M,hd⟩:=h.dom
  exact⟨M,hd.p,hd.lt,hd.own,hd.tok,hd.mks,fun b o v hv=>hd.new b o v (hm _ _ _ hv)⟩
theorem Rel.acq{E:Env}{C:Ctx}(hY:YOk E C){mm:Mem}(eE:E.m0=some mm){S:St}{m:Mem}{a:Act}{w:World}(hr:Rel C S m a w){key esz:Nat}{p:Option Addr}{n c:Nat}(h1:ZwW m mm esz p n c)
  (h2:∀b,(Tok.mk (.slice p n c) esz).blk=some b→nfz S b S.ids (ntk S b [key] S.tkeys)):
  Rel C { S with tok:=fun k=>bif Nat.beq k key then some ⟨.slice p n c,esz⟩ else S.tok k,tkeys:=key::S.tkeys } (m.cutA p (n*esz)) a w:=by
 obtain⟨jl,hW⟩:=hY.m0 mm eE
 rcases h1 with⟨rfl,rfl,rfl⟩|⟨b,rfl,gE,eT,jf,eQ⟩
 ·exact hr.tokNil key _ rfl
 ·obtain⟨q1,q2⟩:=ZfW (h2 b rfl)
  have cI:(m.cutA (some ⟨b,0,none⟩) (n*esz)).le m:=fun b' o v hv=>by
   simp only[Mem.cutA]at hv
   split at hv
   ·cases hv
   ·exact hv
  have fX:∀b',b'≠b→∀o,m.cutA (some ⟨b,0,none⟩) (n*esz) b' o=m b' o:=fun b' hb o=>by simp[Mem.cutA,hb]
  have iC:∀id x,S.L id=some x→x.b≠b:=fun id x hx e=>by
   have ho:=hr.own id x hx
   cases hz:x.fz with
   | true=>exact q2 id x (hr.ids id x hx) hx hz e
   | false=>
    obtain⟨v,hv⟩:=jf 0 eT
    have:=ho.free hz 0
    rw[e,hv]at this;cases this
  have dR:Rel C S (m.cutA (some ⟨b,0,none⟩) (n*esz)) a w:=hr.lessMem cI (fun b' o v hv=>by
   by_cases hb:b'=b
   ·subst hb;rw[jl]at hv;rw[eQ o]at hv;cases hv
   ·rw[fX b' hb];exact hr.le _ _ _ hv) (fun id x hx _ o=>fX _ (iC id x hx) o)
  obtain⟨v0,qV⟩:=jf 0 eT
  have hM:∀M,Dom C S m a w M→M b:=fun M hd=>(hd.new b 0 v0 qV).resolve_left fun h=>by rw[jl,eQ 0]at h;cases h
  have cQ:∀o,o < c*esz→∃v,w.cell? ⟨b,o,none⟩=some v:=fun o ho=>by
   obtain⟨v,hv⟩:=jf o ho
   exact⟨v,hr.sub _ _ _ hv⟩
  obtain⟨cur,T,fr,hh⟩:∃cur T fr,w.heap[b]?=some (.cells cur T fr):=by
   obtain⟨v,hv⟩:=cQ 0 eT
   unfold World.cell? at hv
   cases hh:w.heap[b]? with
   | none=>simp[hh]at hv
   | some ob=>
    cases ob <;> simp[hh]at hv
    exact⟨_,_,_,rfl⟩
  have bW:c*esz≤cur.size:=by
   obtain⟨v,hv⟩:=cQ (c*esz - 1) (by omega)
   simp only[World.cell?,hh]at hv
   simp at hv
   have:=(Array.getElem?_eq_some_iff.1 hv).1
   omega
  obtain⟨M,hd⟩:=hr.dom
  have gw:Wr w b:=hW _ _ _ hd.p b (hM M hd)
  refine dR.tokUpd key _ (.inr ⟨b,0,n,c,cur,T,fr,rfl,gE,hh,by rw[Nat.zero_add];exact bW,gw cur T fr hh,fun o ho _=>by rw[Nat.zero_add]at ho;simp[Mem.cutA,ho]⟩) (fun b' hb'=>?_) ?_
  ·have:b'=b:=by simp[Tok.blk]at hb';exact hb'.symm
   subst this
   exact⟨⟨iC,by rw[jl];exact eQ⟩,fun k' t' cU ht'=>ZhM q1 k' t' (hr.tkeys k' t' ht') ht' (by simpa using cU)⟩
  ·obtain⟨M1,jg⟩:=dR.dom
   refine⟨M,⟨hd.p,hd.lt,hd.own,hd.tok,hd.mks,fun b o v hv=>hd.new b o v (cI _ _ _ hv)⟩,fun b' hb'=>?_⟩
   have:b'=b:=by simp[Tok.blk]at hb';exact hb'.symm
   subst this
   exact hM M hd
theorem Rel.unacq{C:Ctx}{S:St}{m:Mem}{a:Act}{w:World}(hr:Rel C S m a w){key:Nat}{t:Tok}(ht:S.tok key=some t):
  ∃zs:List Value,zs.length=(slC t.v - slN t.v)*t.esz∧Rel C { S with tok:=fun k=>bif Nat.beq k key then none else S.tok k } (m.addA (slA t.v) (slN t.v*t.esz) zs) a w:=by
 have dR:Rel C { S with tok:=fun k=>bif Nat.beq k key then none else S.tok k } m a w:=by
  refine hr.restrict rfl (fun _ _ hx=>hx) (fun k t' hk=>?_) (fun i sv he=>?_) hr.ids (fun k t' hk=>?_)
  ·by_cases e:k=key
   ·subst e;simp at hk
   ·simp[Zam e]at hk;exact .inl hk
  ·obtain⟨v,h1,h2⟩:=hr.env i sv he
   exact⟨v,by cases sv <;> exact h1,h2⟩
  ·by_cases e:k=key
   ·subst e;simp at hk
   ·simp[Zam e]at hk;exact hr.tkeys k t' hk
 obtain⟨g1,g2⟩:=hr.toks key t ht
 rcases g1 with g1|⟨b,o0,n,c,cur,T,fr,hv,gE,hh,bW,eA,cL⟩
 ·rw[g1]
  exact⟨[],by simp[slC,slN],dR⟩
 ·have dG:t.blk=some b:=by simp[Tok.blk,hv]
  rw[hv]
  simp only[slC,slN,slA]
  have qW:c*t.esz=n*t.esz+(c - n)*t.esz:=by rw[←Nat.add_mul];congr 1;omega
  obtain⟨P0,lC⟩:∃P0,P0=o0+n*t.esz:=⟨_,rfl⟩
  refine⟨(cur.toList.drop P0).take ((c - n)*t.esz),by simp;omega,?_⟩
  simp only[Mem.addA]
  rw[←lC]at cL ⊢
  obtain⟨zs,ld⟩:∃zs,zs=(cur.toList.drop (P0)).take ((c - n)*t.esz):=⟨_,rfl⟩
  rw[←ld]
  have og:∀q v,zs[q]?=some v→cur[P0+q]?=some v:=fun q v hq=>by
   rw[ld,List.getElem?_take]at hq
   split at hq
   ·rw[List.getElem?_drop]at hq;simpa using hq
   ·cases hq
  have cI:m.le (m.addAt b (P0) zs):=fun b' o v hv'=>by
   simp only[Mem.addAt]
   split
   ·rename_i hc
    obtain⟨rfl,ho⟩:=hc
    cases hz:zs[o - P0]? with
    | none=>simp only[hz];exact hv'
    | some u=>
     have hq:=(List.getElem?_eq_some_iff.1 hz).1
     rw[ld,List.length_take]at hq
     rw[cL o ho (by omega)]at hv';cases hv'
   ·exact hv'
  have fX:∀b',b'≠b→∀o,m.addAt b (P0) zs b' o=m b' o:=fun b' hb o=>by simp[Mem.addAt,hb]
  have nB:∀id x,S.L id=some x→x.b≠b:=(g2 b dG).1
  refine⟨dR.defers,dR.size,dR.env,fun id x hx=>?_,dR.apart,dR.ids,fun k t' hk=>?_,dR.tkeys,dR.tapart,fun b' o v hv'=>?_,Mem.le_trans dR.le cI,?_⟩
  ·obtain⟨q1,q2,q3,q4⟩:=hr.own id x hx
   exact⟨q1,fun hz o=>by rw[fX _ (nB id x hx)];exact q2 hz o,fun hz j u hu=>cI _ _ _ (q3 hz j u hu),q4⟩
  ·obtain⟨q1,q2⟩:=dR.toks k t' hk
   refine⟨q1.same (fun b' _=>rfl) (fun b' o hb' hn=>?_),q2⟩
   have cU:b'≠b:=fun e=>by
    subst e
    by_cases e:k=key
    ·subst e;simp at hk
    ·simp[Zam e]at hk
     exact e (hr.tapart k key t' t _ hk ht hb' dG)
   rw[fX b' cU];exact hn
  ·by_cases hb:b'=b
   ·subst hb
    simp only[Mem.addAt]at hv'
    by_cases ho:P0≤o
    ·simp only[ho,and_self,if_true]at hv'
     cases hz:zs[o - P0]? with
     | none=>simp only[hz]at hv';exact hr.sub _ _ _ hv'
     | some u=>
      simp only[hz]at hv';cases hv'
      have:=og _ _ hz
      rw[show P0+(o - P0)=o by omega]at this
      simp only[World.cell?,hh]
      simpa using this
    ·simp only[ho,and_false,if_false]at hv';exact hr.sub _ _ _ hv'
   ·rw[fX b' hb]at hv';exact hr.sub _ _ _ hv'
  ·obtain⟨M,hd⟩:=hr.dom
   refine⟨M,hd.p,hd.lt,hd.own,fun k t' b' hk hb'=>?_,hd.mks,fun b' o v hv'=>?_⟩
   ·by_cases e:k=key
    ·subst e;simp at hk
    ·simp[Zam e]at hk;exact hd.tok k t' b' hk hb'
   ·by_cases hb:b'=b
    ·subst hb;exact .inr (hd.tok key t _ ht dG)
    ·rw[fX b' hb]at hv';exact hd.new b' o v hv'
theorem ZtP{E:Env}{C:Ctx}(hY:YOk E C){kz:Option (Nat×Nat)}{f:(St→Mem→Prop)→St→Mem→Prop}{K:St→Mem→Prop}{S:St}{m:Mem}{a:Act}{w:World}{p:Prop}(hr:Rel C S m a w)(h:ZtO E kz f K S m)
  (hf:∀(K':St→Mem→Prop) S' m',Rel C S' m' a w→f K' S' m'→(∀S2 m2 a2 w2,K' S2 m2→Rel C S2 m2 a2 w2→∃S3 m3,K S3 m3∧Rel C S3 m3 a2 w2)→p):p:=by
 unfold ZtO at h
 split at h
 ·exact hf _ _ _ hr h fun S2 m2 a2 w2 hk bB=>⟨S2,m2,hk,bB⟩
 ·rename_i key esz
  obtain⟨h3,h4⟩:=Zae h
  cases eE:E.m0 with
  | none=>simp[eE]at h4
  | some mm=>
   simp only[eE]at h4
   obtain⟨q,n',c,z1,z2,z3⟩:=h4
   refine hf _ _ _ (hr.acq hY eE z1 z2) z3 fun S2 m2 a2 w2 hk bB=>?_
   split at hk
   ·exact hk.elim
   ·rename_i t ht
    obtain⟨hZ,eG⟩:=Zae hk
    obtain⟨zs,oh,oi⟩:=bB.unacq ht
    exact⟨_,_,eG zs oh,oi⟩
end Go.Eng
namespace Go.Eng
open Go Go.RowKit
theorem ZiT:∀{A:List (Nat×Shape)} {xs:List Value} {e:Nat→Option SV} {i:Nat} {sv:SV},xs.length=A.length→Zbs e A xs i=some sv→(e i=some sv∧i ∉ A.map (·.1))∨∃(q:Nat)(sh:Shape)(v:Value),A[q]?=some (i,sh)∧xs[q]?=some v∧sv=.v v
 | [],xs,e,i,sv,_,h=>.inl ⟨by simpa[Zbs]using h,by simp⟩
 | (t,s)::A,[],e,i,sv,hl,h=>by simp at hl
 | (t,s)::A,v::xs,e,i,sv,hl,h=>by
  by_cases hi:i=t
  ·subst hi
   simp[Zbs]at h
   exact .inr ⟨0,s,v,by simp,by simp,h.symm⟩
  ·simp only[Zbs,Zam hi,cond_false]at h
   rcases ZiT (by simpa using hl) h with⟨h1,h2⟩|⟨q,sh,u,h1,h2,h3⟩
   ·exact .inl ⟨h1,by simp only[List.map_cons,List.mem_cons,not_or];exact⟨hi,h2⟩⟩
   ·exact .inr ⟨q+1,sh,u,by simpa using h1,by simpa using h2,h3⟩
theorem ZiU:∀(ps:List Nat)(vs:List Value)(t:Array Value),vs.length=ps.length→ps.Nodup→
  ((ps.zip vs).foldl (fun(t:Array Value)(x:Nat×Value)=>t.setIfInBounds x.1 x.2) t).size=t.size∧
  (∀i,i ∉ ps→((ps.zip vs).foldl (fun(t:Array Value)(x:Nat×Value)=>t.setIfInBounds x.1 x.2) t)[i]?=t[i]?)∧
  (∀(q i:Nat)(v:Value),ps[q]?=some i→vs[q]?=some v→i < t.size→((ps.zip vs).foldl (fun(t:Array Value)(x:Nat×Value)=>t.setIfInBounds x.1 x.2) t)[i]?=some v)
 | [],vs,t,_,_=>⟨rfl,fun _ _=>rfl,fun q i v h=>by simp at h⟩
 | p::ps,[],t,h,_=>by simp at h
 | p::ps,v::vs,t,h,hn=>by
  obtain⟨hp,hn⟩:=List.nodup_cons.1 hn
  obtain⟨h1,h2,h3⟩:=ZiU ps vs (t.setIfInBounds p v) (by simpa using h) hn
  simp only[List.zip_cons_cons,List.foldl_cons]
  refine⟨by simpa using h1,fun i hi=>?_,fun q i u hq hu bA=>?_⟩
  ·simp only[List.mem_cons,not_or]at hi
   rw[h2 i hi.2,Array.getElem?_setIfInBounds_ne (Ne.symm hi.1)]
  ·cases q with
   | zero=>
    simp at hq hu
    subst hq hu
    rw[h2 p hp]
    simp[bA]
   | succ q=>exact h3 q i u (by simpa using hq) (by simpa using hu) (by simpa using bA)
theorem ZiV:∀{a b:List Nat},Zlr a b=true→a=b
 | [],[],_=>rfl
 | [],_::_,h=>by simp[Zlr]at h
 | _::_,[],h=>by simp[Zlr]at h
 | x::a,y::b,h=>by
  simp only[Zlr,Bool.and_eq_true]at h
  rw[Nat.eq_of_beq_eq_true h.1,ZiV h.2]
theorem ZeP:∀{l:List Shape} {x:List Value},Shape.fitsL l x=true→x.length=l.length
 | [],[],_=>rfl
 | [],_::_,h=>by simp[Shape.fitsL]at h
 | _::_,[],h=>by simp[Shape.fitsL]at h
 | _::l,_::x,h=>by
  simp only[Shape.fitsL,Bool.and_eq_true]at h
  simp[ZeP h.2]
section
variable {C:Ctx} {S:St} {m:Mem} {a:Act} {w w':World} {M M':Nat→Prop}
structure Apart (M':Nat→Prop)(S:St)(m:Mem)(a:Act):Prop where
 box:∀id x,S.L id=some x→¬M' x.b
 tok:∀k t b,S.tok k=some t→t.blk=some b→¬M' b
 mks:∀D,ZiK D∈a.defers→¬M' D
 mem:∀b o v,m b o=some v→¬M' b
theorem Rel.markAt(h:Rel C S m a w){D:Nat}(hD:ZiK D∈a.defers):w.heap[D]?=some (.deferred (some [])):=by
 obtain⟨ms,h1,h2,h3⟩:=h.defers
 rw[h1]at hD
 obtain⟨D',h4,h5⟩:=List.mem_map.1 hD
 have:D'=D:=by simpa[ZiK]using h5
 exact this ▸ h3 D' h4
theorem Rel.foreign(h:Rel C S m a w)(hd:Dom C S m a w M)(hM:∀k,M' k→M k)(fU:Apart M' S m a)(hu:Upd M' w w'):Rel C S m a w'∧Dom C S m a w' (ZuT M w w'):=by
 have hd':Dom C S m a w' (ZuT M w w'):=hd.step ⟨hu.os,hu.tape,hu.output,hu.size,fun k hk hn=>hu.block k hk (fun hm=>hn (hM k hm)),hu.wr⟩ (fun b o v hv=>.inl hv)
 refine⟨⟨?_,h.size,h.env,fun id x hx=>?_,h.apart,h.ids,fun k t ht=>?_,h.tkeys,h.tapart,fun b o v hv=>?_,h.le,⟨_,hd'⟩⟩,hd'⟩
 ·obtain⟨ms,h1,h2,h3⟩:=h.defers
  refine⟨ms,h1,h2,fun D hD=>?_⟩
  rw[hu.block D (Array.getElem?_eq_some_iff.1 (h3 D hD)).1 (fU.mks D (by rw[h1];exact List.mem_map.2 ⟨D,hD,rfl⟩))];exact h3 D hD
 ·exact(h.own id x hx).same (hu.block _ (h.own id x hx).lt (fU.box id x hx)) (Mem.le_refl m) (h.own id x hx).free
 ·obtain⟨h1,h2⟩:=h.toks k t ht
  exact⟨h1.same (fun b hb=>hu.block b (h1.lt hb) (fU.tok k t b ht hb)) (fun _ _ _ hn=>hn),h2⟩
 ·rw[Zbc (hu.block b (h.sub.lt hv) (fU.mem b o v hv))];exact h.sub b o v hv
theorem Rel.swap{C2:Ctx}{S2:St}{a2:Act}(h:Rel C S m a w)(hn:C2.n=C.n)(hm:C2.m0.le m)(hL:S2.L=S.L)(dL:S2.ids=S.ids)(bY:S2.tok=S.tok)(fQ:S2.tkeys=S.tkeys)
  (dH:∀i sv,S2.env i=some sv→∃v,S2.den sv=some v∧a2.tmps[i]?=some v) (bW:a2.tmps.size=C2.n)
  (gX:∃ms:List Nat,a2.defers=ms.map ZiK∧ms.Nodup∧∀D∈ms,w'.heap[D]?=some (.deferred (some [])))
  (fC:∀(k:Nat) c T fr,w.heap[k]?=some (Obj.cells c T fr)→w'.heap[k]?=w.heap[k]?) (bR:∀k t b,S.tok k=some t→t.blk=some b→C2.m0.free b) (hd:∃M,Dom C2 S2 m a2 w' M):Rel C2 S2 m a2 w':=by
 refine⟨gX,bW,dH,fun id x hx=>?_,fun id id' x x' hx hx'=>?_,fun id x hx=>?_,fun k t ht=>?_,fun k t ht=>?_,fun k k' t t' b ht ht'=>?_,fun b o v hv=>?_,hm,hd⟩
 ·rw[hL]at hx
  have ho:=h.own id x hx
  obtain⟨sp,fr,hc,_⟩:=ho.cells
  exact ho.same (fC _ _ _ _ hc) (Mem.le_refl m) ho.free
 ·rw[hL]at hx hx';exact h.apart id id' x x' hx hx'
 ·rw[hL]at hx;rw[dL];exact h.ids id x hx
 ·rw[bY]at ht
  obtain⟨h1,h2⟩:=h.toks k t ht
  refine⟨h1.same (fun b hb=>?_) (fun _ _ _ hn=>hn),fun b hb=>⟨fun id x hx=>?_,?_⟩⟩
  ·rcases h1 with h1|⟨b',o0,n,c,cur,T,fr,hv,_,hh,_⟩
   ·simp[Tok.blk,h1]at hb
   ·simp[Tok.blk,hv]at hb;subst hb;exact fC _ _ _ _ hh
  ·rw[hL]at hx;exact(h2 b hb).1 id x hx
  ·exact bR k t b ht hb
 ·rw[bY]at ht;rw[fQ];exact h.tkeys k t ht
 ·rw[bY]at ht ht';exact h.tapart k k' t t' b ht ht'
 ·have h1:=h.sub b o v hv
  have:∃c T fr,w.heap[b]?=some (Obj.cells c T fr):=by
   unfold World.cell? at h1
   split at h1
   ·rename_i c T fr hc;exact⟨c,T,fr,hc⟩
   ·cases h1
  obtain⟨c,T,fr,hc⟩:=this
  rw[Zbc (fC _ _ _ _ hc)];exact h1
end
def Zu5(C:Ctx)(X:Nat→Prop)(h:Nat→Option Obj)(B:Nat):Ctx where
 n:=C.n
 m0:=C.m0
 p:=fun g Mr w=>∃M,C.p g M w∧(∀k,M k→k < w.heap.size)∧(∀k,Mr k→M k)∧(∀k,X k→M k∧¬Mr k∧w.heap[k]?=h k)∧B≤w.heap.size
 st:=by
  rintro g Mr M2 w w' ⟨M,h1,h2,h3,h4,h5⟩ hu hg
  refine⟨ZuT M w w',C.st g M _ w w' h1 ⟨hu.os,hu.tape,hu.output,hu.size,fun k hk hn=>hu.block k hk (fun hm=>hn (h3 k hm)),hu.wr⟩ (fun _ hk=>hk),?_,?_,?_,Nat.le_trans h5 hu.size⟩
  ·rintro k (hk|hk)
   ·exact Nat.lt_of_lt_of_le (h2 k hk) hu.size
   ·exact hk.2
  ·intro k hk
   exact(hg k hk).imp_left (h3 k)
  ·intro k hk
   obtain⟨g1,g2,g3⟩:=h4 k hk
   have bA:=h2 k g1
   refine⟨.inl g1,fun hm=>?_,?_⟩
   ·rcases hg k hm with h|h
    ·exact g2 h
    ·omega
   ·rw[hu.block k bA g2];exact g3
theorem Zo5{E:Env}{C:Ctx}{X:Nat→Prop}{h:Nat→Option Obj}{B:Nat}(hY:YOk E C):YOk E (Zu5 C X h B):=by
 refine⟨?_,fun mm eH=>⟨(hY.m0 mm eH).1,fun g Mr w ⟨M,h1,h2,h3,h4,h5⟩ k hk=>(hY.m0 mm eH).2 g M w h1 k (h3 k hk)⟩⟩
 rintro Y qX F n l g v Mr w hF bA hy ⟨M,h1,h2,h3,h4,h5⟩ hs
 obtain⟨fn,tmps,asg,bdy,lK,fA⟩:=hY.y Y qX F n l g v M w hF h2 hy h1 hs
 refine⟨fn,tmps,asg,bdy,lK,fA.mono ?_⟩
 rintro e w' ⟨b,rfl,hp,hf⟩
 refine⟨b,rfl,⟨M,hp,fun k hk=>Nat.lt_of_lt_of_le (h2 k hk) hf.size,h3,fun k hk=>?_,Nat.le_trans h5 hf.size⟩,hf.size,fun k hk hm=>hf.block k hk (h3 k hm),hf.sub⟩
 obtain⟨g1,g2,g3⟩:=h4 k hk
 exact⟨g1,g2,by rw[hf.block k (h2 k g1) g1];exact g3⟩
def ROk(F:Fence)(C:Ctx):Prop:=∀l,F.round=some l→∀g M w,C.p g M w→∃r,w.heap[l]?=some (.loop r)
end Go.Eng
namespace Go.Eng
open Go Go.RowKit
def Zjy:Obj→Bool
 | .cells _ _ _=>false
 | _=>true
theorem ZmK{o:Obj}(h:Zjy o=true):ZtJ o:=fun c T fr e=>by subst e;simp[Zjy]at h
theorem Zfx{M:Nat→Prop}{w:World}{l:Nat}{o:Obj}(ho:Zjy o=true)(hl:M l):Upd M w (w.putObj l o):=
 ⟨rfl,rfl,rfl,by simp[World.putObj],fun k hk hn=>World.putObj_heap_other (fun e=>hn (e ▸ hl)),fun k hk c T fr hh i hi=>by
  by_cases e:k=l
  ·subst e
   by_cases bA:k < w.heap.size
   ·rw[World.putObj_heap_same bA]at hh
    exact ZmK ho c T fr (Option.some.inj hh) i hi
   ·have h1:=(Array.getElem?_eq_some_iff.1 hh).1
    have h2:(w.putObj k o).heap.size=w.heap.size:=by simp[World.putObj]
    omega
  ·rw[World.putObj_heap_other e]at hh;exact hk c T fr hh i hi⟩
theorem ZcZ(w:World)(l:Nat)(o:Obj):(w.putObj l o).heap.size=w.heap.size:=by simp[World.putObj]
theorem FOk.inRound{F:Fence}(h:FOk F)(l:Nat):FOk (F.inRound l):=by
 rcases h with rfl|⟨l',rfl⟩
 ·exact .inr ⟨l,rfl⟩
 ·exact .inr ⟨l,rfl⟩
section
variable {C:Ctx} {S:St} {m:Mem} {a:Act} {w w':World} {M M':Nat→Prop}
theorem Rel.alloc(h:Rel C S m a w)(hd:Dom C S m a w M){o:Obj}(ho:Zjy o=true):Rel C S m a (w.alloc o)∧Dom C S m a (w.alloc o) (ZuT M w (w.alloc o)):=by
 have hk:Keep w.heap.size [] w (w.alloc o):=Keep.alloc (Nat.le_refl _) (ZmK ho)
 refine⟨h.world hk (fun b o' v hv=>?_) (Mem.le_refl m) (fun _ _ _ hv=>.inl hv),hd.step (hk.upd (by simp)) (fun b o v hv=>.inl hv)⟩
 rw[Zbc (Below.heap_alloc w _ b (h.sub.lt hv))];exact h.sub _ _ _ hv
theorem Zfy(M:Nat→Prop)(w:World)(o:Obj):ZuT M w (w.alloc o) w.heap.size:=.inr ⟨Nat.le_refl _,by simp⟩
theorem Rel.enter{P:Program}(hr:Rel C S m a w){F:Fence}(hR:ROk F C)(fn:FuncId)(ps:Array Tmp)(asg bdy:Code):
  ∃l mk w1 D,(Instr.enterLoop fn a.tmps ps asg bdy F.round).run P w=.ok (l,mk) w1∧Rel C S m { a with defers:=mk++a.defers } w1∧(∃M,Dom C S m { a with defers:=mk++a.defers } w1 M∧M l)∧
   w1.heap[l]?=some (.loop { state:=.ready,pending:=none,fn,tmps:=a.tmps,params:=ps,assign:=asg,body:=bdy,defers:=D }):=by
 obtain⟨M,hd⟩:=hr.dom
 cases ol:F.round with
 | none=>
  obtain⟨h1,d1⟩:=hr.alloc hd (o:=.deferred (some [])) rfl
  obtain⟨h2,d2⟩:=h1.alloc d1 (o:=.loop { state:=.ready,pending:=none,fn,tmps:=a.tmps,params:=ps,assign:=asg,body:=bdy,defers:=w.heap.size }) rfl
  have e1:(w.alloc (.deferred (some []))).heap.size=w.heap.size+1:=by simp
  have g1:((w.alloc (.deferred (some []))).alloc (.loop { state:=.ready,pending:=none,fn,tmps:=a.tmps,params:=ps,assign:=asg,body:=bdy,defers:=w.heap.size })).heap[w.heap.size]?=some (.deferred (some [])):=by
   rw[Below.heap_alloc _ _ _ (by simp)];exact heap_alloc_new w _
  refine⟨_,_,_,w.heap.size,run_enterLoop_outer _ _ _ _ _,?_,?_,?_⟩
  ·obtain⟨ms,k1,k2,k3⟩:=h2.defers
   have hD:∃M,Dom C S m { a with defers:=[ZiK w.heap.size]++a.defers } ((w.alloc (.deferred (some []))).alloc (.loop { state:=.ready,pending:=none,fn,tmps:=a.tmps,params:=ps,assign:=asg,body:=bdy,defers:=w.heap.size })) M:=
    ⟨_,d2.p,d2.lt,d2.own,d2.tok,fun D hD=>by
     simp only[List.singleton_append,List.mem_cons]at hD
     rcases hD with hD|hD
     ·have:D=w.heap.size:=by simpa[ZiK]using hD
      subst this
      exact .inl (Zfy _ _ _)
     ·exact d2.mks D hD,d2.new⟩
   refine⟨⟨w.heap.size::ms,by simp[k1,ZiK],?_,?_⟩,h2.size,h2.env,h2.own,h2.apart,h2.ids,h2.toks,h2.tkeys,h2.tapart,h2.sub,h2.le,hD⟩
   ·refine List.nodup_cons.2 ⟨fun hm=>?_,k2⟩
    obtain⟨ms',q1,q2,q3⟩:=hr.defers
    have:w.heap.size∈ms':=by
     have e:ZiK w.heap.size∈a.defers:=by
      have:a.defers=ms.map ZiK:=k1
      rw[this];exact List.mem_map.2 ⟨_,hm,rfl⟩
     rw[q1]at e
     obtain⟨D',r1,r2⟩:=List.mem_map.1 e
     have:D'=w.heap.size:=by simpa[ZiK]using r2
     exact this ▸ r1
    have:=(Array.getElem?_eq_some_iff.1 (q3 _ this)).1
    omega
   ·intro D hD
    rcases List.mem_cons.1 hD with rfl|hD
    ·exact g1
    ·exact k3 D hD
  ·refine⟨_,⟨d2.p,d2.lt,d2.own,d2.tok,fun D hD=>?_,d2.new⟩,by rw[←e1];exact Zfy _ _ _⟩
   simp only[List.singleton_append,List.mem_cons]at hD
   rcases hD with hD|hD
   ·have:D=w.heap.size:=by simpa[ZiK]using hD
    subst this
    exact .inl (Zfy _ _ _)
   ·exact d2.mks D hD
  ·rw[←e1];exact heap_alloc_new _ _
 | some l0=>
  obtain⟨r0,h0⟩:=hR l0 ol _ _ _ hd.p
  obtain⟨h1,d1⟩:=hr.alloc hd (o:=.loop { state:=.ready,pending:=none,fn,tmps:=a.tmps,params:=ps,assign:=asg,body:=bdy,defers:=r0.defers }) rfl
  exact⟨_,_,_,r0.defers,run_enterLoop_inner h0 _ _ _ _ _,h1,⟨_,d1,Zfy _ _ _⟩,heap_alloc_new _ _⟩
theorem ZmL{S:St}{ds:List Nat}{A:LoopAnn}{g:Int}{xs:List Value}{css:List (List Value)}{tvs:List Value}{sv:SV}{v:Value}(h:S.den sv=some v):(Zbu S ds A g xs css tvs).den sv=some v:=by
 cases sv with
 | v u=>exact h
 | loc id off=>
  simp only[St.den]at h ⊢
  cases hx:S.L id with
  | none=>simp[hx]at h
  | some x=>
   obtain⟨y,hy,hb⟩:=Zd5 (l:=A.boxes) (css:=css) hx
   simp only[hx]at h
   simp only[Zbu,hy,hb];exact h
 | sl id n c=>
  simp only[St.den]at h ⊢
  cases hx:S.L id with
  | none=>simp[hx]at h
  | some x=>
   obtain⟨y,hy,hb⟩:=Zd5 (l:=A.boxes) (css:=css) hx
   simp only[hx]at h
   simp only[Zbu,hy,hb];exact h
end
end Go.Eng
namespace Go.Eng
open Go Go.RowKit
def Zqo(E:Env)(T:KT→St→Mem→Prop)(c:Code):Prop:=
 ∀{F:Fence} (_:FOk F) {C:Ctx} (_:YOk E C) (_:ROk F C) (n:Nat),Zbd C.n c=true→∀{S:St} {m:Mem} {a:Act} {w:World} {K:KT} {Q:Exit→Act→World→Prop},Rel C S m a w→T K S m→
  (∀e S' m' a' w',K e S' m'→Rel C S' m' a' w'→Q e a' w')→c.wpIn F n E.P Q a w
def Zo6(tvs:List Value):Prop:=∀v∈tvs,ZbJ v=true
def ZtQ(K:KT)(c:Code)(S:St)(m:Mem):Prop:=match c with
 | .ret=>K .ret S m
 | .exit id=>K (.exit id) S m
 | .goto l=>K (.goto l) S m
 | _=>False
section
variable {C:Ctx} {S:St} {m:Mem} {a:Act} {w w':World} {M M':Nat→Prop}
def ZgB(fn:FuncId)(tmps:Array Value)(ps:Array Tmp)(x y:Code)(D:Nat)(st:LoopState)(pe:Option Code):Loop:=
 {state:=st,pending:=pe,fn,tmps,params:=ps,assign:=x,body:=y,defers:=D }
def Zqp(C:Ctx)(S:St)(m:Mem)(A:LoopAnn)(I:List Value→List (List Value)→List Value→Mem→Nat→Prop)(K:KT)(a1:Act)(l:Nat)(rec:LoopState→Option Code→Loop)(k:Int)(M':Nat→Prop)(W:World):Prop:=
 ∃(g:Int) (css:List (List Value)) (tvs:List Value) (m':Mem),css.length=A.boxes.length∧tvs.length=A.toks.length∧Zo6 tvs∧(A.gh=false→g=S.gh)∧m.le m'∧
  Rel C (Zbu S [] { A with slots:=[] } g [] css tvs) m' a1 W∧
  (∃M,Dom C (Zbu S [] { A with slots:=[] } g [] css tvs) m' a1 W M∧M l∧¬M' l∧(∀k,M' k→M k)∧Apart M' (Zbu S [] { A with slots:=[] } g [] css tvs) m' a1)∧
  ((0≤k∧I (ghs A.gh g []) css tvs m' k.toNat∧W.heap[l]?=some (.loop (rec .ready none)))∨
   (k=-1∧∃c,W.heap[l]?=some (.loop (rec .done (some c)))∧ZtQ K c (Zbu S [] { A with slots:=[] } g [] css tvs) m'))
theorem Zlt{A:LoopAnn}{I:List Value→List (List Value)→List Value→Mem→Nat→Prop}{K:KT}{a1:Act}{l:Nat}{rec:LoopState→Option Code→Loop}:ZtL (Zqp C S m A I K a1 l rec):=by
 rintro k M' M2 W W' ⟨g,css,tvs,m',h1,h2,h3,h4,h5,hr,⟨M,hd,hl,hl',hM,fU⟩,hc⟩ hu hg
 obtain⟨eV,om⟩:=hr.foreign hd hM fU hu
 have gZ:=hd.lt l hl
 have qY:W'.heap[l]?=W.heap[l]?:=hu.block l gZ hl'
 have key:∀k,k < W.heap.size→¬M' k→¬M2 k:=fun k hk hn h=>by
  rcases hg k h with h|h
  ·exact hn h
  ·omega
 refine⟨g,css,tvs,m',h1,h2,h3,h4,h5,eV,⟨_,om,.inl hl,key l gZ hl',fun k hk=>?_,?_⟩,?_⟩
 ·rcases hg k hk with h|h
  ·exact .inl (hM k h)
  ·exact .inr h
 ·refine⟨fun id x hx=>key _ (hr.own id x hx).lt (fU.box id x hx),fun k t b ht hb=>key _ ((hr.toks k t ht).1.lt hb) (fU.tok k t b ht hb),fun D hD=>key _ (hd.lt D (hd.mks D hD)) (fU.mks D hD),fun b o v hv=>key _ (hr.sub.lt hv) (fU.mem b o v hv)⟩
 ·rw[qY];exact hc
end
end Go.Eng
namespace Go.Eng
open Go Go.RowKit
section
variable {C:Ctx} {S:St} {m:Mem} {a:Act} {w w':World} {M M':Nat→Prop}
theorem ZtR{a b:Nat}(h:Nat.blt a b=true):a < b:=by simpa[Nat.blt_eq]using h
theorem ZbZ{w:World}{k l:Nat}{c T fr}{r:Loop}(h:w.heap[k]?=some (.cells c T fr))(hl:w.heap[l]?=some (.loop r)):k≠l:=fun e=>by subst e;rw[h]at hl;cases hl
theorem ZgW{w:World}{k l:Nat}{c T fr d}(h:w.heap[k]?=some (.cells c T fr))(hl:w.heap[l]?=some (.deferred d)):k≠l:=fun e=>by subst e;rw[h]at hl;cases hl
theorem Own.isCells{m:Mem}{w:World}{x:Box}(h:Own m w x):∃c T fr,w.heap[x.b]?=some (.cells c T fr):=by
 obtain⟨sp,fr,hh,_⟩:=h.cells
 exact⟨_,_,_,hh⟩
theorem TokOk.isCells{m:Mem}{w:World}{t:Tok}(h:TokOk m w t){b:Nat}(hb:t.blk=some b):∃c T fr,w.heap[b]?=some (.cells c T fr):=by
 rcases h with h|⟨b',o0,n,c,cur,T,fr,hv,_,hh,_⟩
 ·simp[Tok.blk,h]at hb
 ·simp[Tok.blk,hv]at hb;subst hb;exact⟨_,_,_,hh⟩
theorem Sub.isCells{m:Mem}{w:World}(h:Sub m w){b o:Nat}{v:Value}(hv:m b o=some v):∃c T fr,w.heap[b]?=some (.cells c T fr):=by
 have h1:=h b o v hv
 unfold World.cell? at h1
 split at h1
 ·rename_i c T fr hc;exact⟨c,T,fr,hc⟩
 ·cases h1
theorem Rel.intoRound{S0 S1:St}{a1:Act}{l:Nat}{r:Loop}{tm:Array Value}(hr:Rel C S0 m a1 w)(hd:Dom C S0 m a1 w M)(hl:M l)(hl':¬M' l)(hM:∀k,M' k→M k)(fU:Apart M' S0 m a1)(dM:w.heap[l]?=some (.loop r))
  (hL:S1.L=S0.L) (dL:S1.ids=S0.ids) (bY:S1.tok=S0.tok) (fQ:S1.tkeys=S0.tkeys) (hg:S1.gh=S0.gh) (bW:tm.size=C.n) (dH:∀i sv,S1.env i=some sv→∃v,S1.den sv=some v∧tm[i]?=some v):
  Rel (Zu5 C (fun k=>M' k∨k=l∨ZiK k∈a1.defers) (fun k=>w.heap[k]?) w.heap.size) S1 m { tmps:=tm,defers:=[] } w:=by
 have hX:∀k,(∃c T fr,w.heap[k]?=some (.cells c T fr))→¬M' k→¬(M' k∨k=l∨ZiK k∈a1.defers):=by
  rintro k ⟨c,T,fr,hk⟩ hn (h|h|h)
  ·exact hn h
  ·exact ZbZ hk dM h
  ·exact ZgW hk (hr.markAt h) rfl
 refine hr.swap rfl hr.le hL dL bY fQ dH bW ⟨[],rfl,List.nodup_nil,by simp⟩ (fun _ _ _ _ _=>rfl) (fun k t b ht hb=>((hr.toks k t ht).2 b hb).2) ⟨fun k=>M k∧¬(M' k∨k=l∨ZiK k∈a1.defers),?_,fun k hk=>hd.lt k hk.1,fun id x hx=>?_,fun k t b ht hb=>?_,by simp,fun b o v hv=>?_⟩
 ·rw[hg]
  refine⟨M,hd.p,hd.lt,fun k hk=>hk.1,fun k hk=>⟨?_,fun h=>h.2 hk,rfl⟩,Nat.le_refl _⟩
  rcases hk with h|h|h
  ·exact hM k h
  ·exact h ▸ hl
  ·exact hd.mks k h
 ·rw[hL]at hx
  exact⟨hd.own id x hx,hX _ (hr.own id x hx).isCells (fU.box id x hx)⟩
 ·rw[bY]at ht
  exact⟨hd.tok k t b ht hb,hX _ ((hr.toks k t ht).1.isCells hb) (fU.tok k t b ht hb)⟩
 ·exact(hd.new b o v hv).imp_right fun h=>⟨h,hX _ (hr.sub.isCells hv) (fU.mem b o v hv)⟩
theorem Rel.beginRound{X:Nat→Prop}{h1:Nat→Option Obj}{B:Nat}{S1:St}{ar:Act}{l:Nat}{r r':Loop}(hr:Rel (Zu5 C X h1 B) S1 m ar w)(hl:X l)(dM:w.heap[l]?=some (.loop r)):
  Rel (Zu5 C X (fun k=>(w.putObj l (.loop r')).heap[k]?) B) S1 m ar (w.putObj l (.loop r')):=by
 have cU:∀(k:Nat) c T fr,w.heap[k]?=some (Obj.cells c T fr)→(w.putObj l (.loop r')).heap[k]?=w.heap[k]?:=fun k c T fr hk=>World.putObj_heap_other (ZbZ hk dM)
 obtain⟨ms,q1,q2,q3⟩:=hr.defers
 refine hr.swap rfl hr.le rfl rfl rfl rfl hr.env hr.size ⟨ms,q1,q2,fun D hD=>?_⟩ cU (fun k t b ht hb=>((hr.toks k t ht).2 b hb).2) ?_
 ·rw[World.putObj_heap_other (fun e=>by have:=q3 D hD;rw[e,dM]at this;cases this)];exact q3 D hD
 ·obtain⟨Mr,hd⟩:=hr.dom
  obtain⟨M,p1,p2,p3,p4,p5⟩:=hd.p
  refine⟨Mr,⟨M,C.st _ M M _ _ p1 (Zfx rfl (p4 l hl).1) (fun k hk=>.inl hk),fun k hk=>by rw[ZcZ];exact p2 k hk,p3,fun k hk=>⟨(p4 k hk).1,(p4 k hk).2.1,rfl⟩,by rw[ZcZ];exact p5⟩,fun k hk=>by rw[ZcZ];exact hd.lt k hk,hd.own,hd.tok,hd.mks,hd.new⟩
theorem Rel.outOfRound{X:Nat→Prop}{h1:Nat→Option Obj}{B:Nat}{S' S2:St}{a3 a1:Act}{l:Nat}{r r':Loop}(hr:Rel (Zu5 C X h1 B) S' m a3 w)(hl:X l)(dM:w.heap[l]?=some (.loop r))
  (eE:∀b o v,C.m0 b o=some v→¬X b) (qZ:∀D,ZiK D∈a1.defers→X D) (hX':∀k,M' k→X k) (q7:∀D,ZiK D∈a1.defers→¬M' D)
  (hL:S2.L=S'.L) (dL:S2.ids=S'.ids) (bY:S2.tok=S'.tok) (fQ:S2.tkeys=S'.tkeys) (hg:S2.gh=S'.gh) (bW:a1.tmps.size=C.n) (dH:∀i sv,S2.env i=some sv→∃v,S2.den sv=some v∧a1.tmps[i]?=some v)
  (gX:∃ms:List Nat,a1.defers=ms.map ZiK∧ms.Nodup∧∀D∈ms,w.heap[D]?=some (.deferred (some []))):
  Rel C S2 m a1 (w.putObj l (.loop r'))∧∃M,Dom C S2 m a1 (w.putObj l (.loop r')) M∧M l∧(∀k,M' k→M k)∧Apart M' S2 m a1:=by
 have cU:∀(k:Nat) c T fr,w.heap[k]?=some (Obj.cells c T fr)→(w.putObj l (.loop r')).heap[k]?=w.heap[k]?:=fun k c T fr hk=>World.putObj_heap_other (ZbZ hk dM)
 obtain⟨ms,q1,q2,q3⟩:=gX
 obtain⟨Mr,hd⟩:=hr.dom
 obtain⟨M,p1,p2,p3,p4,p5⟩:=hd.p
 have hD:Dom C S2 m a1 (w.putObj l (.loop r')) M:=by
  refine⟨hg ▸ C.st _ M M _ _ p1 (Zfx rfl (p4 l hl).1) (fun k hk=>.inl hk),fun k hk=>by rw[ZcZ];exact p2 k hk,fun id x hx=>p3 _ (hd.own id x (hL ▸ hx)),fun k t b ht hb=>p3 _ (hd.tok k t b (bY ▸ ht) hb),fun D hD=>(p4 D (qZ D hD)).1,fun b o v hv=>(hd.new b o v hv).imp_right (p3 b)⟩
 refine⟨hr.swap rfl hr.le hL dL bY fQ dH bW ⟨ms,q1,q2,fun D hD=>?_⟩ cU (fun k t b ht hb=>((hr.toks k t ht).2 b hb).2) ⟨M,hD⟩,?_⟩
 ·rw[World.putObj_heap_other (fun e=>by have:=q3 D hD;rw[e,dM]at this;cases this)];exact q3 D hD
 ·refine⟨M,hD,(p4 l hl).1,fun k hk=>(p4 k (hX' k hk)).1,?_⟩
  refine⟨fun id x hx h=>(p4 _ (hX' _ h)).2.1 (hd.own id x (hL ▸ hx)),fun k t b ht hb h=>(p4 _ (hX' _ h)).2.1 (hd.tok k t b (bY ▸ ht) hb),q7,fun b o v hv h=>?_⟩
  rcases hd.new b o v hv with h2|h2
  ·exact eE b o v h2 (hX' b h)
  ·exact(p4 b (hX' b h)).2.1 h2
theorem Rel.atX{X:Nat→Prop}{h1:Nat→Option Obj}{B:Nat}{S':St}{a3:Act}(hr:Rel (Zu5 C X h1 B) S' m a3 w):B≤w.heap.size∧∀k,X k→w.heap[k]?=h1 k:=by
 obtain⟨Mr,hd⟩:=hr.dom
 obtain⟨M,p1,p2,p3,p4,p5⟩:=hd.p
 exact⟨p5,fun k hk=>(p4 k hk).2.2⟩
theorem Zlu{th:Bool}{E:Env}{A:LoopAnn}{I:List Value→List (List Value)→List Value→Mem→Nat→Prop}{K:KT}{a1:Act}{l:Nat}{fn:FuncId}{ps:Array Tmp}{x y:Code}{D:Nat}{Tx Ty:KT→St→Mem→Prop}{xs:List (List Value)}
  (oo:Zqo E Tx x) (oq:Zqo E Ty y) (ot:∀{K:KT} {S:St} {m:Mem},Tx K S m→Tx (fun e S' m'=>K e S' m'∧leT th m m') S m) (ou:∀{K:KT} {S:St} {m:Mem},Ty K S m→Ty (fun e S' m'=>K e S' m'∧leT th m m') S m) (mX:YOk E C) (ov:Zbd C.n x=true) (ow:Zbd C.n y=true) (oz:ps.toList.all (Nat.blt · C.n)=true) (hS:StOk S) (bW:a1.tmps.size=C.n) (dH:∀i sv,S.env i=some sv→∃v,S.den sv=some v∧a1.tmps[i]?=some v)
  (q8:Zlr ps.toList (A.slots.map (·.1))=true) (lf:Za0 ps.toList=true) (eC:∀v∈xs,Shape.fitsL (A.slots.map (·.2)) v=true)
  (hb:Zu4 A.gh S.gh fun y=>Shape.allL (A.slots.map (·.2)) fun x=>Zmz A.boxes fun css=>ZmA A.toks fun tvs=>∀(m':Mem)(n:Nat),m.le m'→xs[n]?=some x→I (ghs A.gh y []) css tvs m' n→
     Tx (fun e S1 m1=>match e with
      | .normal=>Ty (fun e S' m''=>Zwf th m m'' (ZkC A.gh S'.gh S.gh (ZlY (Zbz S' A S.ids) (Zbz S A S.ids) (ZlZ (ZaZ S' A S.tkeys) (ZaZ S A S.tkeys) (ZrC S' A.boxes fun css'=>Zfu S' A.toks fun tvs'=>match e with
       | .normal=>I (ghs A.gh S'.gh []) css' tvs' m'' (n+1)
       | e=>ZmB K e (Zbu S [] { A with slots:=[] } S'.gh [] css' tvs') m''))))) S1 m1
      | _=>False) (Zbu S [] A y x css tvs) m'):
  Zkx E.P m (Zqp C S m A I K a1 l (ZgB fn a1.tmps ps x y D)) (fun l' g v=>l'=l∧0≤g∧xs[g.toNat]?=some v):=by
 rintro F n l' k v M' w hF bA ⟨rfl,sL,p7⟩ ⟨g,css,tvs,m',h1,h2,h3,h4,h5,hr,⟨M,hd,hl,hl',hM,fU⟩,hc⟩ cB
 rcases hc with⟨_,hI,dM⟩|⟨hZ,_⟩
 rotate_left
 ·omega
 have jr:=ZiV q8
 have oA:=eC v (List.mem_of_getElem? p7)
 have iv:v.length=ps.toList.length:=by rw[jr,ZeP oA];simp
 have dQ:=ZaC lf
 have hy:=run_yield (P:=E.P) (args:=v.toArray) dM (by simpa[ZgB]using iv)
 simp only[ZgB]at hy
 refine⟨_,_,_,_,hy,roundIn_of_wpIn (hF.fn _) ?_⟩
 have lN:((ps.zip v.toArray).foldl (fun tmps (x:Tmp×Value)=>tmps.setIfInBounds x.1 x.2) a1.tmps)=((ps.toList.zip v).foldl (fun(t:Array Value)(x:Nat×Value)=>t.setIfInBounds x.1 x.2) a1.tmps):=by
  rw[←Array.foldl_toList,Array.toList_zip]
 obtain⟨f1,f2,f3⟩:=ZiU ps.toList v a1.tmps iv dQ
 have p8:=hF.inRound l'
 have dR:=hr.intoRound (S1:=Zbu S [] A g v css tvs) (tm:=(ps.toList.zip v).foldl (fun(t:Array Value)(x:Nat×Value)=>t.setIfInBounds x.1 x.2) a1.tmps) hd hl hl' hM fU dM rfl rfl rfl rfl rfl (by rw[f1];exact bW) (by
  intro i sv he
  simp only[Zbu]at he
  rcases ZiT (by rw[ZeP oA];simp) he with⟨g1,g2⟩|⟨q,sh,u,g1,g2,g3⟩
  ·simp only[List.any_nil,cond_false]at g1
   obtain⟨u,g3,g4⟩:=dH i sv g1
   exact⟨u,ZmL g3,by rw[f2 i (by rw[jr];exact g2)];exact g4⟩
  ·subst g3
   refine⟨u,rfl,f3 q i u ?_ g2 ?_⟩
   ·rw[jr,List.getElem?_map,g1];rfl
   ·have:i∈ps.toList:=by rw[jr];exact List.mem_map.2 ⟨_,List.mem_of_getElem? g1,rfl⟩
    have:=List.all_eq_true.1 oz i this
    rw[bW];exact ZtR this)
 rw[lN]
 have q9:∀b o v,C.m0 b o=some v→¬(M' b∨b=l'∨ZiK b∈a1.defers):=by
  intro b o v hv
  have hv':m' b o=some v:=hr.le b o v hv
  obtain⟨c,T,fr,hc⟩:=hr.sub.isCells hv'
  rintro(h|h|h)
  ·exact fU.mem b o v hv' h
  ·exact ZbZ hc dM h
  ·exact ZgW hc (hr.markAt h) rfl
 have eL:=Zd4 (Zd3 (Shape.allL_fits _ _ (ZgP hb h4) v oA) css h1) tvs h2 h3 m' k.toNat h5 p7 hI
 refine oo p8 (Zo5 mX) ?_ n ov dR (ot eL) ?_
 ·intro l2 gz g2 Mr w2 hp
  have:l2=l':=by simpa using gz.symm
  subst this
  obtain⟨M2,_,_,_,p4,_⟩:=hp
  exact⟨_,by rw[(p4 l2 (.inr (.inl rfl))).2.2];exact dM⟩
 rintro e S1 m1 a2 w1 ⟨hk,oB⟩ eV
 cases e with
 | normal=>
  obtain⟨z1,z2⟩:=eV.atX
  have iL:w1.heap[l']?=some (.loop (ZgB fn a1.tmps ps x y D .ready none)):=by rw[z2 l' (.inr (.inl rfl))];exact dM
  refine⟨_,run_beginRound iL rfl,?_⟩
  have ra:=eV.beginRound (r':={ ZgB fn a1.tmps ps x y D .ready none with state:=.busy }) (.inr (.inl rfl)) iL
  have jQ:l' < w1.heap.size:=(Array.getElem?_eq_some_iff.1 iL).1
  have ia:(w1.putObj l' (.loop { ZgB fn a1.tmps ps x y D .ready none with state:=.busy })).heap[l']?=some (.loop { ZgB fn a1.tmps ps x y D .ready none with state:=.busy }):=World.putObj_heap_same jQ
  refine oq p8 (Zo5 mX) ?_ n ow ra (ou hk) ?_
  ·intro l2 gz g2 Mr w2 hp
   have:l2=l':=by simpa using gz.symm
   subst this
   obtain⟨M2,_,_,_,p4,_⟩:=hp
   exact⟨_,by rw[(p4 l2 (.inr (.inl rfl))).2.2];exact ia⟩
  rintro e S' m'' a3 w3 ⟨hk,oC⟩ mY
  obtain⟨q0,hk⟩:=Zqh hk
  obtain⟨q1,hk⟩:=Zd0 hk
  obtain⟨q2,hk⟩:=ZcA.1 hk
  obtain⟨q3,hk⟩:=ZcB.1 hk
  obtain⟨css',g1,g2,hk⟩:=ZcY hk
  obtain⟨tvs',k1,k2,hk⟩:=ZbS hk
  obtain⟨y1,y2⟩:=mY.atX
  have ib:w3.heap[l']?=some (.loop { ZgB fn a1.tmps ps x y D .ready none with state:=.busy }):=by rw[y2 l' (.inr (.inl rfl))];exact ia
  have lc:m.le m'':=by
   cases th with
   | true=>exact q0 rfl
   | false=>exact Mem.le_trans h5 (Mem.le_trans oB oC)
  have hx:Rel (Zu5 C (fun k=>M' k∨k=l'∨ZiK k∈a1.defers) (fun k=>(w1.putObj l' (.loop { ZgB fn a1.tmps ps x y D .ready none with state:=.busy })).heap[k]?) w.heap.size) (Zbu { S with env:=fun _=>none } [] { A with slots:=[] } S'.gh [] css' tvs') m'' a3 w3:=by
   have hh:Rel (Zu5 C (fun k=>M' k∨k=l'∨ZiK k∈a1.defers) (fun k=>(w1.putObj l' (.loop { ZgB fn a1.tmps ps x y D .ready none with state:=.busy })).heap[k]?) w.heap.size) { S' with env:=fun _=>none } m'' a3 w3:=
    mY.restrict rfl (fun _ _ h=>h) (fun _ _ h=>.inl h) (fun i sv h=>(by cases h)) mY.ids mY.tkeys
   exact Zeh (S:={ S with env:=fun _=>none }) (S':={ S' with env:=fun _=>none }) (A:={ A with slots:=[] }) ⟨fun i sv h=>(by cases h),hS.ids,hS.tkeys⟩ hh (fun _ _=>rfl) q2 q3 (by simp) g1 g2 k1 k2
  have gX:∃ms:List Nat,a1.defers=ms.map ZiK∧ms.Nodup∧∀D∈ms,w3.heap[D]?=some (.deferred (some [])):=by
   obtain⟨ms,r1,r2,r3⟩:=hr.defers
   refine⟨ms,r1,r2,fun D' hD'=>?_⟩
   have hm:ZiK D'∈a1.defers:=by rw[r1];exact List.mem_map.2 ⟨_,hD',rfl⟩
   rw[y2 D' (.inr (.inr hm)),World.putObj_heap_other (fun e=>by have:=r3 D' hD';rw[e,dM]at this;cases this),z2 D' (.inr (.inr hm))];exact r3 D' hD'
  have cV:=fun(r':Loop)=>hx.outOfRound (S2:=Zbu S [] { A with slots:=[] } S'.gh [] css' tvs') (a1:=a1) (M':=M') (r':=r') (.inr (.inl rfl)) ib q9 (fun D' hD'=>.inr (.inr hD')) (fun k hk=>.inl hk) fU.mks rfl rfl rfl rfl rfl bW (by
   intro i sv he
   simp only[Zbu,Zbs,List.any_nil,cond_false]at he
   obtain⟨u,g3,g4⟩:=dH i sv he
   exact⟨u,ZmL g3,g4⟩) gX
  have kA:l' < w3.heap.size:=(Array.getElem?_eq_some_iff.1 ib).1
  have lO:∀r',Frn m M' w (w3.putObj l' (.loop r')):=fun r'=>by
   refine⟨by rw[ZcZ];exact y1,fun k hk oD=>?_,fun b o v hv=>?_⟩
   ·have cU:k≠l':=fun e=>hl' (e ▸ oD)
    rw[World.putObj_heap_other cU,y2 k (.inl oD),World.putObj_heap_other cU,z2 k (.inl oD)]
   ·have:=(cV r').1.sub b o v (lc b o v hv)
    exact this
  have fP:Zo6 tvs':=by
   intro u hu
   obtain⟨i,hi⟩:=List.getElem?_of_mem hu
   have bA:=(List.getElem?_eq_some_iff.1 hi).1
   obtain⟨qe,iM⟩:∃qe,A.toks[i]?=some qe:=⟨_,List.getElem?_eq_getElem (by omega)⟩
   exact(k2 i qe.1 qe.2 u iM hi).1
  have fin:∀(c:Code) ,ZtQ K c (Zbu S [] { A with slots:=[] } S'.gh [] css' tvs') m''→∃v w',(Instr.endRound l' (some c)).run E.P w3=.ok v w'∧∃b,Ending.returned v=Ending.returned (.bool b)∧Zqp C S m A I K a1 l' (ZgB fn a1.tmps ps x y D) (if b then k+1 else -1) M' w'∧Frn m M' w w':=by
   intro c hc
   refine⟨_,_,run_endRound (some c) ib,false,rfl,?_,lO _⟩
   obtain⟨o1,M3,o2,o3,o4,o5⟩:=cV (ZgB fn a1.tmps ps x y D .done (some c))
   exact⟨S'.gh,css',tvs',m'',g1,k1,fP,q1,lc,o1,⟨M3,o2,o3,hl',o4,o5⟩,.inr ⟨rfl,c,World.putObj_heap_same kA,hc⟩⟩
  cases e with
  | normal=>
   refine⟨_,_,run_endRound none ib,true,rfl,?_,lO _⟩
   obtain⟨o1,M3,o2,o3,o4,o5⟩:=cV (ZgB fn a1.tmps ps x y D .ready none)
   refine⟨S'.gh,css',tvs',m'',g1,k1,fP,q1,lc,o1,⟨M3,o2,o3,hl',o4,o5⟩,.inl ⟨by simp;omega,?_,World.putObj_heap_same kA⟩⟩
   have:(k+1).toNat=k.toNat+1:=by omega
   simp only[if_true,this]
   exact hk
  | ret=>exact fin _ hk
  | exit id=>exact fin _ hk
  | goto t=>exact fin _ hk
  | panic ch=>exact hk.elim
  | outgrown=>exact hk.elim
 | exit id=>exact hk.elim
 | goto t=>exact hk.elim
 | ret=>exact hk.elim
 | panic ch=>exact hk.elim
 | outgrown=>exact hk.elim
end
end Go.Eng
namespace Go.Eng
open Go Go.RowKit
section
variable {C:Ctx} {S:St} {m:Mem} {a:Act} {w w':World}
theorem Rel.afterRange{S2:St}{a1:Act}{l:Nat}{r r':Loop}{M:Nat→Prop}(hr:Rel C S2 m a1 w)(hd:Dom C S2 m a1 w M)(hl:M l)(dM:w.heap[l]?=some (.loop r)):Rel C S2 m a1 (w.putObj l (.loop r')):=by
 obtain⟨ms,q1,q2,q3⟩:=hr.defers
 refine hr.swap rfl hr.le rfl rfl rfl rfl hr.env hr.size ⟨ms,q1,q2,fun D hD=>?_⟩ (fun k c T fr hk=>World.putObj_heap_other (ZbZ hk dM)) (fun k t b ht hb=>((hr.toks k t ht).2 b hb).2) ⟨_,hd.step (Zfx rfl hl) (fun b o v hv=>.inl hv)⟩
 rw[World.putObj_heap_other (fun e=>by have:=q3 D hD;rw[e,dM]at this;cases this)];exact q3 D hD
theorem ZmM{th:Bool}{E:Env}{F:Fence}(hF:FOk F)(mX:YOk E C)(hR:ROk F C)(n:Nat){A:LoopAnn}{f:Operand}{ps:Array Tmp}{x y:Code}{Tx Ty:KT→St→Mem→Prop}
  (oo:Zqo E Tx x) (oq:Zqo E Ty y) (ot:∀{K:KT} {S:St} {m:Mem},Tx K S m→Tx (fun e S' m'=>K e S' m'∧leT th m m') S m) (ou:∀{K:KT} {S:St} {m:Mem},Ty K S m→Ty (fun e S' m'=>K e S' m'∧leT th m m') S m)
  (ov:Zbd C.n x=true) (ow:Zbd C.n y=true) (oz:ps.toList.all (Nat.blt · C.n)=true)
  {K:KT} {Q:Exit→Act→World→Prop} (hr:Rel C S m a w) (h:ZmC th E.P A f ps.toList Tx Ty K S m) (hK:∀e S' m' a' w',K e S' m'→Rel C S' m' a' w'→Q e a' w'):(Code.rangeFunc f ps x y).wpIn F n E.P Q a w:=by
 unfold ZmC at h
 split at h
 rotate_left
 ·exact h.elim
 rename_i g first captured iD
 obtain⟨hc,lc⟩:=Zae h
 obtain⟨mi,iN,jO,xs,p9,eC,I,h0,hb,iO⟩:=Zqg lc
 simp only[Bool.and_eq_true]at hc
 obtain⟨v,e1,_,e2⟩:=hr.ev_val iD
 simp only[St.den,Option.some.injEq]at e1
 refine wpIn_rangeFunc fun fn kw=>?_
 obtain⟨l,mk,w1,D,ky,dR,⟨M1,jg,jQ⟩,dM⟩:=hr.enter (P:=E.P) hR fn ps x y
 obtain⟨a1,kB⟩:∃a1,a1=({ a with defers:=mk++a.defers }:Act):=⟨_,rfl⟩
 rw[←kB]at dR jg
 have dP:a1.tmps=a.tmps:=by rw[kB]
 have lP:w1.heap[l]?=some (.loop (ZgB fn a1.tmps ps x y D .ready none)):=by rw[dP];exact dM
 refine⟨l,mk,w1,{ target:=.fn (.func g) captured,args:=first++#[.func (.yield l) #[] #[]] },w1,g,(first.toList++.func (.yield l) #[] #[]::captured.toList).toArray,w1,ky,?_,fun f' _=>hF.fn f',?_,fun hs=>by rw[hF.depth]at hs;simp at hs,?_⟩
 ·simp only[resolve,e2,←e1,Deferred.ofValue]
  simp[go_sem]
 ·have gL:first++#[Value.func (.yield l) #[] #[]]++captured=(first.toList++Value.func (.yield l) #[] #[]::captured.toList).toArray:=Array.ext' (by simp)
  simp only[invoke,gL]
  exact p9.1 _ _
 ·obtain⟨css,g1,g2,h0⟩:=ZcY h0
  obtain⟨tvs,k1,k2,hI⟩:=ZbS h0
  have fP:Zo6 tvs:=by
   intro u hu
   obtain⟨i,hi⟩:=List.getElem?_of_mem hu
   have bA:=(List.getElem?_eq_some_iff.1 hi).1
   obtain⟨qe,iM⟩:∃qe,A.toks[i]?=some qe:=⟨_,List.getElem?_eq_getElem (by omega)⟩
   exact(k2 i qe.1 qe.2 u iM hi).1
  have oE:Rel C (Zbu S [] { A with slots:=[] } S.gh [] css tvs) m a1 w1:=Zeh dR.ok dR (SameOut.refl _ _) rfl rfl (by simp) g1 g2 k1 k2
  have oF:Zqp C S mi A I K a1 l (ZgB fn a1.tmps ps x y D) 0 (fun _=>False) w1:=by
   refine⟨S.gh,css,tvs,m,g1,k1,fP,fun _=>rfl,iN,oE,?_,.inl ⟨Int.le_refl _,hI,lP⟩⟩
   have om:Dom C (Zbu S [] { A with slots:=[] } S.gh [] css tvs) m a1 w1 M1:=by
    refine⟨jg.p,jg.lt,fun id y hy=>?_,fun k t b ht hb=>?_,jg.mks,jg.new⟩
    ·simp only[Zbu]at hy
     rcases Zfw hy with⟨i,x',cs,q1,q2,q3,q4⟩|⟨q1,q2⟩
     ·rw[q4];exact jg.own id x' q3
     ·exact jg.own id y q2
    ·simp only[Zbu]at ht
     rcases Zdh ht with⟨i,e,u,q1,q2,q3⟩|⟨q1,q2⟩
     ·obtain⟨_,q5⟩:=k2 i k e u q1 q2
      subst q3
      rcases q5 with q5|q5
      ·exact jg.tok k _ b q5 hb
      ·simp[Tok.blk,q5]at hb
     ·exact jg.tok k t b q2 hb
   exact⟨M1,om,jQ,fun h=>h,fun _ h=>h.elim,⟨fun _ _ _ h=>h,fun _ _ _ _ _ h=>h,fun _ _ h=>h,fun _ _ _ _ h=>h⟩⟩
  have dH:∀i sv,S.env i=some sv→∃v,S.den sv=some v∧a1.tmps[i]?=some v:=fun i sv he=>dR.env i sv he
  have kC:=Zlu (th:=th) (E:=E) (S:=S) (m:=mi) (K:=K) (l:=l) (fn:=fn) (D:=D) oo oq ot ou mX ov ow oz hr.ok dR.size dH hc.1 hc.2 eC hb
  refine hF.calls ((p9.2 _ Zlt l w1 (fun b o v hv=>dR.sub b o v (iN b o v hv)) oF kC).mono ?_)
  rintro e w2 ⟨v,M2,rfl,bA,eY⟩
  rw[←kB]
  rcases eY with eY|eY
  all_goals obtain⟨gg,css2,tvs2,m2,y1,y2,y3,y4,y5,y6,⟨M3,y7,y8,y9,y10,y11⟩,y12⟩:=eY
  ·rcases y12 with⟨_,rb,gM⟩|⟨hk,_⟩
   ·refine⟨none,_,run_endLoop gM (by simp[ZgB]),?_⟩
    have:=Zd4 (Zd3 (ZgP iO y4) css2 y1) tvs2 y2 y3 m2 y5 (by simpa using rb)
    exact hK _ _ _ _ _ this (y6.afterRange y7 y8 gM)
   ·omega
  ·rcases y12 with⟨hk,_⟩|⟨_,c,gM,ic⟩
   ·omega
   ·refine⟨some c,_,run_endLoop gM (by simp[ZgB]),?_⟩
    have hR:=fun r'=>y6.afterRange (r':=r') y7 y8 gM
    cases c with
    | ret=>exact wpIn_ret (hK _ _ _ _ _ ic (hR _))
    | exit id=>exact wpIn_exit (hK _ _ _ _ _ ic (hR _))
    | goto t=>exact wpIn_goto (hK _ _ _ _ _ ic (hR _))
    | _=>exact ic.elim
end
end Go.Eng
