/- The engine: a reckoner over the code of a program in Lean, with its soundness; it names no program. No condition. -/
import Derived.Test.YtplacemlpkhmfaaMa
import Derived.RangeFuncNested
import Derived.RangeFuncLeaves
set_option linter.unusedVariables false
set_option linter.unusedSimpArgs false
namespace Go.Eng
open Go Go.RowKit
theorem Zcs{n:Int}(h0 : -9223372036854775808≤n)(h1:n≤9223372036854775807):IntKind.i64.wrap n=n:=by
 simp only[IntKind.wrap,IntKind.bits,IntKind.signed,Bool.true_and]
 split
 ·rename_i h;simp at h;omega
 ·rename_i h;simp at h;omega
def ZsV(E:Env)(S:St)(T:TypeId)(l c:Operand)(d:Option Tmp)(K:St→Prop):Prop:=match d with
 | none=>False
 | some d=>match ZaA E T with
  | none=>False
  | some (e,j)=>match S.L d with
   | some _=>False
   | none=>wv S l fun vl=>wv S c fun vc=>chk (ZaT vl&&ZaT vc) ((0≤intOf vl∧intOf vl≤intOf vc∧intOf vc*j.bytes≤281474976710656∧intOf vc≤9223372036854775807)∧
     ∀b,K ((S.newL d { b:=b,cs:=(List.replicate (intOf vc).toNat j.zero.cells.toList).flatten,T:=e,cap:=(intOf vc).toNat*j.size,fz:=false,full:=true }).put (some d) (some (.sl d (intOf vl).toNat (intOf vc).toNat))))
def Zqc(E:Env)(S:St)(m:Mem)(T:TypeId)(l c:Operand)(d:Option Tmp)(K:St→Mem→Prop):Prop:=match d with
 | none=>False
 | some d=>match ZaA E T with
  | none=>False
  | some (e,j)=>wv S l fun vl=>wv S c fun vc=>chk (ZaT vl&&ZaT vc) ((0≤intOf vl∧intOf vl≤intOf vc∧intOf vc*j.bytes≤281474976710656∧intOf vc≤9223372036854775807)∧
     ∀b,m.free b→K (S.put (some d) (some (.v (.slice (some ⟨b,0,none⟩) (intOf vl).toNat (intOf vc).toNat)))) (m.add b (List.replicate (intOf vc).toNat j.zero.cells.toList).flatten))
def ZrD(E:Env)(d:Option Tmp):Bool:=match d with
 | none=>false
 | some d=>E.mkM d
theorem Zjx(zs:List Value):∀(c:Nat),(List.range (c*zs.length)).map (fun i=>zs.toArray[i % zs.toArray.size]!)=(List.replicate c zs).flatten
 | 0=>by simp
 | c+1=>by
  rw[Nat.add_mul,Nat.one_mul,List.replicate_succ',List.flatten_append,←Zjx zs c,List.range_add,List.map_append]
  congr 1
  simp only[List.flatten_cons,List.flatten_nil,List.append_nil,List.map_map]
  refine List.ext_getElem (by simp) fun i h1 h2=>?_
  simp only[List.length_map,List.length_range]at h1
  simp only[List.getElem_map,List.getElem_range,Function.comp,List.size_toArray]
  rw[Nat.mul_comm,Nat.mul_add_mod,Nat.mod_eq_of_lt h1]
  simp[h1]
section
variable {C:Ctx} {S:St} {m:Mem} {a:Act} {w:World}
theorem Zmt{E:Env}(hE:E.ok){T:TypeId}{l c:Operand}{d:Option Tmp}{K:St→Prop}(hd:∀t,d=some t→t < C.n)(hr:Rel C S m a w)(h:ZsV E S T l c d K):
  ∃S' v w',K S'∧Rel C S' m (a.put d v) w'∧(Instr.makeSlice T (a.eval l) (a.eval c)).run E.P w=.ok v w':=by
 unfold ZsV at h
 cases d with
 | none=>exact h.elim
 | some d=>
  simp only at h
  cases hs:ZaA E T with
  | none=>simp[hs]at h
  | some ej=>
   obtain⟨e,j⟩:=ej
   simp only[hs]at h
   cases hL:S.L d with
   | some x=>simp[hL]at h
   | none=>
    simp only[hL]at h
    obtain⟨vl,jk,h⟩:=ZaC h
    obtain⟨vc,lP,h⟩:=ZaC h
    obtain⟨h1,⟨h2,h3,h4,h5⟩,hk⟩:=Zaf h
    simp only[Bool.and_eq_true]at h1
    obtain⟨kl,lQ⟩:=ZaU h1.1
    obtain⟨kc,mR⟩:=ZaU h1.2
    generalize s7:intOf vl=nl at *
    generalize io:intOf vc=nc at *
    obtain⟨i,iF,iH,jI⟩:=ZaJ hs
    have dH:=hE e j jI
    have hu:=(hE T i iF).run_und (w:=w)
    rw[iH]at hu
    have cK:=dH.run_size (w:=w)
    have hz:=dH.run_zero (w:=w)
    obtain⟨x,g1,_,_,g4⟩:=dH.run_info (w:=w)
    have gV:j.zero.cells.toList.length=j.size:=by simpa using dH.zsize
    have bY:((List.replicate nc.toNat j.zero.cells.toList).flatten).length=nc.toNat*j.size:=by simp[dH.zsize]
    have hb:=hr.newBox (d:=d) hL (x:={ b:=w.heap.size,cs:=(List.replicate nc.toNat j.zero.cells.toList).flatten,T:=e,cap:=nc.toNat*j.size,fz:=false,full:=true }) (m':=m) [] rfl (by simpa using bY) (fun _=>bY) (.inl ⟨rfl,rfl⟩)
    simp only[List.append_nil]at hb
    refine⟨_,.slice (some ⟨w.heap.size,0,none⟩) nl.toNat nc.toNat,_,hk w.heap.size,hb.put (some d) hd (by simp[St.den,St.newL]),?_⟩
    rw[hr.ev jk,hr.ev lP,lQ,mR]
    have w1:IntKind.i64.wrap nl=nl:=Zcs (by omega) (by omega)
    have w2:IntKind.i64.wrap nc=nc:=Zcs (by omega) (by omega)
    have qj:0≤nc:=by omega
    have c1:¬(nc < 0):=by omega
    have c2:¬(nl < 0):=by omega
    have c3:¬(nc < nl):=by omega
    have c4:¬(281474976710656 < (x.bytes:Int)*nc):=by rw[g4,Int.mul_comm];omega
    have dI:(Array.map (fun i=>(if nc.toNat*j.size=0 then(#[]:Array Value)else j.zero.cells)[i % (if nc.toNat*j.size=0 then(#[]:Array Value)else j.zero.cells).size]!) (Array.range (nc.toNat*j.size)))=(List.replicate nc.toNat j.zero.cells.toList).flatten.toArray:=by
     have:=Zjx j.zero.cells.toList nc.toNat
     rw[gV]at this
     apply Array.ext'
     by_cases h0:nc.toNat*j.size=0
     ·have fN:(List.replicate nc.toNat j.zero.cells.toList).flatten=[]:=List.eq_nil_of_length_eq_zero (by rw[bY,h0])
      simp[h0,fN]
     ·simp only[h0,if_false,Array.toList_map,Array.toList_range]
      rw[←this]
    by_cases h0:nc.toNat*j.size=0
    ·simp only[h0,if_true]at dI
     simp[Instr.makeSlice,hu,asInt,asIntOf,g1,w1,w2,c1,c2,c3,c4,cK,h0,newRow,←dI]
    ·simp only[h0,if_false]at dI
     simp[Instr.makeSlice,hu,asInt,asIntOf,g1,w1,w2,c1,c2,c3,c4,cK,h0,hz,newRow,←dI]
theorem Zlo{E:Env}(hE:E.ok){T:TypeId}{l c:Operand}{d:Option Tmp}{K:St→Mem→Prop}(hd:∀t,d=some t→t < C.n)(hr:Rel C S m a w)(h:Zqc E S m T l c d K):
  ∃S' m' v w',K S' m'∧Rel C S' m' (a.put d v) w'∧(Instr.makeSlice T (a.eval l) (a.eval c)).run E.P w=.ok v w':=by
 unfold Zqc at h
 cases d with
 | none=>exact h.elim
 | some d=>
  simp only at h
  cases hs:ZaA E T with
  | none=>simp[hs]at h
  | some ej=>
   obtain⟨e,j⟩:=ej
   simp only[hs]at h
   obtain⟨vl,jk,h⟩:=ZaC h
   obtain⟨vc,lP,h⟩:=ZaC h
   obtain⟨h1,⟨h2,h3,h4,h5⟩,hk⟩:=Zaf h
   simp only[Bool.and_eq_true]at h1
   obtain⟨kl,lQ⟩:=ZaU h1.1
   obtain⟨kc,mR⟩:=ZaU h1.2
   generalize s7:intOf vl=nl at *
   generalize io:intOf vc=nc at *
   obtain⟨i,iF,iH,jI⟩:=ZaJ hs
   have dH:=hE e j jI
   have hu:=(hE T i iF).run_und (w:=w)
   rw[iH]at hu
   have cK:=dH.run_size (w:=w)
   have hz:=dH.run_zero (w:=w)
   obtain⟨x,g1,_,_,g4⟩:=dH.run_info (w:=w)
   have gV:j.zero.cells.toList.length=j.size:=by simpa using dH.zsize
   have bY:((List.replicate nc.toNat j.zero.cells.toList).flatten).length=nc.toNat*j.size:=by simp[dH.zsize]
   have dN:∀o,m w.heap.size o=none:=fun o=>by
    cases he:m w.heap.size o with
    | none=>rfl
    | some u=>have:=hr.sub.lt he;omega
   have dM:Sub (m.add w.heap.size (List.replicate nc.toNat j.zero.cells.toList).flatten) (w.alloc (.cells ((List.replicate nc.toNat j.zero.cells.toList).flatten).toArray e (0,0))):=fun b o v hv=>by
    by_cases hb:b=w.heap.size
    ·subst hb
     rw[Mem.add_same]at hv
     have:(w.alloc (.cells ((List.replicate nc.toNat j.zero.cells.toList).flatten).toArray e (0,0))).heap[w.heap.size]?=some (.cells ((List.replicate nc.toNat j.zero.cells.toList).flatten).toArray e (0,0)):=by show(w.heap.push _)[w.heap.size]?=_;simp
     simp only[World.cell?,this]
     simpa using hv
    ·rw[Mem.add_other _ hb]at hv
     rw[Zbw (w:=w) (Below.heap_alloc w _ b (hr.sub.lt hv))];exact hr.sub _ _ _ hv
   have lO:=hr.world (m':=m.add w.heap.size (List.replicate nc.toNat j.zero.cells.toList).flatten) (Keep.alloc (Nat.le_refl _) (Zjo _ _)) dM (Mem.le_add dN _) (fun b o v hv=>by
    by_cases hb:b=w.heap.size
    ·exact .inr (by omega)
    ·rw[Mem.add_other _ hb]at hv;exact .inl hv)
   refine⟨_,_,.slice (some ⟨w.heap.size,0,none⟩) nl.toNat nc.toNat,_,hk w.heap.size dN,lO.put (some d) hd rfl,?_⟩
   rw[hr.ev jk,hr.ev lP,lQ,mR]
   have w1:IntKind.i64.wrap nl=nl:=Zcs (by omega) (by omega)
   have w2:IntKind.i64.wrap nc=nc:=Zcs (by omega) (by omega)
   have qj:0≤nc:=by omega
   have c1:¬(nc < 0):=by omega
   have c2:¬(nl < 0):=by omega
   have c3:¬(nc < nl):=by omega
   have c4:¬(281474976710656 < (x.bytes:Int)*nc):=by rw[g4,Int.mul_comm];omega
   have dI:(Array.map (fun i=>(if nc.toNat*j.size=0 then(#[]:Array Value)else j.zero.cells)[i % (if nc.toNat*j.size=0 then(#[]:Array Value)else j.zero.cells).size]!) (Array.range (nc.toNat*j.size)))=(List.replicate nc.toNat j.zero.cells.toList).flatten.toArray:=by
    have:=Zjx j.zero.cells.toList nc.toNat
    rw[gV]at this
    apply Array.ext'
    by_cases h0:nc.toNat*j.size=0
    ·have fN:(List.replicate nc.toNat j.zero.cells.toList).flatten=[]:=List.eq_nil_of_length_eq_zero (by rw[bY,h0])
     simp[h0,fN]
    ·simp only[h0,if_false,Array.toList_map,Array.toList_range]
     rw[←this]
   by_cases h0:nc.toNat*j.size=0
   ·simp only[h0,if_true]at dI
    simp[Instr.makeSlice,hu,asInt,asIntOf,g1,w1,w2,c1,c2,c3,c4,cK,h0,newRow,←dI]
   ·simp only[h0,if_false]at dI
    simp[Instr.makeSlice,hu,asInt,asIntOf,g1,w1,w2,c1,c2,c3,c4,cK,h0,hz,newRow,←dI]
def frW(fr:Option Mem)(b:Nat)(p:Prop):Prop:=match fr with
 | none=>p
 | some m=>m.free b→p
theorem Zsc{fr:Option Mem}{m:Mem}{b:Nat}{p:Prop}(fV:∀m',fr=some m'→m'=m)(hf:m.free b)(h:frW fr b p):p:=by
 cases fr with
 | none=>exact h
 | some m'=>exact h (by rw[fV m' rfl];exact hf)
theorem Zpc{fr:Option Mem}{b:Nat}{p q:Prop}(h:p→q)(hx:frW fr b p):frW fr b q:=by
 cases fr with
 | none=>exact h hx
 | some m=>exact fun hf=>h (hx hf)
def Zlp(E:Env)(S:St)(fr:Option Mem)(T:TypeId)(l c:Operand)(d:Option Tmp)(key:Nat)(K:St→Prop):Prop:=match d with
 | none=>False
 | some d=>match ZaA E T with
  | none=>False
  | some (e,j)=>wv S l fun vl=>wv S c fun vc=>chk (ZaT vl&&ZaT vc) ((intOf vl=0∧0≤intOf vc∧intOf vc*j.bytes≤281474976710656∧intOf vc≤9223372036854775807)∧
     ∀b,frW fr b (K (({ S with tok:=fun k=>bif Nat.beq k key then some ⟨.slice (some ⟨b,0,none⟩) 0 (intOf vc).toNat,j.size⟩ else S.tok k,tkeys:=key::S.tkeys }:St).put (some d) (some (.v (.slice (some ⟨b,0,none⟩) 0 (intOf vc).toNat))))))
theorem ZgR{E:Env}(hE:E.ok){T:TypeId}{l c:Operand}{d:Option Tmp}{key:Nat}{K:St→Prop}{fr:Option Mem}(fV:∀m',fr=some m'→m'=m)(hd:∀t,d=some t→t < C.n)(hr:Rel C S m a w)(h:Zlp E S fr T l c d key K):
  ∃S' v w',K S'∧Rel C S' m (a.put d v) w'∧(Instr.makeSlice T (a.eval l) (a.eval c)).run E.P w=.ok v w'∧
   (c=.const (.int .i64 0)→∃i e,E.tt T=some i∧i.d=.slice e∧v=.slice (some ⟨w.heap.size,0,none⟩) 0 0∧w'=w.alloc (.cells #[] e (0,0))):=by
 unfold Zlp at h
 cases d with
 | none=>exact h.elim
 | some d=>
  simp only at h
  cases hs:ZaA E T with
  | none=>simp[hs]at h
  | some ej=>
   obtain⟨e,j⟩:=ej
   simp only[hs]at h
   obtain⟨vl,jk,h⟩:=ZaC h
   obtain⟨vc,lP,h⟩:=ZaC h
   obtain⟨h1,⟨h2,h3,h4,h5⟩,hk⟩:=Zaf h
   simp only[Bool.and_eq_true]at h1
   obtain⟨kl,lQ⟩:=ZaU h1.1
   obtain⟨kc,mR⟩:=ZaU h1.2
   generalize s7:intOf vl=nl at *
   generalize io:intOf vc=nc at *
   subst h2
   obtain⟨i,iF,iH,jI⟩:=ZaJ hs
   have dH:=hE e j jI
   have hu:=(hE T i iF).run_und (w:=w)
   rw[iH]at hu
   have cK:=dH.run_size (w:=w)
   have hz:=dH.run_zero (w:=w)
   obtain⟨x,g1,_,_,g4⟩:=dH.run_info (w:=w)
   have gV:j.zero.cells.toList.length=j.size:=by simpa using dH.zsize
   have bY:((List.replicate nc.toNat j.zero.cells.toList).flatten).length=nc.toNat*j.size:=by simp[dH.zsize]
   have dM:Sub m (w.alloc (.cells ((List.replicate nc.toNat j.zero.cells.toList).flatten).toArray e (0,0))):=fun b o v hv=>by
    rw[Zbw (w:=w) (Below.heap_alloc w _ b (hr.sub.lt hv))];exact hr.sub _ _ _ hv
   have lO:Rel C S m a (w.alloc (.cells ((List.replicate nc.toNat j.zero.cells.toList).flatten).toArray e (0,0))):=hr.world (Keep.alloc (Nat.le_refl _) (Zjo _ _)) dM (Mem.le_refl m) (fun b o v hv=>.inl hv)
   have dN:∀o,m w.heap.size o=none:=fun o=>by
    cases he:m w.heap.size o with
    | none=>rfl
    | some u=>have:=hr.sub.lt he;omega
   have cE:TokOk m (w.alloc (.cells ((List.replicate nc.toNat j.zero.cells.toList).flatten).toArray e (0,0))) ⟨.slice (some ⟨w.heap.size,0,none⟩) 0 nc.toNat,j.size⟩:=
    .inr ⟨w.heap.size,0,0,nc.toNat,((List.replicate nc.toNat j.zero.cells.toList).flatten).toArray,e,(0,0),rfl,Nat.zero_le _,by show(w.heap.push _)[w.heap.size]?=_;simp,by show 0+nc.toNat*j.size≤((List.replicate nc.toNat j.zero.cells.toList).flatten).length;rw[bY,Nat.zero_add];exact Nat.le_refl _,fun o _ ho=>by simp at ho,fun o _ _=>dN o⟩
   have gB:∀b,(Tok.mk (.slice (some ⟨w.heap.size,0,none⟩) 0 nc.toNat) j.size).blk=some b→b=w.heap.size:=fun b hb=>by simp[Tok.blk]at hb;exact hb.symm
   have gn:=lO.tokUpd key _ cE (fun b hb=>by
    have:=gB b hb
    subst this
    refine⟨⟨fun id x hx e=>?_,fun o=>?_⟩,fun k' t' _ hk' hb'=>?_⟩
    ·have:=(hr.own id x hx).lt;omega
    ·cases he:C.m0 w.heap.size o with
     | none=>rfl
     | some u=>have:=hr.sub.lt (hr.le _ _ _ he);omega
    ·have:=(hr.toks k' t' hk').1.lt hb';omega) (by
    obtain⟨M,hd'⟩:=hr.dom
    refine⟨_,hd'.step (m':=m) ((Keep.alloc (Nat.le_refl _) (Zjo _ _):Keep w.heap.size [] w _).upd (by simp)) (fun b o u hu=>.inl hu),fun b hb=>?_⟩
    have:=gB b hb
    subst this
    exact .inr ⟨Nat.le_refl _,by show w.heap.size < (w.heap.push _).size;simp⟩)
   have fF:=hk w.heap.size
   have qk:=Zsc fV dN fF
   refine⟨_,.slice (some ⟨w.heap.size,0,none⟩) 0 nc.toNat,_,qk,gn.put (some d) hd rfl,?_,fun hc=>⟨i,e,iF,iH,?_,?_⟩⟩
   rotate_left
   ·subst hc
    have:vc=.int .i64 0:=by simpa[St.val,St.ev,St.den]using lP.symm
    subst this
    simp only[intOf]at io;subst io;rfl
   ·subst hc
    have:vc=.int .i64 0:=by simpa[St.val,St.ev,St.den]using lP.symm
    subst this
    simp only[intOf]at io;subst io;rfl
   rw[hr.ev jk,hr.ev lP,lQ,mR]
   have w1:IntKind.i64.wrap 0=0:=Zcs (by omega) (by omega)
   have w2:IntKind.i64.wrap nc=nc:=Zcs (by omega) (by omega)
   have c1:¬(nc < 0):=by omega
   have c2:¬((0:Int) < 0):=by omega
   have c4:¬(281474976710656 < (x.bytes:Int)*nc):=by rw[g4,Int.mul_comm];omega
   have dI:(Array.map (fun i=>(if nc.toNat*j.size=0 then(#[]:Array Value)else j.zero.cells)[i % (if nc.toNat*j.size=0 then(#[]:Array Value)else j.zero.cells).size]!) (Array.range (nc.toNat*j.size)))=((List.replicate nc.toNat j.zero.cells.toList).flatten).toArray:=by
    have:=Zjx j.zero.cells.toList nc.toNat
    rw[gV]at this
    apply Array.ext'
    by_cases h0:nc.toNat*j.size=0
    ·have fN:(List.replicate nc.toNat j.zero.cells.toList).flatten=[]:=List.eq_nil_of_length_eq_zero (by rw[bY,h0])
     simp[h0,fN]
    ·simp only[h0,if_false,Array.toList_map,Array.toList_range]
     rw[←this]
   by_cases h0:nc.toNat*j.size=0
   ·simp only[h0,if_true]at dI
    simp[Instr.makeSlice,hu,asInt,asIntOf,g1,w1,w2,c1,c2,c4,cK,h0,newRow,←dI]
   ·simp only[h0,if_false]at dI
    simp[Instr.makeSlice,hu,asInt,asIntOf,g1,w1,w2,c1,c2,c4,cK,h0,hz,newRow,←dI]
theorem Rel.freeze(h:Rel C S m a w){id:Nat}{x:Box}(hx:S.L id=some x)(n:Nat)(hn:∃cells T fr,w.heap[x.b]?=some (.cells cells T fr)∧cells.size=n):Rel C S m a (w.freeze ⟨x.b,n,none⟩ 1):=by
 obtain⟨sp,fr,hh,hc,hf⟩:=(h.own id x hx).cells
 obtain⟨cells,T,fr',hh',s8⟩:=hn
 rw[hh]at hh'
 simp only[Option.some.injEq,Obj.cells.injEq]at hh'
 obtain⟨e1,_,_⟩:=hh'
 have fS:n=x.cap:=by rw[←s8,←e1];simpa using hc
 have cF:∀k,k≠x.b→(w.freeze ⟨x.b,n,none⟩ 1).heap[k]?=w.heap[k]?:=fun k hk=>by
  simp only[World.freeze,Nat.one_ne_zero,if_false,Array.getElem?_modify]
  rw[if_neg (by simpa using Ne.symm hk)]
 have cX:∃fr',(w.freeze ⟨x.b,n,none⟩ 1).heap[x.b]?=some (.cells (x.cs++sp).toArray x.T fr')∧(fr'.1=fr'.2∨x.cap≤fr'.1):=by
  obtain⟨lo,hi⟩:=fr
  refine⟨if lo == hi then(n,n+1)else(min lo n,max hi (n+1)),?_,?_⟩
  ·simp only[World.freeze,Nat.one_ne_zero,if_false,Array.getElem?_modify,if_true,hh,Option.map_some]
  ·split
   ·right;simp only;omega
   ·rename_i cJ
    simp only at hf
    rcases hf with hf|hf
    ·simp[hf]at cJ
    ·right;simp only;omega
 obtain⟨fr2,cX,qm⟩:=cX
 have cO:∀(b o:Nat),(w.freeze ⟨x.b,n,none⟩ 1).cell? ⟨b,o,none⟩=w.cell? ⟨b,o,none⟩:=fun b o=>by
  by_cases hb:b=x.b
  ·subst hb;simp only[World.cell?,cX,hh]
  ·exact Zbw (cF b hb) o
 have nn:(w.freeze ⟨x.b,n,none⟩ 1).os=w.os∧(w.freeze ⟨x.b,n,none⟩ 1).tape=w.tape∧(w.freeze ⟨x.b,n,none⟩ 1).output=w.output∧(w.freeze ⟨x.b,n,none⟩ 1).heap.size=w.heap.size:=by
  simp[World.freeze]
 have:=h.upd (w':=w.freeze ⟨x.b,n,none⟩ 1) (m':=m) (L':=S.L) [x.b] ⟨nn.1,nn.2.1,nn.2.2.1,by omega,fun k _ hk=>cF k (by simpa using hk),fun k hk=>by
  by_cases iQ:k=x.b
  ·subst iQ
   intro c1 T1 fr1 qo i hi k8
   rw[cX]at qo
   simp only[Option.some.injEq,Obj.cells.injEq]at qo
   obtain⟨rfl,rfl,rfl⟩:=qo
   have:i < x.cap:=by rw[←hc];simpa using hi
   omega
  ·exact hk.of_eq (cF k iQ)⟩ (fun b o v hv=>by rw[cO];exact h.sub b o v hv) (Mem.le_refl m) (fun _ _ _ hv=>.inl hv) (fun _=>rfl)
  (fun i y hy=>by
   by_cases hi:i=id
   ·subst hi
    rw[hx]at hy;cases hy
    have ho:=(h.own _ x hx)
    exact .inr ⟨⟨sp,fr2,cX,hc,qm⟩,ho.free,ho.known,ho.whole⟩
   ·refine .inl ⟨hy,?_⟩
    simp only[List.mem_singleton]
    exact fun e=>hi (h.apart i id y x hy hx e))
  (fun b hb=>⟨id,x,hx,by simp at hb;exact hb.symm⟩)
 exact this
theorem Zc8{P:Program}{w:World}(b o:Nat){cells:Array Value}{T:TypeId}{fr:Nat×Nat}(h:w.heap[b]?=some (.cells cells T fr)):
  (markStringish ⟨b,o,none⟩).run P w=.ok () (w.freeze ⟨b,cells.size,none⟩ 1):=by
 simp[markStringish,World.shape?,h]
end
def Zbq(s:ByteArray):List Value:=s.data.toList.map fun b=>.int .u8 b.toNat
def ZcJ(E:Env)(s d:TypeId):Bool:=ZeP E s&&(match ZaA E d with
 | none=>false
 | some (_,j)=>match j.d with
  | .int .u8=>true
  | _=>false)
def Zuq(S:St)(m:Mem)(x:Operand)(d:Option Tmp)(K:St→Mem→Prop):Prop:=
 wv S x fun v=>chk (Zn6 v) (∀(b c:Nat),m.free b→(Zc3 v).size≤c→K (S.put d (some (.v (.slice (some ⟨b,0,none⟩) (Zc3 v).size c)))) (m.add b (Zbq (Zc3 v))))
section
variable {C:Ctx} {S:St} {m:Mem} {a:Act} {w:World}
theorem Zmu{E:Env}(hE:E.ok){s d:TypeId}(gp:ZcJ E s d=true){x:Operand}{t:Option Tmp}{K:St→Mem→Prop}(hd:∀t',t=some t'→t' < C.n)(hr:Rel C S m a w)(h:Zuq S m x t K):
  ∃S' m' v w',K S' m'∧Rel C S' m' (a.put t v) w'∧(convert s d (a.eval x)).run E.P w=.ok v w':=by
 unfold Zuq at h
 obtain⟨v,hv,h⟩:=ZaC h
 obtain⟨h1,hk⟩:=Zaf h
 have he:=hr.ev hv
 have eH:=ZcH h1
 generalize Zc3 v=bs at *
 subst eH
 unfold ZcJ at gp
 rw[Bool.and_eq_true]at gp
 obtain⟨i,hi,cS⟩:=ZfW gp.1
 have gp:=gp.2
 cases hs:ZaA E d with
 | none=>simp[hs]at gp
 | some ej=>
  obtain⟨e,j⟩:=ej
  simp only[hs]at gp
  obtain⟨k,jl,f8,qp⟩:=ZaJ hs
  have iy:j.d=.int .u8:=by
   cases iy:j.d with
   | int kk=>cases kk <;> simp[iy]at gp <;> rfl
   | _=>simp[iy]at gp
  have nv:=(hE s i hi).run_und (w:=w)
  rw[cS]at nv
  have pE:=(hE d k jl).run_und (w:=w)
  rw[f8]at pE
  have lR:=(hE e j qp).run_und (w:=w)
  rw[iy]at lR
  generalize fS:grownCap w bs.size 0 e=cap
  have cM:bs.size≤cap:=by rw[←fS];exact grownCap_ge w bs.size 0 e
  have cB:m.free w.heap.size:=fun o=>by
   cases he:m w.heap.size o with
   | none=>rfl
   | some v=>have:=hr.sub.lt he;omega
  obtain⟨cells,jN⟩:∃cells,cells=(Zbq bs++List.replicate (cap - bs.size) (Value.int .u8 0)).toArray:=⟨_,rfl⟩
  obtain⟨w1,eF⟩:∃w1,w1=w.drew.alloc (.cells cells e (0,0)):=⟨_,rfl⟩
  have jj:w1.heap[w.heap.size]?=some (.cells cells e (0,0)):=by rw[eF];exact heap_alloc_new w.drew _
  obtain⟨w2,dQ⟩:∃w2,w2=w1.freeze ⟨w.heap.size,cells.size,none⟩ 1:=⟨_,rfl⟩
  have cF:∀k,k≠w.heap.size→w2.heap[k]?=w1.heap[k]?:=fun k hk=>by
   rw[dQ]
   simp only[World.freeze,Nat.one_ne_zero,if_false,Array.getElem?_modify]
   rw[if_neg (by simpa using Ne.symm hk)]
  have cX:∃fr',w2.heap[w.heap.size]?=some (.cells cells e fr'):=by
   rw[dQ]
   simp only[World.freeze,Nat.one_ne_zero,if_false,Array.getElem?_modify,if_true,jj,Option.map_some]
   exact⟨_,rfl⟩
  obtain⟨fr',cX⟩:=cX
  have qr:Wr w2 w.heap.size:=by
   intro c1 T1 fr1 hh i hi
   rw[dQ]at hh
   simp[World.freeze,Array.getElem?_modify,jj]at hh
   obtain⟨rfl,rfl,rfl⟩:=hh
   simp only;omega
  have lS:Keep w.heap.size [] w w1:=(Keep.drew w).trans (by rw[eF];exact Keep.alloc (B:=w.heap.size) (w:=w.drew) (show w.heap.size≤w.drew.heap.size from Nat.le_refl _) (Zjo _ _))
  have lT:Keep w.heap.size [] w1 w2:=by
   refine⟨by rw[dQ];simp[World.freeze],by rw[dQ];simp[World.freeze],by rw[dQ];simp[World.freeze],by rw[dQ];simp[World.freeze],fun k hk _=>cF k (by omega),fun k hk=>?_⟩
   by_cases iQ:k=w.heap.size
   ·subst iQ;exact qr
   ·exact hk.of_eq (cF k iQ)
  have fH:=lS.trans lT
  have gi:Sub (m.add w.heap.size (Zbq bs)) w2:=by
   intro b' o v hv
   by_cases gU:b'=w.heap.size
   ·subst gU
    rw[Mem.add_same]at hv
    have bV:=(List.getElem?_eq_some_iff.1 hv).1
    simp only[World.cell?,cX,Option.isSome_none,Bool.false_eq_true,if_false,jN,List.getElem?_toArray]
    rw[List.getElem?_append_left bV,hv]
   ·rw[Mem.add_other _ gU]at hv
    have bV:=hr.sub.lt hv
    rw[Zbw (w:=w) (fH.block b' bV (by simp))];exact hr.sub _ _ _ hv
  have bW:Rel C S (m.add w.heap.size (Zbq bs)) a w2:=hr.world fH gi (Mem.le_add cB _) (fun b' o v hv=>by
   by_cases gU:b'=w.heap.size
   ·exact .inr (by omega)
   ·rw[Mem.add_other _ gU]at hv;exact .inl hv)
  refine⟨_,_,.slice (some ⟨w.heap.size,0,none⟩) bs.size cap,w2,hk w.heap.size cap cB cM,bW.put t hd rfl,?_⟩
  have qs:=Zc8 (P:=E.P) (w:=w1) w.heap.size 0 jj
  have dI:(Array.map (fun b:UInt8=>Value.int .u8 (b.toNat:Int)) bs.data++Array.replicate (cap - bs.size) (Value.int .u8 0))=cells:=by
   rw[jN]
   apply Array.ext'
   simp[Zbq]
  have ub:(newRow e cells).run E.P w.drew=.ok ⟨w.heap.size,0,none⟩ w1:=by
   rw[eF];simp[newRow]
  rw[he]
  simp only[convert,Sem.run_bind,nv,Result.andThen_ok,pE,lR,Conv.stringToBytes]
  simp[Question.forced]
  rw[show(Question.appendCap bs.size 0 e).cut (w.tape w.drawn (Question.appendCap bs.size 0 e))=cap from fS,dI,ub]
  simp only[Result.andThen_ok,qs,←dQ]
end
def ZcK(E:Env)(s d:TypeId):Bool:=ZeP E d&&(match ZaA E s with
 | none=>false
 | some (_,j)=>match j.d with
  | .int .u8=>true
  | _=>false)
def Zel(S:St)(m:Mem)(x:Operand)(K:Value→Prop):Prop:=match S.ev x with
 | some (.sl id n c)=>match S.L id with
  | none=>False
  | some bx=>∃bs:ByteArray,Nat.beq bs.size n=true∧Zbq bs=bx.cs.take n∧K (.string bs)
 | _=>wv S x fun v=>chk (Zdm v) (∃bs:ByteArray,bs.size=slN v∧rowRd m (slA v) (Zbq bs)∧K (.string bs))
theorem Zds(s:ByteArray):(Zbq s).length=s.size:=by
 unfold Zbq ByteArray.size
 rw[List.length_map,Array.length_toList]
theorem Zqd(ns:List UInt8):∀s:ByteArray,(ns.map fun b:UInt8=>(b.toNat:Int)).foldl (fun(r:ByteArray)(n:Int)=>r.push (UInt8.ofNat n.toNat)) s=⟨s.data++ns.toArray⟩:=by
 induction ns with
 | nil=>intro s;simp
 | cons b l ih=>
  intro s
  rw[List.map_cons,List.foldl_cons,ih]
  congr 1
  apply Array.ext'
  simp[ByteArray.push]
theorem Zlq{P:Program}{w:World}{s d e:TypeId}{a:Option Addr}{c:Nat}{bs:ByteArray}(hs:P.underlying s=some (.slice e))(he:P.underlying e=some (.int .u8))(hd:P.underlying d=some .string)
  (cN:∀j v,(Zbq bs)[j]?=some v→∃b o,a=some ⟨b,o,none⟩∧w.cell? ⟨b,o+j,none⟩=some v):(convert s d (.slice a bs.size c)).run P w=.ok (.string bs) w:=by
 rw[run_convert_bytes_string w s d e a bs.size c hs he hd]
 cases a with
 | none=>
  have h0:Zbq bs=[]:=by
   cases h:Zbq bs with
   | nil=>rfl
   | cons v l=>obtain⟨_,_,h1,_⟩:=cN 0 v (by rw[h];rfl);cases h1
  have hb:bs.size=0:=by rw[←Zds,h0];rfl
  have:bs=ByteArray.empty:=by
   cases bs with
   | mk data=>
    have:data=#[]:=Array.eq_empty_of_size_eq_zero hb
    subst this;rfl
  subst this
  simp[Conv.bytesToString]
 | some a=>
  have hl:(loadCells a bs.size).run P w=.ok (((bs.data.toList.map fun b:UInt8=>(b.toNat:Int))).map (Value.int .u8)).toArray w:=by
   have jO:(bs.data.toList.map fun b:UInt8=>(b.toNat:Int)).map (Value.int .u8)=Zbq bs:=by simp[Zbq]
   rw[jO]
   by_cases h0:bs.size=0
   ·have:Zbq bs=[]:=List.eq_nil_of_length_eq_zero (by rw[Zds,h0])
    rw[this,h0];rfl
   ·obtain⟨v,hv⟩:∃v,(Zbq bs)[0]?=some v:=⟨_,List.getElem?_eq_getElem (by rw[Zds];omega)⟩
    obtain⟨b,o,ha,_⟩:=cN 0 v hv
    cases ha
    rw[←Zds]
    exact ZdE b o _ (fun j u hu=>by obtain⟨_,_,h1,h2⟩:=cN j u hu;cases h1;exact h2)
  have gn:(⟨ByteArray.empty.data++bs.data.toList.toArray⟩:ByteArray)=bs:=by
   cases bs with
   | mk data=>
    congr 1
    apply Array.ext'
    show((#[]:Array UInt8)++data.toList.toArray).toList=data.toList
    simp
  rw[run_bytesToString w a bs.size c _ hl,Zqd,gn]
section
variable {C:Ctx} {S:St} {m:Mem} {a:Act} {w:World}
theorem ZgS{E:Env}(hE:E.ok){s d:TypeId}(gp:ZcK E s d=true){x:Operand}{K:Value→Prop}(hr:Rel C S m a w)(h:Zel S m x K):
  ∃v,K v∧(convert s d (a.eval x)).run E.P w=.ok v w:=by
 unfold ZcK at gp
 rw[Bool.and_eq_true]at gp
 obtain⟨i,hi,cS⟩:=ZfW gp.1
 have gp:=gp.2
 cases hs:ZaA E s with
 | none=>simp[hs]at gp
 | some ej=>
  obtain⟨e,j⟩:=ej
  simp only[hs]at gp
  obtain⟨k,jl,f8,qp⟩:=ZaJ hs
  have iy:j.d=.int .u8:=by
   cases iy:j.d with
   | int kk=>cases kk <;> simp[iy]at gp <;> rfl
   | _=>simp[iy]at gp
  have pE:E.P.underlying d=some .string:=by rw[(hE d i hi).und,cS]
  have nv:E.P.underlying s=some (.slice e):=by rw[(hE s k jl).und,f8]
  have lR:E.P.underlying e=some (.int .u8):=by rw[(hE e j qp).und,iy]
  have gen:∀{v:Value},S.val x=some v→(∃bs,Zdm v=true∧bs.size=slN v∧(∀j u,(Zbq bs)[j]?=some u→∃b o,slA v=some ⟨b,o,none⟩∧w.cell? ⟨b,o+j,none⟩=some u)∧K (.string bs))→∃v,K v∧(convert s d (a.eval x)).run E.P w=.ok v w:=by
   rintro v hv ⟨bs,h1,h2,h3,h4⟩
   obtain⟨ba,n,c,rfl⟩:∃ba n c,v=.slice ba n c:=⟨_,_,_,ZbR h1⟩
   simp only[slN,slA]at h2 h3
   subst h2
   exact⟨_,h4,by rw[hr.ev hv];exact Zlq nv lR pE h3⟩
  unfold Zel at h
  split at h
  ·rename_i id n c he
   cases hL:S.L id with
   | none=>simp[hL]at h
   | some bx=>
    simp only[hL]at h
    obtain⟨bs,h1,h2,h3⟩:=h
    have h1:=Nat.eq_of_beq_eq_true h1
    refine gen (v:=.slice (some ⟨bx.b,0,none⟩) n c) (by simp[St.val,he,St.den,hL]) ⟨bs,rfl,h1,fun j u hu=>⟨bx.b,0,rfl,?_⟩,h3⟩
    rw[Nat.zero_add]
    refine(hr.own id bx hL).cell ?_
    rw[h2]at hu
    rw[List.getElem?_take]at hu
    split at hu
    ·exact hu
    ·cases hu
  ·obtain⟨v,hv,h⟩:=ZaC h
   obtain⟨h1,bs,h2,h3,h4⟩:=Zaf h
   refine gen hv ⟨bs,h1,h2,fun j u hu=>?_,h4⟩
   rcases h3 with h3|⟨b,o,h5,h6⟩
   ·rw[h3]at hu;simp at hu
   ·exact⟨b,o,h5,hr.sub _ _ _ (h6 j u hu)⟩
end
def Mem.upd(m:Mem)(b o:Nat)(vs:List Value):Mem:=fun b' o'=>if b'=b∧o≤o'∧o' < o+vs.length then vs[o' - o]? else m b' o'
theorem Mem.upd_other(m:Mem){b b':Nat}(h:b'≠b)(o:Nat)(vs:List Value)(o':Nat):m.upd b o vs b' o'=m b' o':=by
 simp only[Mem.upd];rw[if_neg (fun hc=>h hc.1)]
theorem Mem.le_upd{m0 m:Mem}(h:m0.le m){b:Nat}(hb:m0.free b)(o:Nat)(vs:List Value):m0.le (m.upd b o vs):=fun b' o' v hv=>by
 by_cases e:b'=b
 ·subst e;rw[hb o']at hv;cases hv
 ·rw[Mem.upd_other m e];exact h _ _ _ hv
def Zmv(E:Env)(x:Operand):Option Nat:=bif E.thaw then(match x with
 | .tmp t=>E.stAt t
 | _=>none)else none
def ZgT(E:Env)(S:St)(m:Mem)(T:TypeId)(key:Nat)(x:Operand)(v:Value)(K:Mem→Prop):Prop:=wv S x fun p=>match E.tt T with
 | none=>False
 | some i=>match S.tok key with
  | none=>match E.m0 with
   | none=>False
   | some m0=>chk (Zd0 p&&(Nat.beq v.cells.size i.size&&Zcq v.cells.toList)) ((∃vs:List Value,vs.length=i.size∧m.reads (Zmj p) (Zlh p) vs)∧Mem.free m0 (Zmj p)∧Nat.blt 0 i.size=true∧nfz S (Zmj p) S.ids (K (m.upd (Zmj p) (Zlh p) v.cells.toList)))
  | some t=>chk (Zd0 p&&(Nat.beq v.cells.size i.size&&Zcq v.cells.toList)) (t.v=.slice (some ⟨Zmj p,0,none⟩) (slN t.v) (slC t.v)∧Zlh p+i.size≤slN t.v*t.esz∧K (m.upd (Zmj p) (Zlh p) v.cells.toList))
section
variable {C:Ctx} {S:St} {m:Mem} {a:Act} {w:World}
theorem Rel.storeOwn(hr:Rel C S m a w){b o:Nat}{vs:List Value}{cur:Array Value}{TT:TypeId}{fr:Nat×Nat}{w':World}(cQ:w.heap[b]?=some (.cells cur TT fr))(iR:Wr w b)(cK:o+vs.length≤cur.size)
  (hw':w'=w.setRow b (Zan cur.toList o vs).toArray) (hM:∀M,Dom C S m a w M→M b) (h0:C.m0.free b) (qt:∀id x,S.L id=some x→x.b≠b)
  (cE:∀k t o0 n c,S.tok k=some t→t.v=.slice (some ⟨b,o0,none⟩) n c→∀q,o≤q→q < o+vs.length→o0+n*t.esz≤q→q < o0+c*t.esz→False):Rel C S (m.upd b o vs) a w':=by
 have cF:∀k,k≠b→w'.heap[k]?=w.heap[k]?:=fun k hk=>by rw[hw'];exact setRow_other w b k _ hk
 have cX:w'.heap[b]?=some (.cells (Zan cur.toList o vs).toArray TT fr):=by rw[hw'];exact setRow_heap w b cur _ TT fr cQ
 have fZ:(Zan cur.toList o vs).length=cur.size:=by
  rw[Zb7 (by rw[Array.length_toList];omega),Array.length_toList]
 have fR:∀o,o < cur.size→¬(fr.1≤o∧o < fr.2):=iR cur TT fr cQ
 have gi:Sub (m.upd b o vs) w':=by
  intro b1 o1 u hu
  by_cases hb:b1=b
  ·subst hb
   simp only[Mem.upd,true_and]at hu
   simp only[World.cell?,cX,Option.isSome_none,Bool.false_eq_true,if_false,List.getElem?_toArray]
   have lU:o+vs.length≤cur.toList.length:=by simp;omega
   have et:(List.take o cur.toList).length=o:=by simp;simp at lU;omega
   by_cases gu:o≤o1∧o1 < o+vs.length
   ·rw[if_pos gu]at hu
    simp only[Zan]
    rw[List.append_assoc,List.getElem?_append_right (by omega),et,List.getElem?_append_left (by omega)]
    exact hu
   ·rw[if_neg gu]at hu
    have jL:=hr.sub _ _ _ hu
    simp only[World.cell?,cQ,Option.isSome_none,Bool.false_eq_true,if_false]at jL
    rw[←Array.getElem?_toList]at jL
    simp only[Zan]
    by_cases s9:o1 < o
    ·rw[List.append_assoc,List.getElem?_append_left (by omega),List.getElem?_take,if_pos s9];exact jL
    ·rw[List.getElem?_append_right (by simp at gu et ⊢;omega),List.getElem?_drop]
     have:o+vs.length+(o1 - (List.take o cur.toList++vs).length)=o1:=by
      rw[List.length_append,et];omega
     rw[this];exact jL
  ·rw[Mem.upd_other m hb]at hu
   rw[Zbw (cF b1 hb)];exact hr.sub _ _ _ hu
 refine⟨?_,hr.size,hr.env,fun id y hy=>?_,hr.apart,hr.ids,fun k t' ht'=>?_,hr.tkeys,hr.tapart,gi,Mem.le_upd hr.le h0 _ _,?_⟩
 ·obtain⟨ms,d1,d2,d3⟩:=hr.defers
  refine⟨ms,d1,d2,fun D hD=>?_⟩
  rw[cF D (fun e=>by have:=d3 D hD;rw[e,cQ]at this;cases this)];exact d3 D hD
 ·have ho:=hr.own id y hy
  have cJ:=qt id y hy
  exact⟨by rw[cF _ cJ];exact ho.cells,fun hz o1=>by rw[Mem.upd_other m cJ];exact ho.free hz o1,fun hz j u hu=>by rw[Mem.upd_other m cJ];exact ho.known hz j u hu,ho.whole⟩
 ·obtain⟨q1,q2⟩:=hr.toks k t' ht'
  refine⟨?_,q2⟩
  by_cases fF:t'.blk=some b
  ·rcases q1 with q1|⟨b',o0,n,c,cur',TT',fr',hv,io,hh,iJ,ud,cB⟩
   ·exact .inl q1
   obtain rfl:b'=b:=by simpa[Tok.blk,hv]using fF
   rw[cQ]at hh
   simp only[Option.some.injEq,Obj.cells.injEq]at hh
   obtain⟨rfl,rfl,rfl⟩:=hh
   have cP:=cE k t' o0 n c ht' hv
   refine .inr ⟨b',o0,n,c,_,TT,fr,hv,io,cX,by simp only[List.size_toArray,fZ];exact iJ,fun o1 jH=>fR o1 (by simpa only[List.size_toArray,fZ]using jH),fun o1 jH gm=>?_⟩
   simp only[Mem.upd]
   rw[if_neg (fun hc=>cP o1 hc.2.1 hc.2.2 jH gm)];exact cB o1 jH gm
  ·have cJ:∀b1,t'.blk=some b1→b1≠b:=fun b1 eI e=>by subst e;exact fF eI
   exact q1.same (fun b1 eI=>cF _ (cJ b1 eI)) (fun b1 o1 eI hn=>by rw[Mem.upd_other m (cJ b1 eI)];exact hn)
 ·obtain⟨M,hd⟩:=hr.dom
  have hu:Upd M w w':=⟨by rw[hw'];rfl,by rw[hw'];rfl,by rw[hw'];rfl,by rw[hw'];simp,fun k hk hn=>cF k (fun e=>hn (e ▸ hM M hd)),fun k hk=>by
   by_cases iQ:k=b
   ·subst iQ
    intro c1 T1 fr1 hh i hi
    rw[cX]at hh
    simp only[Option.some.injEq,Obj.cells.injEq]at hh
    obtain⟨rfl,rfl,rfl⟩:=hh
    exact fR i (by simpa only[List.size_toArray,fZ]using hi)
   ·exact hk.of_eq (cF k iQ)⟩
  exact⟨_,hd.step hu (fun b1 o1 u gv=>by
   by_cases hb:b1=b
   ·exact .inr (.inl (hb ▸ hM M hd))
   ·rw[Mem.upd_other m hb]at gv;exact .inl gv)⟩
theorem ZgU{E:Env}{T:TypeId}{i:TI}(cI:TOk E.P T i){w:World}{b o:Nat}{v:Value}{cur:Array Value}{TT:TypeId}{fr:Nat×Nat}(cQ:w.heap[b]?=some (.cells cur TT fr))(iR:Wr w b)(cK:o+v.cells.toList.length≤cur.size)
  (h1:v.cells.size=i.size) (dZ:v.cells.all Value.oneCell'=true):(Instr.storeAt T (ptr b o) v).run E.P w=.ok () (w.setRow b (Zan cur.toList o v.cells.toList).toArray):=by
 have nw:=ZbI (P:=E.P) b o TT fr v.cells.toList 0 cur w cQ (fun o ho=>iR cur TT fr cQ o ho) (by omega) (fun u hu=>by
  rw[Array.all_eq_true_iff_forall_mem]at dZ;exact dZ u (by simpa using hu))
 have cA:(storeVar T ⟨b,o,none⟩ v).run E.P w=.ok () (w.setRow b (Zan cur.toList o v.cells.toList).toArray):=by
  have hz:=cI.run_size (w:=w)
  simp only[storeVar,Sem.run_bind,hz,Result.andThen_ok,h1,ne_eq,not_true_eq_false,if_false]
  rw[nw]
  simp[Zan]
 simp[Instr.storeAt,Instr.sureAddr,ptr,cA]
theorem ZgV{E:Env}(hE:E.ok)(hY:YOk E C){T:TypeId}{key:Nat}{x:Operand}{v:Value}{K:Mem→Prop}(hr:Rel C S m a w)(h:ZgT E S m T key x v K):
  ∃m' w',K m'∧Rel C S m' a w'∧(Instr.storeAt T (a.eval x) v).run E.P w=.ok () w':=by
 unfold ZgT at h
 obtain⟨p,hp,h⟩:=ZaC h
 have he:=hr.ev hp
 cases ht:E.tt T with
 | none=>simp[ht]at h
 | some i=>
  simp only[ht]at h
  have cI:=hE T i ht
  cases hk:S.tok key with
  | none=>
   simp only[hk]at h
   cases fT:E.m0 with
   | none=>simp[fT]at h
   | some mm=>
    simp only[fT]at h
    obtain⟨ky,hW⟩:=hY.m0 mm fT
    obtain⟨h1,⟨us,nv,cN⟩,h3,h5,h4⟩:=Zaf h
    simp only[Bool.and_eq_true]at h1
    have nC:=Zb6 h1.1
    generalize Zmj p=b at *
    generalize Zlh p=o at *
    have cK:=Nat.eq_of_beq_eq_true h1.2.1
    have dZ:=Zfr h1.2.2
    have bY:v.cells.toList.length=i.size:=by simpa using cK
    have hQ:0 < i.size:=by simpa[Nat.blt_eq]using h5
    obtain⟨ue,uf⟩:=Zf3 h4
    obtain⟨u,hu⟩:∃u,us[i.size - 1]?=some u:=⟨_,List.getElem?_eq_getElem (by omega)⟩
    have cO:=hr.sub _ _ _ (cN _ _ hu)
    obtain⟨cur,TT,fr,cQ⟩:∃c T fr,w.heap[b]?=some (.cells c T fr):=by
     unfold World.cell? at cO
     split at cO
     ·rename_i c T fr hc;exact⟨c,T,fr,hc⟩
     ·cases cO
    have dO:o+(i.size - 1) < cur.size:=by
     simp only[World.cell?,cQ,Option.isSome_none,Bool.false_eq_true,if_false]at cO
     exact(Array.getElem?_eq_some_iff.1 cO).1
    have kY:∀M,Dom C S m a w M→M b:=fun M hd=>by
     rcases hd.new _ _ _ (cN _ _ hu)with h6|h6
     ·rw[ky,h3]at h6;cases h6
     ·exact h6
    have iR:Wr w b:=by
     obtain⟨M,hd⟩:=hr.dom
     exact hW _ _ _ hd.p b (kY M hd)
    refine⟨_,_,ue,hr.storeOwn cQ iR (by omega) rfl kY (ky ▸ h3) (fun id y hy e=>?_) (fun k t o0 n c jx hv q jc pF td kA=>?_),?_⟩
    ·have ho:=hr.own id y hy
     cases hz:y.fz with
     | true=>exact uf id y (hr.ids id y hy) hy hz e
     | false=>
      have:=ho.free hz (o+(i.size - 1))
      rw[e,cN _ _ hu]at this;cases this
    ·rcases(hr.toks k t jx).1 with q0|⟨b',o',n',c',_,_,_,hv',_,_,_,_,cB⟩
     ·rw[hv]at q0;cases q0
     ·rw[hv]at hv'
      simp only[Value.slice.injEq,Option.some.injEq,Addr.mk.injEq,and_true]at hv'
      obtain⟨⟨rfl,rfl⟩,rfl,rfl⟩:=hv'
      have h7:=cB _ td kA
      obtain⟨u7,ug⟩:∃u7,us[q - o]?=some u7:=⟨us[q - o]'(by omega),List.getElem?_eq_getElem _⟩
      have h8:=cN _ _ ug
      rw[show o+(q - o)=q by omega,h7]at h8;cases h8
    ·rw[he,nC];exact ZgU cI cQ iR (by omega) cK dZ
  | some t=>
   simp only[hk]at h
   obtain⟨h1,h2,h3,h4⟩:=Zaf h
   simp only[Bool.and_eq_true]at h1
   have nC:=Zb6 h1.1
   generalize Zmj p=b at *
   generalize Zlh p=o at *
   have cK:=Nat.eq_of_beq_eq_true h1.2.1
   have dZ:=Zfr h1.2.2
   have bY:v.cells.toList.length=i.size:=by simpa using cK
   obtain⟨g1,g2⟩:=hr.toks key t hk
   have gB:t.blk=some b:=by unfold Tok.blk;rw[h2]
   obtain⟨g2,g3⟩:=g2 b gB
   rcases g1 with g1|⟨b',o0,n,c,cur,TT,fr,hv,io,cQ,iJ,fR,cB⟩
   ·rw[g1]at h2;cases h2
   rw[hv]at h2
   simp only[Value.slice.injEq,Option.some.injEq,Addr.mk.injEq,and_true]at h2
   obtain⟨⟨rfl,rfl⟩,_,_⟩:=h2
   rw[hv]at h3
   simp only[slN]at h3
   have cP:n*t.esz≤c*t.esz:=Nat.mul_le_mul_right _ io
   have iR:Wr w b':=fun c1 T1 fr1 hh o ho=>by
    rw[cQ]at hh
    simp only[Option.some.injEq,Obj.cells.injEq]at hh
    obtain⟨rfl,rfl,rfl⟩:=hh
    exact fR o ho
   refine⟨_,_,h4,hr.storeOwn cQ iR (by omega) rfl (fun M hd=>hd.tok key t b' hk gB) g3 g2 (fun k t' o' n' c' jx hv' q jc pF td kA=>?_),?_⟩
   ·have:k=key:=hr.tapart k key t' t b' jx hk (by simp[Tok.blk,hv']) gB
    subst this
    rw[hk]at jx;cases jx
    rw[hv]at hv'
    simp only[Value.slice.injEq,Option.some.injEq,Addr.mk.injEq,and_true,true_and]at hv'
    obtain⟨rfl,rfl,rfl⟩:=hv'
    omega
   ·rw[he,nC];exact ZgU cI cQ iR (by omega) cK dZ
end
def Zn8(E:Env)(S:St)(m:Mem)(T:TypeId)(id:Nat)(vd vs:Value)(K:Int→St→Prop):Prop:=match ZaA E T with
 | none=>False
 | some (e,j)=>match S.L id with
  | none=>False
  | some bx=>chk (Zdm vd&&(Zdm vs&&!bx.fz)) (m.free bx.b→∃(o:Nat)(xs:List Value),slA vd=some ⟨bx.b,o,none⟩∧xs.length=min (slN vs) (slN vd)*j.size∧o+xs.length≤bx.cs.length∧(∀u∈xs,u.oneCell'=true)∧
    (rowRd m (slA vs) xs∨∃o',slA vs=some ⟨bx.b,o',none⟩∧∀i u,xs[i]?=some u→bx.cs[o'+i]?=some u)∧K ((min (slN vs) (slN vd):Nat):Int) (S.setL id (some { bx with cs:=Zan bx.cs o xs })))
theorem Zlr{P:Program}{w:World}{m:Mem}{x:Box}(hx:Own m w x)(o:Nat)(xs:List Value)(h1:∀u∈xs,u.oneCell'=true)(hb:o+xs.length≤x.cs.length):
  ∃w',(storeCells ⟨x.b,o,none⟩ xs 0).run P w=.ok () w'∧w'.os=w.os∧w'.tape=w.tape∧w'.output=w.output∧w'.heap.size=w.heap.size∧(∀k,k≠x.b→w'.heap[k]?=w.heap[k]?)∧
   (x.fz=false→Own m w' { x with cs:=Zan x.cs o xs }):=by
 obtain⟨sp,fr,hh,hc,hf⟩:=hx.cells
 have h3:=ZbI (P:=P) x.b o x.T fr xs 0 _ w hh (fun o ho=>by have ho':o < x.cap:=(by simpa[hc]using ho);omega) (by simp at hc ⊢;omega) h1
 have h4:(storeCells ⟨x.b,o,none⟩ xs 0).run P w=.ok () (w.setRow x.b (Zan (x.cs++sp) o xs).toArray):=by
  rw[h3]
  simp[Zan]
 refine⟨_,h4,rfl,rfl,rfl,by simp,fun k hk=>setRow_other w x.b k _ hk,fun hz=>?_⟩
 refine⟨⟨sp,fr,?_,?_,hf⟩,fun _=>hx.free hz,fun hz'=>by simp[hz]at hz',fun iE=>?_⟩
 ·rw[setRow_heap w x.b _ _ x.T fr hh,ZfV (by omega)]
 ·have:=Zb7 (cs:=x.cs) (o:=o) (vs:=xs) (by omega)
  simp only[List.length_append]at hc ⊢
  omega
 ·have:=hx.whole iE
  show(Zan x.cs o xs).length=x.cap
  rw[Zb7 (by omega)];exact this
section
variable {C:Ctx} {S:St} {m:Mem} {a:Act} {w:World}
theorem Zmw{E:Env}(hE:E.ok){T xT ty:TypeId}{id:Nat}{vd vs:Value}{K:Int→St→Prop}(hr:Rel C S m a w)(h:Zn8 E S m T id vd vs K):
  ∃n S' w',K n S'∧Rel C S' m a w'∧(Builtin.copy_ #[T,xT] ty #[vd,vs]).run E.P w=.ok (.int .i64 n) w':=by
 unfold Zn8 at h
 cases hs:ZaA E T with
 | none=>simp[hs]at h
 | some ej=>
  obtain⟨e,j⟩:=ej
  simp only[hs]at h
  cases hL:S.L id with
  | none=>simp[hL]at h
  | some bx=>
   simp only[hL]at h
   obtain⟨h1,hq⟩:=Zaf h
   simp only[Bool.and_eq_true,Bool.not_eq_true']at h1
   obtain⟨o,xs,h2,h3,h4,h5,h6,hk⟩:=hq ((hr.own id bx hL).free h1.2.2)
   clear hq h
   have qu:=ZbR h1.1
   have eH:=ZbR h1.2.1
   generalize slA vd=ad at *
   generalize slN vd=nd at *
   generalize slC vd=cd at *
   generalize slA vs=as at *
   generalize slN vs=ns at *
   generalize slC vs=cs at *
   subst qu eH h2
   obtain⟨i,iF,iH,jI⟩:=ZaJ hs
   have dH:=hE e j jI
   have hu:=(hE T i iF).run_und (w:=w)
   rw[iH]at hu
   have cK:=dH.run_size (w:=w)
   have lI:=hr.own id bx hL
   have kZ:(Builtin.firstCells j.size (min ns nd) (.slice as ns cs)).run E.P w=.ok xs.toArray w:=by
    rcases h6 with h6|⟨o',h6,h7⟩
    ·exact Zbc hr.sub h6 _ _ _ _ h3
    ·subst h6
     refine run_firstCells_some w j.size _ _ ns cs xs h3 (fun i u hu=>?_)
     rw[Zbp]
     obtain⟨sp,fr,hh,_⟩:=lI.cells
     have h8:=h7 i u hu
     have h9:=(List.getElem?_eq_some_iff.1 h8).1
     simp only[World.cell?,hh,Option.isSome_none,Bool.false_eq_true,if_false,List.getElem?_toArray]
     rw[List.getElem?_append_left h9];exact h8
   obtain⟨w',cA,e1,e2,e3,e4,e5,e6⟩:=Zlr (P:=E.P) lI o xs h5 h4
   refine⟨_,_,w',hk,hr.store hL h1.2.2 rfl e1 e2 e3 e4 e5 (e6 h1.2.2),?_⟩
   have kB:Nat.min ns nd=min ns nd:=rfl
   simp[Builtin.copy_,hu,Builtin.lenOf,cK,kB,kZ,cA,goInt]
end
end Go.Eng
namespace Go.Eng
open Go Go.RowKit
def Zf6(E:Env)(s d:TypeId):Bool:=match E.tt s with
 | none=>false
 | some i=>match i.d with
  | .slice e=>Nat.beq s d&&(match E.tt e with
   | none=>false
   | some j=>match j.d with
    | .int .u8=>true
    | _=>false)
  | _=>false
def opW(E:Env)(S:St)(m:Mem)(o:Oper)(K:St→Mem→Prop):Prop:=match o.op with
 | .move x=>K (S.put o.dst (S.ev x)) m
 | .assign x=>K (S.put o.dst (S.ev x)) m
 | .pick c x y=>wv S c fun v=>chk (Zae v) (br (Zac v) (K (S.put o.dst (S.ev x)) m) (K (S.put o.dst (S.ev y)) m))
 | .load T x=>match Zpb E o.dst with
  | none=>Zfs E S m T x fun v=>K (S.put o.dst (some (.v v))) m
  | some y=>bif E.fix.isSome then False else Zfs E S m T x fun v=>ldW y v fun v=>K (S.put o.dst (some (.v v))) m
 | .store T x y=>wv S y fun v=>match Zmv E x with
  | none=>Zgu E S T x v fun S'=>K (S'.put o.dst none) m
  | some key=>bif E.fix.isSome then False else ZgT E S m T key x v fun m'=>K (S.put o.dst none) m'
 | .alloc T=>Zqa E S T o.dst fun S'=>K S' m
 | .box T x=>wv S x fun v=>bif Zf0 E o.dst then(bif E.fix.isSome then False else Zup E S m T v o.dst K)else Zvz E S T v o.dst fun S'=>K S' m
 | .buildSlice T len parts=>match Zc4 E o.dst with
  | none=>Zek E S m T len parts.toList o.dst K
  | some ke=>bif E.fix.isSome then False else match len,parts.toList with
   | 0,[]=>Zlp E S (some m) T (.const (.int .i64 0)) (.const (.int .i64 0)) o.dst ke.1 fun S'=>K S' m
   | _,_=>False
 | .makeSlice T l c=>match Zc4 E o.dst with
  | none=>bif ZrD E o.dst then(bif E.fix.isSome then False else Zqc E S m T l c o.dst K)else ZsV E S T l c o.dst fun S'=>K S' m
  | some ke=>bif E.fix.isSome then False else Zlp E S none T l c o.dst ke.1 fun S'=>K S' m
 | .convert s d x=>bif Zf6 E s d then(match S.ev x with
   | some (.sl id n c)=>K (S.put o.dst (some (.sl id n c))) m
   | _=>False)
  else bif ZcJ E s d then(bif E.fix.isSome then False else Zuq S m x o.dst K)
  else bif ZcK E s d then(bif E.fix.isSome then False else Zel S m x fun v=>K (S.put o.dst (some (.v v))) m)
  else ZcO E S o fun sv=>K (S.put o.dst (some sv)) m
 | .call c=>match c.callee with
  | .value f=>Zs5 E o.dst S m (ZsU E o.type o.dst f c.args.toList K)
  | .builtin .append=>match c.args.toList,c.argTypes.toList,o.dst with
   | [s,x],[T,xT],some d=>Zs5 E (some d) S m fun S m=>wv S s fun vs=>wv S x fun vx=>Zfa E S m T xT (E.tokOf d) vs vx fun v tk m'=>K ({ S with tok:=tk,tkeys:=E.tokOf d::S.tkeys }.put (some d) (some (.v v))) m'
   | _,_,_=>False
  | .builtin .copy=>match c.args.toList,c.argTypes.toList with
   | [d,s],[T,xT]=>(match ZeQ E d with
    | none=>False
    | some id=>wv S d fun vd=>wv S s fun vs=>Zn8 E S m T id vd vs fun n S'=>K (S'.put o.dst (some (.v (.int .i64 n)))) m)
   | _,_=>False
  | _=>ZcO E S o fun sv=>K (S.put o.dst (some sv)) m
 | _=>ZcO E S o fun sv=>K (S.put o.dst (some sv)) m
section
variable {C:Ctx} {S:St} {m:Mem} {a:Act} {w:World}
theorem ZgW{E:Env}(hE:E.ok){o:Oper}(hd:∀t,o.dst=some t→t < C.n)(hr:Rel C S m a w){K:St→Mem→Prop}(h:ZcO E S o fun sv=>K (S.put o.dst (some sv)) m){F:Fence}{n:Nat}{next:Act→World→Prop}{Q:Exit→Act→World→Prop}
  (hK:∀S' m' a' w',K S' m'→Rel C S' m' a' w'→next a' w'):o.uponIn F n E.P a next Q ((execOp a.eval o).run E.P w):=by
 obtain⟨sv,v,hk,qv,cA⟩:=Zmo hE hr h
 rw[cA]
 exact hK _ _ _ _ hk (hr.put o.dst hd qv)
theorem Zls{C:Ctx}{S:St}{m:Mem}{a:Act}{w:World}{E:Env}{rt:TypeId}{g:FuncId}{args:List Value}{key esz:Nat}{K:Value→St→Mem→Prop}(hr:Rel C S m a w)(h:Zp9 E S m rt g args key esz K):
  Zgv E.P g∧Calls E.P g args.toArray w fun e w'=>∃v S' m',e=.returned v∧K v S' m'∧Rel C S' m' a w':=by
 obtain⟨R,iz,eG,cC⟩:=h
 refine⟨iz.1,(iz.2 w hr.sub).mono ?_⟩
 rintro e w' ⟨v,m',rfl,cP,dM,dC,fH,cE,gB,hR⟩
 have hk:=Shape.all_fits _ _ cC v (eG _ _ _ hR) m' cP hR
 have lO:=hr.world fH dM cP dC
 refine⟨v,_,m',rfl,hk,lO.tokUpd key ⟨v,esz⟩ cE (fun b hb=>?_) ?_⟩
 ·have cM:=gB b hb
  refine⟨⟨fun id x hx e=>?_,fun o=>?_⟩,fun k' t' _ hk' hb'=>?_⟩
  ·have:=(hr.own id x hx).lt;omega
  ·cases he:C.m0 b o with
   | none=>rfl
   | some u=>have:=hr.sub.lt (hr.le _ _ _ he);omega
  ·have:=(hr.toks k' t' hk').1.lt hb';omega
 ·obtain⟨M,hd⟩:=hr.dom
  refine⟨_,hd.step (m':=m') (fH.upd (by simp)) (fun b o u hu=>(dC b o u hu).imp_right fun h=>.inr ⟨h,dM.lt hu⟩),fun b hb=>?_⟩
  exact .inr ⟨gB b hb,cE.lt hb⟩
theorem Zlt{C:Ctx}{S:St}{m:Mem}{a:Act}{w:World}{E:Env}{rt:TypeId}{g:FuncId}{args:List Value}{ids:List Nat}{ks:List (Nat×Nat)}{K:Value→St→Mem→Prop}(hY:YOk E C)(hr:Rel C S m a w)(h:Zig E S m rt g args ids ks K):
  Zgv E.P g∧Calls E.P g args.toArray w fun e w'=>∃v S' m',e=.returned v∧K v S' m'∧Rel C S' m' a w':=by
 unfold Zig at h
 cases hb:Zbf S ids with
 | none=>simp[hb]at h
 | some bxs=>
 simp only[hb]at h
 cases fT:E.m0 with
 | none=>simp[fT]at h
 | some mm=>
 simp only[fT]at h
 obtain⟨h1,Y,R,iz,c1,c2,eG,cC⟩:=Zaf h
 simp only[Bool.and_eq_true,List.all_eq_true]at h1
 obtain⟨ky,hW⟩:=hY.m0 mm fT
 obtain⟨bY,cT⟩:=Zb1 hb
 obtain⟨tlen,tmem⟩:=ZiM (S:=S) (ks:=ks)
 generalize ZdL S ks=tks at *
 have tlen:tks.length=(ks.map (·.1)).length:=by rw[List.length_map];exact tlen
 have lQ:(ks.map (·.1)).length=ks.length:=List.length_map _
 generalize kC:ks.map (·.1)=kl at *
 have dY:=ZaH h1.2.1
 have tf:=ZaH h1.2.2
 have tk_of:∀t∈tks,∀b,t.blk=some b→∃k∈kl,S.tok k=some t:=fun t ht b hb=>by
  obtain⟨i,hi⟩:=List.getElem?_of_mem ht
  obtain⟨k,q1,q2⟩:=tmem i t hi
  rcases q2 with q2|q2
  ·exact⟨k,List.mem_of_getElem? q1,q2⟩
  ·simp[Tok.blk,q2]at hb
 have jm:∀b,Y b→b < w.heap.size∧(∀D,w.heap[b]?≠some (.deferred D))∧C.m0.free b∧(∀M,Dom C S m a w M→M b)∧(∀id x,S.L id=some x→x.b≠b)∧(∀k t,S.tok k=some t→t.blk=some b→k∈kl):=fun b jP=>by
  rcases c2 b jP with⟨t,ht,dG⟩|⟨q1,⟨o,v,q2⟩,q3⟩
  ·obtain⟨k,hk,jx⟩:=tk_of t ht b dG
   obtain⟨g1,g2⟩:=hr.toks k t jx
   refine⟨g1.lt dG,fun D e=>?_,(g2 b dG).2,fun M hd=>hd.tok k t b jx dG,(g2 b dG).1,fun k' t' hk' hb'=>?_⟩
   ·rcases g1 with g1|⟨b',o0,n,c,cur,T,fr,hv,_,hh,_⟩
    ·simp[Tok.blk,g1]at dG
    ·simp[Tok.blk,hv]at dG;subst dG;rw[hh]at e;cases e
   ·rw[hr.tapart k' k t' t b hk' jx hb' dG];exact hk
  ·obtain⟨q4,q5⟩:=Zf3 q3
   have hs:=hr.sub b o v q2
   refine⟨hr.sub.lt q2,fun D e=>?_,by rw[ky];exact q1,fun M hd=>?_,fun id x hx e=>?_,fun k t jx dG=>?_⟩
   ·unfold World.cell? at hs
    rw[e]at hs
    simp at hs
   ·rcases hd.new b o v q2 with h6|h6
    ·rw[ky,q1]at h6;cases h6
    ·exact h6
   ·have ho:=hr.own id x hx
    cases hz:x.fz with
    | true=>exact q5 id x (hr.ids id x hx) hx hz e
    | false=>
     have:=ho.free hz o
     rw[e,q2]at this;cases this
   ·exact Classical.byContradiction fun hn=>ZhN q4 k t (hr.tkeys k t jx) jx hn dG
 have fX:∀x∈bxs,Own m w x∧x.fz=false∧¬Y x.b:=fun x hx=>by
  obtain⟨i,hi⟩:=List.getElem?_of_mem hx
  obtain⟨id,_,hL⟩:=cT i x hi
  exact⟨hr.own id x hL,by simpa using h1.1 x hx,fun hy=>(jm _ hy).2.2.2.2.1 id x hL rfl⟩
 have lJ:(bxs.map (·.b)).Nodup:=ZfZ hr.apart hb dY
 have k9:ZsT tks:=fun i j t t' b hi hj eI ip=>by
  obtain⟨k,q1,q2⟩:=tmem i t hi
  obtain⟨k',q3,q4⟩:=tmem j t' hj
  have q2:S.tok k=some t:=q2.resolve_right fun e=>by simp[Tok.blk,e]at eI
  have q4:S.tok k'=some t':=q4.resolve_right fun e=>by simp[Tok.blk,e]at ip
  have:=hr.tapart k k' t t' b q2 q4 eI ip
  subst this
  have hi':=(List.getElem?_eq_some_iff.1 q1).1
  exact(List.getElem?_inj (l:=kl) (i:=i) (j:=j) hi' tf).1 (by rw[q1,q3])
 refine⟨iz.1,(iz.2 w hr.sub fX lJ (fun t ht=>?_) k9 (fun b jP=>⟨(jm b jP).1,?_⟩)).mono ?_⟩
 ·refine⟨?_,c1 t ht⟩
  obtain⟨i,hi⟩:=List.getElem?_of_mem ht
  obtain⟨k,_,q2⟩:=tmem i t hi
  rcases q2 with q2|q2
  ·exact(hr.toks k t q2).1
  ·exact .inl q2
 ·obtain⟨M,hd⟩:=hr.dom
  exact hW _ _ _ hd.p b ((jm b jP).2.2.2.1 M hd)
 rintro e w' ⟨v,m',css,tvs,rfl,cP,dM,dC,hu,fZ,cG,gA,kD,qw,hR⟩
 have dP:∀u∈tvs,Zdm u=true:=fun u hu=>by
  obtain⟨i,hi⟩:=List.getElem?_of_mem hu
  have bV:=(List.getElem?_eq_some_iff.1 hi).1
  exact(kD i (tks[i]'(by omega)) u (List.getElem?_eq_getElem (by omega)) hi).1
 have hk:=Zkv (ZgO (Shape.all_fits _ _ cC v (eG _ _ _ _ hR) m' cP (fun b o u hu=>(dC b o u hu).imp_right fun h=>h.imp_right fun h o=>by
  cases he:m b o with
  | none=>rfl
  | some u=>have:=hr.sub.lt he;omega)) css (by omega)) tvs (by omega) dP hR
 refine⟨v,_,m',rfl,hk,?_⟩
 have nD:∀b,b < w.heap.size→¬Y b→∀o,m b o=none→m' b o=none:=fun b bV hn o ho=>by
  cases he:m' b o with
  | none=>rfl
  | some u=>
   rcases dC b o u he with h|h|h
   ·rw[ho]at h;cases h
   ·exact absurd h hn
   ·omega
 have fH:∀b,¬Y b→∀o u,m b o=some u→m' b o=some u:=fun b hn o u h=>cP b o u (by rw[Mem.off_at hn];exact h)
 have mS:∀id y,(ZcP S ids bxs css).L id=some y→∃x,S.L id=some x∧x.b=y.b:=fun id y hy=>by
  rcases Zei (S:=S) dY bY (by omega:css.length=ids.length) id with⟨_,h4⟩|⟨i,x,cs,h3,h4,h5,h6⟩
  ·exact⟨y,by rw[←h4];exact hy,rfl⟩
  ·obtain⟨id',g1,g2⟩:=cT i x h4
   rw[h3]at g1;cases g1
   rw[h6]at hy;cases hy
   exact⟨x,g2,rfl⟩
 have tg:∀id x,S.L id=some x→∃y,(ZcP S ids bxs css).L id=some y∧y.b=x.b:=fun id x hx=>by
  rcases Zei (S:=S) dY bY (by omega:css.length=ids.length) id with⟨_,h4⟩|⟨i,x',cs,h3,h4,h5,h6⟩
  ·exact⟨x,by rw[h4];exact hx,rfl⟩
  ·obtain⟨id',g1,g2⟩:=cT i x' h4
   rw[h3]at g1;cases g1
   rw[hx]at g2;cases g2
   exact⟨_,h6,rfl⟩
 have uh:∀M,Dom C S m a w M→∀b,b∈bxs.map (·.b)→M b:=fun M hd b hb=>by
  obtain⟨z,hz,rfl⟩:=List.mem_map.1 hb
  obtain⟨i,hi⟩:=List.getElem?_of_mem hz
  obtain⟨id',_,g2⟩:=cT i z hi
  exact hd.own id' z g2
 have ti:∀b,b∈bxs.map (·.b)→∃id x,S.L id=some x∧x.b=b:=fun b hb=>by
  obtain⟨z,hz,rfl⟩:=List.mem_map.1 hb
  obtain⟨i,hi⟩:=List.getElem?_of_mem hz
  obtain⟨id',_,g2⟩:=cT i z hi
  exact⟨id',z,g2,rfl⟩
 have jQ:(ZcP S ids bxs css).env=S.env∧(ZcP S ids bxs css).ids=S.ids∧(ZcP S ids bxs css).tkeys=S.tkeys∧(ZcP S ids bxs css).gh=S.gh:=by rw[ZcT];exact⟨rfl,rfl,rfl,rfl⟩
 have lV:∀k t,Zn7 S.tok kl tks tvs k=some t→(k ∉ kl∧S.tok k=some t)∨∃(q:Nat)(t0:Tok)(tv:Value),kl[q]?=some k∧tks[q]?=some t0∧tvs[q]?=some tv∧t=⟨tv,t0.esz⟩:=fun k t ht=>by
  rcases Zkw (tok:=S.tok) tf tlen (by omega:tvs.length=kl.length) k with⟨q1,q2⟩|⟨q,t0,tv,q1,q2,q3,q4⟩
  ·exact .inl ⟨q1,by rw[←q2];exact ht⟩
  ·rw[ht]at q4;cases q4
   exact .inr ⟨q,t0,tv,q1,q2,q3,rfl⟩
 refine⟨?_,hr.size,fun i sv he=>?_,fun id y hy=>?_,fun id id' y y' hy hy' e=>?_,fun id y hy=>?_,fun k t ht=>?_,fun k t ht=>?_,fun k k' t t' b ht ht' eI ip=>?_,dM,fun b o u qx=>?_,?_⟩
 ·obtain⟨ms,q1,q2,q3⟩:=hr.defers
  refine⟨ms,q1,q2,fun D hD=>?_⟩
  rw[hu.block D (Array.getElem?_eq_some_iff.1 (q3 D hD)).1 (fun hm=>?_)]
  ·exact q3 D hD
  ·rcases hm with hm|hm
   ·obtain⟨id,x,g1,g2⟩:=ti D hm
    obtain⟨sp,fr,g3,_⟩:=(hr.own id x g1).cells
    have:=q3 D hD
    rw[←g2,g3]at this;cases this
   ·exact(jm D hm).2.1 _ (q3 D hD)
 ·simp only[jQ.1]at he
  obtain⟨u,q1,q2⟩:=hr.env i sv he
  refine⟨u,?_,q2⟩
  cases sv with
  | v x=>exact q1
  | loc id off=>
   simp only[St.den]at q1 ⊢
   cases hx:S.L id with
   | none=>simp[hx]at q1
   | some x=>
    obtain⟨y,g1,g2⟩:=tg id x hx
    simp only[hx]at q1
    simp only[g1,g2];exact q1
  | sl id n c=>
   simp only[St.den]at q1 ⊢
   cases hx:S.L id with
   | none=>simp[hx]at q1
   | some x=>
    obtain⟨y,g1,g2⟩:=tg id x hx
    simp only[hx]at q1
    simp only[g1,g2];exact q1
 ·rcases Zei (S:=S) dY bY (by omega:css.length=ids.length) id with⟨h3,h4⟩|⟨i,x,cs,h3,h4,h5,h6⟩
  ·have hy':S.L id=some y:=by rw[←h4];exact hy
   have ho:=hr.own id y hy'
   have hn:¬Y y.b:=fun hh=>(jm _ hh).2.2.2.2.1 id y hy' rfl
   have cQ:w'.heap[y.b]?=w.heap[y.b]?:=hu.block _ ho.lt (fun hm=>by
    rcases hm with hm|hm
    ·obtain⟨z,hz,qb⟩:=List.mem_map.1 hm
     obtain⟨i,hi⟩:=List.getElem?_of_mem hz
     obtain⟨id',g1,g2⟩:=cT i z hi
     have:=hr.apart _ _ _ _ g2 hy' qb
     subst this
     exact h3 (List.mem_of_getElem? g1)
    ·exact hn hm)
   exact⟨by rw[cQ];exact ho.cells,fun hz o=>nD _ ho.lt hn o (ho.free hz o),fun hz j u hu=>fH _ hn _ _ (ho.known hz j u hu),ho.whole⟩
  ·simp only[h6,Option.some.injEq]at hy
   subst hy
   exact cG i x cs h4 h5
 ·obtain⟨x,g1,g2⟩:=mS id y hy
  obtain⟨x',g3,g4⟩:=mS id' y' hy'
  exact hr.apart _ _ _ _ g1 g3 (by rw[g2,g4,e])
 ·obtain⟨x,g1,g2⟩:=mS id y hy
  simp only[jQ.2.1];exact hr.ids id x g1
 ·rcases lV k t ht with⟨q1,q2⟩|⟨q,t0,tv,q1,q2,q3,rfl⟩
  ·obtain⟨g1,g2⟩:=hr.toks k t q2
   have hn:∀b,t.blk=some b→¬Y b:=fun b hb hh=>q1 ((jm b hh).2.2.2.2.2 k t q2 hb)
   refine⟨g1.same (fun b hb=>hu.block b (g1.lt hb) (fun hm=>?_)) (fun b o hb=>nD b (g1.lt hb) (hn b hb) o),fun b hb=>⟨fun id y hy=>?_,(g2 b hb).2⟩⟩
   ·rcases hm with hm|hm
    ·obtain⟨id,x,g3,g4⟩:=ti b hm
     exact(g2 b hb).1 id x g3 g4
    ·exact hn b hb hm
   ·obtain⟨x,g3,g4⟩:=mS id y hy
    rw[←g4];exact(g2 b hb).1 id x g3
  ·obtain⟨g1,g2,g3⟩:=kD q t0 tv q2 q3
   refine⟨g2,fun b hb=>⟨fun id y hy=>?_,?_⟩⟩
   ·obtain⟨x,g4,g5⟩:=mS id y hy
    rw[←g5]
    rcases(g3 b hb).1 with h|h
    ·exact(jm b h).2.2.2.2.1 id x g4
    ·have:=(hr.own id x g4).lt;omega
   ·rcases(g3 b hb).1 with h|h
    ·exact(jm b h).2.2.1
    ·intro o
     cases he:C.m0 b o with
     | none=>rfl
     | some u=>have:=hr.sub.lt (hr.le _ _ _ he);omega
 ·rcases lV k t ht with⟨q1,q2⟩|⟨q,t0,tv,q1,q2,q3,rfl⟩
  ·exact List.mem_append_right _ (hr.tkeys k t q2)
  ·exact List.mem_append_left _ (List.mem_of_getElem? q1)
 ·have cross:∀(k k':Nat)(t t':Tok),(k ∉ kl∧S.tok k=some t)→(∃(q:Nat)(t0:Tok)(tv:Value),kl[q]?=some k'∧tks[q]?=some t0∧tvs[q]?=some tv∧t'=⟨tv,t0.esz⟩)→t.blk=some b→t'.blk=some b→False:=by
   rintro k k' t t' ⟨q1,q2⟩ ⟨q,t0,tv,q3,q4,q5,rfl⟩ e1 e2
   rcases((kD q t0 tv q4 q5).2.2 b e2).1 with h|h
   ·exact q1 ((jm b h).2.2.2.2.2 k t q2 e1)
   ·have:=(hr.toks k t q2).1.lt e1;omega
  rcases lV k t ht with h3|h3 <;> rcases lV k' t' ht' with h4|h4
  ·exact hr.tapart k k' t t' b h3.2 h4.2 eI ip
  ·exact(cross k k' t t' h3 h4 eI ip).elim
  ·exact(cross k' k t' t h4 h3 ip eI).elim
  ·obtain⟨q,t0,tv,q1,q2,q3,rfl⟩:=h3
   obtain⟨q',t0',tv',q1',q2',q3',rfl⟩:=h4
   have hz:∀(q:Nat)(t0:Tok)(tv:Value),tks[q]?=some t0→tvs[q]?=some tv→((tks.zip tvs).map fun q=>(⟨q.2,q.1.esz⟩:Tok))[q]?=some ⟨tv,t0.esz⟩:=fun q t0 tv h5 h6=>by
    rw[List.getElem?_map,(List.getElem?_zip_eq_some (z:=(t0,tv))).2 ⟨h5,h6⟩];rfl
   have:=qw q q' _ _ b (hz q t0 tv q2 q3) (hz q' t0' tv' q2' q3') eI ip
   subst this
   rw[q1]at q1';cases q1';rfl
 ·refine fH b (fun hh=>?_) o u (hr.le b o u qx)
  rw[(jm b hh).2.2.1 o]at qx;cases qx
 ·obtain⟨M,hd⟩:=hr.dom
  have hu':Upd M w w':=⟨hu.os,hu.tape,hu.output,hu.size,fun k hk hn=>hu.block k hk (fun hm=>hn (by
   rcases hm with hm|hm
   ·exact uh M hd k hm
   ·exact(jm k hm).2.2.2.1 M hd)),hu.wr⟩
  have cH:=hd.step (m':=m') hu' (fun b o u h=>by
   rcases dC b o u h with h|h|h
   ·exact .inl h
   ·exact .inr (.inl ((jm b h).2.2.2.1 M hd))
   ·exact .inr (.inr ⟨h,dM.lt (by assumption)⟩))
  refine⟨_,by simpa only[jQ.2.2.2]using cH.p,cH.lt,fun id y hy=>?_,fun k t b ht hb=>?_,cH.mks,cH.new⟩
  ·obtain⟨x,g1,g2⟩:=mS id y hy
   rw[←g2];exact cH.own id x g1
  ·rcases lV k t ht with⟨q1,q2⟩|⟨q,t0,tv,q1,q2,q3,rfl⟩
   ·exact cH.tok k t b q2 hb
   ·obtain⟨g1,g2,g3⟩:=kD q t0 tv q2 q3
    rcases(g3 b hb).1 with h|h
    ·exact .inl ((jm b h).2.2.2.1 M hd)
    ·exact .inr ⟨h,g2.lt hb⟩
theorem Zom{C:Ctx}{S:St}{m:Mem}{a:Act}{w:World}{E:Env}{rt:TypeId}{g:FuncId}{args:List Value}{K:Value→Int→Prop}(hY:YOk E C)(hr:Rel C S m a w)(h:Zu5 E rt g args K S m):
  Zgv E.P g∧Calls E.P g args.toArray w fun e w'=>∃v gh,e=.returned v∧K v gh∧Rel C { S with gh:=gh } m a w':=by
 unfold Zu5 at h
 split at h
 ·exact h.elim
 rename_i Y dD
 obtain⟨l,xs,go,stop,iS,qy,eG,cC⟩:=h
 have ui:=hY.y Y dD
 obtain⟨M0,hd⟩:=hr.dom
 let at':Int→Int:=fun j=>if j < 0 then -1 else S.gh+j
 let p:Int→(Nat→Prop)→World→Prop:=fun j M w1=>C.p (at' j) (fun k=>M0 k∨M k) w1∧(∀k,M k→w.heap.size≤k)∧w.heap.size≤w1.heap.size∧(∀k,M0 k→w1.heap[k]?=w.heap[k]?)∧Sub m w1
 have qz:∀b o v,m b o=some v→b < w.heap.size:=fun b o v hv=>hr.sub.lt hv
 have hp:Ztb p:=by
  rintro j M M' w1 w2 ⟨h1,h2,h3,h4,h5⟩ hu hM'
  have gq:∀k,M' k→w.heap.size≤k:=fun k hk=>by
   rcases hM' k hk with hk|hk
   ·exact h2 k hk
   ·exact Nat.le_trans h3 hk.1
  have cH:∀k,k < w.heap.size→w2.heap[k]?=w1.heap[k]?:=fun k hk=>hu.block k (Nat.lt_of_lt_of_le hk h3) fun hm=>by have:=h2 k hm;omega
  refine⟨C.st _ _ _ _ _ h1 ⟨hu.os,hu.tape,hu.output,hu.size,fun k hk hn=>hu.block k hk fun hm=>hn (.inr hm),hu.wr⟩ (fun k hk=>?_),gq,Nat.le_trans h3 hu.size,fun k hk=>by rw[cH k (hd.lt k hk)];exact h4 k hk,fun b o v hv=>?_⟩
  ·rcases hk with hk|hk
   ·exact .inl (.inl hk)
   ·rcases hM' k hk with hk|hk
    ·exact .inl (.inr hk)
    ·exact .inr hk
  ·rw[Zbw (cH b (qz b o v hv))];exact h5 b o v hv
 have lW:p 0 (fun _=>False) w:=by
  refine⟨?_,fun _ h=>h.elim,Nat.le_refl _,fun _ _=>rfl,hr.sub⟩
  have e1:at' 0=S.gh:=by simp[at']
  have e2:(fun k=>M0 k∨False)=M0:=by funext k;simp
  rw[e1]
  show C.p S.gh (fun k=>M0 k∨False) w
  rw[e2];exact hd.p
 have uj:Zku E.P m p (fun l' g v=>l'=l∧0≤g∧xs[g.toNat]?=some v):=by
  rintro F n l' j v M w1 hF nE ⟨rfl,hj,ja⟩ ⟨h1,h2,h3,h4,h5⟩ dM
  have e1:at' j=S.gh+((j.toNat:Nat):Int):=by
   show(if j < 0 then -1 else S.gh+j)=_
   rw[if_neg (by omega)];omega
  rw[e1]at h1
  have bV:∀k,M0 k∨M k→k < w1.heap.size:=fun k hk=>by
   rcases hk with hk|hk
   ·exact Nat.lt_of_lt_of_le (hd.lt k hk) h3
   ·exact nE k hk
  have uk:=ui F n l' _ v (fun k=>M0 k∨M k) w1 hF bV (qy _ _ ja) h1 (fun b o v hv=>dM b o v (hr.le b o v hv))
  obtain⟨fn,tmps,asg,bdy,nF,gC⟩:=uk
  refine⟨fn,tmps,asg,bdy,nF,gC.mono ?_⟩
  rintro e w2 ⟨b,rfl,kE,fV⟩
  have ld:Sub m w2:=fun b o v hv=>by
   rcases hd.new b o v hv with h6|h6
   ·exact fV.sub b o v h6
   ·have hb:=fV.block b (Nat.lt_of_lt_of_le (hd.lt b h6) h3) (.inl h6)
    rw[Zbw hb];exact dM b o v hv
  refine⟨b,rfl,⟨?_,h2,Nat.le_trans h3 fV.size,fun k hk=>?_,ld⟩,⟨fV.size,fun k hk hm=>fV.block k hk (.inr hm),ld⟩⟩
  ·cases b with
   | true=>
    have e2:at' (j+1)=S.gh+((j.toNat:Nat):Int)+1:=by
     show(if j+1 < 0 then -1 else S.gh+(j+1))=_
     rw[if_neg (by omega)];omega
    simp only[if_true]at kE ⊢
    rw[e2];exact kE
   | false=>
    simp only[Bool.false_eq_true,if_false]at kE ⊢
    exact kE
  ·rw[fV.block k (Nat.lt_of_lt_of_le (hd.lt k hk) h3) (.inl hk)];exact h4 k hk
 refine⟨iS.1,(iS.2 p hp w hr.sub lW uj).mono ?_⟩
 rintro e w' ⟨v,M,rfl,nE,kF⟩
 have fin:∀j,p j M w'→Rel C { S with gh:=at' j } m a w':=by
  rintro j ⟨h1,h2,h3,h4,h5⟩
  refine hr.yielded hd (C.st _ _ _ _ _ h1 (Upd.refl _ _) fun k hk=>.inl (.inl hk)) ⟨h3,fun k _ hk=>h4 k hk,fun b o v hv=>h5 b o v (hr.le b o v hv)⟩
 have hv:go v∨stop v:=by
  rcases kF with h|h
  ·exact .inl h.1
  ·exact .inr h.1
 have hk:=Shape.all_fits _ _ cC v (eG v hv)
 rcases kF with⟨h1,h2⟩|⟨h1,h2⟩
 ·have:=fin _ h2
  have e1:at' (xs.length:Int)=S.gh+(xs.length:Int):=by
   show(if((xs.length:Nat):Int) < 0 then -1 else S.gh+((xs.length:Nat):Int))=_
   rw[if_neg (by omega)]
  rw[e1]at this
  exact⟨v,_,rfl,hk.1 h1,this⟩
 ·have:=fin _ h2
  have e1:at' (-1)=-1:=rfl
  rw[e1]at this
  exact⟨v,_,rfl,hk.2 h1,this⟩
theorem Zqe{E:Env}(hE:E.ok){F:Fence}(hF:FOk F)(hY:YOk E C){o:Oper}(hd:∀t,o.dst=some t→t < C.n)(hr:Rel C S m a w){K:St→Mem→Prop}(h:opW E S m o K){n:Nat}{next:Act→World→Prop}{Q:Exit→Act→World→Prop}
  (hK:∀S' m' a' w',K S' m'→Rel C S' m' a' w'→next a' w'):o.uponIn F n E.P a next Q ((execOp a.eval o).run E.P w):=by
 obtain⟨dst,op,type,pos,after,guard⟩:=o
 cases op with
 | move x=>exact hK _ _ _ _ h (hr.putEv' dst hd x)
 | assign x=>exact hK _ _ _ _ h (hr.putEv' dst hd x)
 | pick c x y=>
  obtain⟨v,hv,h⟩:=ZaC h
  obtain⟨h1,h2⟩:=Zaf h
  have he:=hr.ev hv
  obtain⟨b,rfl⟩:∃b,v=.bool b:=⟨_,ZbM h1⟩
  have cA:(execOp a.eval ⟨dst,.pick c x y,type,pos,after,guard⟩).run E.P w=.ok (.value (if b then a.eval x else a.eval y)) w:=by
   simp[execOp,he,asBool]
  rw[cA]
  simp only[Zac]at h2
  cases b
  ·exact hK _ _ _ _ h2 (hr.putEv' dst hd y)
  ·exact hK _ _ _ _ h2 (hr.putEv' dst hd x)
 | load T x=>
  have h':∃v,K (S.put dst (some (.v v))) m∧(Instr.loadAt T (a.eval x)).run E.P w=.ok v w:=by
   simp only[opW]at h
   cases mT:Zpb E dst with
   | none=>
    simp only[mT]at h
    exact ZfY hE hr h
   | some y=>
    simp only[mT]at h
    cases cL:E.fix with
    | some f=>simp[cL]at h
    | none=>
     simp only[cL,Option.isSome_none,cond_false]at h
     obtain⟨v,hk,cA⟩:=ZfY hE hr h
     exact⟨v,Zsa hk,cA⟩
  obtain⟨v,hk,cA⟩:=h'
  have dJ:(execOp a.eval ⟨dst,.load T x,type,pos,after,guard⟩).run E.P w=.ok (.value v) w:=by simp[execOp,cA]
  rw[dJ]
  exact hK _ _ _ _ hk (hr.put dst hd rfl)
 | store T x y=>
  obtain⟨v,hv,h⟩:=ZaC h
  have he:=hr.ev hv
  cases kG:Zmv E x with
  | none=>
   simp only[kG]at h
   obtain⟨S',w',hk,bW,cA⟩:=Zll hE hr h
   have dJ:(execOp a.eval ⟨dst,.store T x y,type,pos,after,guard⟩).run E.P w=.ok .skip w':=by simp[execOp,he,cA]
   rw[dJ]
   exact hK _ _ _ _ hk (bW.putNone dst _)
  | some key=>
   simp only[kG]at h
   cases cL:E.fix with
   | some f=>simp[cL]at h
   | none=>
    simp only[cL,Option.isSome_none,cond_false]at h
    obtain⟨m',w',hk,bW,cA⟩:=ZgV hE hY hr h
    have dJ:(execOp a.eval ⟨dst,.store T x y,type,pos,after,guard⟩).run E.P w=.ok .skip w':=by simp[execOp,he,cA]
    rw[dJ]
    exact hK _ _ _ _ hk (bW.putNone dst _)
 | alloc T=>
  simp only[opW,Zqa]at h
  cases dst with
  | none=>exact h.elim
  | some d=>
   simp only at h
   cases ht:E.tt T with
   | none=>simp[ht]at h
   | some i=>
    simp only[ht]at h
    cases hL:S.L d with
    | some x=>simp[hL]at h
    | none=>
     simp only[hL]at h
     have cI:=hE T i ht
     have hz:=cI.run_zero (w:=w)
     have gV:i.zero.cells.toList.length=i.size:=by simpa using cI.zsize
     have hb:=hr.newBox (d:=d) hL (x:={ b:=w.heap.size,cs:=i.zero.cells.toList,T:=T,cap:=i.size,fz:=false,full:=true }) (m':=m) [] rfl (by simpa using gV) (fun _=>gV) (.inl ⟨rfl,rfl⟩)
     simp only[List.append_nil,Array.toArray_toList]at hb
     have cA:(execOp a.eval ⟨some d,.alloc T,type,pos,after,guard⟩).run E.P w=.ok (.value (.pointer (some ⟨w.heap.size,0,none⟩))) (w.alloc (.cells i.zero.cells T (0,0))):=by
      simp[execOp,Instr.alloc,hz,newVar,newRow]
     rw[cA]
     exact hK _ _ _ _ (h w.heap.size) (hb.put (some d) hd (by simp[St.den,St.newL]))
 | box T x=>
  obtain⟨v,hv,h⟩:=ZaC h
  have he:=hr.ev hv
  cases f9:Zf0 E dst with
  | true=>
   simp only[f9,cond_true]at h
   cases cL:E.fix with
   | some f=>simp[cL]at h
   | none=>
    simp only[cL,Option.isSome_none,cond_false,Zup]at h
    cases dst with
    | none=>exact h.elim
    | some d=>
     simp only at h
     cases ht:E.tt T with
     | none=>simp[ht]at h
     | some i=>
      simp only[ht]at h
      cases hL:S.L d with
      | some x=>simp[hL]at h
      | none=>
       simp only[hL]at h
       obtain⟨h1,h2⟩:=Zaf h
       have cK:=Nat.eq_of_beq_eq_true h1
       have gV:v.cells.toList.length=i.size:=by simpa using cK
       have cB:m.free w.heap.size:=fun o=>by
        cases he:m w.heap.size o with
        | none=>rfl
        | some v=>have:=hr.sub.lt he;omega
       have hb:=hr.newBox (d:=d) hL (x:={ b:=w.heap.size,cs:=v.cells.toList,T:=T,cap:=i.size,fz:=true,full:=true }) (m':=m.add w.heap.size v.cells.toList) [] rfl (by simpa using gV) (fun _=>gV) (.inr ⟨rfl,rfl⟩)
       simp only[List.append_nil,Array.toArray_toList]at hb
       have cA:(execOp a.eval ⟨some d,.box T x,type,pos,after,guard⟩).run E.P w=.ok (.value (.pointer (some ⟨w.heap.size,0,none⟩))) (w.alloc (.cells v.cells T (0,0))):=by
        simp[execOp,he,Instr.box,newVar,newRow]
       rw[cA]
       exact hK _ _ _ _ (Zok (h2 w.heap.size _ (Mem.le_add cB _) (fun j v hv=>by rw[Mem.add_same];simpa using hv)) cB (fun b' o u hu=>by
        by_cases e:b'=w.heap.size
        ·exact .inr e
        ·rw[Mem.add_other _ e]at hu;exact .inl hu)) (hb.put (some d) hd (by simp[St.den,St.newL]))
  | false=>
  simp only[f9,cond_false]at h
  simp only[Zvz]at h
  cases dst with
  | none=>exact h.elim
  | some d=>
   simp only at h
   cases ht:E.tt T with
   | none=>simp[ht]at h
   | some i=>
    simp only[ht]at h
    cases hL:S.L d with
    | some x=>simp[hL]at h
    | none=>
     simp only[hL]at h
     obtain⟨h1,h2⟩:=Zaf h
     have cK:=Nat.eq_of_beq_eq_true h1
     have gV:v.cells.toList.length=i.size:=by simpa using cK
     have hb:=hr.newBox (d:=d) hL (x:={ b:=w.heap.size,cs:=v.cells.toList,T:=T,cap:=i.size,fz:=false,full:=true }) (m':=m) [] rfl (by simpa using gV) (fun _=>gV) (.inl ⟨rfl,rfl⟩)
     simp only[List.append_nil,Array.toArray_toList]at hb
     have cA:(execOp a.eval ⟨some d,.box T x,type,pos,after,guard⟩).run E.P w=.ok (.value (.pointer (some ⟨w.heap.size,0,none⟩))) (w.alloc (.cells v.cells T (0,0))):=by
      simp[execOp,he,Instr.box,newVar,newRow]
     rw[cA]
     exact hK _ _ _ _ (h2 w.heap.size) (hb.put (some d) hd (by simp[St.den,St.newL]))
 | buildSlice T len parts=>
  simp only[opW]at h
  cases iK:Zc4 E dst with
  | some ke=>
   simp only[iK]at h
   cases cL:E.fix with
   | some f=>simp[cL]at h
   | none=>
    simp only[cL,Option.isSome_none,cond_false]at h
    split at h
    ·rename_i hp
     have ul:parts=#[]:=by rw[←Array.toArray_toList (xs:=parts),hp]
     subst ul
     obtain⟨S',v,w',hk,bW,_,hx⟩:=ZgR hE (fun m' e=>by cases e;rfl) hd hr h
     obtain⟨i,e,g1,g2,rfl,rfl⟩:=hx rfl
     have hu:=(hE T i g1).run_und (w:=w)
     rw[g2]at hu
     have cK:∃n,(Go.sizeOf e).run E.P w=.ok n w:=by
      unfold Zlp at h
      cases dst with
      | none=>exact h.elim
      | some d=>
       simp only at h
       cases hs:ZaA E T with
       | none=>simp[hs]at h
       | some ej=>
        obtain⟨e',j⟩:=ej
        obtain⟨i',q1,q2,q3⟩:=ZaJ hs
        rw[g1]at q1;cases q1
        rw[g2]at q2;cases q2
        exact⟨_,(hE _ j q3).run_size (w:=w)⟩
     obtain⟨n0,cK⟩:=cK
     have cA:(execOp a.eval ⟨dst,.buildSlice T 0 #[],type,pos,after,guard⟩).run E.P w=.ok (.value (.slice (some ⟨w.heap.size,0,none⟩) 0 0)) (w.alloc (.cells #[] e (0,0))):=by
      simp[execOp,Instr.buildSlice,hu,cK,newRow,Instr.fill]
      congr 2
      apply Array.ext'
      simp
     rw[cA]
     exact hK _ _ _ _ hk bW
    ·exact h.elim
  | none=>
  simp only[iK,Zek]at h
  cases dst with
  | none=>exact h.elim
  | some d=>
   simp only at h
   cases ht:E.tt T with
   | none=>simp[ht]at h
   | some t=>
    simp only[ht]at h
    have gW:=hE T t ht
    cases qA:t.d with
    | slice e=>
     simp only[qA]at h
     cases hi:E.tt e with
     | none=>simp[hi]at h
     | some i=>
      simp only[hi]at h
      have cI:=hE e i hi
      cases hL:S.L d with
      | some x=>simp[hL]at h
      | none=>
       simp only[hL]at h
       obtain⟨h1,h2⟩:=Zaf h
       simp only[Bool.and_eq_true,Nat.ble_eq]at h1
       have h3:=Zb0 hr h2
       obtain⟨h4,h5⟩:=Zaf h3
       generalize eH:List.map a.eval (List.map (fun x=>x.2) parts.toList)=vs at *
       have bY:parts.toList.length=len:=Nat.eq_of_beq_eq_true h1.2.1
       have jk:vs.length=len:=by rw[←eH];simpa using bY
       have fZ:(ZbF vs).length=len*i.size:=by rw[Zmr h4,jk]
       have cB:m.free w.heap.size:=fun o=>by
        cases he:m w.heap.size o with
        | none=>rfl
        | some v=>have:=hr.sub.lt he;omega
       have hb:=hr.newBox (d:=d) hL (x:={ b:=w.heap.size,cs:=ZbF vs,T:=e,cap:=len*i.size,fz:=true,full:=true }) (m':=m.add w.heap.size (ZbF vs)) [] rfl (by simpa using fZ) (fun _=>fZ) (.inr ⟨rfl,rfl⟩)
       simp only[List.append_nil]at hb
       have hu:=gW.run_und (w:=w)
       rw[qA]at hu
       have cK:=cI.run_size (w:=w)
       have hz:=cI.run_zero (w:=w)
       have lX:(parts.map fun x=>(x.1,a.eval x.2)).toList=(List.range' 0 vs.length).zip vs:=by
        have e1:=ZgP h1.1
        simp only[List.length_map]at e1
        rw[bY,←jk]at e1
        rw[←e1,←eH,List.map_map,List.zip_map']
        simp
       have gV:i.zero.cells.toList.length=i.size:=by simpa using cI.zsize
       have qB:∀zz:Array Value,((Array.range (len*i.size)).map (fun q=>zz[q % zz.size]!)).toList.length=vs.length*i.size:=fun zz=>by simp[jk]
       have lf:∀zz:Array Value,Instr.fill (fun q=>some (q*i.size,i.size)) ((Array.range (len*i.size)).map (fun q=>zz[q % zz.size]!)) (parts.map fun x=>(x.1,a.eval x.2)).toList=some (ZbF vs).toArray:=fun zz=>by
        have:=Zkx i.size vs 0 [] ((Array.range (len*i.size)).map (fun q=>zz[q % zz.size]!)).toList h4 (by simp) (qB zz)
        rw[lX]
        simpa only[List.nil_append,Array.toArray_toList]using this
       have cP:¬(16777216 < len*i.size):=by omega
       have cA:(execOp a.eval ⟨some d,.buildSlice T len parts,type,pos,after,guard⟩).run E.P w=.ok (.value (.slice (some ⟨w.heap.size,0,none⟩) len len)) (w.alloc (.cells (ZbF vs).toArray e (0,0))):=by
        by_cases h0:len*i.size=0
        ·have:=lf #[]
         simp only[h0]at this
         simp[execOp,Instr.buildSlice,hu,cK,h0,newRow]
         simp at this
         simp[this]
        ·have:=lf i.zero.cells
         simp[execOp,Instr.buildSlice,hu,cK,cP,h0,hz,newRow]
         simp at this
         simp[this]
       rw[cA]
       exact hK _ _ _ _ (h5 w.heap.size cB) (hb.put (some d) hd (by simp[St.den,St.newL]))
    | _=>simp[qA]at h
 | makeSlice T l c=>
  have h':∃S' m' v w',K S' m'∧Rel C S' m' (a.put dst v) w'∧(Instr.makeSlice T (a.eval l) (a.eval c)).run E.P w=.ok v w':=by
   simp only[opW]at h
   cases iK:Zc4 E dst with
   | none=>
    simp only[iK]at h
    cases lg:ZrD E dst with
    | false=>
     simp only[lg,cond_false]at h
     obtain⟨S',v,w',g⟩:=Zmt hE hd hr h
     exact⟨S',m,v,w',g⟩
    | true=>
     simp only[lg,cond_true]at h
     cases cL:E.fix with
     | some f=>simp[cL]at h
     | none=>
      simp only[cL,Option.isSome_none,cond_false]at h
      exact Zlo hE hd hr h
   | some ke=>
    simp only[iK]at h
    cases cL:E.fix with
    | some f=>simp[cL]at h
    | none=>
     simp only[cL,Option.isSome_none,cond_false]at h
     obtain⟨S',v,w',g1,g2,g3,_⟩:=ZgR hE (fun m' e=>by cases e) hd hr h
     exact⟨S',m,v,w',g1,g2,g3⟩
  obtain⟨S',m',v,w',hk,bW,cA⟩:=h'
  have dJ:(execOp a.eval ⟨dst,.makeSlice T l c,type,pos,after,guard⟩).run E.P w=.ok (.value v) w':=by simp[execOp,cA]
  rw[dJ]
  exact hK _ _ _ _ hk bW
 | convert s d x=>
  simp only[opW]at h
  cases jy:Zf6 E s d with
  | false=>
   simp only[jy,cond_false]at h
   cases gp:ZcJ E s d with
   | false=>
    simp only[gp,cond_false]at h
    cases nG:ZcK E s d with
    | false=>
     simp only[nG,cond_false]at h
     exact ZgW hE hd hr h hK
    | true=>
     simp only[nG,cond_true]at h
     cases cL:E.fix with
     | some f=>simp[cL]at h
     | none=>
      simp only[cL,Option.isSome_none,cond_false]at h
      obtain⟨v,hk,cA⟩:=ZgS hE nG hr h
      have dJ:(execOp a.eval ⟨dst,.convert s d x,type,pos,after,guard⟩).run E.P w=.ok (.value v) w:=by simp[execOp,cA]
      rw[dJ]
      exact hK _ _ _ _ hk (hr.put dst hd rfl)
   | true=>
    simp only[gp,cond_true]at h
    cases cL:E.fix with
    | some f=>simp[cL]at h
    | none=>
     simp only[cL,Option.isSome_none,cond_false]at h
     obtain⟨S',m',v,w',hk,bW,cA⟩:=Zmu hE gp hd hr h
     have dJ:(execOp a.eval ⟨dst,.convert s d x,type,pos,after,guard⟩).run E.P w=.ok (.value v) w':=by simp[execOp,cA]
     rw[dJ]
     exact hK _ _ _ _ hk bW
  | true=>
   simp only[jy,cond_true]at h
   cases he:S.ev x with
   | none=>simp[he]at h
   | some sv=>
    cases sv with
    | v u=>simp[he]at h
    | loc id off=>simp[he]at h
    | sl id n' c=>
     simp only[he]at h
     obtain⟨v,h1,h2,h3⟩:=hr.ev_val he
     simp only[St.den]at h1
     cases hL:S.L id with
     | none=>simp[hL]at h1
     | some bx=>
      simp only[hL,Option.some.injEq]at h1
      unfold Zf6 at jy
      cases ht:E.tt s with
      | none=>simp[ht]at jy
      | some i=>
       simp only[ht]at jy
       cases cS:i.d with
       | slice e=>
        simp only[cS,Bool.and_eq_true]at jy
        have um:s=d:=Nat.eq_of_beq_eq_true jy.1
        subst um
        cases hj:E.tt e with
        | none=>simp[hj]at jy
        | some j=>
         simp only[hj]at jy
         have hu:=(hE s i ht).run_und (w:=w)
         have lR:=(hE e j hj).run_und (w:=w)
         rw[cS]at hu
         obtain⟨sp,fr,hh,hc,hf⟩:=(hr.own id bx hL).cells
         have qs:=Zc8 (P:=E.P) bx.b 0 hh
         have bW:=hr.freeze hL _ ⟨_,_,_,hh,rfl⟩
         have iy:j.d=.int .u8:=by
          cases iy:j.d with
          | int kk=>cases kk <;> simp[iy]at jy <;> rfl
          | _=>simp[iy]at jy
         rw[iy]at lR
         have cA:(execOp a.eval ⟨dst,.convert s s x,type,pos,after,guard⟩).run E.P w=.ok (.value (.slice (some ⟨bx.b,0,none⟩) n' c)) (w.freeze ⟨bx.b,(bx.cs++sp).toArray.size,none⟩ 1):=by
          simp only[execOp,h3,←h1]
          simp only[convert,Sem.run_bind,hu,Result.andThen_ok,beq_self_eq_true,lR,qs,Sem.run_pure]
         rw[cA]
         exact hK _ _ _ _ h (bW.put dst hd (by simp[St.den,hL]))
       | _=>simp[cS]at jy
 | call c=>
  obtain⟨callee,args,argTypes⟩:=c
  cases callee with
  | value f=>
   simp only[opW]at h
   obtain⟨S,m,hr,h⟩:=ZhM hr h
   simp only[ZsU]at h
   cases he:S.ev f with
   | none=>simp[he]at h
   | some sv=>
    obtain⟨v,h1,h2,h3⟩:=hr.ev_val he
    cases sv with
    | v fv=>
     cases fv with
     | func fn first captured=>
      cases fn with
      | func g=>
       simp only[he]at h
       simp only[St.den,Option.some.injEq]at h1
       have un:Zgv E.P g∧Calls E.P g (first.toList++List.map a.eval args.toList++captured.toList).toArray w fun e w'=>∃v S' m',e=.returned v∧K (S'.put dst (some (.v v))) m'∧Rel C S' m' a w':=by
        cases iS:Zej E dst with
        | some ks=>
         simp only[iS]at h
         cases cL:E.fix with
         | some f=>simp[cL]at h
         | none=>
          simp only[cL,Option.isSome_none,cond_false]at h
          have h4:=Zb0 hr h
          exact Zlt hY hr h4
        | none=>
        simp only[iS]at h
        cases mU:Zrz E dst with
        | true=>
         simp only[mU,cond_true]at h
         cases cL:E.fix with
         | some f=>simp[cL]at h
         | none=>
          simp only[cL,Option.isSome_none,cond_false]at h
          have h4:=Zb0 hr h
          obtain⟨h5,h6⟩:=Zom hY hr h4
          refine⟨h5,h6.mono ?_⟩
          rintro e w' ⟨v,gh,rfl,h7,h8⟩
          exact⟨v,_,m,rfl,h7,h8⟩
        | false=>
        simp only[mU,cond_false]at h
        cases iK:Zc4 E dst with
        | none=>
         simp only[iK]at h
         have h4:=Zb0 hr h
         exact Zmp hr h4
        | some ke=>
         simp only[iK]at h
         cases cL:E.fix with
         | some f=>simp[cL]at h
         | none=>
          simp only[cL,Option.isSome_none,cond_false]at h
          split at h
          ·have h4:=Zb0 hr h
           exact Zls hr h4
          ·exact h.elim
       obtain⟨lY,dK⟩:=un
       have cA:(execOp a.eval ⟨dst,.call ⟨.value f,args,argTypes⟩,type,pos,after,guard⟩).run E.P w=.ok (.enter g (first.toList++List.map a.eval args.toList++captured.toList).toArray) w:=by
        have iL:(first++Array.map a.eval args++captured)=(first.toList++List.map a.eval args.toList++captured.toList).toArray:=Array.ext' (by simp)
        simp only[execOp,resolve,h3,←h1,Deferred.ofValue]
        simp only[Sem.run_bind,Sem.run_pure,Result.andThen_ok,invoke,iL]
        exact lY _ _
       rw[cA]
       refine⟨fun hs=>by rw[hF.depth]at hs;simp at hs,?_⟩
       refine hF.calls (dK.mono ?_)
       rintro e w' ⟨v,S',m',rfl,hk,bW⟩
       exact hK _ _ _ _ hk (bW.put dst hd rfl)
      | yield l=>
       simp only[he]at h
       cases cL:E.fix with
       | some f=>simp[cL]at h
       | none=>
        simp only[cL,Option.isSome_none,cond_false]at h
        cases dD:E.yl with
        | none=>simp[dD]at h
        | some Y=>
         cases pG:first.toList with
         | cons x l=>simp[dD,pG]at h
         | nil=>
          cases qC:captured.toList with
          | cons x l=>simp[dD,pG,qC]at h
          | nil=>
           simp only[dD,pG,qC]at h
           obtain⟨hy,jl,f8⟩:=Zb0 hr h
           have qD:first=#[]:=by rw[←Array.toArray_toList (xs:=first),pG]
           have qE:captured=#[]:=by rw[←Array.toArray_toList (xs:=captured),qC]
           subst qD qE
           obtain⟨M,hd'⟩:=hr.dom
           obtain⟨fn,tmps,asg,bdy,nF,gC⟩:=hY.y Y dD F (n - 1) l S.gh _ M w hF hd'.lt hy hd'.p (fun b o v hv=>hr.sub b o v (hr.le b o v hv))
           simp only[St.den,Option.some.injEq]at h1
           have cA:(execOp a.eval ⟨dst,.call ⟨.value f,args,argTypes⟩,type,pos,after,guard⟩).run E.P w=.ok (.round l fn tmps asg bdy) w:=by
            have iL:(#[]++Array.map a.eval args)=(List.map a.eval args.toList).toArray:=Array.ext' (by simp)
            simp only[execOp,resolve,h3,←h1,Deferred.ofValue]
            simp only[Sem.run_bind,Sem.run_pure,Result.andThen_ok,invoke,iL]
            simpa using nF
           rw[cA]
           refine⟨fun hs=>by rw[hF.depth]at hs;simp at hs,gC.mono ?_⟩
           rintro e w' ⟨b,rfl,hp,fV⟩
           cases b with
           | true=>exact hK _ _ _ _ jl ((hr.yielded hd' hp fV).put dst hd rfl)
           | false=>exact hK _ _ _ _ f8 ((hr.yielded hd' hp fV).put dst hd rfl)
      | _=>simp[he]at h
     | _=>simp[he]at h
    | _=>simp[he]at h
  | invoke r m=>exact ZgW hE hd hr h hK
  | builtin b=>
   cases b with
   | append=>
    simp only[opW]at h
    split at h
    ·rename_i s x T xT d hA hT
     obtain⟨S,m,hr,h⟩:=ZhM hr h
     obtain⟨vs,eH,h⟩:=ZaC h
     obtain⟨vx,pH,h⟩:=ZaC h
     have ha:args=#[s,x]:=by rw[←Array.toArray_toList (xs:=args),hA]
     have gf:argTypes=#[T,xT]:=by rw[←Array.toArray_toList (xs:=argTypes),hT]
     subst ha gf
     obtain⟨v,tk,m',w',hk,bW,cA⟩:=Zjw (ty:=type) hE hr h
     have dJ:(execOp a.eval ⟨some d,.call ⟨.builtin .append,#[s,x],#[T,xT]⟩,type,pos,after,guard⟩).run E.P w=.ok (.value v) w':=by
      simp[execOp,resolve,invoke,builtin,hr.ev eH,hr.ev pH,cA]
     rw[dJ]
     exact hK _ _ _ _ hk (bW.put (some d) hd rfl)
    ·exact h.elim
   | copy=>
    simp only[opW]at h
    split at h
    ·rename_i d s T xT hA hT
     cases hh:ZeQ E d with
     | none=>simp[hh]at h
     | some id=>
      simp only[hh]at h
      obtain⟨vd,qu,h⟩:=ZaC h
      obtain⟨vs,eH,h⟩:=ZaC h
      have ha:args=#[d,s]:=by rw[←Array.toArray_toList (xs:=args),hA]
      have gf:argTypes=#[T,xT]:=by rw[←Array.toArray_toList (xs:=argTypes),hT]
      subst ha gf
      obtain⟨n,S',w',hk,bW,cA⟩:=Zmw (ty:=type) (xT:=xT) hE hr h
      have dJ:(execOp a.eval ⟨dst,.call ⟨.builtin .copy,#[d,s],#[T,xT]⟩,type,pos,after,guard⟩).run E.P w=.ok (.value (.int .i64 n)) w':=by
       simp[execOp,resolve,invoke,builtin,hr.ev qu,hr.ev eH,cA]
      rw[dJ]
      exact hK _ _ _ _ hk (bW.put dst hd rfl)
    ·exact h.elim
   | _=>exact ZgW hE hd hr h hK
 | _=>exact ZgW hE hd hr h hK
end
end Go.Eng
namespace Go.Eng
open Go Go.RowKit
mutual
def Shape.ex:Shape→(Value→Prop)→Prop
 | .any,k=>∃v,k v
 | .int ki,k=>∃n:Int,k (.int ki n)
 | .bool,k=>∃b:Bool,k (.bool b)
 | .str,k=>∃s:ByteArray,k (.string s)
 | .slice,k=>∃(a:Option Addr)(n c:Nat),k (.slice a n c)
 | .agg l,k=>Shape.exL l fun vs=>k (.agg vs.toArray)
 | .tup l,k=>Shape.exL l fun vs=>k (.tuple vs.toArray)
 | .fn,k=>∃(g:Nat)(fi ca:List Value),k (.func (.func g) fi.toArray ca.toArray)
 | .cells,k=>∃cs:List Value,k (.agg cs.toArray)
 | .ptr,k=>∃b o:Nat,k (.pointer (some ⟨b,o,none⟩))
def Shape.exL:List Shape→(List Value→Prop)→Prop
 | [],k=>k []
 | s::l,k=>Shape.ex s fun v=>Shape.exL l fun vs=>k (v::vs)
end
mutual
theorem Shape.ex_elim:∀(s:Shape)(k:Value→Prop),s.ex k→∃v,k v
 | .any,k,h=>h
 | .int ki,k,h=>by simp only[Shape.ex]at h;obtain⟨n,h⟩:=h;exact⟨_,h⟩
 | .bool,k,h=>by simp only[Shape.ex]at h;obtain⟨n,h⟩:=h;exact⟨_,h⟩
 | .str,k,h=>by simp only[Shape.ex]at h;obtain⟨n,h⟩:=h;exact⟨_,h⟩
 | .slice,k,h=>by simp only[Shape.ex]at h;obtain⟨a,n,c,h⟩:=h;exact⟨_,h⟩
 | .agg l,k,h=>by
  simp only[Shape.ex]at h
  obtain⟨vs,_,h⟩:=Shape.exL_elim l _ h
  exact⟨_,h⟩
 | .tup l,k,h=>by
  simp only[Shape.ex]at h
  obtain⟨vs,_,h⟩:=Shape.exL_elim l _ h
  exact⟨_,h⟩
 | .fn,k,h=>by simp only[Shape.ex]at h;obtain⟨_,_,_,h⟩:=h;exact⟨_,h⟩
 | .cells,k,h=>by simp only[Shape.ex]at h;obtain⟨_,h⟩:=h;exact⟨_,h⟩
 | .ptr,k,h=>by simp only[Shape.ex]at h;obtain⟨_,_,h⟩:=h;exact⟨_,h⟩
theorem Shape.exL_elim:∀(l:List Shape)(k:List Value→Prop),Shape.exL l k→∃vs,vs.length=l.length∧k vs
 | [],k,h=>⟨[],rfl,h⟩
 | s::l,k,h=>by
  simp only[Shape.exL]at h
  obtain⟨v,h⟩:=Shape.ex_elim s _ h
  obtain⟨vs,hl,h⟩:=Shape.exL_elim l _ h
  exact⟨v::vs,by simp[hl],h⟩
end
def Zaj:Value→Bool
 | .tuple _=>true
 | _=>false
def opG(E:Env)(ops:Array Oper)(o:Oper)(S:St)(m:Mem)(K:St→Mem→Prop):Prop:=match o.guard with
 | none=>opW E S m o K
 | some (j,want)=>match ops.toList[j]? with
  | none=>False
  | some oj=>match oj.dst with
   | none=>False
   | some t=>match S.env t with
    | some (.v v)=>bif Zaj v then K (S.put o.dst (some (.v undef))) m else chk (Zae v) (match want with
     | true=>br (Zac v) (opW E S m o K) (K (S.put o.dst (some (.v undef))) m)
     | false=>br (Zac v) (K (S.put o.dst (some (.v undef))) m) (opW E S m o K))
    | _=>False
def Zft(ops:Array Oper)(o:Oper):Option Nat:=match o.guard with
 | none=>none
 | some (j,_)=>match ops.toList[j]? with
  | none=>none
  | some oj=>oj.dst
def ZuL(E:Env)(ops:Array Oper)(o:Oper)(S:St)(m:Mem)(K:St→Mem→Prop):Prop:=match Zft ops o with
 | none=>opG E ops o S m K
 | some t=>match S.env t with
  | some (.v v)=>bif Zaj v then opG E ops o S m K else chk (Zae v) (br (Zac v) (opG E ops o (S.put (some t) (some (.v (.bool true)))) m K) (opG E ops o (S.put (some t) (some (.v (.bool false)))) m K))
  | _=>False
def Zs6(E:Env)(ops:Array Oper):List Nat→(St→Mem→Prop)→St→Mem→Prop
 | [],K,S,m=>K S m
 | i::l,K,S,m=>match ops.toList[i]? with
  | none=>False
  | some o=>ZuL E ops o S m (Zs6 E ops l K)
def Zu7(n:Nat)(o:Oper):Bool:=match o.dst with
 | none=>true
 | some d=>Nat.blt d n
def Zky(n:Nat):List Oper→Bool
 | []=>true
 | o::l=>Zu7 n o&&Zky n l
def Zbx(n:Nat):Code→Bool
 | .region _ ops _=>Zky n ops.toList
 | .seq a b=>Zbx n a&&Zbx n b
 | .cond _ a b=>Zbx n a&&Zbx n b
 | .block _ a=>Zbx n a
 | .loop a=>Zbx n a
 | .scope a=>Zbx n a
 | .rangeFunc _ ps a b=>ps.toList.all (Nat.blt · n)&&(Zbx n a&&Zbx n b)
 | _=>true
def Zar:List Oper→List Nat
 | []=>[]
 | o::l=>match o.dst with
  | none=>Zar l
  | some d=>d::Zar l
def Zia:Code→List Nat
 | .region _ ops _=>Zar ops.toList
 | .seq a b=>Zia a++Zia b
 | .cond _ a b=>Zia a++Zia b
 | .block _ a=>Zia a
 | .loop a=>Zia a
 | .scope a=>Zia a
 | .rangeFunc _ ps a b=>ps.toList++(Zia a++Zia b)
 | _=>[]
def ZaN:Code→Nat
 | .region id _ _=>id
 | .seq a _=>ZaN a
 | .cond _ a _=>ZaN a
 | .block _ a=>ZaN a
 | .loop a=>ZaN a
 | .scope a=>ZaN a
 | .rangeFunc _ _ a _=>ZaN a
 | _=>0
def Zgw(S:St):List (Nat×Shape)→(List Value→Prop)→Prop
 | [],k=>k []
 | (t,sh)::l,k=>wv S (.tmp t) fun v=>chk (sh.fits v) (Zgw S l fun vs=>k (v::vs))
def ZrE(S:St):List Nat→(List (List Value)→Prop)→Prop
 | [],k=>k []
 | id::l,k=>match S.L id with
  | none=>False
  | some x=>ZrE S l fun css=>k (x.cs::css)
def Zqf(S:St)(k:Nat):Value:=match S.tok k with
 | some t=>t.v
 | none=>.slice none 0 0
def Zfu(S:St):List (Nat×Nat)→(List Value→Prop)→Prop
 | [],k=>k []
 | (q,esz)::l,k=>chk (Zdm (Zqf S q)&&(match S.tok q with
  | some t=>Nat.beq t.esz esz
  | none=>true)) (Zfu S l fun vs=>k (Zqf S q::vs))
def ZbJ(e:Nat→Option SV):List (Nat×Shape)→List Value→(Nat→Option SV)
 | (t,_)::l,v::vs=>fun i=>bif Nat.beq i t then some (.v v)else ZbJ e l vs i
 | _,_=>e
def Zby(L:Nat→Option Box):List Nat→List (List Value)→(Nat→Option Box)
 | id::l,cs::css=>fun i=>bif Nat.beq i id then(match L i with
  | some x=>some { x with cs:=cs }
  | none=>none)else Zby L l css i
 | _,_=>L
def Zfb(tk:Nat→Option Tok):List (Nat×Nat)→List Value→(Nat→Option Tok)
 | (q,esz)::l,v::vs=>fun i=>bif Nat.beq i q then some ⟨v,esz⟩ else Zfb tk l vs i
 | _,_=>tk
def ZbN(S:St)(ds:List Nat)(A:LoopAnn)(g:Int)(xs:List Value)(css:List (List Value))(tvs:List Value):St:=
 {env:=ZbJ (fun i=>bif ds.any (Nat.beq i ·)then none else S.env i) A.slots xs
  L:=Zby S.L A.boxes css
  ids:=S.ids
  tok:=Zfb S.tok A.toks tvs
  tkeys:=A.toks.map (·.1)++S.tkeys
  gh:=g }
def ghs(b:Bool)(g:Int)(xs:List Value):List Value:=bif b then .int .i64 g::xs else xs
def Zur(b:Bool)(g:Int)(k:Int→Prop):Prop:=bif b then ∀y,k y else k g
def Zkz(b:Bool)(x y:Int)(p:Prop):Prop:=bif b then p else match x,y with
 | .ofNat 0,.ofNat 0=>p
 | x,y=>x=y∧p
theorem Zd5{b:Bool}{x y:Int}{p:Prop}(h:Zkz b x y p):(b=false→x=y)∧p:=by
 cases b with
 | true=>exact⟨fun h=>(by cases h),h⟩
 | false=>
  simp only[Zkz,cond_false]at h
  split at h
  ·exact⟨fun _=>rfl,h⟩
  ·exact⟨fun _=>h.1,h.2⟩
theorem ZgX{b:Bool}{g:Int}{k:Int→Prop}(h:Zur b g k){y:Int}(hy:b=false→y=g):k y:=by
 cases b with
 | true=>exact h y
 | false=>rw[hy rfl];exact h
def Zmx:List Nat→(List (List Value)→Prop)→Prop
 | [],k=>k []
 | _::l,k=>∀cs,Zmx l fun css=>k (cs::css)
def Zmy:List (Nat×Nat)→(List Value→Prop)→Prop
 | [],k=>k []
 | _::l,k=>∀(a:Option Addr)(n c:Nat),Zmy l fun vs=>k (.slice a n c::vs)
def ZbT(S:St)(A:LoopAnn)(ids:List Nat):List (Option Box):=ids.map fun id=>bif A.boxes.any (Nat.beq id ·)then(match S.L id with
 | some x=>some { x with cs:=[] }
 | none=>none)else S.L id
def Za4(S:St)(A:LoopAnn)(ks:List Nat):List (Option Tok):=ks.map fun k=>bif A.toks.any (fun q=>Nat.beq k q.1)then none else S.tok k
def ZlZ(a b:List (Option Box))(p:Prop):Prop:=match a,b with
 | [],[]=>p
 | a,b=>a=b∧p
def Zl0(a b:List (Option Tok))(p:Prop):Prop:=match a,b with
 | [],[]=>p
 | a,b=>a=b∧p
theorem ZcV{a b:List (Option Box)}{p:Prop}:ZlZ a b p↔a=b∧p:=by
 unfold ZlZ
 split
 ·simp
 ·exact Iff.rfl
theorem ZcW{a b:List (Option Tok)}{p:Prop}:Zl0 a b p↔a=b∧p:=by
 unfold Zl0
 split
 ·simp
 ·exact Iff.rfl
abbrev KT:=Exit→St→Mem→Prop
def leT(th:Bool)(m m':Mem):Prop:=bif th then True else m.le m'
theorem leT.of{th:Bool}{m m':Mem}(h:m.le m'):leT th m m':=by
 cases th with
 | true=>trivial
 | false=>exact h
theorem leT.refl(th:Bool)(m:Mem):leT th m m:=.of (Mem.le_refl m)
theorem leT.trans{th:Bool}{a b c:Mem}(h:leT th a b)(k:leT th b c):leT th a c:=by
 cases th with
 | true=>trivial
 | false=>exact Mem.le_trans h k
def Env.cold(E:Env):Env:={ E with thaw:=false }
def ZvA(th:Bool)(A:LoopAnn)(ds:List Nat)(body:KT→St→Mem→Prop)(K:KT)(S:St)(m:Mem):Prop:=
 ∃I:List Value→List (List Value)→List Value→Mem→Nat→Prop,
  (Zgw S A.slots fun xs=>ZrE S A.boxes fun css=>Zfu S A.toks fun tvs=>∃n,I (ghs A.gh S.gh xs) css tvs m n)∧
  Zur A.gh S.gh fun y=>Shape.allL (A.slots.map (·.2)) fun xs=>Zmx A.boxes fun css=>Zmy A.toks fun tvs=>∀(m':Mem)(n:Nat),leT th m m'→I (ghs A.gh y xs) css tvs m' n→
   body (fun e S' m''=>match e with
    | .normal=>Zkz A.gh S'.gh S.gh (ZlZ (ZbT S' A S.ids) (ZbT S A S.ids) (Zl0 (Za4 S' A S.tkeys) (Za4 S A S.tkeys) (Zgw S' A.slots fun xs'=>ZrE S' A.boxes fun css'=>Zfu S' A.toks fun tvs'=>∃n',n' < n∧I (ghs A.gh S'.gh xs') css' tvs' m'' n')))
    | e=>K e S' m'') (ZbN S ds A y xs css tvs) m'
def Zwf(th:Bool)(A:LoopAnn)(ds:List Nat)(x y:KT→St→Mem→Prop)(K:KT)(S:St)(m:Mem):Prop:=
 ∃J:List Value→List (List Value)→List Value→Mem→Prop,
  x (fun e S' m'=>match e with
   | .normal=>Zkz A.gh S'.gh S.gh (ZlZ (ZbT S' A S.ids) (ZbT S A S.ids) (Zl0 (Za4 S' A S.tkeys) (Za4 S A S.tkeys) (Zgw S' A.slots fun xs=>ZrE S' A.boxes fun css=>Zfu S' A.toks fun tvs=>J (ghs A.gh S'.gh xs) css tvs m')))
   | e=>K e S' m') S m∧
  Zur A.gh S.gh fun g=>Shape.allL (A.slots.map (·.2)) fun xs=>Zmx A.boxes fun css=>Zmy A.toks fun tvs=>∀m':Mem,leT th m m'→J (ghs A.gh g xs) css tvs m'→y K (ZbN S ds A g xs css tvs) m'
def Zf7:LoopAnn:=⟨[],[],[],false⟩
def ZvB(outs:List (Nat×Shape))(ds:List Nat)(body:(St→Mem→Prop)→St→Mem→Prop)(K:St→Mem→Prop)(S:St)(m:Mem):Prop:=
 Shape.exL (outs.map (·.2)) fun xs=>(body (fun S' _=>Zkz false S'.gh S.gh (ZlZ (ZbT S' Zf7 S.ids) (ZbT S Zf7 S.ids) (Zl0 (Za4 S' Zf7 S.tkeys) (Za4 S Zf7 S.tkeys) (Zgw S' outs fun xs'=>xs'=xs)))) S m)∧
  K { S with env:=ZbJ (fun i=>bif ds.any (Nat.beq i ·)then none else S.env i) outs xs } m
def IX(P:Program)(g:FuncId)(first captured:List Value)(m:Mem)(xs:List (List Value)):Prop:=
 Zgv P g∧∀(p:Int→(Nat→Prop)→World→Prop),Ztb p→∀(l:Nat)(w:World),Sub m w→p 0 (fun _=>False) w→
  Zku P m p (fun l' g v=>l'=l∧0≤g∧xs[g.toNat]?=some v)→
  Calls P g (first++.func (.yield l) #[] #[]::captured).toArray w fun e w'=>∃v M,e=.returned v∧(∀k,M k→k < w'.heap.size)∧(p xs.length M w'∨p (-1) M w')
def Zlu:List Nat→List Nat→Bool
 | [],[]=>true
 | a::l,b::l'=>Nat.beq a b&&Zlu l l'
 | _,_=>false
def Zmz(K:KT)(e:Exit)(S:St)(m:Mem):Prop:=match e with
 | .ret=>K .ret S m
 | .exit id=>K (.exit id) S m
 | .goto l=>K (.goto l) S m
 | _=>False
def ZvC(th:Bool)(m:Mem)(k:Mem→Prop):Prop:=bif th then ∃mi,Mem.le mi m∧k mi else k m
def Zvt(th:Bool)(mi m:Mem)(p:Prop):Prop:=bif th then(mi.le m∧p)else p
theorem Zqg{th:Bool}{m:Mem}{k:Mem→Prop}(h:ZvC th m k):∃mi:Mem,mi.le m∧(th=false→mi=m)∧k mi:=by
 cases th with
 | true=>obtain⟨mi,h1,h2⟩:=h;exact⟨mi,h1,fun e=>(by cases e),h2⟩
 | false=>exact⟨m,Mem.le_refl m,fun _=>rfl,h⟩
theorem Zqh{th:Bool}{mi m:Mem}{p:Prop}(h:Zvt th mi m p):(th=true→mi.le m)∧p:=by
 cases th with
 | true=>exact⟨fun _=>h.1,h.2⟩
 | false=>exact⟨fun e=>(by cases e),h⟩
theorem Zqi{th:Bool}{m:Mem}{k k':Mem→Prop}(h:∀mi:Mem,mi.le m→(th=false→mi=m)→k mi→k' mi)(hx:ZvC th m k):ZvC th m k':=by
 cases th with
 | true=>obtain⟨mi,h1,h2⟩:=hx;exact⟨mi,h1,h mi h1 (fun e=>(by cases e)) h2⟩
 | false=>exact h m (Mem.le_refl m) (fun _=>rfl) hx
theorem Zqj{th:Bool}{mi m:Mem}{p q:Prop}(h:p→q)(hx:Zvt th mi m p):Zvt th mi m q:=by
 cases th with
 | true=>exact⟨hx.1,h hx.2⟩
 | false=>exact h hx
def ZmA(th:Bool)(P:Program)(A:LoopAnn)(f:Operand)(ps:List Nat)(assign body:KT→St→Mem→Prop)(K:KT)(S:St)(m:Mem):Prop:=match S.ev f with
 | some (.v (.func (.func g) first captured))=>chk (Zlu ps (A.slots.map (·.1))&&Za5 ps) (ZvC th m fun mi=>∃xs:List (List Value),IX P g first.toList captured.toList mi xs∧(∀x∈xs,Shape.fitsL (A.slots.map (·.2)) x=true)∧
   ∃I:List Value→List (List Value)→List Value→Mem→Nat→Prop,
    (ZrE S A.boxes fun css=>Zfu S A.toks fun tvs=>I (ghs A.gh S.gh []) css tvs m 0)∧
    (Zur A.gh S.gh fun y=>Shape.allL (A.slots.map (·.2)) fun x=>Zmx A.boxes fun css=>Zmy A.toks fun tvs=>∀(m':Mem)(n:Nat),mi.le m'→xs[n]?=some x→I (ghs A.gh y []) css tvs m' n→
     assign (fun e S1 m1=>match e with
      | .normal=>body (fun e S' m''=>Zvt th mi m'' (Zkz A.gh S'.gh S.gh (ZlZ (ZbT S' A S.ids) (ZbT S A S.ids) (Zl0 (Za4 S' A S.tkeys) (Za4 S A S.tkeys) (ZrE S' A.boxes fun css'=>Zfu S' A.toks fun tvs'=>match e with
       | .normal=>I (ghs A.gh S'.gh []) css' tvs' m'' (n+1)
       | e=>Zmz K e (ZbN S [] { A with slots:=[] } S'.gh [] css' tvs') m''))))) S1 m1
      | _=>False) (ZbN S [] A y x css tvs) m')∧
    (Zur A.gh S.gh fun y=>Zmx A.boxes fun css=>Zmy A.toks fun tvs=>∀m':Mem,mi.le m'→I (ghs A.gh y []) css tvs m' xs.length→K .normal (ZbN S [] { A with slots:=[] } y [] css tvs) m'))
 | _=>False
def Mem.cutA(m:Mem)(a:Option Addr)(o:Nat):Mem:=match a with
 | some ⟨b,_,_⟩=>fun b' o'=>if b'=b∧o≤o' then none else m b' o'
 | none=>m
def Mem.addA(m:Mem)(a:Option Addr)(o:Nat)(zs:List Value):Mem:=match a with
 | some ⟨b,o0,_⟩=>m.addAt b (o0+o) zs
 | none=>m
def ZvD(m m0:Mem)(esz:Nat)(a:Option Addr)(n c:Nat):Prop:=
 (a=none∧n=0∧c=0)∨∃b,a=some ⟨b,0,none⟩∧n≤c∧0 < c*esz∧(∀o,o < c*esz→∃v,m b o=some v)∧m0.free b
def Zte(E:Env)(kz:Option (Nat×Nat))(f:(St→Mem→Prop)→St→Mem→Prop)(K:St→Mem→Prop)(S:St)(m:Mem):Prop:=match kz with
 | none=>f K S m
 | some (key,esz)=>chk (E.thaw&&E.fix.isNone) (match E.m0 with
  | none=>False
  | some m0=>∃(a:Option Addr)(n c:Nat),ZvD m m0 esz a n c∧(∀b,(Tok.mk (.slice a n c) esz).blk=some b→nfz S b S.ids (ntk S b [key] S.tkeys))∧
    f (fun S' m'=>match S'.tok key with
     | none=>False
     | some t=>chk (Zdm t.v) (∀zs:List Value,zs.length=(slC t.v - slN t.v)*t.esz→K { S' with tok:=fun k=>bif Nat.beq k key then none else S'.tok k } (m'.addA (slA t.v) (slN t.v*t.esz) zs)))
     {S with tok:=fun k=>bif Nat.beq k key then some ⟨.slice a n c,esz⟩ else S.tok k,tkeys:=key::S.tkeys } (m.cutA a (n*esz)))
def W(E:Env)(ZaZ:Nat→Array Oper→(St→Mem→Prop)→St→Mem→Prop):Code→KT→St→Mem→Prop
 | .skip,K,S,m=>K .normal S m
 | .label _,K,S,m=>K .normal S m
 | .region id ops draw,K,S,m=>match E.joins id with
  | none=>bif draw then ZaZ id ops (K .normal) S m else Zte E (E.acq id) (Zs6 E ops (List.range ops.size)) (K .normal) S m
  | some outs=>ZvB outs (Zar ops.toList) (fun k S m=>bif draw then(bif E.last id then False else ZaZ id ops k S m)else Zs6 E.cold ops (List.range ops.size) k S m) (K .normal) S m
 | .seq x y,K,S,m=>match E.cuts (ZaN y)with
  | none=>W E ZaZ x (fun e S' m'=>match e with
   | .normal=>W E ZaZ y K S' m'
   | e=>K e S' m') S m
  | some A=>Zwf E.thaw A (Zia x) (W E ZaZ x) (W E ZaZ y) K S m
 | .cond c x y,K,S,m=>wv S c fun v=>chk (Zae v) (br (Zac v) (W E ZaZ x K S m) (W E ZaZ y K S m))
 | .block id x,K,S,m=>W E ZaZ x (fun e S' m'=>match e with
  | .exit id'=>bif Nat.beq id' id then K .normal S' m' else K (.exit id') S' m'
  | e=>K e S' m') S m
 | .loop x,K,S,m=>ZvA E.thaw (E.loops (ZaN x)) (Zia x) (W E ZaZ x) K S m
 | .exit id,K,S,m=>K (.exit id) S m
 | .ret,K,S,m=>K .ret S m
 | .rangeFunc f ps x y,K,S,m=>ZmA E.thaw E.P (E.loops (ZaN y)) f ps.toList (W E ZaZ x) (W E ZaZ y) K S m
 | .scope x,K,S,m=>W E ZaZ x (fun e S' m'=>match e with
  | .goto _=>False
  | e=>K e S' m') S m
 | _,_,_,_=>False
section
variable {C:Ctx} {S:St} {m:Mem} {a:Act} {w:World}
theorem Zdt{E:Env}(hE:E.ok){F:Fence}(hF:FOk F)(hY:YOk E C){ops:Array Oper}{o:Oper}(hd:∀t,o.dst=some t→t < C.n)(hr:Rel C S m a w){K:St→Mem→Prop}(h:opG E ops o S m K){n:Nat}{next:Act→World→Prop}{Q:Exit→Act→World→Prop}
  (hK:∀S' m' a' w',K S' m'→Rel C S' m' a' w'→next a' w'):
  if Region.wanted o (yielded ops a.tmps)then o.wpIn F n E.P a w next Q else(∀f,o.about E.P w a.eval=some f→F.fn f)∧next (a.put o.dst undef) w:=by
 have tj:opW E S m o K→o.wpIn F n E.P a w next Q:=fun hh=>by
  have iW:∀c,o.op≠.defer c:=fun c e=>by
   obtain⟨dst,op,type,pos,after,guard⟩:=o
   simp only at e;subst e
   simp[opW,ZcO]at hh
  refine⟨fun f _=>hF.fn f,?_⟩
  rw[Oper.semAt_eq _ _ _ iW]
  exact Zqe hE hF hY hd hr hh hK
 have kG:K (S.put o.dst (some (.v undef))) m→(∀f,o.about E.P w a.eval=some f→F.fn f)∧next (a.put o.dst undef) w:=fun hh=>
  ⟨fun f _=>hF.fn f,hK _ _ _ _ hh (hr.put o.dst hd rfl)⟩
 unfold opG at h
 cases hg:o.guard with
 | none=>
  simp only[hg]at h
  simp only[Region.wanted,hg,if_true]
  exact tj h
 | some jw=>
  obtain⟨j,want⟩:=jw
  simp only[hg]at h
  cases hj:ops.toList[j]? with
  | none=>simp[hj]at h
  | some oj=>
   simp only[hj]at h
   have hj':ops[j]?=some oj:=by simpa using hj
   cases ht:oj.dst with
   | none=>simp[ht]at h
   | some t=>
    simp only[ht]at h
    cases he:S.env t with
    | none=>simp[he]at h
    | some sv=>
     cases sv with
     | loc id off=>simp[he]at h
     | sl id n' c=>simp[he]at h
     | v v=>
      simp only[he]at h
      obtain⟨v',h1,h2⟩:=hr.env t _ he
      simp only[St.den,Option.some.injEq]at h1
      subst h1
      cases hu:Zaj v with
      | true=>
       simp only[hu,cond_true]at h
       have:Region.wanted o (yielded ops a.tmps)=false:=by
        cases v <;> simp[Zaj]at hu
        simp[Region.wanted,hg,yielded,hj',ht,h2]
       simp only[this,Bool.false_eq_true,if_false]
       exact kG h
      | false=>
       simp only[hu,cond_false]at h
       obtain⟨h3,h4⟩:=Zaf h
       obtain⟨b,rfl⟩:∃b,v=.bool b:=⟨_,ZbM h3⟩
       have hw:Region.wanted o (yielded ops a.tmps)=(b == want):=by
        simp[Region.wanted,hg,yielded,hj',ht,h2]
       rw[hw]
       simp only[Zac]at h4
       cases b <;> cases want <;> simp only[br]at h4 <;> simp <;> first
        | exact tj h4
        | exact kG h4
theorem Rel.refine{t:Nat}{v:Value}(hr:Rel C S m a w)(he:S.env t=some (.v v)):Rel C (S.put (some t) (some (.v v))) m a w:=by
 have:S.put (some t) (some (.v v))=S:=by
  unfold St.put
  have:(fun i=>bif Nat.beq i t then some (SV.v v)else S.env i)=S.env:=by
   funext i
   by_cases hi:i=t
   ·subst hi;simp[he]
   ·simp[Zap hi]
  simp only[this]
 rw[this];exact hr
theorem ZhP{E:Env}(hE:E.ok){F:Fence}(hF:FOk F)(hY:YOk E C){ops:Array Oper}{o:Oper}(hd:∀t,o.dst=some t→t < C.n)(hr:Rel C S m a w){K:St→Mem→Prop}(h:ZuL E ops o S m K){n:Nat}{next:Act→World→Prop}{Q:Exit→Act→World→Prop}
  (hK:∀S' m' a' w',K S' m'→Rel C S' m' a' w'→next a' w'):
  if Region.wanted o (yielded ops a.tmps)then o.wpIn F n E.P a w next Q else(∀f,o.about E.P w a.eval=some f→F.fn f)∧next (a.put o.dst undef) w:=by
 unfold ZuL at h
 split at h
 ·exact Zdt hE hF hY hd hr h hK
 ·rename_i t _
  split at h
  ·rename_i v he
   cases hu:Zaj v with
   | true=>simp only[hu,cond_true]at h;exact Zdt hE hF hY hd hr h hK
   | false=>
    simp only[hu,cond_false]at h
    obtain⟨h1,h2⟩:=Zaf h
    obtain⟨b,rfl⟩:∃b,v=.bool b:=⟨_,ZbM h1⟩
    have gw:=hr.refine he
    cases b
    ·exact Zdt hE hF hY hd gw h2 hK
    ·exact Zdt hE hF hY hd gw h2 hK
  ·exact h.elim
theorem ZcL{n:Nat}:∀{l:List Oper},Zky n l=true→∀(i:Nat) o,l[i]?=some o→∀t,o.dst=some t→t < n
 | [],_,i,o,h,_,_=>by simp at h
 | x::l,hl,i,o,h,t,ht=>by
  simp only[Zky,Bool.and_eq_true]at hl
  cases i with
  | zero=>
   simp at h;subst h
   simp[Zu7,ht]at hl
   exact hl.1
  | succ i=>exact ZcL hl.2 i o (by simpa using h) t ht
theorem ZhQ{E:Env}(hE:E.ok){F:Fence}(hF:FOk F)(hY:YOk E C){ops:Array Oper}(bV:Zky C.n ops.toList=true){n:Nat}{Q:Exit→Act→World→Prop}:∀(l:List Nat){K:St→Mem→Prop}{S:St}{m:Mem}{a:Act}{w:World},Rel C S m a w→Zs6 E ops l K S m→
  (∀S' m' a' w',K S' m'→Rel C S' m' a' w'→Q .normal a' w')→wpOpsIn F n E.P ops Q l a w
 | [],K,S,m,a,w,hr,h,hK=>hK _ _ _ _ h hr
 | i::l,K,S,m,a,w,hr,h,hK=>by
  simp only[Zs6]at h
  cases ho:ops.toList[i]? with
  | none=>simp[ho]at h
  | some o=>
   simp only[ho]at h
   have ho':ops[i]?=some o:=by simpa using ho
   have:=ZhP hE hF hY (ZcL bV i o ho) hr h (n:=n) (Q:=Q) (next:=wpOpsIn F n E.P ops Q l) (fun S' m' a' w' hk bW=>ZhQ hE hF hY bV l bW hk hK)
   simp only[wpOpsIn,ho']
   exact this
end
end Go.Eng
namespace Go.Eng
open Go Go.RowKit
def SameOut(ds:List Nat)(S S':St):Prop:=∀i,i ∉ ds→S'.env i=S.env i
theorem SameOut.refl(ds:List Nat)(S:St):SameOut ds S S:=fun _ _=>rfl
theorem SameOut.trans{ds:List Nat}{a b c:St}(h:SameOut ds a b)(k:SameOut ds b c):SameOut ds a c:=fun i hi=>(k i hi).trans (h i hi)
theorem SameOut.mono{ds ds':List Nat}{a b:St}(h:SameOut ds a b)(k:∀i,i∈ds→i∈ds'):SameOut ds' a b:=fun i hi=>h i (fun hm=>hi (k i hm))
theorem SameOut.put{ds:List Nat}{S S':St}(h:SameOut ds S S'){d:Option Tmp}(hd:∀t,d=some t→t∈ds)(x:Option SV):SameOut ds S (S'.put d x):=by
 cases d with
 | none=>exact h
 | some d=>
  intro i hi
  have cJ:i≠d:=fun e=>hi (e ▸ hd d rfl)
  simp[St.put,Zap cJ,h i hi]
theorem ZgY{b:Bool}{p q p' q':Prop}(h:p→p')(k:q→q')(x:br b p q):br b p' q':=by
 cases b
 ·exact k x
 ·exact h x
theorem Zai{b:Bool}{p p':Prop}(h:p→p')(x:chk b p):chk b p':=ZgY h id x
theorem ZaE{S:St}{x:Operand}{k k':Value→Prop}(h:∀v,k v→k' v)(hx:wv S x k):wv S x k':=by
 unfold wv at *
 split at hx
 ·exact h _ hx
 ·exact hx
theorem Zco{S:St}:∀{l:List Operand} {k k':List Value→Prop},(∀v,k v→k' v)→wvs S l k→wvs S l k'
 | [],k,k',h,hx=>h _ hx
 | x::l,k,k',h,hx=>ZaE (fun v hv=>Zco (fun vs eH=>h _ eH) hv) hx
theorem ZgZ{l:List Value}{n:Nat}{k k':Value→Prop}(h:∀v,k v→k' v)(hx:Zrv l n k):Zrv l n k':=by
 unfold Zrv at *
 split at hx
 ·exact h _ hx
 ·exact hx
theorem Zpd:∀{n:Nat} {k k':List Value→Prop},(∀v,k v→k' v)→exN n k→exN n k'
 | 0,k,k',h,hx=>h _ hx
 | n+1,k,k',h,⟨v,hx⟩=>⟨v,Zpd (fun l hl=>h _ hl) hx⟩
theorem allL_mono:∀{n:Nat} {k k':List (List Value)→Prop},(∀v,k v→k' v)→allL n k→allL n k'
 | 0,k,k',h,hx=>h _ hx
 | n+1,k,k',h,hx=>fun cs=>allL_mono (fun l hl=>h _ hl) (hx cs)
mutual
theorem Shape.all_mono:∀(s:Shape){k k':Value→Prop},(∀v,k v→k' v)→s.all k→s.all k'
 | .any,k,k',h,hx=>by simp only[Shape.all]at *;exact fun v=>h _ (hx v)
 | .int ki,k,k',h,hx=>by simp only[Shape.all]at *;exact fun v=>h _ (hx v)
 | .bool,k,k',h,hx=>by simp only[Shape.all]at *;exact fun v=>h _ (hx v)
 | .str,k,k',h,hx=>by simp only[Shape.all]at *;exact fun v=>h _ (hx v)
 | .slice,k,k',h,hx=>by simp only[Shape.all]at *;exact fun a n c=>h _ (hx a n c)
 | .agg l,k,k',h,hx=>by simp only[Shape.all]at *;exact Shape.allL_mono l (fun vs eH=>h _ eH) hx
 | .tup l,k,k',h,hx=>by simp only[Shape.all]at *;exact Shape.allL_mono l (fun vs eH=>h _ eH) hx
 | .fn,k,k',h,hx=>by simp only[Shape.all]at *;exact fun g fi ca=>h _ (hx g fi ca)
 | .cells,k,k',h,hx=>by simp only[Shape.all]at *;exact fun cs=>h _ (hx cs)
 | .ptr,k,k',h,hx=>by simp only[Shape.all]at *;exact fun b o=>h _ (hx b o)
theorem Shape.allL_mono:∀(l:List Shape){k k':List Value→Prop},(∀v,k v→k' v)→Shape.allL l k→Shape.allL l k'
 | [],k,k',h,hx=>by simp only[Shape.allL]at *;exact h _ hx
 | s::l,k,k',h,hx=>by simp only[Shape.allL]at *;exact Shape.all_mono s (fun v hv=>Shape.allL_mono l (fun vs eH=>h _ eH) hv) hx
end
mutual
theorem Shape.ex_mono:∀(s:Shape){k k':Value→Prop},(∀v,k v→k' v)→s.ex k→s.ex k'
 | .any,k,k',h,hx=>by simp only[Shape.ex]at *;obtain⟨v,hx⟩:=hx;exact⟨v,h _ hx⟩
 | .int ki,k,k',h,hx=>by simp only[Shape.ex]at *;obtain⟨v,hx⟩:=hx;exact⟨v,h _ hx⟩
 | .bool,k,k',h,hx=>by simp only[Shape.ex]at *;obtain⟨v,hx⟩:=hx;exact⟨v,h _ hx⟩
 | .str,k,k',h,hx=>by simp only[Shape.ex]at *;obtain⟨v,hx⟩:=hx;exact⟨v,h _ hx⟩
 | .slice,k,k',h,hx=>by simp only[Shape.ex]at *;obtain⟨a,n,c,hx⟩:=hx;exact⟨a,n,c,h _ hx⟩
 | .agg l,k,k',h,hx=>by simp only[Shape.ex]at *;exact Shape.exL_mono l (fun vs eH=>h _ eH) hx
 | .tup l,k,k',h,hx=>by simp only[Shape.ex]at *;exact Shape.exL_mono l (fun vs eH=>h _ eH) hx
 | .fn,k,k',h,hx=>by simp only[Shape.ex]at *;obtain⟨g,fi,ca,hx⟩:=hx;exact⟨g,fi,ca,h _ hx⟩
 | .cells,k,k',h,hx=>by simp only[Shape.ex]at *;obtain⟨cs,hx⟩:=hx;exact⟨cs,h _ hx⟩
 | .ptr,k,k',h,hx=>by simp only[Shape.ex]at *;obtain⟨b,o,hx⟩:=hx;exact⟨b,o,h _ hx⟩
theorem Shape.exL_mono:∀(l:List Shape){k k':List Value→Prop},(∀v,k v→k' v)→Shape.exL l k→Shape.exL l k'
 | [],k,k',h,hx=>by simp only[Shape.exL]at *;exact h _ hx
 | s::l,k,k',h,hx=>by simp only[Shape.exL]at *;exact Shape.ex_mono s (fun v hv=>Shape.exL_mono l (fun vs eH=>h _ eH) hv) hx
end
theorem Zqk{op:BinOp}{k:IntKind}{a b:Int}{r r':Value→Prop}(h:∀v,r v→r' v)(x:Zul op k a b r):Zul op k a b r':=by
 cases op <;> simp only[Zul]at * <;> first
  | exact h _ x
  | exact⟨x.1,h _ x.2⟩
  | exact x
theorem ZmB{op:BinOp}{k:IntKind}{a b:Int}{r r':Value→Prop}(h:∀v,r v→r' v)(x:Zjp op k a b r):Zjp op k a b r':=by
 cases op <;> simp only[Zjp]at * <;> first
  | exact⟨x.1,h _ x.2⟩
  | exact x
theorem Zql{op:BinOp}{a b:ByteArray}{r r':Value→Prop}(h:∀v,r v→r' v)(x:Zum op a b r):Zum op a b r':=by
 cases op <;> simp only[Zum]at * <;> first
  | exact h _ x
  | exact⟨x.1,h _ x.2⟩
  | exact x
theorem Zjy{op:BinOp}{b:Bool}{r r':Value→Prop}(h:∀v,r v→r' v)(x:Zrw op b r):Zrw op b r':=by
 cases op <;> simp only[Zrw]at * <;> first
  | exact h _ x
  | exact x
theorem ZmC{E:Env}{op:BinOp}{T:TypeId}{x y:Value}{r r':Value→Prop}(h:∀v,r v→r' v)(hx:Zug E op T x y r):Zug E op T x y r':=by
 unfold Zug at *
 cases ht:E.tt T with
 | none=>simp[ht]at hx
 | some i=>
  simp only[ht]at *
  cases hd:i.d <;> simp only[hd]at * <;> first
   | exact hx.elim
   | exact Zai (fun y=>Zql h y) hx
   | exact Zai (Zjy h) hx
   | exact Zai (fun⟨b,hb,y⟩=>⟨b,hb,Zjy h y⟩) hx
   | (cases hs:ZiJ op <;> simp only[hs,cond_true,cond_false]at * <;> first
     | exact Zai (Zqk h) hx
     | exact Zai (ZmB h) hx)
theorem ZkA{place:Nat→Option (Nat×Nat)}:∀{parts:List (Nat×Value)} {cs:List Value} {k k':List Value→Prop},(∀v,k v→k' v)→ZlX place cs parts k→ZlX place cs parts k'
 | [],cs,k,k',h,hx=>h _ hx
 | (i,v)::rest,cs,k,k',h,hx=>by
  simp only[ZlX]at *
  cases hp:place i with
  | none=>simp[hp]at hx
  | some os=>simp only[hp]at *;exact Zai (ZkA h) hx
theorem ZbB{x:Option Value}{d y:Nat}{r r':Nat→Prop}(h:∀v,r v→r' v)(hx:ZgM x d y r):ZgM x d y r':=by
 cases x with
 | none=>exact h _ hx
 | some v=>exact Zai (fun⟨a,b⟩=>⟨a,h _ b⟩) hx
theorem Zjz{S:St}{x:Option Operand}{r r':Option Value→Prop}(h:∀v,r v→r' v)(hx:Zuo S x r):Zuo S x r':=by
 cases x with
 | none=>exact h _ hx
 | some v=>exact ZaE (fun v hv=>h _ hv) hx
theorem ZiN{E:Env}{T:TypeId}{v:Value}{lo hi mx:Option Value}{r r':Value→Prop}(h:∀v,r v→r' v)(hx:Zif E T v lo hi mx r):Zif E T v lo hi mx r':=by
 unfold Zif at *
 cases he:ZhJ E T with
 | some sz=>simp only[he]at *;exact Zai (fun y=>ZbB (fun m y=>ZbB (fun h' y=>ZbB (fun l y=>Zai (h _) y) y) y) y) hx
 | none=>
  simp only[he]at *
  cases hs:ZeP E T <;> simp only[hs,cond_true,cond_false]at *
  exact Zai (fun y=>ZbB (fun h' y=>ZbB (fun l y=>h _ y) y) y) hx
theorem ZkB{E:Env}{S:St}{o:Oper}{k k':SV→Prop}(h:∀v,k v→k' v)(hx:ZcO E S o k):ZcO E S o k':=by
 obtain⟨dst,op,type,pos,after,guard⟩:=o
 cases op <;> simp only[ZcO]at * <;> try exact hx.elim
 case unOp op T x=>
  refine ZaE (fun v y=>?_) hx
  cases op <;> simp only at *
  ·split at y <;> first|exact Zai (h _) y|exact y.elim
  ·split at y <;> first|exact Zai (h _) y|exact y.elim
  ·exact Zai (h _) y
 case binOp=>exact ZaE (fun v y=>ZaE (fun v' y=>ZmC (fun r y=>h _ y) y) y) hx
 case convert=>
  refine ZaE (fun v y=>?_) hx
  unfold Zp8 at *
  (repeat' split at y) <;> first|exact y.elim|exact Zai (h _) y
 case makeFunc=>exact Zco (fun v y=>Zco (fun v' y=>h _ y) y) hx
 case fieldAddr=>
  (repeat' split at hx) <;> first|exact hx.elim|exact h _ hx|exact Zai (h _) hx
 case indexAddr=>
  refine ZaE (fun v y=>Zai (fun y=>?_) y) hx
  split at y
  ·exact y.elim
  ·refine⟨y.1,?_⟩
   have y2:=y.2
   (repeat' split at y2) <;> first|exact y2.elim|exact h _ y2|exact Zai (h _) y2
  ·(repeat' split at y) <;> first
    | exact y.elim
    | exact⟨y.1,h _ y.2⟩
    | exact Zai (fun⟨b,o,h1,h2,h3⟩=>⟨b,o,h1,h2,h _ h3⟩) y
 case index=>
  refine ZaE (fun v y=>ZaE (fun v' y=>Zai (fun y=>?_) y) y) hx
  cases hs:ZeP E _ <;> simp only[hs,cond_true,cond_false]at *
  ·split at y
   ·exact Zai (fun⟨a,b⟩=>⟨a,ZgZ (fun u hu=>h _ hu) b⟩) y
   ·exact y.elim
  ·exact Zai (fun⟨a,b⟩=>⟨a,h _ b⟩) y
 case build=>
  split at hx
  ·exact hx.elim
  ·exact Zco (fun vs y=>ZkA (fun r y=>h _ y) y) hx
 case extract=>exact ZaE (fun v y=>Zai (fun y=>ZgZ (fun u hu=>h _ hu) y) y) hx
 case makeInterface=>exact ZaE (fun v y=>Zai (h _) y) hx
 case nilCheck=>(repeat' split at hx) <;> first|exact hx.elim|exact h _ hx|exact Zai (h _) hx
 case slice=>exact ZaE (fun v y=>Zjz (fun l y=>Zjz (fun h' y=>Zjz (fun m y=>ZiN (fun r y=>h _ y) y) y) y) y) hx
 case call c=>
  split at hx
  ·split at hx
   ·refine ZaE (fun v y=>?_) hx
    unfold ZuJ at *
    (repeat' split at y) <;> first|exact y.elim|exact Zai (h _) y|exact h _ y
   ·exact hx.elim
  ·split at hx
   ·refine ZaE (fun v y=>ZaE (fun v' y=>?_) y) hx
    split at y
    ·exact Zai (h _) y
    ·exact y.elim
   ·exact hx.elim
  ·split at hx
   ·refine ZaE (fun v y=>ZaE (fun v' y=>?_) y) hx
    split at y
    ·exact Zai (h _) y
    ·exact y.elim
   ·refine ZaE (fun v y=>ZaE (fun v' y=>ZaE (fun v'' y=>?_) y) y) hx
    split at y
    ·exact Zai (h _) y
    ·exact y.elim
   ·exact hx.elim
  ·exact hx.elim
end Go.Eng
namespace Go.Eng
open Go Go.RowKit
def dl(d:Option Tmp):List Nat:=match d with
 | none=>[]
 | some t=>[t]
theorem ZuM{d:Option Tmp}{t:Nat}(h:d=some t):t∈dl d:=by subst h;simp[dl]
theorem Zct(S:St)(d:Option Tmp)(x:Option SV):SameOut (dl d) S (S.put d x):=(SameOut.refl _ S).put (fun t ht=>ZuM ht) x
theorem Zc9{ds:List Nat}{S S':St}(h:S'.env=S.env):SameOut ds S S':=fun i _=>by rw[h]
theorem Zg0{i:TI}{m:Mem}{b o:Nat}{k k':Value→Prop}(h:∀v,k v→k' v)(hx:ZcS i m b o k):ZcS i m b o k':=by
 unfold ZcS at *
 cases ha:i.agg <;> simp only[ha,cond_true,cond_false]at *
 ·obtain⟨v,h1,h2⟩:=hx;exact⟨v,h1,h _ h2⟩
 ·cases hb:Nat.ble i.size 16 <;> simp only[hb,cond_true,cond_false]at *
  ·obtain⟨vs,h1,h2,h3⟩:=hx;exact⟨vs,h1,h2,h _ h3⟩
  ·exact Zpd (fun vs ⟨a,b⟩=>⟨a,h _ b⟩) hx
theorem Zdu{i:TI}{x:Box}{off:Nat}{k k':Value→Prop}(h:∀v,k v→k' v)(hx:Zcr i x off k):Zcr i x off k':=by
 unfold Zcr at *
 cases ha:i.agg <;> simp only[ha,cond_true,cond_false]at *
 ·exact ZgZ h hx
 ·cases hb:(x.full&&(Nat.beq x.cap i.size&&Nat.beq off 0)) <;> simp only[hb,cond_true,cond_false]at *
  ·exact Zai (h _) hx
  ·exact h _ hx
theorem Zfv{E:Env}{S:St}{m:Mem}{T:TypeId}{x:Operand}{k k':Value→Prop}(h:∀v,k v→k' v)(hx:Zfs E S m T x k):Zfs E S m T x k':=by
 unfold Zfs at *
 split at hx
 ·exact hx.elim
 ·split at hx
  ·split at hx
   ·exact hx.elim
   ·exact Zdu h hx
  ·split at hx
   ·exact Zai (Zg0 h) hx
   ·split at hx
    ·exact hx.elim
    ·exact Zai (fun⟨a,b⟩=>⟨a,Zdu h b⟩) hx
  ·exact hx.elim
theorem ZkC{E:Env}{S:St}{m:Mem}{T:TypeId}{id:Nat}{vd vs:Value}{k k':Int→St→Prop}(h:∀n S',S'.env=S.env→k n S'→k' n S')(hx:Zn8 E S m T id vd vs k):Zn8 E S m T id vd vs k':=by
 unfold Zn8 at *
 split at hx
 ·exact hx.elim
 ·split at hx
  ·exact hx.elim
  ·exact Zai (fun g hf=>by
   obtain⟨o,xs,h1,h2,h3,h4,h5,h6⟩:=g hf
   exact⟨o,xs,h1,h2,h3,h4,h5,h _ _ rfl h6⟩) hx
theorem Zf8{E:Env}{S:St}{T:TypeId}{x:Operand}{v:Value}{k k':St→Prop}(h:∀S',S'.env=S.env→k S'→k' S')(hx:Zgu E S T x v k):Zgu E S T x v k':=by
 unfold Zgu at *
 split at hx
 ·exact hx.elim
 ·split at hx
  ·split at hx
   ·exact hx.elim
   ·refine Zai (fun y=>?_) hx
    cases hb:(_&&(Nat.beq _ _&&Nat.beq _ 0)) <;> simp only[hb,cond_true,cond_false]at *
    ·exact Zai (h _ rfl) y
    ·exact h _ rfl y
  ·split at hx
   ·exact hx.elim
   ·split at hx
    ·exact hx.elim
    ·exact Zai (fun⟨a,b,c⟩=>⟨a,b,h _ rfl c⟩) hx
  ·exact hx.elim
theorem ZmD(S:St)(ids:List Nat)(bxs:List Box)(css:List (List Value)):(ZcP S ids bxs css).env=S.env:=by
 rw[ZcT]
theorem ZmE{E:Env}{S:St}{m:Mem}{rt:TypeId}{g:FuncId}{args:List Value}{key esz:Nat}{K K':Value→St→Mem→Prop}(h:∀v S' m',S'.env=S.env→m.le m'→K v S' m'→K' v S' m')(hx:Zp9 E S m rt g args key esz K):Zp9 E S m rt g args key esz K':=by
 obtain⟨R,h1,h2,h3⟩:=hx
 exact⟨R,h1,h2,Shape.all_mono _ (fun v y m' hm hr=>h v _ m' rfl hm (y m' hm hr)) h3⟩
theorem ZkD{E:Env}{S:St}{m:Mem}{rt:TypeId}{g:FuncId}{args:List Value}{ids:List Nat}{K K':Value→St→Mem→Prop}(h:∀v S' m',S'.env=S.env→m.le m'→K v S' m'→K' v S' m')(hx:ZlY E S m rt g args ids K):ZlY E S m rt g args ids K':=by
 unfold ZlY at *
 split at hx
 ·exact hx.elim
 ·refine Zai (fun⟨R,h0,h1,h2,h3⟩=>⟨R,h0,h1,h2,Shape.all_mono _ (fun v y m' hm=>allL_mono (fun css y hR=>h _ _ _ (ZmD _ _ _ _) hm (y hR)) (y m' hm)) h3⟩) hx
theorem ZiO{E:Env}{S:St}{m:Mem}{rt:TypeId}{g:FuncId}{args:List Value}{ids:List Nat}{ks:List (Nat×Nat)}{K K':Value→St→Mem→Prop}(h:∀v S' m',S'.env=S.env→K v S' m'→K' v S' m')(hx:Zig E S m rt g args ids ks K):Zig E S m rt g args ids ks K':=by
 unfold Zig at *
 split at hx
 ·exact hx.elim
 ·split at hx
  ·exact hx.elim
  ·exact Zai (fun⟨Y,R,h1,h2,h3,h4,h5⟩=>⟨Y,R,h1,h2,h3,h4,Shape.all_mono _ (fun v y m' hm hn=>allL_mono (fun css y=>ZhO (fun tvs y hR=>h _ _ _ (ZmD S _ _ _) (y hR)) y) (y m' hm hn)) h5⟩) hx
theorem Zih{S:St}{m:Mem}{x:Operand}{k k':Value→Prop}(h:∀v,k v→k' v)(hx:Zel S m x k):Zel S m x k':=by
 unfold Zel at *
 split at hx
 ·split at hx
  ·exact hx.elim
  ·obtain⟨bs,h1,h2,h3⟩:=hx
   exact⟨bs,h1,h2,h _ h3⟩
 ·exact ZaE (fun v y=>Zai (fun⟨bs,h1,h2,h3⟩=>⟨bs,h1,h2,h _ h3⟩) y) hx
theorem Zqm{E:Env}{rt:TypeId}{g:FuncId}{args:List Value}{K K':Value→Int→Prop}{S:St}{m:Mem}(h:∀v gh,K v gh→K' v gh)(hx:Zu5 E rt g args K S m):Zu5 E rt g args K' S m:=by
 unfold Zu5 at *
 split at hx
 ·exact hx.elim
 ·obtain⟨l,xs,go,stop,h1,h2,h3,h4⟩:=hx
  exact⟨l,xs,go,stop,h1,h2,h3,Shape.all_mono _ (fun v hv=>⟨fun hg=>h _ _ (hv.1 hg),fun hs=>h _ _ (hv.2 hs)⟩) h4⟩
theorem Zg1{E:Env}{S:St}{m:Mem}{T xT:TypeId}{key:Nat}{vs vx:Value}{K K':Value→(Nat→Option Tok)→Mem→Prop}(h:∀v tk m',m.le m'→K v tk m'→K' v tk m')(hx:Zfa E S m T xT key vs vx K):Zfa E S m T xT key vs vx K':=by
 unfold Zfa at *
 split at hx
 ·exact hx.elim
 ·split at hx
  ·exact hx.elim
  ·have hb:∀{j:TI},Zuh E S m j key vs vx K→Zuh E S m j key vs vx K':=fun⟨ht,xs,ys,a1,a2,a3,a4,a5,a6,a7,a8⟩=>⟨ht,xs,ys,a1,a2,a3,a4,a5,a6,a7,fun a' c' m' h1 h2=>Zms (h _ _ _ h1) (a8 a' c' m' h1 h2)⟩
   refine Zai (fun y=>?_) hx
   cases gA:E.tails with
   | false=>rw[gA]at y;exact hb y
   | true=>rw[gA]at y;exact ZgY (Zai (h _ _ _ (Mem.le_refl m))) hb y
def ZmF(E:Env)(o:Oper):Prop:=(∀T x y,o.op=.store T x y→Zmv E x=none)∧(∀f as ats,o.op=.call ⟨.value f,as,ats⟩→Zej E o.dst=none)
theorem Zsd(E:Env)(o:Oper):E.thaw=true∨ZmF E o:=by
 cases h:E.thaw with
 | true=>exact .inl rfl
 | false=>exact .inr ⟨fun T x y _=>by simp[Zmv,h],fun _ _ _ _=>by simp[Zej,h]⟩
theorem Zl5{th:Bool}{E:Env}{S:St}{m:Mem}{o:Oper}(iX:th=true∨ZmF E o){K K':St→Mem→Prop}(h0:∀S' m',SameOut (dl o.dst) S S'→leT th m m'→K S' m'→K' S' m')(hx:opW E S m o K):opW E S m o K':=by
 have h:∀S' m',SameOut (dl o.dst) S S'→m.le m'→K S' m'→K' S' m':=fun S' m' hs hm=>h0 S' m' hs (.of hm)
 have hp:∀x,K (S.put o.dst x) m→K' (S.put o.dst x) m:=fun x=>h _ _ (Zct S _ x) (Mem.le_refl m)
 have fG:∀(S1:St) x m',S1.env=S.env→m.le m'→K (S1.put o.dst x) m'→K' (S1.put o.dst x) m':=fun S1 x m' he hm=>h _ _ ((Zc9 he).trans (Zct S1 _ x)) hm
 obtain⟨dst,op,type,pos,after,guard⟩:=o
 simp only at hp fG
 have fU:∀(o:Oper),o.dst=dst→ZcO E S o (fun sv=>K (S.put dst (some sv)) m)→ZcO E S o (fun sv=>K' (S.put dst (some sv)) m):=fun o ho y=>ZkB (fun sv y=>hp _ y) y
 cases op with
 | move x=>exact hp _ hx
 | assign x=>exact hp _ hx
 | pick c x y=>exact ZaE (fun v y=>Zai (fun y=>ZgY (hp _) (hp _) y) y) hx
 | load T x=>
  simp only[opW]at hx ⊢
  cases mT:Zpb E dst with
  | none=>simp only[mT]at hx ⊢;exact Zfv (fun v y=>hp _ y) hx
  | some y=>
   simp only[mT]at hx ⊢
   cases cL:E.fix with
   | some f=>simp[cL]at hx
   | none=>
    simp only[cL,Option.isSome_none,cond_false]at hx ⊢
    exact Zfv (fun v y=>Zsb (fun v y=>hp _ y) y) hx
 | store T x y=>
  refine ZaE (fun v y=>?_) hx
  cases kG:Zmv E x with
  | none=>
   simp only[kG]at y ⊢
   exact Zf8 (fun S' he y=>fG S' _ _ he (Mem.le_refl m) y) y
  | some key=>
   simp only[kG]at y ⊢
   have iX:th=true:=by
    rcases iX with h|h
    ·exact h
    ·have:=h.1 T x _ rfl;rw[kG]at this;cases this
   cases cL:E.fix with
   | some f=>simp[cL]at y
   | none=>
    simp only[cL,Option.isSome_none,cond_false]at y ⊢
    unfold ZgT at *
    refine ZaE (fun p y=>?_) y
    split at y
    ·exact y.elim
    ·split at y
     ·split at y
      ·exact y.elim
      ·exact Zai (fun⟨y1,y2,y3,y4⟩=>⟨y1,y2,y3,Zjv (h0 _ _ (Zct S _ _) (by rw[iX];trivial)) y4⟩) y
     ·exact Zai (fun⟨y1,y2,y3⟩=>⟨y1,y2,h0 _ _ (Zct S _ _) (by rw[iX];trivial) y3⟩) y
 | alloc T=>
  simp only[opW,Zqa]at *
  split at hx
  ·exact hx.elim
  ·split at hx
   ·exact hx.elim
   ·split at hx
    ·exact hx.elim
    ·exact fun b=>fG _ _ _ rfl (Mem.le_refl m) (hx b)
 | box T x=>
  refine ZaE (fun v y=>?_) hx
  simp only at y ⊢
  cases f9:Zf0 E dst with
  | true=>
   simp only[f9,cond_true]at y ⊢
   cases cL:E.fix with
   | some f=>simp[cL]at y
   | none=>
    simp only[cL,Option.isSome_none,cond_false,Zup]at y ⊢
    split at y
    ·exact y.elim
    ·split at y
     ·exact y.elim
     ·split at y
      ·exact y.elim
      ·exact Zai (fun y b m' hm hb=>Zol (fG _ _ _ rfl hm) (y b m' hm hb)) y
  | false=>
  simp only[f9,cond_false]at y ⊢
  simp only[Zvz]at *
  split at y
  ·exact y.elim
  ·split at y
   ·exact y.elim
   ·split at y
    ·exact y.elim
    ·exact Zai (fun y b=>fG _ _ _ rfl (Mem.le_refl m) (y b)) y
 | buildSlice T len parts=>
  cases iK:Zc4 E dst with
  | some ke=>
   simp only[opW,iK]at hx ⊢
   cases cL:E.fix with
   | some f=>simp[cL]at hx
   | none=>
    simp only[cL,Option.isSome_none,cond_false]at hx ⊢
    split at hx
    ·simp only[Zlp]at hx ⊢
     split at hx
     ·exact hx.elim
     ·split at hx
      ·exact hx.elim
      ·exact ZaE (fun v y=>ZaE (fun v' y=>Zai (fun⟨a,y⟩=>⟨a,fun b=>Zpc (fG _ _ _ rfl (Mem.le_refl m)) (y b)⟩) y) y) hx
    ·exact hx.elim
  | none=>
  simp only[opW,iK,Zek]at hx ⊢
  split at hx
  ·exact hx.elim
  ·split at hx
   ·exact hx.elim
   ·split at hx
    ·split at hx
     ·exact hx.elim
     ·split at hx
      ·exact hx.elim
      ·exact Zai (fun y=>Zco (fun vs y=>Zai (fun y b hf=>fG _ _ _ rfl (Mem.le_add hf _) (y b hf)) y) y) hx
    ·exact hx.elim
 | makeSlice T l c=>
  simp only[opW]at hx ⊢
  cases iK:Zc4 E dst with
  | none=>
   simp only[iK]at hx ⊢
   cases lg:ZrD E dst with
   | true=>
    simp only[lg,cond_true]at hx ⊢
    cases cL:E.fix with
    | some f=>simp[cL]at hx
    | none=>
     simp only[cL,Option.isSome_none,cond_false,Zqc]at hx ⊢
     split at hx
     ·exact hx.elim
     ·split at hx
      ·exact hx.elim
      ·exact ZaE (fun v y=>ZaE (fun v' y=>Zai (fun⟨a,y⟩=>⟨a,fun b hf=>fG _ _ _ rfl (Mem.le_add hf _) (y b hf)⟩) y) y) hx
   | false=>
   simp only[lg,cond_false,ZsV]at hx ⊢
   split at hx
   ·exact hx.elim
   ·split at hx
    ·exact hx.elim
    ·split at hx
     ·exact hx.elim
     ·exact ZaE (fun v y=>ZaE (fun v' y=>Zai (fun⟨a,y⟩=>⟨a,fun b=>fG _ _ _ rfl (Mem.le_refl m) (y b)⟩) y) y) hx
  | some ke=>
   simp only[iK]at hx ⊢
   cases cL:E.fix with
   | some f=>simp[cL]at hx
   | none=>
    simp only[cL,Option.isSome_none,cond_false,Zlp]at hx ⊢
    split at hx
    ·exact hx.elim
    ·split at hx
     ·exact hx.elim
     ·exact ZaE (fun v y=>ZaE (fun v' y=>Zai (fun⟨a,y⟩=>⟨a,fun b=>Zpc (fG _ _ _ rfl (Mem.le_refl m)) (y b)⟩) y) y) hx
 | convert s d x=>
  simp only[opW]at *
  cases hb:Zf6 E s d <;> simp only[hb,cond_true,cond_false]at *
  ·cases gp:ZcJ E s d <;> simp only[gp,cond_true,cond_false]at *
   ·cases nG:ZcK E s d <;> simp only[nG,cond_true,cond_false]at *
    ·exact fU _ rfl hx
    ·cases cL:E.fix with
     | some f=>simp[cL]at hx
     | none=>
      simp only[cL,Option.isSome_none,cond_false]at hx ⊢
      exact Zih (fun v y=>hp _ y) hx
   ·cases cL:E.fix with
    | some f=>simp[cL]at hx
    | none=>
     simp only[cL,Option.isSome_none,cond_false]at hx ⊢
     exact ZaE (fun v y=>Zai (fun y b c hf hc=>fG _ _ _ rfl (Mem.le_add hf _) (y b c hf hc)) y) hx
  ·split at hx
   ·exact hp _ hx
   ·exact hx.elim
 | call c=>
  obtain⟨callee,args,argTypes⟩:=c
  cases callee with
  | value f=>
   simp only[opW]at *
   refine Zju (fun S2 m2 dR bZ hx=>?_) hx
   simp only[ZsU]at hx ⊢
   split at hx
   ·cases iS:Zej E dst with
    | some ks=>
     simp only[iS]at hx ⊢
     have iX:th=true:=by
      rcases iX with h|h
      ·exact h
      ·have:=h.2 _ _ _ rfl;simp only at this;rw[iS]at this;cases this
     cases cL:E.fix with
     | some f=>simp[cL]at hx
     | none=>
      simp only[cL,Option.isSome_none,cond_false]at hx ⊢
      exact Zco (fun vs y=>ZiO (fun v S' m' he y=>h0 _ _ ((Zc9 (he.trans dR)).trans (Zct S' _ _)) (by rw[iX];trivial) y) y) hx
    | none=>
    simp only[iS]at hx ⊢
    cases mU:Zrz E dst with
    | true=>
     simp only[mU,cond_true]at hx ⊢
     cases cL:E.fix with
     | some f=>simp[cL]at hx
     | none=>
      simp only[cL,Option.isSome_none,cond_false]at hx ⊢
      exact Zco (fun vs y=>Zqm (fun v gh y=>fG _ _ _ dR bZ y) y) hx
    | false=>
    simp only[mU,cond_false]at hx ⊢
    split at hx
    ·exact Zco (fun vs y=>ZkD (fun v S' m' he hm y=>fG S' _ _ (he.trans dR) (Mem.le_trans bZ hm) y) y) hx
    ·cases cL:E.fix with
     | some f=>simp[cL]at hx
     | none=>
      simp only[cL,Option.isSome_none,cond_false]at hx ⊢
      split at hx
      ·exact Zco (fun vs y=>ZmE (fun v S' m' he hm y=>fG S' _ _ (he.trans dR) (Mem.le_trans bZ hm) y) y) hx
      ·exact hx.elim
   ·cases cL:E.fix with
    | some f=>simp[cL]at hx
    | none=>
     simp only[cL,Option.isSome_none,cond_false]at hx ⊢
     split at hx
     ·exact Zco (fun vs ⟨y1,y2,y3⟩=>⟨y1,fG _ _ _ dR bZ y2,fG _ _ _ dR bZ y3⟩) hx
     ·exact hx.elim
   ·exact hx.elim
  | invoke r mm=>
   simp only[opW]at *
   exact fU _ rfl hx
  | builtin b=>
   cases b with
   | append=>
    simp only[opW]at *
    split at hx
    ·exact Zju (fun S2 m2 dR bZ hx=>ZaE (fun v y=>ZaE (fun v' y=>Zg1 (fun v tk m' hm y=>fG _ _ _ dR (Mem.le_trans bZ hm) y) y) y) hx) hx
    ·exact hx.elim
   | copy=>
    simp only[opW]at *
    split at hx
    ·split at hx
     ·exact hx.elim
     ·exact ZaE (fun v y=>ZaE (fun v' y=>ZkC (fun n S' he y=>fG S' _ _ he (Mem.le_refl m) y) y) y) hx
    ·exact hx.elim
   | _=>
    simp only[opW]at *
    exact fU _ rfl hx
 | _=>
  simp only[opW]at *
  exact fU _ rfl hx
theorem Zf9{th:Bool}{E:Env}{ops:Array Oper}{S:St}{m:Mem}{o:Oper}(iX:th=true∨ZmF E o){K K':St→Mem→Prop}(h:∀S' m',SameOut (dl o.dst) S S'→leT th m m'→K S' m'→K' S' m')(hx:opG E ops o S m K):opG E ops o S m K':=by
 unfold opG at *
 have hs:K (S.put o.dst (some (.v undef))) m→K' (S.put o.dst (some (.v undef))) m:=h _ _ (Zct S _ _) (leT.refl _ m)
 split at hx
 ·exact Zl5 iX h hx
 ·split at hx
  ·exact hx.elim
  ·split at hx
   ·exact hx.elim
   ·split at hx
    ·rename_i v _
     cases hu:Zaj v <;> simp only[hu,cond_true,cond_false]at *
     ·refine Zai (fun y=>?_) hx
      split at y
      ·exact ZgY (Zl5 iX h) hs y
      ·exact ZgY hs (Zl5 iX h) y
     ·exact hs hx
    ·exact hx.elim
theorem ZaY:∀{l:List Oper} {i:Nat} {o:Oper} {t:Nat},l[i]?=some o→o.dst=some t→t∈Zar l
 | [],i,o,t,h,_=>by simp at h
 | x::l,0,o,t,h,ht=>by simp at h;subst h;simp[Zar,ht]
 | x::l,i+1,o,t,h,ht=>by
  have:=ZaY (l:=l) (by simpa using h) ht
  simp only[Zar]
  cases x.dst with
  | none=>exact this
  | some d=>simp[this]
theorem ZjA{ops:Array Oper}{o:Oper}{t:Nat}(h:Zft ops o=some t):t∈Zar ops.toList:=by
 unfold Zft at h
 split at h
 ·cases h
 ·split at h
  ·cases h
  ·rename_i hj;exact ZaY hj h
theorem ZjB{E:Env}{ops:Array Oper}{S:St}{m:Mem}{o:Oper}(ho:∀t,o.dst=some t→t∈Zar ops.toList){K K':St→Mem→Prop}(h:∀S' m',SameOut (Zar ops.toList) S S'→leT E.thaw m m'→K S' m'→K' S' m')(hx:ZuL E ops o S m K):ZuL E ops o S m K':=by
 have hm:∀{S':St},SameOut (dl o.dst) S S'→SameOut (Zar ops.toList) S S':=fun hs=>hs.mono fun q hq=>by
  cases hd:o.dst with
  | none=>simp[hd,dl]at hq
  | some t=>simp[hd,dl]at hq;subst hq;exact ho _ hd
 unfold ZuL at *
 split at hx
 ·exact Zf9 (Zsd E o) (fun S' m' hs hm' y=>h _ _ (hm hs) hm' y) hx
 ·rename_i t ht
  have pI:=ZjA ht
  have hb:∀b:Bool,opG E ops o (S.put (some t) (some (.v (.bool b)))) m K→opG E ops o (S.put (some t) (some (.v (.bool b)))) m K':=fun b=>Zf9 (Zsd E o) (fun S' m' hs hm' y=>h _ _ (by
   have h1:SameOut (Zar ops.toList) S (S.put (some t) (some (.v (.bool b)))):=(SameOut.refl _ S).put (fun t' e=>by cases e;exact pI) _
   refine h1.trans (hs.mono fun q hq=>?_)
   cases hd:o.dst with
   | none=>simp[hd,dl]at hq
   | some t=>simp[hd,dl]at hq;subst hq;exact ho _ hd) hm' y)
  split at hx
  ·rename_i v _
   cases hu:Zaj v with
   | true=>simp only[hu,cond_true]at hx ⊢;exact Zf9 (Zsd E o) (fun S' m' hs hm' y=>h _ _ (hm hs) hm' y) hx
   | false=>simp only[hu,cond_false]at hx ⊢;exact Zai (ZgY (hb true) (hb false)) hx
  ·exact hx.elim
theorem Zg2{E:Env}{ops:Array Oper}:∀{l:List Nat} {S:St} {m:Mem} {K K':St→Mem→Prop},(∀S' m',SameOut (Zar ops.toList) S S'→leT E.thaw m m'→K S' m'→K' S' m')→Zs6 E ops l K S m→Zs6 E ops l K' S m
 | [],S,m,K,K',h,hx=>h _ _ (SameOut.refl _ S) (leT.refl _ m) hx
 | i::l,S,m,K,K',h,hx=>by
  simp only[Zs6]at *
  cases ho:ops.toList[i]? with
  | none=>simp[ho]at hx
  | some o=>
   simp only[ho]at hx ⊢
   exact ZjB (fun t ht=>ZaY ho ht) (fun S' m' hs hm y=>Zg2 (fun S'' m'' hs' hm' y=>h _ _ (SameOut.trans hs hs') (leT.trans hm hm') y) y) hx
theorem ZmG{S:St}:∀{l:List Nat} {k k':List (List Value)→Prop},(∀v,k v→k' v)→ZrE S l k→ZrE S l k'
 | [],k,k',h,hx=>h _ hx
 | id::l,k,k',h,hx=>by
  simp only[ZrE]at *
  split at hx
  ·exact hx.elim
  ·exact ZmG (fun vs eH=>h _ eH) hx
theorem ZiP{S:St}:∀{l:List (Nat×Nat)} {k k':List Value→Prop},(∀v,k v→k' v)→Zfu S l k→Zfu S l k'
 | [],k,k',h,hx=>h _ hx
 | (q,e)::l,k,k',h,hx=>Zai (fun y=>ZiP (fun vs eH=>h _ eH) y) hx
theorem Zd6:∀{l:List Nat} {k k':List (List Value)→Prop},(∀v,k v→k' v)→Zmx l k→Zmx l k'
 | [],k,k',h,hx=>h _ hx
 | _::l,k,k',h,hx=>fun cs=>Zd6 (fun vs eH=>h _ eH) (hx cs)
theorem Zd7:∀{l:List (Nat×Nat)} {k k':List Value→Prop},(∀v,k v→k' v)→Zmy l k→Zmy l k'
 | [],k,k',h,hx=>h _ hx
 | _::l,k,k',h,hx=>fun a n c=>Zd7 (fun vs eH=>h _ eH) (hx a n c)
theorem ZiQ:∀{A:List (Nat×Shape)} {xs:List Value} {e:Nat→Option SV} {i:Nat},(∀q∈A,q.1≠i)→ZbJ e A xs i=e i
 | [],xs,e,i,h=>by simp[ZbJ]
 | (t,s)::A,[],e,i,h=>by simp[ZbJ]
 | (t,s)::A,v::xs,e,i,h=>by
  have h1:i≠t:=fun e=>h (t,s) (by simp) e.symm
  simp only[ZbJ,Zap h1,cond_false]
  exact ZiQ (fun q hq=>h q (by simp[hq]))
theorem Zfc{ds:List Nat}{i:Nat}:ds.any (Nat.beq i ·)=true↔i∈ds:=by
 rw[List.any_eq_true]
 constructor
 ·rintro⟨x,hx,he⟩;rw[Nat.eq_of_beq_eq_true he];exact hx
 ·intro h;exact⟨i,h,Nat.beq_refl i⟩
theorem Zga{ds:List Nat}{i:Nat}(h:i ∉ ds):ds.any (Nat.beq i ·)=false:=by
 cases hh:ds.any (Nat.beq i ·)with
 | false=>rfl
 | true=>exact absurd (Zfc.1 hh) h
def ZsW(ds:List Nat)(A:List (Nat×Shape)):Bool:=A.all fun q=>ds.any (Nat.beq q.1 ·)
theorem Zdv{ds:List Nat}{A:List (Nat×Shape)}(hA:ZsW ds A=true){S S':St}{xs:List Value}(h:S'.env=ZbJ (fun i=>bif ds.any (Nat.beq i ·)then none else S.env i) A xs):SameOut ds S S':=by
 intro i hi
 rw[h,ZiQ]
 ·simp[Zga hi]
 ·intro q hq e
  simp only[ZsW,List.all_eq_true]at hA
  exact hi (e ▸ Zfc.1 (hA q hq))
def Zav(E:Env):Code→Bool
 | .region id ops draw=>(match E.joins id with
  | none=>true
  | some outs=>ZsW (Zar ops.toList) outs)
 | .seq a b=>Zav E a&&Zav E b&&(match E.cuts (ZaN b)with
  | none=>true
  | some A=>ZsW (Zia a) A.slots)
 | .cond _ a b=>Zav E a&&Zav E b
 | .block _ a=>Zav E a
 | .loop a=>Zav E a&&ZsW (Zia a) (E.loops (ZaN a)).slots
 | .rangeFunc _ _ a b=>Zav E a&&Zav E b
 | .scope a=>Zav E a
 | _=>true
def leD(E:Env)(id:Nat)(m m':Mem):Prop:=match E.last id with
 | true=>leT E.thaw m m'
 | false=>m.le m'
theorem leD.leT{E:Env}{id:Nat}{m m':Mem}(h:leD E id m m'):leT E.thaw m m':=by
 unfold leD at h
 cases hl:E.last id with
 | true=>rw[hl]at h;exact h
 | false=>rw[hl]at h;exact .of h
theorem leD.le{E:Env}{id:Nat}{m m':Mem}(hl:E.last id=false)(h:leD E id m m'):m.le m':=by
 unfold leD at h;rw[hl]at h;exact h
def Zd1(E:Env)(ZaZ:Nat→Array Oper→(St→Mem→Prop)→St→Mem→Prop):Prop:=
 ∀(id:Nat)(ops:Array Oper)(K K':St→Mem→Prop)(S:St)(m:Mem),(∀S' m',SameOut (Zar ops.toList) S S'→leD E id m m'→K S' m'→K' S' m')→ZaZ id ops K S m→ZaZ id ops K' S m
theorem Zg3{b:Bool}{g:Int}{k k':Int→Prop}(h:∀y,k y→k' y)(hx:Zur b g k):Zur b g k':=by
 cases b with
 | true=>exact fun y=>h y (hx y)
 | false=>exact h g hx
theorem Zon{b:Bool}{x y:Int}{p q:Prop}(h:p→q)(hx:Zkz b x y p):Zkz b x y q:=by
 cases b with
 | true=>exact h hx
 | false=>
  simp only[Zkz,cond_false]at *
  split at hx
  ·exact h hx
  ·exact⟨hx.1,h hx.2⟩
theorem Zoo{a b:List (Option Box)}{p q:Prop}(h:p→q)(hx:ZlZ a b p):ZlZ a b q:=ZcV.2 ⟨(ZcV.1 hx).1,h (ZcV.1 hx).2⟩
theorem Zop{a b:List (Option Tok)}{p q:Prop}(h:p→q)(hx:Zl0 a b p):Zl0 a b q:=ZcW.2 ⟨(ZcW.1 hx).1,h (ZcW.1 hx).2⟩
theorem Zlv{K K':KT}{e:Exit}{S:St}{m:Mem}(h:∀e,K e S m→K' e S m)(hx:Zmz K e S m):Zmz K' e S m:=by
 cases e with
 | ret=>exact h _ hx
 | exit id=>exact h _ hx
 | goto l=>exact h _ hx
 | _=>exact hx
theorem leT.up{th:Bool}{mi m m':Mem}(hc:th=false→mi=m)(h:mi.le m'):leT th m m':=by
 cases th with
 | true=>trivial
 | false=>rw[hc rfl]at h;exact h
theorem ZmH{th:Bool}{P:Program}{A:LoopAnn}{f:Operand}{ps:List Nat}{assign body:KT→St→Mem→Prop}{ds:List Nat}
  (ha:∀{S:St} {m:Mem} {K K':KT},(∀e S' m',leT th m m'→K e S' m'→K' e S' m')→assign K S m→assign K' S m)
  (hb:∀{S:St} {m:Mem} {K K':KT},(∀e S' m',leT th m m'→K e S' m'→K' e S' m')→body K S m→body K' S m)
  {S:St} {m:Mem} {K K':KT} (h:∀e S' m',SameOut ds S S'→leT th m m'→K e S' m'→K' e S' m') (hx:ZmA th P A f ps assign body K S m):ZmA th P A f ps assign body K' S m:=by
 unfold ZmA at *
 split at hx
 ·refine Zai (Zqi fun mi mV lh ⟨xs,h1,h2,I,h3,h4,h5⟩=>⟨xs,h1,h2,I,h3,?_,?_⟩) hx
  all_goals have up:∀{m':Mem},mi.le m'→leT th m m':=fun hm=>leT.up lh hm
  ·refine Zg3 (fun y z=>Shape.allL_mono _ (fun x z=>Zd6 (fun css z=>Zd7 (fun tvs z m' n hm hn hI=>?_) z) z) z) h4
   refine ha (fun e S1 m1 bE k=>?_) (z m' n hm hn hI)
   cases e with
   | normal=>
    refine hb (fun e S' m'' bZ k=>Zqj (Zon (Zoo (Zop (ZmG fun css' k=>?_ )))) k) k
    refine ZiP (fun tvs' k=>?_) k
    cases e with
    | normal=>exact k
    | _=>exact Zlv (fun e=>h e _ _ (SameOut.refl _ _) (leT.trans (up hm) (leT.trans bE bZ))) k
   | _=>exact k
  ·exact Zg3 (fun y z=>Zd6 (fun css z=>Zd7 (fun tvs z m' hm hI=>h _ _ _ (SameOut.refl _ _) (up hm) (z m' hm hI)) z) z) h5
 ·exact hx.elim
theorem Zqn{E:Env}{kz:Option (Nat×Nat)}{ops:Array Oper}{l:List Nat}{S:St}{m:Mem}{K K':St→Mem→Prop}(h:∀S' m',SameOut (Zar ops.toList) S S'→leT E.thaw m m'→K S' m'→K' S' m')
  (y:Zte E kz (Zs6 E ops l) K S m):Zte E kz (Zs6 E ops l) K' S m:=by
 unfold Zte at *
 split at y
 ·exact Zg2 h y
 ·obtain⟨y1,y2⟩:=Zaf y
  refine Zaa y1 ?_
  simp only[Bool.and_eq_true]at y1
  split at y2
  ·exact y2
  ·obtain⟨a,n,c,z1,z2,z3⟩:=y2
   refine⟨a,n,c,z1,z2,Zg2 (fun S' m' hs _ z=>?_) z3⟩
   split at z
   ·exact z
   ·exact Zai (fun z zs hz=>h _ _ (fun t ht=>hs t ht) (by rw[y1.1];trivial) (z zs hz)) z
theorem ZdM{E:Env}{ZaZ:Nat→Array Oper→(St→Mem→Prop)→St→Mem→Prop}(hD:Zd1 E ZaZ):∀(c:Code),Zav E c=true→∀{S:St} {m:Mem} {K K':KT},(∀e S' m',SameOut (Zia c) S S'→leT E.thaw m m'→K e S' m'→K' e S' m')→W E ZaZ c K S m→W E ZaZ c K' S m
 | .skip,_,S,m,K,K',h,hx=>h _ _ _ (SameOut.refl _ S) (leT.refl _ m) hx
 | .label _,_,S,m,K,K',h,hx=>h _ _ _ (SameOut.refl _ S) (leT.refl _ m) hx
 | .exit _,_,S,m,K,K',h,hx=>h _ _ _ (SameOut.refl _ S) (leT.refl _ m) hx
 | .ret,_,S,m,K,K',h,hx=>h _ _ _ (SameOut.refl _ S) (leT.refl _ m) hx
 | .region id ops draw,hc,S,m,K,K',h,hx=>by
  simp only[W]at *
  cases hj:E.joins id with
  | none=>
   simp only[hj]at hx ⊢
   cases draw with
   | true=>simp only[cond_true]at *;exact hD _ _ _ _ _ _ (fun S' m' hs hm y=>h _ _ _ hs (leD.leT hm) y) hx
   | false=>
    simp only[cond_false]at *
    exact Zqn (fun S' m' hs hm y=>h _ _ _ hs hm y) hx
  | some outs=>
   simp only[hj]at hx ⊢
   refine Shape.exL_mono _ (fun xs ⟨h1,h2⟩=>⟨h1,h _ _ _ ?_ (leT.refl _ m) h2⟩) hx
   simp only[Zav,hj]at hc
   exact Zdv hc rfl
 | .seq x y,hc,S,m,K,K',h,hx=>by
  simp only[Zav,Bool.and_eq_true]at hc
  simp only[W,Zia]at *
  cases gD:E.cuts (ZaN y)with
  | none=>
   simp only[gD]at hx ⊢
   refine ZdM hD x hc.1.1 (fun e S' m' hs hm hy=>?_) hx
   have hs':SameOut (Zia x++Zia y) S S':=hs.mono (fun i hi=>by simp[hi])
   cases e with
   | normal=>exact ZdM hD y hc.1.2 (fun e S'' m'' hU bZ hy=>h _ _ _ (hs'.trans (hU.mono (fun i hi=>by simp[hi]))) (leT.trans hm bZ) hy) hy
   | _=>exact h _ _ _ hs' hm hy
  | some A=>
   simp only[gD]at hx ⊢ hc
   obtain⟨J,h1,h2⟩:=hx
   refine⟨J,ZdM hD x hc.1.1 (fun e S' m' hs hm hy=>?_) h1,Zg3 (fun g z=>Shape.allL_mono _ (fun xs z=>Zd6 (fun css z=>Zd7 (fun tvs z m' hm hJ=>?_) z) z) z) h2⟩
   ·cases e with
    | normal=>exact hy
    | _=>exact h _ _ _ (hs.mono (fun i hi=>by simp[hi])) hm hy
   ·refine ZdM hD y hc.1.2 (fun e S' m'' hs bZ hy=>h _ _ _ ?_ (leT.trans hm bZ) hy) (z m' hm hJ)
    have h3:SameOut (Zia x) S (ZbN S (Zia x) A g xs css tvs):=Zdv (S':=ZbN S (Zia x) A g xs css tvs) hc.2 rfl
    exact(h3.mono (fun i hi=>by simp[hi])).trans (hs.mono (fun i hi=>by simp[hi]))
 | .cond c x y,hc,S,m,K,K',h,hx=>by
  simp only[Zav,Bool.and_eq_true]at hc
  simp only[W,Zia]at *
  exact ZaE (fun v hy=>Zai (fun hy=>ZgY (ZdM hD x hc.1 (fun e S' m' hs hm hy=>h _ _ _ (hs.mono (fun i hi=>by simp[hi])) hm hy)) (ZdM hD y hc.2 (fun e S' m' hs hm hy=>h _ _ _ (hs.mono (fun i hi=>by simp[hi])) hm hy)) hy) hy) hx
 | .block id x,hc,S,m,K,K',h,hx=>by
  simp only[Zav]at hc
  simp only[W,Zia]at *
  refine ZdM hD x hc (fun e S' m' hs hm hy=>?_) hx
  cases e with
  | exit id'=>
   simp only at *
   cases hb:Nat.beq id' id <;> simp only[hb,cond_true,cond_false]at *
   ·exact h _ _ _ hs hm hy
   ·exact h _ _ _ hs hm hy
  | _=>exact h _ _ _ hs hm hy
 | .loop x,hc,S,m,K,K',h,hx=>by
  simp only[Zav,Bool.and_eq_true]at hc
  simp only[W,Zia]at *
  obtain⟨I,h1,h2⟩:=hx
  refine⟨I,h1,Zg3 (fun g y=>Shape.allL_mono _ (fun xs y=>Zd6 (fun css y=>Zd7 (fun tvs y m' n hm hI=>?_) y) y) y) h2⟩
  refine ZdM hD x hc.1 (fun e S' m'' hs bZ hy=>?_) (y m' n hm hI)
  have hs':SameOut (Zia x) S S':=(Zdv (S':=ZbN S (Zia x) (E.loops (ZaN x)) g xs css tvs) hc.2 rfl).trans hs
  cases e with
  | normal=>exact hy
  | _=>exact h _ _ _ hs' (leT.trans hm bZ) hy
 | .goto _,_,S,m,K,K',h,hx=>by simp[W]at hx
 | .scope x,hc,S,m,K,K',h,hx=>by
  simp only[Zav]at hc
  simp only[W,Zia]at *
  refine ZdM hD x hc (fun e S' m' hs hm hy=>?_) hx
  cases e with
  | goto l=>exact hy
  | _=>exact h _ _ _ hs hm hy
 | .rangeFunc f ps x y,hc,S,m,K,K',h,hx=>by
  simp only[Zav,Bool.and_eq_true]at hc
  simp only[W]at *
  exact ZmH (assign:=W E ZaZ x) (body:=W E ZaZ y) (fun h'=>ZdM hD x hc.1 fun e S' m' _ hm hy=>h' e S' m' hm hy) (fun h'=>ZdM hD y hc.2 fun e S' m' _ hm hy=>h' e S' m' hm hy) (fun e S' m' hs hm=>h e S' m' hs hm) hx
 | .refuse _,_,S,m,K,K',h,hx=>by simp[W]at hx
end Go.Eng
namespace Go.Eng
open Go Go.RowKit
section
variable {C:Ctx} {m:Mem} {a:Act} {w:World}
theorem Rel.restrict{S S2:St}(h:Rel C S m a w)(hg:S2.gh=S.gh)(hL:∀id x,S2.L id=some x→S.L id=some x)(hT:∀k t,S2.tok k=some t→S.tok k=some t∨t.v=.slice none 0 0)
  (dR:∀i sv,S2.env i=some sv→∃v,S2.den sv=some v∧a.tmps[i]?=some v) (dT:∀id x,S2.L id=some x→id∈S2.ids) (nH:∀k t,S2.tok k=some t→k∈S2.tkeys):Rel C S2 m a w:=by
 refine⟨h.defers,h.size,dR,fun id x hx=>h.own id x (hL id x hx),fun id id' x x' hx hx'=>h.apart id id' x x' (hL _ _ hx) (hL _ _ hx'),dT,?_,nH,?_,h.sub,h.le,h.dom.imp fun M d=>d.cut hg (fun id x hx=>⟨id,x,hL id x hx,rfl⟩) (fun k t b ht hb=>?_) rfl (fun _ _ _ hv=>hv)⟩
 ·intro k t ht
  rcases hT k t ht with h1|h1
  ·obtain⟨h2,h3⟩:=h.toks k t h1
   exact⟨h2,fun b hb=>⟨fun id x hx=>(h3 b hb).1 id x (hL _ _ hx),(h3 b hb).2⟩⟩
  ·exact⟨.inl h1,fun b hb=>by simp[Tok.blk,h1]at hb⟩
 ·intro k k' t t' b ht ht' hb hb'
  rcases hT k t ht with h1|h1
  ·rcases hT k' t' ht' with h2|h2
   ·exact h.tapart k k' t t' b h1 h2 hb hb'
   ·simp[Tok.blk,h2]at hb'
  ·simp[Tok.blk,h1]at hb
 ·rcases hT k t ht with h1|h1
  ·exact⟨k,t,h1,hb⟩
  ·simp[Tok.blk,h1]at hb
theorem Rel.forget{S:St}{m':Mem}(h:Rel C S m' a w)(hm:m.le m')(h0:C.m0.le m)(hz:∀id x,S.L id=some x→x.fz=true→m.reads x.b 0 x.cs):Rel C S m a w:=by
 have hn:∀b o,m' b o=none→m b o=none:=fun b o ho=>by
  cases he:m b o with
  | none=>rfl
  | some v=>rw[hm _ _ _ he]at ho;cases ho
 refine⟨h.defers,h.size,h.env,fun id x hx=>?_,h.apart,h.ids,fun k t ht=>?_,h.tkeys,h.tapart,fun b o v hv=>h.sub b o v (hm _ _ _ hv),h0,h.dom.imp fun M d=>d.cut rfl (fun id x hx=>⟨id,x,hx,rfl⟩) (fun k t b ht hb=>⟨k,t,ht,hb⟩) rfl hm⟩
 ·have h1:=h.own id x hx
  exact⟨h1.cells,fun hf o=>hn _ _ (h1.free hf o),hz id x hx,h1.whole⟩
 ·obtain⟨h1,h2⟩:=h.toks k t ht
  exact⟨h1.same (fun _ _=>rfl) (fun b o _ ho=>hn _ _ ho),h2⟩
theorem ZcM{S:St}(hr:Rel C S m a w):∀{l:List (Nat×Shape)} {k:List Value→Prop},Zgw S l k→∃xs,Shape.fitsL (l.map (·.2)) xs=true∧(∀(i:Nat) t sh v,l[i]?=some (t,sh)→xs[i]?=some v→a.tmps[t]?=some v)∧xs.length=l.length∧k xs
 | [],k,h=>⟨[],rfl,by simp,rfl,h⟩
 | (t,sh)::l,k,h=>by
  obtain⟨v,hv,h⟩:=ZaC h
  obtain⟨h1,h2⟩:=Zaf h
  obtain⟨xs,g1,g2,g3,g4⟩:=ZcM hr h2
  refine⟨v::xs,by simp[Shape.fitsL,h1,g1],?_,by simp[g3],g4⟩
  intro i t' sh' v' hi hx
  cases i with
  | zero=>
   simp at hi hx
   obtain⟨rfl,rfl⟩:=hi
   subst hx
   simp only[St.val,St.ev]at hv
   cases he:S.env t with
   | none=>simp[he]at hv
   | some sv=>
    simp only[he]at hv
    obtain⟨u,h3,h4⟩:=hr.env t sv he
    rw[hv]at h3;cases h3;exact h4
  | succ i=>exact g2 i t' sh' v' (by simpa using hi) (by simpa using hx)
theorem Zda{S:St}:∀{l:List Nat} {k:List (List Value)→Prop},ZrE S l k→∃css,css.length=l.length∧(∀(i:Nat) id cs,l[i]?=some id→css[i]?=some cs→∃x,S.L id=some x∧x.cs=cs)∧k css
 | [],k,h=>⟨[],rfl,by simp,h⟩
 | id::l,k,h=>by
  simp only[ZrE]at h
  cases hx:S.L id with
  | none=>simp[hx]at h
  | some x=>
   simp only[hx]at h
   obtain⟨css,g1,g2,g3⟩:=Zda h
   refine⟨x.cs::css,by simp[g1],?_,g3⟩
   intro i id' cs hi hc
   cases i with
   | zero=>simp at hi hc;subst hi hc;exact⟨x,hx,rfl⟩
   | succ i=>exact g2 i id' cs (by simpa using hi) (by simpa using hc)
theorem Zb2{S:St}:∀{l:List (Nat×Nat)} {k:List Value→Prop},Zfu S l k→∃vs,vs.length=l.length∧(∀(i:Nat) q e v,l[i]?=some (q,e)→vs[i]?=some v→Zdm v=true∧(S.tok q=some ⟨v,e⟩∨v=.slice none 0 0))∧k vs
 | [],k,h=>⟨[],rfl,by simp,h⟩
 | (q,e)::l,k,h=>by
  obtain⟨h1,h2⟩:=Zaf h
  simp only[Bool.and_eq_true]at h1
  obtain⟨vs,g1,g2,g3⟩:=Zb2 h2
  refine⟨Zqf S q::vs,by simp[g1],?_,g3⟩
  intro i q' e' v hi hv
  cases i with
  | zero=>
   simp at hi hv
   obtain⟨rfl,rfl⟩:=hi
   subst hv
   refine⟨h1.1,?_⟩
   unfold Zqf
   cases ht:S.tok q with
   | none=>exact .inr rfl
   | some t=>
    left
    have:t.esz=e:=by have:=h1.2;simp only[ht]at this;exact Nat.eq_of_beq_eq_true this
    cases t;simp at this ⊢;exact this
  | succ i=>exact g2 i q' e' v (by simpa using hi) (by simpa using hv)
theorem Zd8:∀{l:List Nat} {k:List (List Value)→Prop},Zmx l k→∀css,css.length=l.length→k css
 | [],k,h,css,hl=>by cases css <;> simp_all [Zmx]
 | _::l,k,h,css,hl=>by
  cases css with
  | nil=>simp at hl
  | cons c css=>exact Zd8 (h c) css (by simpa using hl)
theorem Zd9:∀{l:List (Nat×Nat)} {k:List Value→Prop},Zmy l k→∀vs,vs.length=l.length→(∀v∈vs,Zdm v=true)→k vs
 | [],k,h,vs,hl,_=>by cases vs <;> simp_all [Zmy]
 | _::l,k,h,vs,hl,hs=>by
  cases vs with
  | nil=>simp at hl
  | cons v vs=>
   have:=ZbR (hs v (by simp))
   rw[this]
   exact Zd9 (h _ _ _) vs (by simpa using hl) (fun u hu=>hs u (by simp[hu]))
theorem ZkE:∀{A:List (Nat×Shape)} {xs:List Value} {e:Nat→Option SV} {i:Nat} {sv:SV},ZbJ e A xs i=some sv→e i=some sv∨∃(q:Nat)(sh:Shape)(v:Value),A[q]?=some (i,sh)∧xs[q]?=some v∧sv=.v v
 | [],xs,e,i,sv,h=>.inl (by simpa[ZbJ]using h)
 | (t,s)::A,[],e,i,sv,h=>.inl (by simpa[ZbJ]using h)
 | (t,s)::A,v::xs,e,i,sv,h=>by
  by_cases hi:i=t
  ·subst hi
   simp[ZbJ]at h
   exact .inr ⟨0,s,v,by simp,by simp,h.symm⟩
  ·simp only[ZbJ,Zap hi,cond_false]at h
   rcases ZkE h with h1|⟨q,sh,u,h1,h2,h3⟩
   ·exact .inl h1
   ·exact .inr ⟨q+1,sh,u,by simpa using h1,by simpa using h2,h3⟩
theorem Zfw:∀{l:List Nat} {css:List (List Value)} {L:Nat→Option Box} {id:Nat} {y:Box},Zby L l css id=some y→(∃(i:Nat)(x:Box)(cs:List Value),l[i]?=some id∧css[i]?=some cs∧L id=some x∧y={ x with cs:=cs })∨((∀i,l[i]?=some id→css.length≤i)∧L id=some y)
 | [],css,L,id,y,h=>.inr ⟨by simp,by simpa[Zby]using h⟩
 | d::l,[],L,id,y,h=>.inr ⟨fun i _=>by simp,by simpa[Zby]using h⟩
 | d::l,cs::css,L,id,y,h=>by
  by_cases cS:id=d
  ·subst cS
   simp only[Zby,Zb5,cond_true]at h
   cases hx:L id with
   | none=>simp[hx]at h
   | some x=>simp[hx]at h;exact .inl ⟨0,x,cs,by simp,by simp,rfl,h.symm⟩
  ·simp only[Zby,Zap cS,cond_false]at h
   rcases Zfw h with⟨i,x,c,h1,h2,h3,h4⟩|⟨h1,h2⟩
   ·exact .inl ⟨i+1,x,c,by simpa using h1,by simpa using h2,h3,h4⟩
   ·refine .inr ⟨fun i hi=>?_,h2⟩
    cases i with
    | zero=>simp at hi;exact absurd hi.symm cS
    | succ i=>have:=h1 i (by simpa using hi);simp;omega
theorem Zea:∀{l:List Nat} {css:List (List Value)} {L:Nat→Option Box} {id:Nat} {x:Box},L id=some x→∃y,Zby L l css id=some y∧y.b=x.b
 | [],css,L,id,x,h=>⟨x,by simpa[Zby]using h,rfl⟩
 | d::l,[],L,id,x,h=>⟨x,by simpa[Zby]using h,rfl⟩
 | d::l,cs::css,L,id,x,h=>by
  by_cases cS:id=d
  ·subst cS
   exact⟨{ x with cs:=cs },by simp[Zby,h],rfl⟩
  ·simp only[Zby,Zap cS,cond_false]
   exact Zea h
theorem Zdw:∀{l:List (Nat×Nat)} {vs:List Value} {tk:Nat→Option Tok} {k:Nat} {t:Tok},Zfb tk l vs k=some t→(∃(i:Nat)(e:Nat)(v:Value),l[i]?=some (k,e)∧vs[i]?=some v∧t=⟨v,e⟩)∨((∀i q,l[i]?=some q→q.1=k→vs.length≤i)∧tk k=some t)
 | [],vs,tk,k,t,h=>.inr ⟨by simp,by simpa[Zfb]using h⟩
 | (q,e)::l,[],tk,k,t,h=>.inr ⟨fun i _ _ _=>by simp,by simpa[Zfb]using h⟩
 | (q,e)::l,v::vs,tk,k,t,h=>by
  by_cases hk:k=q
  ·subst hk
   simp[Zfb]at h
   exact .inl ⟨0,e,v,by simp,by simp,h.symm⟩
  ·simp only[Zfb,Zap hk,cond_false]at h
   rcases Zdw h with⟨i,e',u,h1,h2,h3⟩|⟨h1,h2⟩
   ·exact .inl ⟨i+1,e',u,by simpa using h1,by simpa using h2,h3⟩
   ·refine .inr ⟨fun i p hi hp=>?_,h2⟩
    cases i with
    | zero=>simp at hi;subst hi;exact absurd hp.symm hk
    | succ i=>have:=h1 i p (by simpa using hi) hp;simp;omega
structure StOk (S:St):Prop where
 env:∀i sv,S.env i=some sv→∃v,S.den sv=some v
 ids:∀id x,S.L id=some x→id∈S.ids
 tkeys:∀k t,S.tok k=some t→k∈S.tkeys
theorem Rel.ok{S:St}(h:Rel C S m a w):StOk S:=⟨fun i sv he=>(h.env i sv he).imp fun v hv=>hv.1,h.ids,h.tkeys⟩
theorem Zem{S S':St}(hS:StOk S){ds:List Nat}{A:LoopAnn}(hr:Rel C S' m a w)(fY:SameOut ds S S')(eJ:ZbT S' A S.ids=ZbT S A S.ids)(cE:Za4 S' A S.tkeys=Za4 S A S.tkeys)
  {xs:List Value} {css:List (List Value)} {tvs:List Value} (hx:∀(i:Nat) t sh v,A.slots[i]?=some (t,sh)→xs[i]?=some v→a.tmps[t]?=some v)
  (fZ:css.length=A.boxes.length) (hc:∀(i:Nat) id cs,A.boxes[i]?=some id→css[i]?=some cs→∃x,S'.L id=some x∧x.cs=cs)
  (gA:tvs.length=A.toks.length) (ht:∀(i:Nat) q e v,A.toks[i]?=some (q,e)→tvs[i]?=some v→Zdm v=true∧(S'.tok q=some ⟨v,e⟩∨v=.slice none 0 0)):Rel C (ZbN S ds A S'.gh xs css tvs) m a w:=by
 have hL:∀id y,Zby S.L A.boxes css id=some y→S'.L id=some y:=by
  intro id y hy
  have dZ:∀id,id∈S.ids→(bif A.boxes.any (Nat.beq id ·)then(match S'.L id with
    | some x=>some { x with cs:=[] }
    | none=>none)else S'.L id)=(bif A.boxes.any (Nat.beq id ·)then(match S.L id with
    | some x=>some { x with cs:=[] }
    | none=>none)else S.L id):=fun id cS=>by
   simp only[ZbT]at eJ
   exact(List.map_inj_left.1 eJ) id cS
  rcases Zfw hy with⟨i,x,cs,h1,h2,h3,h4⟩|⟨h1,h2⟩
  ·obtain⟨x',g1,g2⟩:=hc i id cs h1 h2
   have:=dZ id (hS.ids id x h3)
   have hm:A.boxes.any (Nat.beq id ·)=true:=Zfc.2 (List.mem_of_getElem? h1)
   simp only[hm,cond_true,g1,h3,Option.some.injEq,Box.mk.injEq,true_and]at this
   rw[g1,h4]
   obtain⟨e1,e2,e3,e4,e5⟩:=this
   cases x;cases x'
   simp_all
  ·have hm:A.boxes.any (Nat.beq id ·)=false:=Zga (fun cT=>by
    obtain⟨i,hi⟩:=List.getElem?_of_mem cT
    have h3:=h1 i hi
    have h4:=(List.getElem?_eq_some_iff.1 hi).1
    omega)
   have:=dZ id (hS.ids id y h2)
   simp only[hm,cond_false]at this
   rw[this,h2]
 have lV:∀k t,Zfb S.tok A.toks tvs k=some t→S'.tok k=some t∨t.v=.slice none 0 0:=by
  intro k t hk
  have dZ:∀k,k∈S.tkeys→(bif A.toks.any (fun q=>Nat.beq k q.1)then none else S'.tok k)=(bif A.toks.any (fun q=>Nat.beq k q.1)then none else S.tok k):=fun k hk=>by
   simp only[Za4]at cE
   exact(List.map_inj_left.1 cE) k hk
  rcases Zdw hk with⟨i,e,v,h1,h2,h3⟩|⟨h1,h2⟩
  ·obtain⟨g1,g2⟩:=ht i k e v h1 h2
   subst h3
   exact g2.imp id id
  ·left
   have hm:A.toks.any (fun q=>Nat.beq k q.1)=false:=by
    cases hh:A.toks.any (fun q=>Nat.beq k q.1)with
    | false=>rfl
    | true=>
     obtain⟨q,hq,he⟩:=List.any_eq_true.1 hh
     obtain⟨i,hi⟩:=List.getElem?_of_mem hq
     have h3:=h1 i q hi (Nat.eq_of_beq_eq_true he).symm
     have h4:=(List.getElem?_eq_some_iff.1 hi).1
     omega
   have:=dZ k (hS.tkeys k t h2)
   simp only[hm,cond_false]at this
   rw[this,h2]
 refine hr.restrict rfl hL lV ?_ ?_ ?_
 ·intro i sv he
  simp only[ZbN]at he
  rcases ZkE he with h1|⟨q,sh,v,h1,h2,h3⟩
  ·cases hi:ds.any (Nat.beq i ·)with
   | true=>simp[hi]at h1
   | false=>
    simp only[hi,cond_false]at h1
    have qF:i ∉ ds:=fun hm=>by rw[Zfc.2 hm]at hi;cases hi
    have h2:S'.env i=some sv:=by rw[fY i qF,h1]
    obtain⟨v,h3,h4⟩:=hr.env i sv h2
    refine⟨v,?_,h4⟩
    cases sv with
    | v u=>exact h3
    | loc id off=>
     obtain⟨v0,h5⟩:=hS.env i _ h1
     simp only[St.den]at h5
     cases hx:S.L id with
     | none=>simp[hx]at h5
     | some x=>
      obtain⟨y,hy,_⟩:=Zea (l:=A.boxes) (css:=css) hx
      have:=hL id y hy
      simp only[St.den,this]at h3
      simp only[St.den,ZbN,hy];exact h3
    | sl id n c=>
     obtain⟨v0,h5⟩:=hS.env i _ h1
     simp only[St.den]at h5
     cases hx:S.L id with
     | none=>simp[hx]at h5
     | some x=>
      obtain⟨y,hy,_⟩:=Zea (l:=A.boxes) (css:=css) hx
      have:=hL id y hy
      simp only[St.den,this]at h3
      simp only[St.den,ZbN,hy];exact h3
  ·subst h3
   exact⟨v,rfl,hx q i sh v h1 h2⟩
 ·intro id y hy
  simp only[ZbN]at hy ⊢
  rcases Zfw hy with⟨i,x,cs,h1,h2,h3,h4⟩|⟨h1,h2⟩
  ·exact hS.ids id x h3
  ·exact hS.ids id y h2
 ·intro k t hk
  simp only[ZbN]at hk ⊢
  rcases Zdw hk with⟨i,e,v,h1,h2,h3⟩|⟨h1,h2⟩
  ·exact List.mem_append_left _ (List.mem_map.2 ⟨(k,e),List.mem_of_getElem? h1,rfl⟩)
  ·exact List.mem_append_right _ (hS.tkeys k t h2)
end
theorem Rel.lessMem{C:Ctx}{S:St}{m m1:Mem}{a:Act}{w:World}(h:Rel C S m a w)(hm:m1.le m)(h0:C.m0.le m1)(hk:∀id x,S.L id=some x→x.fz=true→∀o,m1 x.b o=m x.b o):Rel C S m1 a w:=by
 have dN:∀b o,m b o=none→m1 b o=none:=fun b o hn=>by
  cases he:m1 b o with
  | none=>rfl
  | some v=>have:=hm _ _ _ he;rw[hn]at this;cases this
 refine⟨h.defers,h.size,h.env,fun id x hx=>?_,h.apart,h.ids,fun k t ht=>?_,h.tkeys,h.tapart,fun b o v hv=>h.sub b o v (hm _ _ _ hv),h0,?_⟩
 ·obtain⟨g1,g2,g3,g4⟩:=h.own id x hx
  exact⟨g1,fun hz o=>dN _ _ (g2 hz o),fun hz j u hu=>by rw[hk id x hx hz];exact g3 hz j u hu,g4⟩
 ·obtain⟨g1,g2⟩:=h.toks k t ht
  exact⟨g1.same (fun b _=>rfl) (fun b o _=>dN b o),g2⟩
 ·obtain⟨M,hd⟩:=h.dom
  exact⟨M,hd.p,hd.lt,hd.own,hd.tok,hd.mks,fun b o v hv=>hd.new b o v (hm _ _ _ hv)⟩
theorem Rel.acq{E:Env}{C:Ctx}(hY:YOk E C){mm:Mem}(fT:E.m0=some mm){S:St}{m:Mem}{a:Act}{w:World}(hr:Rel C S m a w){key esz:Nat}{p:Option Addr}{n c:Nat}(h1:ZvD m mm esz p n c)
  (h2:∀b,(Tok.mk (.slice p n c) esz).blk=some b→nfz S b S.ids (ntk S b [key] S.tkeys)):
  Rel C { S with tok:=fun k=>bif Nat.beq k key then some ⟨.slice p n c,esz⟩ else S.tok k,tkeys:=key::S.tkeys } (m.cutA p (n*esz)) a w:=by
 obtain⟨ky,hW⟩:=hY.m0 mm fT
 rcases h1 with⟨rfl,rfl,rfl⟩|⟨b,rfl,io,hQ,kX,fV⟩
 ·exact hr.tokNil key _ rfl
 ·obtain⟨q1,q2⟩:=Zf3 (h2 b rfl)
  have cP:(m.cutA (some ⟨b,0,none⟩) (n*esz)).le m:=fun b' o v hv=>by
   simp only[Mem.cutA]at hv
   split at hv
   ·cases hv
   ·exact hv
  have hZ:∀b',b'≠b→∀o,m.cutA (some ⟨b,0,none⟩) (n*esz) b' o=m b' o:=fun b' hb o=>by simp[Mem.cutA,hb]
  have jD:∀id x,S.L id=some x→x.b≠b:=fun id x hx e=>by
   have ho:=hr.own id x hx
   cases hz:x.fz with
   | true=>exact q2 id x (hr.ids id x hx) hx hz e
   | false=>
    obtain⟨v,hv⟩:=kX 0 hQ
    have:=ho.free hz 0
    rw[e,hv]at this;cases this
  have dS:Rel C S (m.cutA (some ⟨b,0,none⟩) (n*esz)) a w:=hr.lessMem cP (fun b' o v hv=>by
   by_cases hb:b'=b
   ·subst hb;rw[ky]at hv;rw[fV o]at hv;cases hv
   ·rw[hZ b' hb];exact hr.le _ _ _ hv) (fun id x hx _ o=>hZ _ (jD id x hx) o)
  obtain⟨v0,uo⟩:=kX 0 hQ
  have hM:∀M,Dom C S m a w M→M b:=fun M hd=>(hd.new b 0 v0 uo).resolve_left fun h=>by rw[ky,fV 0]at h;cases h
  have cO:∀o,o < c*esz→∃v,w.cell? ⟨b,o,none⟩=some v:=fun o ho=>by
   obtain⟨v,hv⟩:=kX o ho
   exact⟨v,hr.sub _ _ _ hv⟩
  obtain⟨cur,T,fr,hh⟩:∃cur T fr,w.heap[b]?=some (.cells cur T fr):=by
   obtain⟨v,hv⟩:=cO 0 hQ
   unfold World.cell? at hv
   cases hh:w.heap[b]? with
   | none=>simp[hh]at hv
   | some ob=>
    cases ob <;> simp[hh]at hv
    exact⟨_,_,_,rfl⟩
  have cK:c*esz≤cur.size:=by
   obtain⟨v,hv⟩:=cO (c*esz - 1) (by omega)
   simp only[World.cell?,hh]at hv
   simp at hv
   have:=(Array.getElem?_eq_some_iff.1 hv).1
   omega
  obtain⟨M,hd⟩:=hr.dom
  have iR:Wr w b:=hW _ _ _ hd.p b (hM M hd)
  refine dS.tokUpd key _ (.inr ⟨b,0,n,c,cur,T,fr,rfl,io,hh,by rw[Nat.zero_add];exact cK,iR cur T fr hh,fun o ho _=>by rw[Nat.zero_add]at ho;simp[Mem.cutA,ho]⟩) (fun b' hb'=>?_) ?_
  ·have:b'=b:=by simp[Tok.blk]at hb';exact hb'.symm
   subst this
   exact⟨⟨jD,by rw[ky];exact fV⟩,fun k' t' cJ ht'=>ZhN q1 k' t' (hr.tkeys k' t' ht') ht' (by simpa using cJ)⟩
  ·obtain⟨M1,kg⟩:=dS.dom
   refine⟨M,⟨hd.p,hd.lt,hd.own,hd.tok,hd.mks,fun b o v hv=>hd.new b o v (cP _ _ _ hv)⟩,fun b' hb'=>?_⟩
   have:b'=b:=by simp[Tok.blk]at hb';exact hb'.symm
   subst this
   exact hM M hd
theorem Rel.unacq{C:Ctx}{S:St}{m:Mem}{a:Act}{w:World}(hr:Rel C S m a w){key:Nat}{t:Tok}(ht:S.tok key=some t):
  ∃zs:List Value,zs.length=(slC t.v - slN t.v)*t.esz∧Rel C { S with tok:=fun k=>bif Nat.beq k key then none else S.tok k } (m.addA (slA t.v) (slN t.v*t.esz) zs) a w:=by
 have dS:Rel C { S with tok:=fun k=>bif Nat.beq k key then none else S.tok k } m a w:=by
  refine hr.restrict rfl (fun _ _ hx=>hx) (fun k t' hk=>?_) (fun i sv he=>?_) hr.ids (fun k t' hk=>?_)
  ·by_cases e:k=key
   ·subst e;simp at hk
   ·simp[Zap e]at hk;exact .inl hk
  ·obtain⟨v,h1,h2⟩:=hr.env i sv he
   exact⟨v,by cases sv <;> exact h1,h2⟩
  ·by_cases e:k=key
   ·subst e;simp at hk
   ·simp[Zap e]at hk;exact hr.tkeys k t' hk
 obtain⟨g1,g2⟩:=hr.toks key t ht
 rcases g1 with g1|⟨b,o0,n,c,cur,T,fr,hv,io,hh,cK,fR,cU⟩
 ·rw[g1]
  exact⟨[],by simp[slC,slN],dS⟩
 ·have dG:t.blk=some b:=by simp[Tok.blk,hv]
  rw[hv]
  simp only[slC,slN,slA]
  have uq:c*t.esz=n*t.esz+(c - n)*t.esz:=by rw[←Nat.add_mul];congr 1;omega
  obtain⟨P0,nt⟩:∃P0,P0=o0+n*t.esz:=⟨_,rfl⟩
  refine⟨(cur.toList.drop P0).take ((c - n)*t.esz),by simp;omega,?_⟩
  simp only[Mem.addA]
  rw[←nt]at cU ⊢
  obtain⟨zs,li⟩:∃zs,zs=(cur.toList.drop (P0)).take ((c - n)*t.esz):=⟨_,rfl⟩
  rw[←li]
  have qG:∀q v,zs[q]?=some v→cur[P0+q]?=some v:=fun q v hq=>by
   rw[li,List.getElem?_take]at hq
   split at hq
   ·rw[List.getElem?_drop]at hq;simpa using hq
   ·cases hq
  have cP:m.le (m.addAt b (P0) zs):=fun b' o v hv'=>by
   simp only[Mem.addAt]
   split
   ·rename_i hc
    obtain⟨rfl,ho⟩:=hc
    cases hz:zs[o - P0]? with
    | none=>simp only[hz];exact hv'
    | some u=>
     have hq:=(List.getElem?_eq_some_iff.1 hz).1
     rw[li,List.length_take]at hq
     rw[cU o ho (by omega)]at hv';cases hv'
   ·exact hv'
  have hZ:∀b',b'≠b→∀o,m.addAt b (P0) zs b' o=m b' o:=fun b' hb o=>by simp[Mem.addAt,hb]
  have nm:∀id x,S.L id=some x→x.b≠b:=(g2 b dG).1
  refine⟨dS.defers,dS.size,dS.env,fun id x hx=>?_,dS.apart,dS.ids,fun k t' hk=>?_,dS.tkeys,dS.tapart,fun b' o v hv'=>?_,Mem.le_trans dS.le cP,?_⟩
  ·obtain⟨q1,q2,q3,q4⟩:=hr.own id x hx
   exact⟨q1,fun hz o=>by rw[hZ _ (nm id x hx)];exact q2 hz o,fun hz j u hu=>cP _ _ _ (q3 hz j u hu),q4⟩
  ·obtain⟨q1,q2⟩:=dS.toks k t' hk
   refine⟨q1.same (fun b' _=>rfl) (fun b' o hb' hn=>?_),q2⟩
   have cJ:b'≠b:=fun e=>by
    subst e
    by_cases e:k=key
    ·subst e;simp at hk
    ·simp[Zap e]at hk
     exact e (hr.tapart k key t' t _ hk ht hb' dG)
   rw[hZ b' cJ];exact hn
  ·by_cases hb:b'=b
   ·subst hb
    simp only[Mem.addAt]at hv'
    by_cases ho:P0≤o
    ·simp only[ho,and_self,if_true]at hv'
     cases hz:zs[o - P0]? with
     | none=>simp only[hz]at hv';exact hr.sub _ _ _ hv'
     | some u=>
      simp only[hz]at hv';cases hv'
      have:=qG _ _ hz
      rw[show P0+(o - P0)=o by omega]at this
      simp only[World.cell?,hh]
      simpa using this
    ·simp only[ho,and_false,if_false]at hv';exact hr.sub _ _ _ hv'
   ·rw[hZ b' hb]at hv';exact hr.sub _ _ _ hv'
  ·obtain⟨M,hd⟩:=hr.dom
   refine⟨M,hd.p,hd.lt,hd.own,fun k t' b' hk hb'=>?_,hd.mks,fun b' o v hv'=>?_⟩
   ·by_cases e:k=key
    ·subst e;simp at hk
    ·simp[Zap e]at hk;exact hd.tok k t' b' hk hb'
   ·by_cases hb:b'=b
    ·subst hb;exact .inr (hd.tok key t _ ht dG)
    ·rw[hZ b' hb]at hv';exact hd.new b' o v hv'
theorem Ztf{E:Env}{C:Ctx}(hY:YOk E C){kz:Option (Nat×Nat)}{f:(St→Mem→Prop)→St→Mem→Prop}{K:St→Mem→Prop}{S:St}{m:Mem}{a:Act}{w:World}{p:Prop}(hr:Rel C S m a w)(h:Zte E kz f K S m)
  (hf:∀(K':St→Mem→Prop) S' m',Rel C S' m' a w→f K' S' m'→(∀S2 m2 a2 w2,K' S2 m2→Rel C S2 m2 a2 w2→∃S3 m3,K S3 m3∧Rel C S3 m3 a2 w2)→p):p:=by
 unfold Zte at h
 split at h
 ·exact hf _ _ _ hr h fun S2 m2 a2 w2 hk bW=>⟨S2,m2,hk,bW⟩
 ·rename_i key esz
  obtain⟨h3,h4⟩:=Zaf h
  cases fT:E.m0 with
  | none=>simp[fT]at h4
  | some mm=>
   simp only[fT]at h4
   obtain⟨q,n',c,z1,z2,z3⟩:=h4
   refine hf _ _ _ (hr.acq hY fT z1 z2) z3 fun S2 m2 a2 w2 hk bW=>?_
   split at hk
   ·exact hk.elim
   ·rename_i t ht
    obtain⟨jl,f8⟩:=Zaf hk
    obtain⟨zs,qH,iY⟩:=bW.unacq ht
    exact⟨_,_,f8 zs qH,iY⟩
end Go.Eng
namespace Go.Eng
open Go Go.RowKit
theorem ZiR:∀{A:List (Nat×Shape)} {xs:List Value} {e:Nat→Option SV} {i:Nat} {sv:SV},xs.length=A.length→ZbJ e A xs i=some sv→(e i=some sv∧i ∉ A.map (·.1))∨∃(q:Nat)(sh:Shape)(v:Value),A[q]?=some (i,sh)∧xs[q]?=some v∧sv=.v v
 | [],xs,e,i,sv,_,h=>.inl ⟨by simpa[ZbJ]using h,by simp⟩
 | (t,s)::A,[],e,i,sv,hl,h=>by simp at hl
 | (t,s)::A,v::xs,e,i,sv,hl,h=>by
  by_cases hi:i=t
  ·subst hi
   simp[ZbJ]at h
   exact .inr ⟨0,s,v,by simp,by simp,h.symm⟩
  ·simp only[ZbJ,Zap hi,cond_false]at h
   rcases ZiR (by simpa using hl) h with⟨h1,h2⟩|⟨q,sh,u,h1,h2,h3⟩
   ·exact .inl ⟨h1,by simp only[List.map_cons,List.mem_cons,not_or];exact⟨hi,h2⟩⟩
   ·exact .inr ⟨q+1,sh,u,by simpa using h1,by simpa using h2,h3⟩
theorem ZiS:∀(ps:List Nat)(vs:List Value)(t:Array Value),vs.length=ps.length→ps.Nodup→
  ((ps.zip vs).foldl (fun(t:Array Value)(x:Nat×Value)=>t.setIfInBounds x.1 x.2) t).size=t.size∧
  (∀i,i ∉ ps→((ps.zip vs).foldl (fun(t:Array Value)(x:Nat×Value)=>t.setIfInBounds x.1 x.2) t)[i]?=t[i]?)∧
  (∀(q i:Nat)(v:Value),ps[q]?=some i→vs[q]?=some v→i < t.size→((ps.zip vs).foldl (fun(t:Array Value)(x:Nat×Value)=>t.setIfInBounds x.1 x.2) t)[i]?=some v)
 | [],vs,t,_,_=>⟨rfl,fun _ _=>rfl,fun q i v h=>by simp at h⟩
 | p::ps,[],t,h,_=>by simp at h
 | p::ps,v::vs,t,h,hn=>by
  obtain⟨hp,hn⟩:=List.nodup_cons.1 hn
  obtain⟨h1,h2,h3⟩:=ZiS ps vs (t.setIfInBounds p v) (by simpa using h) hn
  simp only[List.zip_cons_cons,List.foldl_cons]
  refine⟨by simpa using h1,fun i hi=>?_,fun q i u hq hu bV=>?_⟩
  ·simp only[List.mem_cons,not_or]at hi
   rw[h2 i hi.2,Array.getElem?_setIfInBounds_ne (Ne.symm hi.1)]
  ·cases q with
   | zero=>
    simp at hq hu
    subst hq hu
    rw[h2 p hp]
    simp[bV]
   | succ q=>exact h3 q i u (by simpa using hq) (by simpa using hu) (by simpa using bV)
theorem ZiT:∀{a b:List Nat},Zlu a b=true→a=b
 | [],[],_=>rfl
 | [],_::_,h=>by simp[Zlu]at h
 | _::_,[],h=>by simp[Zlu]at h
 | x::a,y::b,h=>by
  simp only[Zlu,Bool.and_eq_true]at h
  rw[Nat.eq_of_beq_eq_true h.1,ZiT h.2]
theorem ZeS:∀{l:List Shape} {x:List Value},Shape.fitsL l x=true→x.length=l.length
 | [],[],_=>rfl
 | [],_::_,h=>by simp[Shape.fitsL]at h
 | _::_,[],h=>by simp[Shape.fitsL]at h
 | _::l,_::x,h=>by
  simp only[Shape.fitsL,Bool.and_eq_true]at h
  simp[ZeS h.2]
section
variable {C:Ctx} {S:St} {m:Mem} {a:Act} {w w':World} {M M':Nat→Prop}
structure Apart (M':Nat→Prop)(S:St)(m:Mem)(a:Act):Prop where
 box:∀id x,S.L id=some x→¬M' x.b
 tok:∀k t b,S.tok k=some t→t.blk=some b→¬M' b
 mks:∀D,ZiI D∈a.defers→¬M' D
 mem:∀b o v,m b o=some v→¬M' b
theorem Rel.markAt(h:Rel C S m a w){D:Nat}(hD:ZiI D∈a.defers):w.heap[D]?=some (.deferred (some [])):=by
 obtain⟨ms,h1,h2,h3⟩:=h.defers
 rw[h1]at hD
 obtain⟨D',h4,h5⟩:=List.mem_map.1 hD
 have:D'=D:=by simpa[ZiI]using h5
 exact this ▸ h3 D' h4
theorem Rel.foreign(h:Rel C S m a w)(hd:Dom C S m a w M)(hM:∀k,M' k→M k)(hP:Apart M' S m a)(hu:Upd M' w w'):Rel C S m a w'∧Dom C S m a w' (Zs4 M w w'):=by
 have hd':Dom C S m a w' (Zs4 M w w'):=hd.step ⟨hu.os,hu.tape,hu.output,hu.size,fun k hk hn=>hu.block k hk (fun hm=>hn (hM k hm)),hu.wr⟩ (fun b o v hv=>.inl hv)
 refine⟨⟨?_,h.size,h.env,fun id x hx=>?_,h.apart,h.ids,fun k t ht=>?_,h.tkeys,h.tapart,fun b o v hv=>?_,h.le,⟨_,hd'⟩⟩,hd'⟩
 ·obtain⟨ms,h1,h2,h3⟩:=h.defers
  refine⟨ms,h1,h2,fun D hD=>?_⟩
  rw[hu.block D (Array.getElem?_eq_some_iff.1 (h3 D hD)).1 (hP.mks D (by rw[h1];exact List.mem_map.2 ⟨D,hD,rfl⟩))];exact h3 D hD
 ·exact(h.own id x hx).same (hu.block _ (h.own id x hx).lt (hP.box id x hx)) (Mem.le_refl m) (h.own id x hx).free
 ·obtain⟨h1,h2⟩:=h.toks k t ht
  exact⟨h1.same (fun b hb=>hu.block b (h1.lt hb) (hP.tok k t b ht hb)) (fun _ _ _ hn=>hn),h2⟩
 ·rw[Zbw (hu.block b (h.sub.lt hv) (hP.mem b o v hv))];exact h.sub b o v hv
theorem Rel.swap{C2:Ctx}{S2:St}{a2:Act}(h:Rel C S m a w)(hn:C2.n=C.n)(hm:C2.m0.le m)(hL:S2.L=S.L)(dT:S2.ids=S.ids)(cE:S2.tok=S.tok)(gW:S2.tkeys=S.tkeys)
  (dR:∀i sv,S2.env i=some sv→∃v,S2.den sv=some v∧a2.tmps[i]?=some v) (cK:a2.tmps.size=C2.n)
  (iW:∃ms:List Nat,a2.defers=ms.map ZiI∧ms.Nodup∧∀D∈ms,w'.heap[D]?=some (.deferred (some [])))
  (fI:∀(k:Nat) c T fr,w.heap[k]?=some (Obj.cells c T fr)→w'.heap[k]?=w.heap[k]?) (cB:∀k t b,S.tok k=some t→t.blk=some b→C2.m0.free b) (hd:∃M,Dom C2 S2 m a2 w' M):Rel C2 S2 m a2 w':=by
 refine⟨iW,cK,dR,fun id x hx=>?_,fun id id' x x' hx hx'=>?_,fun id x hx=>?_,fun k t ht=>?_,fun k t ht=>?_,fun k k' t t' b ht ht'=>?_,fun b o v hv=>?_,hm,hd⟩
 ·rw[hL]at hx
  have ho:=h.own id x hx
  obtain⟨sp,fr,hc,_⟩:=ho.cells
  exact ho.same (fI _ _ _ _ hc) (Mem.le_refl m) ho.free
 ·rw[hL]at hx hx';exact h.apart id id' x x' hx hx'
 ·rw[hL]at hx;rw[dT];exact h.ids id x hx
 ·rw[cE]at ht
  obtain⟨h1,h2⟩:=h.toks k t ht
  refine⟨h1.same (fun b hb=>?_) (fun _ _ _ hn=>hn),fun b hb=>⟨fun id x hx=>?_,?_⟩⟩
  ·rcases h1 with h1|⟨b',o0,n,c,cur,T,fr,hv,_,hh,_⟩
   ·simp[Tok.blk,h1]at hb
   ·simp[Tok.blk,hv]at hb;subst hb;exact fI _ _ _ _ hh
  ·rw[hL]at hx;exact(h2 b hb).1 id x hx
  ·exact cB k t b ht hb
 ·rw[cE]at ht;rw[gW];exact h.tkeys k t ht
 ·rw[cE]at ht ht';exact h.tapart k k' t t' b ht ht'
 ·have h1:=h.sub b o v hv
  have:∃c T fr,w.heap[b]?=some (Obj.cells c T fr):=by
   unfold World.cell? at h1
   split at h1
   ·rename_i c T fr hc;exact⟨c,T,fr,hc⟩
   ·cases h1
  obtain⟨c,T,fr,hc⟩:=this
  rw[Zbw (fI _ _ _ _ hc)];exact h1
end
def Zus(C:Ctx)(X:Nat→Prop)(h:Nat→Option Obj)(B:Nat):Ctx where
 n:=C.n
 m0:=C.m0
 p:=fun g Mr w=>∃M,C.p g M w∧(∀k,M k→k < w.heap.size)∧(∀k,Mr k→M k)∧(∀k,X k→M k∧¬Mr k∧w.heap[k]?=h k)∧B≤w.heap.size
 st:=by
  rintro g Mr M2 w w' ⟨M,h1,h2,h3,h4,h5⟩ hu hg
  refine⟨Zs4 M w w',C.st g M _ w w' h1 ⟨hu.os,hu.tape,hu.output,hu.size,fun k hk hn=>hu.block k hk (fun hm=>hn (h3 k hm)),hu.wr⟩ (fun _ hk=>hk),?_,?_,?_,Nat.le_trans h5 hu.size⟩
  ·rintro k (hk|hk)
   ·exact Nat.lt_of_lt_of_le (h2 k hk) hu.size
   ·exact hk.2
  ·intro k hk
   exact(hg k hk).imp_left (h3 k)
  ·intro k hk
   obtain⟨g1,g2,g3⟩:=h4 k hk
   have bV:=h2 k g1
   refine⟨.inl g1,fun hm=>?_,?_⟩
   ·rcases hg k hm with h|h
    ·exact g2 h
    ·omega
   ·rw[hu.block k bV g2];exact g3
theorem Zpe{E:Env}{C:Ctx}{X:Nat→Prop}{h:Nat→Option Obj}{B:Nat}(hY:YOk E C):YOk E (Zus C X h B):=by
 refine⟨?_,fun mm fO=>⟨(hY.m0 mm fO).1,fun g Mr w ⟨M,h1,h2,h3,h4,h5⟩ k hk=>(hY.m0 mm fO).2 g M w h1 k (h3 k hk)⟩⟩
 rintro Y ur F n l g v Mr w hF bV hy ⟨M,h1,h2,h3,h4,h5⟩ hs
 obtain⟨fn,tmps,asg,bdy,nF,gC⟩:=hY.y Y ur F n l g v M w hF h2 hy h1 hs
 refine⟨fn,tmps,asg,bdy,nF,gC.mono ?_⟩
 rintro e w' ⟨b,rfl,hp,hf⟩
 refine⟨b,rfl,⟨M,hp,fun k hk=>Nat.lt_of_lt_of_le (h2 k hk) hf.size,h3,fun k hk=>?_,Nat.le_trans h5 hf.size⟩,hf.size,fun k hk hm=>hf.block k hk (h3 k hm),hf.sub⟩
 obtain⟨g1,g2,g3⟩:=h4 k hk
 exact⟨g1,g2,by rw[hf.block k (h2 k g1) g1];exact g3⟩
def ROk(F:Fence)(C:Ctx):Prop:=∀l,F.round=some l→∀g M w,C.p g M w→∃r,w.heap[l]?=some (.loop r)
end Go.Eng
namespace Go.Eng
open Go Go.RowKit
def ZjC:Obj→Bool
 | .cells _ _ _=>false
 | _=>true
theorem ZmI{o:Obj}(h:ZjC o=true):Zs9 o:=fun c T fr e=>by subst e;simp[ZjC]at h
theorem Zfx{M:Nat→Prop}{w:World}{l:Nat}{o:Obj}(ho:ZjC o=true)(hl:M l):Upd M w (w.putObj l o):=
 ⟨rfl,rfl,rfl,by simp[World.putObj],fun k hk hn=>World.putObj_heap_other (fun e=>hn (e ▸ hl)),fun k hk c T fr hh i hi=>by
  by_cases e:k=l
  ·subst e
   by_cases bV:k < w.heap.size
   ·rw[World.putObj_heap_same bV]at hh
    exact ZmI ho c T fr (Option.some.inj hh) i hi
   ·have h1:=(Array.getElem?_eq_some_iff.1 hh).1
    have h2:(w.putObj k o).heap.size=w.heap.size:=by simp[World.putObj]
    omega
  ·rw[World.putObj_heap_other e]at hh;exact hk c T fr hh i hi⟩
theorem Zdb(w:World)(l:Nat)(o:Obj):(w.putObj l o).heap.size=w.heap.size:=by simp[World.putObj]
theorem FOk.inRound{F:Fence}(h:FOk F)(l:Nat):FOk (F.inRound l):=by
 rcases h with rfl|⟨l',rfl⟩
 ·exact .inr ⟨l,rfl⟩
 ·exact .inr ⟨l,rfl⟩
section
variable {C:Ctx} {S:St} {m:Mem} {a:Act} {w w':World} {M M':Nat→Prop}
theorem Rel.alloc(h:Rel C S m a w)(hd:Dom C S m a w M){o:Obj}(ho:ZjC o=true):Rel C S m a (w.alloc o)∧Dom C S m a (w.alloc o) (Zs4 M w (w.alloc o)):=by
 have hk:Keep w.heap.size [] w (w.alloc o):=Keep.alloc (Nat.le_refl _) (ZmI ho)
 refine⟨h.world hk (fun b o' v hv=>?_) (Mem.le_refl m) (fun _ _ _ hv=>.inl hv),hd.step (hk.upd (by simp)) (fun b o v hv=>.inl hv)⟩
 rw[Zbw (Below.heap_alloc w _ b (h.sub.lt hv))];exact h.sub _ _ _ hv
theorem Zfy(M:Nat→Prop)(w:World)(o:Obj):Zs4 M w (w.alloc o) w.heap.size:=.inr ⟨Nat.le_refl _,by simp⟩
theorem Rel.enter{P:Program}(hr:Rel C S m a w){F:Fence}(hR:ROk F C)(fn:FuncId)(ps:Array Tmp)(asg bdy:Code):
  ∃l mk w1 D,(Instr.enterLoop fn a.tmps ps asg bdy F.round).run P w=.ok (l,mk) w1∧Rel C S m { a with defers:=mk++a.defers } w1∧(∃M,Dom C S m { a with defers:=mk++a.defers } w1 M∧M l)∧
   w1.heap[l]?=some (.loop { state:=.ready,pending:=none,fn,tmps:=a.tmps,params:=ps,assign:=asg,body:=bdy,defers:=D }):=by
 obtain⟨M,hd⟩:=hr.dom
 cases qI:F.round with
 | none=>
  obtain⟨h1,d1⟩:=hr.alloc hd (o:=.deferred (some [])) rfl
  obtain⟨h2,d2⟩:=h1.alloc d1 (o:=.loop { state:=.ready,pending:=none,fn,tmps:=a.tmps,params:=ps,assign:=asg,body:=bdy,defers:=w.heap.size }) rfl
  have e1:(w.alloc (.deferred (some []))).heap.size=w.heap.size+1:=by simp
  have g1:((w.alloc (.deferred (some []))).alloc (.loop { state:=.ready,pending:=none,fn,tmps:=a.tmps,params:=ps,assign:=asg,body:=bdy,defers:=w.heap.size })).heap[w.heap.size]?=some (.deferred (some [])):=by
   rw[Below.heap_alloc _ _ _ (by simp)];exact heap_alloc_new w _
  refine⟨_,_,_,w.heap.size,run_enterLoop_outer _ _ _ _ _,?_,?_,?_⟩
  ·obtain⟨ms,k1,k2,k3⟩:=h2.defers
   have hD:∃M,Dom C S m { a with defers:=[ZiI w.heap.size]++a.defers } ((w.alloc (.deferred (some []))).alloc (.loop { state:=.ready,pending:=none,fn,tmps:=a.tmps,params:=ps,assign:=asg,body:=bdy,defers:=w.heap.size })) M:=
    ⟨_,d2.p,d2.lt,d2.own,d2.tok,fun D hD=>by
     simp only[List.singleton_append,List.mem_cons]at hD
     rcases hD with hD|hD
     ·have:D=w.heap.size:=by simpa[ZiI]using hD
      subst this
      exact .inl (Zfy _ _ _)
     ·exact d2.mks D hD,d2.new⟩
   refine⟨⟨w.heap.size::ms,by simp[k1,ZiI],?_,?_⟩,h2.size,h2.env,h2.own,h2.apart,h2.ids,h2.toks,h2.tkeys,h2.tapart,h2.sub,h2.le,hD⟩
   ·refine List.nodup_cons.2 ⟨fun hm=>?_,k2⟩
    obtain⟨ms',q1,q2,q3⟩:=hr.defers
    have:w.heap.size∈ms':=by
     have e:ZiI w.heap.size∈a.defers:=by
      have:a.defers=ms.map ZiI:=k1
      rw[this];exact List.mem_map.2 ⟨_,hm,rfl⟩
     rw[q1]at e
     obtain⟨D',r1,r2⟩:=List.mem_map.1 e
     have:D'=w.heap.size:=by simpa[ZiI]using r2
     exact this ▸ r1
    have:=(Array.getElem?_eq_some_iff.1 (q3 _ this)).1
    omega
   ·intro D hD
    rcases List.mem_cons.1 hD with rfl|hD
    ·exact g1
    ·exact k3 D hD
  ·refine⟨_,⟨d2.p,d2.lt,d2.own,d2.tok,fun D hD=>?_,d2.new⟩,by rw[←e1];exact Zfy _ _ _⟩
   simp only[List.singleton_append,List.mem_cons]at hD
   rcases hD with hD|hD
   ·have:D=w.heap.size:=by simpa[ZiI]using hD
    subst this
    exact .inl (Zfy _ _ _)
   ·exact d2.mks D hD
  ·rw[←e1];exact heap_alloc_new _ _
 | some l0=>
  obtain⟨r0,h0⟩:=hR l0 qI _ _ _ hd.p
  obtain⟨h1,d1⟩:=hr.alloc hd (o:=.loop { state:=.ready,pending:=none,fn,tmps:=a.tmps,params:=ps,assign:=asg,body:=bdy,defers:=r0.defers }) rfl
  exact⟨_,_,_,r0.defers,run_enterLoop_inner h0 _ _ _ _ _,h1,⟨_,d1,Zfy _ _ _⟩,heap_alloc_new _ _⟩
theorem ZmJ{S:St}{ds:List Nat}{A:LoopAnn}{g:Int}{xs:List Value}{css:List (List Value)}{tvs:List Value}{sv:SV}{v:Value}(h:S.den sv=some v):(ZbN S ds A g xs css tvs).den sv=some v:=by
 cases sv with
 | v u=>exact h
 | loc id off=>
  simp only[St.den]at h ⊢
  cases hx:S.L id with
  | none=>simp[hx]at h
  | some x=>
   obtain⟨y,hy,hb⟩:=Zea (l:=A.boxes) (css:=css) hx
   simp only[hx]at h
   simp only[ZbN,hy,hb];exact h
 | sl id n c=>
  simp only[St.den]at h ⊢
  cases hx:S.L id with
  | none=>simp[hx]at h
  | some x=>
   obtain⟨y,hy,hb⟩:=Zea (l:=A.boxes) (css:=css) hx
   simp only[hx]at h
   simp only[ZbN,hy,hb];exact h
end
end Go.Eng
namespace Go.Eng
open Go Go.RowKit
def Zqo(E:Env)(T:KT→St→Mem→Prop)(c:Code):Prop:=
 ∀{F:Fence} (_:FOk F) {C:Ctx} (_:YOk E C) (_:ROk F C) (n:Nat),Zbx C.n c=true→∀{S:St} {m:Mem} {a:Act} {w:World} {K:KT} {Q:Exit→Act→World→Prop},Rel C S m a w→T K S m→
  (∀e S' m' a' w',K e S' m'→Rel C S' m' a' w'→Q e a' w')→c.wpIn F n E.P Q a w
def Zpf(tvs:List Value):Prop:=∀v∈tvs,Zdm v=true
def Ztg(K:KT)(c:Code)(S:St)(m:Mem):Prop:=match c with
 | .ret=>K .ret S m
 | .exit id=>K (.exit id) S m
 | .goto l=>K (.goto l) S m
 | _=>False
section
variable {C:Ctx} {S:St} {m:Mem} {a:Act} {w w':World} {M M':Nat→Prop}
def ZgF(fn:FuncId)(tmps:Array Value)(ps:Array Tmp)(x y:Code)(D:Nat)(st:LoopState)(pe:Option Code):Loop:=
 {state:=st,pending:=pe,fn,tmps,params:=ps,assign:=x,body:=y,defers:=D }
def Zqp(C:Ctx)(S:St)(m:Mem)(A:LoopAnn)(I:List Value→List (List Value)→List Value→Mem→Nat→Prop)(K:KT)(a1:Act)(l:Nat)(rec:LoopState→Option Code→Loop)(k:Int)(M':Nat→Prop)(W:World):Prop:=
 ∃(g:Int) (css:List (List Value)) (tvs:List Value) (m':Mem),css.length=A.boxes.length∧tvs.length=A.toks.length∧Zpf tvs∧(A.gh=false→g=S.gh)∧m.le m'∧
  Rel C (ZbN S [] { A with slots:=[] } g [] css tvs) m' a1 W∧
  (∃M,Dom C (ZbN S [] { A with slots:=[] } g [] css tvs) m' a1 W M∧M l∧¬M' l∧(∀k,M' k→M k)∧Apart M' (ZbN S [] { A with slots:=[] } g [] css tvs) m' a1)∧
  ((0≤k∧I (ghs A.gh g []) css tvs m' k.toNat∧W.heap[l]?=some (.loop (rec .ready none)))∨
   (k=-1∧∃c,W.heap[l]?=some (.loop (rec .done (some c)))∧Ztg K c (ZbN S [] { A with slots:=[] } g [] css tvs) m'))
theorem Zlw{A:LoopAnn}{I:List Value→List (List Value)→List Value→Mem→Nat→Prop}{K:KT}{a1:Act}{l:Nat}{rec:LoopState→Option Code→Loop}:Ztb (Zqp C S m A I K a1 l rec):=by
 rintro k M' M2 W W' ⟨g,css,tvs,m',h1,h2,h3,h4,h5,hr,⟨M,hd,hl,hl',hM,hP⟩,hc⟩ hu hg
 obtain⟨gw,qJ⟩:=hr.foreign hd hM hP hu
 have dL:=hd.lt l hl
 have ut:W'.heap[l]?=W.heap[l]?:=hu.block l dL hl'
 have key:∀k,k < W.heap.size→¬M' k→¬M2 k:=fun k hk hn h=>by
  rcases hg k h with h|h
  ·exact hn h
  ·omega
 refine⟨g,css,tvs,m',h1,h2,h3,h4,h5,gw,⟨_,qJ,.inl hl,key l dL hl',fun k hk=>?_,?_⟩,?_⟩
 ·rcases hg k hk with h|h
  ·exact .inl (hM k h)
  ·exact .inr h
 ·refine⟨fun id x hx=>key _ (hr.own id x hx).lt (hP.box id x hx),fun k t b ht hb=>key _ ((hr.toks k t ht).1.lt hb) (hP.tok k t b ht hb),fun D hD=>key _ (hd.lt D (hd.mks D hD)) (hP.mks D hD),fun b o v hv=>key _ (hr.sub.lt hv) (hP.mem b o v hv)⟩
 ·rw[ut];exact hc
end
end Go.Eng
namespace Go.Eng
open Go Go.RowKit
section
variable {C:Ctx} {S:St} {m:Mem} {a:Act} {w w':World} {M M':Nat→Prop}
theorem Zth{a b:Nat}(h:Nat.blt a b=true):a < b:=by simpa[Nat.blt_eq]using h
theorem Zb8{w:World}{k l:Nat}{c T fr}{r:Loop}(h:w.heap[k]?=some (.cells c T fr))(hl:w.heap[l]?=some (.loop r)):k≠l:=fun e=>by subst e;rw[h]at hl;cases hl
theorem Zg4{w:World}{k l:Nat}{c T fr d}(h:w.heap[k]?=some (.cells c T fr))(hl:w.heap[l]?=some (.deferred d)):k≠l:=fun e=>by subst e;rw[h]at hl;cases hl
theorem Own.isCells{m:Mem}{w:World}{x:Box}(h:Own m w x):∃c T fr,w.heap[x.b]?=some (.cells c T fr):=by
 obtain⟨sp,fr,hh,_⟩:=h.cells
 exact⟨_,_,_,hh⟩
theorem TokOk.isCells{m:Mem}{w:World}{t:Tok}(h:TokOk m w t){b:Nat}(hb:t.blk=some b):∃c T fr,w.heap[b]?=some (.cells c T fr):=by
 rcases h with h|⟨b',o0,n,c,cur,T,fr,hv,_,hh,_⟩
 ·simp[Tok.blk,h]at hb
 ·simp[Tok.blk,hv]at hb;subst hb;exact⟨_,_,_,hh⟩
theorem Sub.isCells{m:Mem}{w:World}(h:Sub m w){b o:Nat}{v:Value}(hv:m b o=some v):∃c T fr,w.heap[b]?=some (.cells c T fr):=by
 have h1:=h b o v hv
 unfold World.cell? at h1
 split at h1
 ·rename_i c T fr hc;exact⟨c,T,fr,hc⟩
 ·cases h1
theorem Rel.intoRound{S0 S1:St}{a1:Act}{l:Nat}{r:Loop}{tm:Array Value}(hr:Rel C S0 m a1 w)(hd:Dom C S0 m a1 w M)(hl:M l)(hl':¬M' l)(hM:∀k,M' k→M k)(hP:Apart M' S0 m a1)(dU:w.heap[l]?=some (.loop r))
  (hL:S1.L=S0.L) (dT:S1.ids=S0.ids) (cE:S1.tok=S0.tok) (gW:S1.tkeys=S0.tkeys) (hg:S1.gh=S0.gh) (cK:tm.size=C.n) (dR:∀i sv,S1.env i=some sv→∃v,S1.den sv=some v∧tm[i]?=some v):
  Rel (Zus C (fun k=>M' k∨k=l∨ZiI k∈a1.defers) (fun k=>w.heap[k]?) w.heap.size) S1 m { tmps:=tm,defers:=[] } w:=by
 have hX:∀k,(∃c T fr,w.heap[k]?=some (.cells c T fr))→¬M' k→¬(M' k∨k=l∨ZiI k∈a1.defers):=by
  rintro k ⟨c,T,fr,hk⟩ hn (h|h|h)
  ·exact hn h
  ·exact Zb8 hk dU h
  ·exact Zg4 hk (hr.markAt h) rfl
 refine hr.swap rfl hr.le hL dT cE gW dR cK ⟨[],rfl,List.nodup_nil,by simp⟩ (fun _ _ _ _ _=>rfl) (fun k t b ht hb=>((hr.toks k t ht).2 b hb).2) ⟨fun k=>M k∧¬(M' k∨k=l∨ZiI k∈a1.defers),?_,fun k hk=>hd.lt k hk.1,fun id x hx=>?_,fun k t b ht hb=>?_,by simp,fun b o v hv=>?_⟩
 ·rw[hg]
  refine⟨M,hd.p,hd.lt,fun k hk=>hk.1,fun k hk=>⟨?_,fun h=>h.2 hk,rfl⟩,Nat.le_refl _⟩
  rcases hk with h|h|h
  ·exact hM k h
  ·exact h ▸ hl
  ·exact hd.mks k h
 ·rw[hL]at hx
  exact⟨hd.own id x hx,hX _ (hr.own id x hx).isCells (hP.box id x hx)⟩
 ·rw[cE]at ht
  exact⟨hd.tok k t b ht hb,hX _ ((hr.toks k t ht).1.isCells hb) (hP.tok k t b ht hb)⟩
 ·exact(hd.new b o v hv).imp_right fun h=>⟨h,hX _ (hr.sub.isCells hv) (hP.mem b o v hv)⟩
theorem Rel.beginRound{X:Nat→Prop}{h1:Nat→Option Obj}{B:Nat}{S1:St}{ar:Act}{l:Nat}{r r':Loop}(hr:Rel (Zus C X h1 B) S1 m ar w)(hl:X l)(dU:w.heap[l]?=some (.loop r)):
  Rel (Zus C X (fun k=>(w.putObj l (.loop r')).heap[k]?) B) S1 m ar (w.putObj l (.loop r')):=by
 have cJ:∀(k:Nat) c T fr,w.heap[k]?=some (Obj.cells c T fr)→(w.putObj l (.loop r')).heap[k]?=w.heap[k]?:=fun k c T fr hk=>World.putObj_heap_other (Zb8 hk dU)
 obtain⟨ms,q1,q2,q3⟩:=hr.defers
 refine hr.swap rfl hr.le rfl rfl rfl rfl hr.env hr.size ⟨ms,q1,q2,fun D hD=>?_⟩ cJ (fun k t b ht hb=>((hr.toks k t ht).2 b hb).2) ?_
 ·rw[World.putObj_heap_other (fun e=>by have:=q3 D hD;rw[e,dU]at this;cases this)];exact q3 D hD
 ·obtain⟨Mr,hd⟩:=hr.dom
  obtain⟨M,p1,p2,p3,p4,p5⟩:=hd.p
  refine⟨Mr,⟨M,C.st _ M M _ _ p1 (Zfx rfl (p4 l hl).1) (fun k hk=>.inl hk),fun k hk=>by rw[Zdb];exact p2 k hk,p3,fun k hk=>⟨(p4 k hk).1,(p4 k hk).2.1,rfl⟩,by rw[Zdb];exact p5⟩,fun k hk=>by rw[Zdb];exact hd.lt k hk,hd.own,hd.tok,hd.mks,hd.new⟩
theorem Rel.outOfRound{X:Nat→Prop}{h1:Nat→Option Obj}{B:Nat}{S' S2:St}{a3 a1:Act}{l:Nat}{r r':Loop}(hr:Rel (Zus C X h1 B) S' m a3 w)(hl:X l)(dU:w.heap[l]?=some (.loop r))
  (fT:∀b o v,C.m0 b o=some v→¬X b) (uu:∀D,ZiI D∈a1.defers→X D) (hX':∀k,M' k→X k) (uv:∀D,ZiI D∈a1.defers→¬M' D)
  (hL:S2.L=S'.L) (dT:S2.ids=S'.ids) (cE:S2.tok=S'.tok) (gW:S2.tkeys=S'.tkeys) (hg:S2.gh=S'.gh) (cK:a1.tmps.size=C.n) (dR:∀i sv,S2.env i=some sv→∃v,S2.den sv=some v∧a1.tmps[i]?=some v)
  (iW:∃ms:List Nat,a1.defers=ms.map ZiI∧ms.Nodup∧∀D∈ms,w.heap[D]?=some (.deferred (some []))):
  Rel C S2 m a1 (w.putObj l (.loop r'))∧∃M,Dom C S2 m a1 (w.putObj l (.loop r')) M∧M l∧(∀k,M' k→M k)∧Apart M' S2 m a1:=by
 have cJ:∀(k:Nat) c T fr,w.heap[k]?=some (Obj.cells c T fr)→(w.putObj l (.loop r')).heap[k]?=w.heap[k]?:=fun k c T fr hk=>World.putObj_heap_other (Zb8 hk dU)
 obtain⟨ms,q1,q2,q3⟩:=iW
 obtain⟨Mr,hd⟩:=hr.dom
 obtain⟨M,p1,p2,p3,p4,p5⟩:=hd.p
 have hD:Dom C S2 m a1 (w.putObj l (.loop r')) M:=by
  refine⟨hg ▸ C.st _ M M _ _ p1 (Zfx rfl (p4 l hl).1) (fun k hk=>.inl hk),fun k hk=>by rw[Zdb];exact p2 k hk,fun id x hx=>p3 _ (hd.own id x (hL ▸ hx)),fun k t b ht hb=>p3 _ (hd.tok k t b (cE ▸ ht) hb),fun D hD=>(p4 D (uu D hD)).1,fun b o v hv=>(hd.new b o v hv).imp_right (p3 b)⟩
 refine⟨hr.swap rfl hr.le hL dT cE gW dR cK ⟨ms,q1,q2,fun D hD=>?_⟩ cJ (fun k t b ht hb=>((hr.toks k t ht).2 b hb).2) ⟨M,hD⟩,?_⟩
 ·rw[World.putObj_heap_other (fun e=>by have:=q3 D hD;rw[e,dU]at this;cases this)];exact q3 D hD
 ·refine⟨M,hD,(p4 l hl).1,fun k hk=>(p4 k (hX' k hk)).1,?_⟩
  refine⟨fun id x hx h=>(p4 _ (hX' _ h)).2.1 (hd.own id x (hL ▸ hx)),fun k t b ht hb h=>(p4 _ (hX' _ h)).2.1 (hd.tok k t b (cE ▸ ht) hb),uv,fun b o v hv h=>?_⟩
  rcases hd.new b o v hv with h2|h2
  ·exact fT b o v h2 (hX' b h)
  ·exact(p4 b (hX' b h)).2.1 h2
theorem Rel.atX{X:Nat→Prop}{h1:Nat→Option Obj}{B:Nat}{S':St}{a3:Act}(hr:Rel (Zus C X h1 B) S' m a3 w):B≤w.heap.size∧∀k,X k→w.heap[k]?=h1 k:=by
 obtain⟨Mr,hd⟩:=hr.dom
 obtain⟨M,p1,p2,p3,p4,p5⟩:=hd.p
 exact⟨p5,fun k hk=>(p4 k hk).2.2⟩
theorem Zlx{th:Bool}{E:Env}{A:LoopAnn}{I:List Value→List (List Value)→List Value→Mem→Nat→Prop}{K:KT}{a1:Act}{l:Nat}{fn:FuncId}{ps:Array Tmp}{x y:Code}{D:Nat}{Tx Ty:KT→St→Mem→Prop}{xs:List (List Value)}
  (qK:Zqo E Tx x) (qL:Zqo E Ty y) (qM:∀{K:KT} {S:St} {m:Mem},Tx K S m→Tx (fun e S' m'=>K e S' m'∧leT th m m') S m) (qN:∀{K:KT} {S:St} {m:Mem},Ty K S m→Ty (fun e S' m'=>K e S' m'∧leT th m m') S m) (pJ:YOk E C) (qO:Zbx C.n x=true) (qP:Zbx C.n y=true) (qQ:ps.toList.all (Nat.blt · C.n)=true) (hS:StOk S) (cK:a1.tmps.size=C.n) (dR:∀i sv,S.env i=some sv→∃v,S.den sv=some v∧a1.tmps[i]?=some v)
  (uw:Zlu ps.toList (A.slots.map (·.1))=true) (kh:Za5 ps.toList=true) (eG:∀v∈xs,Shape.fitsL (A.slots.map (·.2)) v=true)
  (hb:Zur A.gh S.gh fun y=>Shape.allL (A.slots.map (·.2)) fun x=>Zmx A.boxes fun css=>Zmy A.toks fun tvs=>∀(m':Mem)(n:Nat),m.le m'→xs[n]?=some x→I (ghs A.gh y []) css tvs m' n→
     Tx (fun e S1 m1=>match e with
      | .normal=>Ty (fun e S' m''=>Zvt th m m'' (Zkz A.gh S'.gh S.gh (ZlZ (ZbT S' A S.ids) (ZbT S A S.ids) (Zl0 (Za4 S' A S.tkeys) (Za4 S A S.tkeys) (ZrE S' A.boxes fun css'=>Zfu S' A.toks fun tvs'=>match e with
       | .normal=>I (ghs A.gh S'.gh []) css' tvs' m'' (n+1)
       | e=>Zmz K e (ZbN S [] { A with slots:=[] } S'.gh [] css' tvs') m''))))) S1 m1
      | _=>False) (ZbN S [] A y x css tvs) m'):
  Zku E.P m (Zqp C S m A I K a1 l (ZgF fn a1.tmps ps x y D)) (fun l' g v=>l'=l∧0≤g∧xs[g.toNat]?=some v):=by
 rintro F n l' k v M' w hF bV ⟨rfl,wi,tp⟩ ⟨g,css,tvs,m',h1,h2,h3,h4,h5,hr,⟨M,hd,hl,hl',hM,hP⟩,hc⟩ dM
 rcases hc with⟨_,hI,dU⟩|⟨jl,_⟩
 rotate_left
 ·omega
 have kH:=ZiT uw
 have qR:=eG v (List.mem_of_getElem? tp)
 have jk:v.length=ps.toList.length:=by rw[kH,ZeS qR];simp
 have dY:=ZaH kh
 have hy:=run_yield (P:=E.P) (args:=v.toArray) dU (by simpa[ZgF]using jk)
 simp only[ZgF]at hy
 refine⟨_,_,_,_,hy,roundIn_of_wpIn (hF.fn _) ?_⟩
 have nI:((ps.zip v.toArray).foldl (fun tmps (x:Tmp×Value)=>tmps.setIfInBounds x.1 x.2) a1.tmps)=((ps.toList.zip v).foldl (fun(t:Array Value)(x:Nat×Value)=>t.setIfInBounds x.1 x.2) a1.tmps):=by
  rw[←Array.foldl_toList,Array.toList_zip]
 obtain⟨f1,f2,f3⟩:=ZiS ps.toList v a1.tmps jk dY
 have qS:=hF.inRound l'
 have dS:=hr.intoRound (S1:=ZbN S [] A g v css tvs) (tm:=(ps.toList.zip v).foldl (fun(t:Array Value)(x:Nat×Value)=>t.setIfInBounds x.1 x.2) a1.tmps) hd hl hl' hM hP dU rfl rfl rfl rfl rfl (by rw[f1];exact cK) (by
  intro i sv he
  simp only[ZbN]at he
  rcases ZiR (by rw[ZeS qR];simp) he with⟨g1,g2⟩|⟨q,sh,u,g1,g2,g3⟩
  ·simp only[List.any_nil,cond_false]at g1
   obtain⟨u,g3,g4⟩:=dR i sv g1
   exact⟨u,ZmJ g3,by rw[f2 i (by rw[kH];exact g2)];exact g4⟩
  ·subst g3
   refine⟨u,rfl,f3 q i u ?_ g2 ?_⟩
   ·rw[kH,List.getElem?_map,g1];rfl
   ·have:i∈ps.toList:=by rw[kH];exact List.mem_map.2 ⟨_,List.mem_of_getElem? g1,rfl⟩
    have:=List.all_eq_true.1 qQ i this
    rw[cK];exact Zth this)
 rw[nI]
 have ux:∀b o v,C.m0 b o=some v→¬(M' b∨b=l'∨ZiI b∈a1.defers):=by
  intro b o v hv
  have hv':m' b o=some v:=hr.le b o v hv
  obtain⟨c,T,fr,hc⟩:=hr.sub.isCells hv'
  rintro(h|h|h)
  ·exact hP.mem b o v hv' h
  ·exact Zb8 hc dU h
  ·exact Zg4 hc (hr.markAt h) rfl
 have eI:=Zd9 (Zd8 (Shape.allL_fits _ _ (ZgX hb h4) v qR) css h1) tvs h2 h3 m' k.toNat h5 tp hI
 refine qK qS (Zpe pJ) ?_ n qO dS (qM eI) ?_
 ·intro l2 lj g2 Mr w2 hp
  have:l2=l':=by simpa using lj.symm
  subst this
  obtain⟨M2,_,_,_,p4,_⟩:=hp
  exact⟨_,by rw[(p4 l2 (.inr (.inl rfl))).2.2];exact dU⟩
 rintro e S1 m1 a2 w1 ⟨hk,jR⟩ gw
 cases e with
 | normal=>
  obtain⟨z1,z2⟩:=gw.atX
  have jS:w1.heap[l']?=some (.loop (ZgF fn a1.tmps ps x y D .ready none)):=by rw[z2 l' (.inr (.inl rfl))];exact dU
  refine⟨_,run_beginRound jS rfl,?_⟩
  have lZ:=gw.beginRound (r':={ ZgF fn a1.tmps ps x y D .ready none with state:=.busy }) (.inr (.inl rfl)) jS
  have pK:l' < w1.heap.size:=(Array.getElem?_eq_some_iff.1 jS).1
  have dQ:(w1.putObj l' (.loop { ZgF fn a1.tmps ps x y D .ready none with state:=.busy })).heap[l']?=some (.loop { ZgF fn a1.tmps ps x y D .ready none with state:=.busy }):=World.putObj_heap_same pK
  refine qL qS (Zpe pJ) ?_ n qP lZ (qN hk) ?_
  ·intro l2 lj g2 Mr w2 hp
   have:l2=l':=by simpa using lj.symm
   subst this
   obtain⟨M2,_,_,_,p4,_⟩:=hp
   exact⟨_,by rw[(p4 l2 (.inr (.inl rfl))).2.2];exact dQ⟩
  rintro e S' m'' a3 w3 ⟨hk,l4⟩ kj
  obtain⟨q0,hk⟩:=Zqh hk
  obtain⟨q1,hk⟩:=Zd5 hk
  obtain⟨q2,hk⟩:=ZcV.1 hk
  obtain⟨q3,hk⟩:=ZcW.1 hk
  obtain⟨css',g1,g2,hk⟩:=Zda hk
  obtain⟨tvs',k1,k2,hk⟩:=Zb2 hk
  obtain⟨y1,y2⟩:=kj.atX
  have jd:w3.heap[l']?=some (.loop { ZgF fn a1.tmps ps x y D .ready none with state:=.busy }):=by rw[y2 l' (.inr (.inl rfl))];exact dQ
  have mV:m.le m'':=by
   cases th with
   | true=>exact q0 rfl
   | false=>exact Mem.le_trans h5 (Mem.le_trans jR l4)
  have hx:Rel (Zus C (fun k=>M' k∨k=l'∨ZiI k∈a1.defers) (fun k=>(w1.putObj l' (.loop { ZgF fn a1.tmps ps x y D .ready none with state:=.busy })).heap[k]?) w.heap.size) (ZbN { S with env:=fun _=>none } [] { A with slots:=[] } S'.gh [] css' tvs') m'' a3 w3:=by
   have hh:Rel (Zus C (fun k=>M' k∨k=l'∨ZiI k∈a1.defers) (fun k=>(w1.putObj l' (.loop { ZgF fn a1.tmps ps x y D .ready none with state:=.busy })).heap[k]?) w.heap.size) { S' with env:=fun _=>none } m'' a3 w3:=
    kj.restrict rfl (fun _ _ h=>h) (fun _ _ h=>.inl h) (fun i sv h=>(by cases h)) kj.ids kj.tkeys
   exact Zem (S:={ S with env:=fun _=>none }) (S':={ S' with env:=fun _=>none }) (A:={ A with slots:=[] }) ⟨fun i sv h=>(by cases h),hS.ids,hS.tkeys⟩ hh (fun _ _=>rfl) q2 q3 (by simp) g1 g2 k1 k2
  have iW:∃ms:List Nat,a1.defers=ms.map ZiI∧ms.Nodup∧∀D∈ms,w3.heap[D]?=some (.deferred (some [])):=by
   obtain⟨ms,r1,r2,r3⟩:=hr.defers
   refine⟨ms,r1,r2,fun D' hD'=>?_⟩
   have hm:ZiI D'∈a1.defers:=by rw[r1];exact List.mem_map.2 ⟨_,hD',rfl⟩
   rw[y2 D' (.inr (.inr hm)),World.putObj_heap_other (fun e=>by have:=r3 D' hD';rw[e,dU]at this;cases this),z2 D' (.inr (.inr hm))];exact r3 D' hD'
  have fY:=fun(r':Loop)=>hx.outOfRound (S2:=ZbN S [] { A with slots:=[] } S'.gh [] css' tvs') (a1:=a1) (M':=M') (r':=r') (.inr (.inl rfl)) jd ux (fun D' hD'=>.inr (.inr hD')) (fun k hk=>.inl hk) hP.mks rfl rfl rfl rfl rfl cK (by
   intro i sv he
   simp only[ZbN,ZbJ,List.any_nil,cond_false]at he
   obtain⟨u,g3,g4⟩:=dR i sv he
   exact⟨u,ZmJ g3,g4⟩) iW
  have tq:l' < w3.heap.size:=(Array.getElem?_eq_some_iff.1 jd).1
  have nJ:∀r',Frn m M' w (w3.putObj l' (.loop r')):=fun r'=>by
   refine⟨by rw[Zdb];exact y1,fun k hk qT=>?_,fun b o v hv=>?_⟩
   ·have cJ:k≠l':=fun e=>hl' (e ▸ qT)
    rw[World.putObj_heap_other cJ,y2 k (.inl qT),World.putObj_heap_other cJ,z2 k (.inl qT)]
   ·have:=(fY r').1.sub b o v (mV b o v hv)
    exact this
  have dP:Zpf tvs':=by
   intro u hu
   obtain⟨i,hi⟩:=List.getElem?_of_mem hu
   have bV:=(List.getElem?_eq_some_iff.1 hi).1
   obtain⟨qe,jT⟩:∃qe,A.toks[i]?=some qe:=⟨_,List.getElem?_eq_getElem (by omega)⟩
   exact(k2 i qe.1 qe.2 u jT hi).1
  have fin:∀(c:Code) ,Ztg K c (ZbN S [] { A with slots:=[] } S'.gh [] css' tvs') m''→∃v w',(Instr.endRound l' (some c)).run E.P w3=.ok v w'∧∃b,Ending.returned v=Ending.returned (.bool b)∧Zqp C S m A I K a1 l' (ZgF fn a1.tmps ps x y D) (if b then k+1 else -1) M' w'∧Frn m M' w w':=by
   intro c hc
   refine⟨_,_,run_endRound (some c) jd,false,rfl,?_,nJ _⟩
   obtain⟨o1,M3,o2,o3,o4,o5⟩:=fY (ZgF fn a1.tmps ps x y D .done (some c))
   exact⟨S'.gh,css',tvs',m'',g1,k1,dP,q1,mV,o1,⟨M3,o2,o3,hl',o4,o5⟩,.inr ⟨rfl,c,World.putObj_heap_same tq,hc⟩⟩
  cases e with
  | normal=>
   refine⟨_,_,run_endRound none jd,true,rfl,?_,nJ _⟩
   obtain⟨o1,M3,o2,o3,o4,o5⟩:=fY (ZgF fn a1.tmps ps x y D .ready none)
   refine⟨S'.gh,css',tvs',m'',g1,k1,dP,q1,mV,o1,⟨M3,o2,o3,hl',o4,o5⟩,.inl ⟨by simp;omega,?_,World.putObj_heap_same tq⟩⟩
   have:(k+1).toNat=k.toNat+1:=by omega
   simp only[if_true,this]
   exact hk
  | ret=>exact fin _ hk
  | exit id=>exact fin _ hk
  | goto t=>exact fin _ hk
  | panic ch=>exact hk.elim
  | outgrown=>exact hk.elim
 | exit id=>exact hk.elim
 | goto t=>exact hk.elim
 | ret=>exact hk.elim
 | panic ch=>exact hk.elim
 | outgrown=>exact hk.elim
end
end Go.Eng
namespace Go.Eng
open Go Go.RowKit
section
variable {C:Ctx} {S:St} {m:Mem} {a:Act} {w w':World}
theorem Rel.afterRange{S2:St}{a1:Act}{l:Nat}{r r':Loop}{M:Nat→Prop}(hr:Rel C S2 m a1 w)(hd:Dom C S2 m a1 w M)(hl:M l)(dU:w.heap[l]?=some (.loop r)):Rel C S2 m a1 (w.putObj l (.loop r')):=by
 obtain⟨ms,q1,q2,q3⟩:=hr.defers
 refine hr.swap rfl hr.le rfl rfl rfl rfl hr.env hr.size ⟨ms,q1,q2,fun D hD=>?_⟩ (fun k c T fr hk=>World.putObj_heap_other (Zb8 hk dU)) (fun k t b ht hb=>((hr.toks k t ht).2 b hb).2) ⟨_,hd.step (Zfx rfl hl) (fun b o v hv=>.inl hv)⟩
 rw[World.putObj_heap_other (fun e=>by have:=q3 D hD;rw[e,dU]at this;cases this)];exact q3 D hD
theorem ZmK{th:Bool}{E:Env}{F:Fence}(hF:FOk F)(pJ:YOk E C)(hR:ROk F C)(n:Nat){A:LoopAnn}{f:Operand}{ps:Array Tmp}{x y:Code}{Tx Ty:KT→St→Mem→Prop}
  (qK:Zqo E Tx x) (qL:Zqo E Ty y) (qM:∀{K:KT} {S:St} {m:Mem},Tx K S m→Tx (fun e S' m'=>K e S' m'∧leT th m m') S m) (qN:∀{K:KT} {S:St} {m:Mem},Ty K S m→Ty (fun e S' m'=>K e S' m'∧leT th m m') S m)
  (qO:Zbx C.n x=true) (qP:Zbx C.n y=true) (qQ:ps.toList.all (Nat.blt · C.n)=true)
  {K:KT} {Q:Exit→Act→World→Prop} (hr:Rel C S m a w) (h:ZmA th E.P A f ps.toList Tx Ty K S m) (hK:∀e S' m' a' w',K e S' m'→Rel C S' m' a' w'→Q e a' w'):(Code.rangeFunc f ps x y).wpIn F n E.P Q a w:=by
 unfold ZmA at h
 split at h
 rotate_left
 ·exact h.elim
 rename_i g first captured jF
 obtain⟨hc,mV⟩:=Zaf h
 obtain⟨mi,jU,lh,xs,pL,eG,I,h0,hb,jV⟩:=Zqg mV
 simp only[Bool.and_eq_true]at hc
 obtain⟨v,e1,_,e2⟩:=hr.ev_val jF
 simp only[St.den,Option.some.injEq]at e1
 refine wpIn_rangeFunc fun fn f9=>?_
 obtain⟨l,mk,w1,D,lY,dS,⟨M1,kg,pK⟩,dU⟩:=hr.enter (P:=E.P) hR fn ps x y
 obtain⟨a1,l5⟩:∃a1,a1=({ a with defers:=mk++a.defers }:Act):=⟨_,rfl⟩
 rw[←l5]at dS kg
 have gf:a1.tmps=a.tmps:=by rw[l5]
 have nK:w1.heap[l]?=some (.loop (ZgF fn a1.tmps ps x y D .ready none)):=by rw[gf];exact dU
 refine⟨l,mk,w1,{ target:=.fn (.func g) captured,args:=first++#[.func (.yield l) #[] #[]] },w1,g,(first.toList++.func (.yield l) #[] #[]::captured.toList).toArray,w1,lY,?_,fun f' _=>hF.fn f',?_,fun hs=>by rw[hF.depth]at hs;simp at hs,?_⟩
 ·simp only[resolve,e2,←e1,Deferred.ofValue]
  simp[go_sem]
 ·have iL:first++#[Value.func (.yield l) #[] #[]]++captured=(first.toList++Value.func (.yield l) #[] #[]::captured.toList).toArray:=Array.ext' (by simp)
  simp only[invoke,iL]
  exact pL.1 _ _
 ·obtain⟨css,g1,g2,h0⟩:=Zda h0
  obtain⟨tvs,k1,k2,hI⟩:=Zb2 h0
  have dP:Zpf tvs:=by
   intro u hu
   obtain⟨i,hi⟩:=List.getElem?_of_mem hu
   have bV:=(List.getElem?_eq_some_iff.1 hi).1
   obtain⟨qe,jT⟩:∃qe,A.toks[i]?=some qe:=⟨_,List.getElem?_eq_getElem (by omega)⟩
   exact(k2 i qe.1 qe.2 u jT hi).1
  have qU:Rel C (ZbN S [] { A with slots:=[] } S.gh [] css tvs) m a1 w1:=Zem dS.ok dS (SameOut.refl _ _) rfl rfl (by simp) g1 g2 k1 k2
  have qV:Zqp C S mi A I K a1 l (ZgF fn a1.tmps ps x y D) 0 (fun _=>False) w1:=by
   refine⟨S.gh,css,tvs,m,g1,k1,dP,fun _=>rfl,jU,qU,?_,.inl ⟨Int.le_refl _,hI,nK⟩⟩
   have qJ:Dom C (ZbN S [] { A with slots:=[] } S.gh [] css tvs) m a1 w1 M1:=by
    refine⟨kg.p,kg.lt,fun id y hy=>?_,fun k t b ht hb=>?_,kg.mks,kg.new⟩
    ·simp only[ZbN]at hy
     rcases Zfw hy with⟨i,x',cs,q1,q2,q3,q4⟩|⟨q1,q2⟩
     ·rw[q4];exact kg.own id x' q3
     ·exact kg.own id y q2
    ·simp only[ZbN]at ht
     rcases Zdw ht with⟨i,e,u,q1,q2,q3⟩|⟨q1,q2⟩
     ·obtain⟨_,q5⟩:=k2 i k e u q1 q2
      subst q3
      rcases q5 with q5|q5
      ·exact kg.tok k _ b q5 hb
      ·simp[Tok.blk,q5]at hb
     ·exact kg.tok k t b q2 hb
   exact⟨M1,qJ,pK,fun h=>h,fun _ h=>h.elim,⟨fun _ _ _ h=>h,fun _ _ _ _ _ h=>h,fun _ _ h=>h,fun _ _ _ _ h=>h⟩⟩
  have dR:∀i sv,S.env i=some sv→∃v,S.den sv=some v∧a1.tmps[i]?=some v:=fun i sv he=>dS.env i sv he
  have l6:=Zlx (th:=th) (E:=E) (S:=S) (m:=mi) (K:=K) (l:=l) (fn:=fn) (D:=D) qK qL qM qN pJ qO qP qQ hr.ok dS.size dR hc.1 hc.2 eG hb
  refine hF.calls ((pL.2 _ Zlw l w1 (fun b o v hv=>dS.sub b o v (jU b o v hv)) qV l6).mono ?_)
  rintro e w2 ⟨v,M2,rfl,bV,fZ⟩
  rw[←l5]
  rcases fZ with fZ|fZ
  all_goals obtain⟨gg,css2,tvs2,m2,y1,y2,y3,y4,y5,y6,⟨M3,y7,y8,y9,y10,y11⟩,y12⟩:=fZ
  ·rcases y12 with⟨_,uy,iM⟩|⟨hk,_⟩
   ·refine⟨none,_,run_endLoop iM (by simp[ZgF]),?_⟩
    have:=Zd9 (Zd8 (ZgX jV y4) css2 y1) tvs2 y2 y3 m2 y5 (by simpa using uy)
    exact hK _ _ _ _ _ this (y6.afterRange y7 y8 iM)
   ·omega
  ·rcases y12 with⟨hk,_⟩|⟨_,c,iM,je⟩
   ·omega
   ·refine⟨some c,_,run_endLoop iM (by simp[ZgF]),?_⟩
    have hR:=fun r'=>y6.afterRange (r':=r') y7 y8 iM
    cases c with
    | ret=>exact wpIn_ret (hK _ _ _ _ _ je (hR _))
    | exit id=>exact wpIn_exit (hK _ _ _ _ _ je (hR _))
    | goto t=>exact wpIn_goto (hK _ _ _ _ _ je (hR _))
    | _=>exact je.elim
end
end Go.Eng
