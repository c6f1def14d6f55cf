/- The engine: a reckoner over the code of a program in Lean, with its soundness; it names no program. No condition. -/
import Derived.Test.YthiefodednaikaaMa
import Derived.RangeFuncNested
import Derived.RangeFuncLeaves
set_option linter.unusedVariables false
set_option linter.unusedSimpArgs false
namespace Go.Eng
open Go Go.RowKit
theorem Zce{n:Int}(h0 : -9223372036854775808≤n)(h1:n≤9223372036854775807):IntKind.i64.wrap n=n:=by
 simp only[IntKind.wrap,IntKind.bits,IntKind.signed,Bool.true_and]
 split
 ·rename_i h;simp at h;omega
 ·rename_i h;simp at h;omega
def ZtI(E:Env)(S:St)(T:TypeId)(l c:Operand)(d:Option Tmp)(K:St→Prop):Prop:=match d with
 | none=>False
 | some d=>match ZaB E T with
  | none=>False
  | some (e,j)=>match S.L d with
   | some _=>False
   | none=>wv S l fun vl=>wv S c fun vc=>chk (ZbN vl&&ZbN vc) ((0≤intOf vl∧intOf vl≤intOf vc∧intOf vc*j.bytes≤281474976710656∧intOf vc≤9223372036854775807)∧
     ∀b,K ((S.newL d { b:=b,cs:=(List.replicate (intOf vc).toNat j.zero.cells.toList).flatten,T:=e,cap:=(intOf vc).toNat*j.size,fz:=false,full:=true }).put (some d) (some (.sl d (intOf vl).toNat (intOf vc).toNat))))
def Zqx(E:Env)(S:St)(m:Mem)(T:TypeId)(l c:Operand)(d:Option Tmp)(K:St→Mem→Prop):Prop:=match d with
 | none=>False
 | some d=>match ZaB E T with
  | none=>False
  | some (e,j)=>wv S l fun vl=>wv S c fun vc=>chk (ZbN vl&&ZbN vc) ((0≤intOf vl∧intOf vl≤intOf vc∧intOf vc*j.bytes≤281474976710656∧intOf vc≤9223372036854775807)∧
     ∀b,m.free b→K (S.put (some d) (some (.v (.slice (some ⟨b,0,none⟩) (intOf vl).toNat (intOf vc).toNat)))) (m.add b (List.replicate (intOf vc).toNat j.zero.cells.toList).flatten))
def ZrW(E:Env)(d:Option Tmp):Bool:=match d with
 | none=>false
 | some d=>E.mkM d
theorem ZjL(zs:List Value):∀(c:Nat),(List.range (c*zs.length)).map (fun i=>zs.toArray[i % zs.toArray.size]!)=(List.replicate c zs).flatten
 | 0=>by simp
 | c+1=>by
  rw[Nat.add_mul,Nat.one_mul,List.replicate_succ',List.flatten_append,←ZjL zs c,List.range_add,List.map_append]
  congr 1
  simp only[List.flatten_cons,List.flatten_nil,List.append_nil,List.map_map]
  refine List.ext_getElem (by simp) fun i h1 h2=>?_
  simp only[List.length_map,List.length_range]at h1
  simp only[List.getElem_map,List.getElem_range,Function.comp,List.size_toArray]
  rw[Nat.mul_comm,Nat.mul_add_mod,Nat.mod_eq_of_lt h1]
  simp[h1]
section
variable {C:Ctx} {S:St} {m:Mem} {a:Act} {w:World}
theorem ZmQ{E:Env}(hE:E.ok){T:TypeId}{l c:Operand}{d:Option Tmp}{K:St→Prop}(hd:∀t,d=some t→t < C.n)(hr:Rel C S m a w)(h:ZtI E S T l c d K):
  ∃S' v w',K S'∧Rel C S' m (a.put d v) w'∧(Instr.makeSlice T (a.eval l) (a.eval c)).run E.P w=.ok v w':=by
 unfold ZtI at h
 cases d with
 | none=>exact h.elim
 | some d=>
  simp only at h
  cases hs:ZaB E T with
  | none=>simp[hs]at h
  | some ej=>
   obtain⟨e,j⟩:=ej
   simp only[hs]at h
   cases hL:S.L d with
   | some x=>simp[hL]at h
   | none=>
    simp only[hL]at h
    obtain⟨vl,gJ,h⟩:=ZaC h
    obtain⟨vc,kr,h⟩:=ZaC h
    obtain⟨h1,⟨h2,h3,h4,h5⟩,hk⟩:=Zae h
    simp only[Bool.and_eq_true]at h1
    obtain⟨kl,jq⟩:=ZaV h1.1
    obtain⟨kc,k8⟩:=ZaV h1.2
    generalize pV:intOf vl=nl at *
    generalize gD:intOf vc=nc at *
    obtain⟨i,eQ,gA,iI⟩:=ZaJ hs
    have cX:=hE e j iI
    have hu:=(hE T i eQ).run_und (w:=w)
    rw[gA]at hu
    have bT:=cX.run_size (w:=w)
    have hz:=cX.run_zero (w:=w)
    obtain⟨x,g1,_,_,g4⟩:=cX.run_info (w:=w)
    have gE:j.zero.cells.toList.length=j.size:=by simpa using cX.zsize
    have bQ:((List.replicate nc.toNat j.zero.cells.toList).flatten).length=nc.toNat*j.size:=by simp[cX.zsize]
    have hb:=hr.newBox (d:=d) hL (x:={ b:=w.heap.size,cs:=(List.replicate nc.toNat j.zero.cells.toList).flatten,T:=e,cap:=nc.toNat*j.size,fz:=false,full:=true }) (m':=m) [] rfl (by simpa using bQ) (fun _=>bQ) (.inl ⟨rfl,rfl⟩)
    simp only[List.append_nil]at hb
    refine⟨_,.slice (some ⟨w.heap.size,0,none⟩) nl.toNat nc.toNat,_,hk w.heap.size,hb.put (some d) hd (by simp[St.den,St.newL]),?_⟩
    rw[hr.ev gJ,hr.ev kr,jq,k8]
    have w1:IntKind.i64.wrap nl=nl:=Zce (by omega) (by omega)
    have w2:IntKind.i64.wrap nc=nc:=Zce (by omega) (by omega)
    have nI:0≤nc:=by omega
    have c1:¬(nc < 0):=by omega
    have c2:¬(nl < 0):=by omega
    have c3:¬(nc < nl):=by omega
    have c4:¬(281474976710656 < (x.bytes:Int)*nc):=by rw[g4,Int.mul_comm];omega
    have cZ:(Array.map (fun i=>(if nc.toNat*j.size=0 then(#[]:Array Value)else j.zero.cells)[i % (if nc.toNat*j.size=0 then(#[]:Array Value)else j.zero.cells).size]!) (Array.range (nc.toNat*j.size)))=(List.replicate nc.toNat j.zero.cells.toList).flatten.toArray:=by
     have:=ZjL j.zero.cells.toList nc.toNat
     rw[gE]at this
     apply Array.ext'
     by_cases h0:nc.toNat*j.size=0
     ·have iL:(List.replicate nc.toNat j.zero.cells.toList).flatten=[]:=List.eq_nil_of_length_eq_zero (by rw[bQ,h0])
      simp[h0,iL]
     ·simp only[h0,if_false,Array.toList_map,Array.toList_range]
      rw[←this]
    by_cases h0:nc.toNat*j.size=0
    ·simp only[h0,if_true]at cZ
     simp[Instr.makeSlice,hu,asInt,asIntOf,g1,w1,w2,c1,c2,c3,c4,bT,h0,newRow,←cZ]
    ·simp only[h0,if_false]at cZ
     simp[Instr.makeSlice,hu,asInt,asIntOf,g1,w1,w2,c1,c2,c3,c4,bT,h0,hz,newRow,←cZ]
theorem ZlI{E:Env}(hE:E.ok){T:TypeId}{l c:Operand}{d:Option Tmp}{K:St→Mem→Prop}(hd:∀t,d=some t→t < C.n)(hr:Rel C S m a w)(h:Zqx E S m T l c d K):
  ∃S' m' v w',K S' m'∧Rel C S' m' (a.put d v) w'∧(Instr.makeSlice T (a.eval l) (a.eval c)).run E.P w=.ok v w':=by
 unfold Zqx at h
 cases d with
 | none=>exact h.elim
 | some d=>
  simp only at h
  cases hs:ZaB E T with
  | none=>simp[hs]at h
  | some ej=>
   obtain⟨e,j⟩:=ej
   simp only[hs]at h
   obtain⟨vl,gJ,h⟩:=ZaC h
   obtain⟨vc,kr,h⟩:=ZaC h
   obtain⟨h1,⟨h2,h3,h4,h5⟩,hk⟩:=Zae h
   simp only[Bool.and_eq_true]at h1
   obtain⟨kl,jq⟩:=ZaV h1.1
   obtain⟨kc,k8⟩:=ZaV h1.2
   generalize pV:intOf vl=nl at *
   generalize gD:intOf vc=nc at *
   obtain⟨i,eQ,gA,iI⟩:=ZaJ hs
   have cX:=hE e j iI
   have hu:=(hE T i eQ).run_und (w:=w)
   rw[gA]at hu
   have bT:=cX.run_size (w:=w)
   have hz:=cX.run_zero (w:=w)
   obtain⟨x,g1,_,_,g4⟩:=cX.run_info (w:=w)
   have gE:j.zero.cells.toList.length=j.size:=by simpa using cX.zsize
   have bQ:((List.replicate nc.toNat j.zero.cells.toList).flatten).length=nc.toNat*j.size:=by simp[cX.zsize]
   have dE:∀o,m w.heap.size o=none:=fun o=>by
    cases he:m w.heap.size o with
    | none=>rfl
    | some u=>have:=hr.sub.lt he;omega
   have cC:Sub (m.add w.heap.size (List.replicate nc.toNat j.zero.cells.toList).flatten) (w.alloc (.cells ((List.replicate nc.toNat j.zero.cells.toList).flatten).toArray e (0,0))):=fun b o v hv=>by
    by_cases hb:b=w.heap.size
    ·subst hb
     rw[Mem.add_same]at hv
     have:(w.alloc (.cells ((List.replicate nc.toNat j.zero.cells.toList).flatten).toArray e (0,0))).heap[w.heap.size]?=some (.cells ((List.replicate nc.toNat j.zero.cells.toList).flatten).toArray e (0,0)):=by show(w.heap.push _)[w.heap.size]?=_;simp
     simp only[World.cell?,this]
     simpa using hv
    ·rw[Mem.add_other _ hb]at hv
     rw[Zbi (w:=w) (Below.heap_alloc w _ b (hr.sub.lt hv))];exact hr.sub _ _ _ hv
   have kq:=hr.world (m':=m.add w.heap.size (List.replicate nc.toNat j.zero.cells.toList).flatten) (Keep.alloc (Nat.le_refl _) (ZjB _ _)) cC (Mem.le_add dE _) (fun b o v hv=>by
    by_cases hb:b=w.heap.size
    ·exact .inr (by omega)
    ·rw[Mem.add_other _ hb]at hv;exact .inl hv)
   refine⟨_,_,.slice (some ⟨w.heap.size,0,none⟩) nl.toNat nc.toNat,_,hk w.heap.size dE,kq.put (some d) hd rfl,?_⟩
   rw[hr.ev gJ,hr.ev kr,jq,k8]
   have w1:IntKind.i64.wrap nl=nl:=Zce (by omega) (by omega)
   have w2:IntKind.i64.wrap nc=nc:=Zce (by omega) (by omega)
   have nI:0≤nc:=by omega
   have c1:¬(nc < 0):=by omega
   have c2:¬(nl < 0):=by omega
   have c3:¬(nc < nl):=by omega
   have c4:¬(281474976710656 < (x.bytes:Int)*nc):=by rw[g4,Int.mul_comm];omega
   have cZ:(Array.map (fun i=>(if nc.toNat*j.size=0 then(#[]:Array Value)else j.zero.cells)[i % (if nc.toNat*j.size=0 then(#[]:Array Value)else j.zero.cells).size]!) (Array.range (nc.toNat*j.size)))=(List.replicate nc.toNat j.zero.cells.toList).flatten.toArray:=by
    have:=ZjL j.zero.cells.toList nc.toNat
    rw[gE]at this
    apply Array.ext'
    by_cases h0:nc.toNat*j.size=0
    ·have iL:(List.replicate nc.toNat j.zero.cells.toList).flatten=[]:=List.eq_nil_of_length_eq_zero (by rw[bQ,h0])
     simp[h0,iL]
    ·simp only[h0,if_false,Array.toList_map,Array.toList_range]
     rw[←this]
   by_cases h0:nc.toNat*j.size=0
   ·simp only[h0,if_true]at cZ
    simp[Instr.makeSlice,hu,asInt,asIntOf,g1,w1,w2,c1,c2,c3,c4,bT,h0,newRow,←cZ]
   ·simp only[h0,if_false]at cZ
    simp[Instr.makeSlice,hu,asInt,asIntOf,g1,w1,w2,c1,c2,c3,c4,bT,h0,hz,newRow,←cZ]
def frW(fr:Option Mem)(b:Nat)(p:Prop):Prop:=match fr with
 | none=>p
 | some m=>m.free b→p
theorem ZsE{fr:Option Mem}{m:Mem}{b:Nat}{p:Prop}(fW:∀m',fr=some m'→m'=m)(hf:m.free b)(h:frW fr b p):p:=by
 cases fr with
 | none=>exact h
 | some m'=>exact h (by rw[fW m' rfl];exact hf)
theorem Zpq{fr:Option Mem}{b:Nat}{p q:Prop}(h:p→q)(hx:frW fr b p):frW fr b q:=by
 cases fr with
 | none=>exact h hx
 | some m=>exact fun hf=>h (hx hf)
def ZlJ(E:Env)(S:St)(fr:Option Mem)(T:TypeId)(l c:Operand)(d:Option Tmp)(key:Nat)(K:St→Prop):Prop:=match d with
 | none=>False
 | some d=>match ZaB E T with
  | none=>False
  | some (e,j)=>wv S l fun vl=>wv S c fun vc=>chk (ZbN vl&&ZbN vc) ((intOf vl=0∧0≤intOf vc∧intOf vc*j.bytes≤281474976710656∧intOf vc≤9223372036854775807)∧
     ∀b,frW fr b (K (({ S with tok:=fun k=>bif Nat.beq k key then some ⟨.slice (some ⟨b,0,none⟩) 0 (intOf vc).toNat,j.size⟩ else S.tok k,tkeys:=key::S.tkeys }:St).put (some d) (some (.v (.slice (some ⟨b,0,none⟩) 0 (intOf vc).toNat))))))
theorem ZgR{E:Env}(hE:E.ok){T:TypeId}{l c:Operand}{d:Option Tmp}{key:Nat}{K:St→Prop}{fr:Option Mem}(fW:∀m',fr=some m'→m'=m)(hd:∀t,d=some t→t < C.n)(hr:Rel C S m a w)(h:ZlJ E S fr T l c d key K):
  ∃S' v w',K S'∧Rel C S' m (a.put d v) w'∧(Instr.makeSlice T (a.eval l) (a.eval c)).run E.P w=.ok v w'∧
   (c=.const (.int .i64 0)→∃i e,E.tt T=some i∧i.d=.slice e∧v=.slice (some ⟨w.heap.size,0,none⟩) 0 0∧w'=w.alloc (.cells #[] e (0,0))):=by
 unfold ZlJ at h
 cases d with
 | none=>exact h.elim
 | some d=>
  simp only at h
  cases hs:ZaB E T with
  | none=>simp[hs]at h
  | some ej=>
   obtain⟨e,j⟩:=ej
   simp only[hs]at h
   obtain⟨vl,gJ,h⟩:=ZaC h
   obtain⟨vc,kr,h⟩:=ZaC h
   obtain⟨h1,⟨h2,h3,h4,h5⟩,hk⟩:=Zae h
   simp only[Bool.and_eq_true]at h1
   obtain⟨kl,jq⟩:=ZaV h1.1
   obtain⟨kc,k8⟩:=ZaV h1.2
   generalize pV:intOf vl=nl at *
   generalize gD:intOf vc=nc at *
   subst h2
   obtain⟨i,eQ,gA,iI⟩:=ZaJ hs
   have cX:=hE e j iI
   have hu:=(hE T i eQ).run_und (w:=w)
   rw[gA]at hu
   have bT:=cX.run_size (w:=w)
   have hz:=cX.run_zero (w:=w)
   obtain⟨x,g1,_,_,g4⟩:=cX.run_info (w:=w)
   have gE:j.zero.cells.toList.length=j.size:=by simpa using cX.zsize
   have bQ:((List.replicate nc.toNat j.zero.cells.toList).flatten).length=nc.toNat*j.size:=by simp[cX.zsize]
   have cC:Sub m (w.alloc (.cells ((List.replicate nc.toNat j.zero.cells.toList).flatten).toArray e (0,0))):=fun b o v hv=>by
    rw[Zbi (w:=w) (Below.heap_alloc w _ b (hr.sub.lt hv))];exact hr.sub _ _ _ hv
   have kq:Rel C S m a (w.alloc (.cells ((List.replicate nc.toNat j.zero.cells.toList).flatten).toArray e (0,0))):=hr.world (Keep.alloc (Nat.le_refl _) (ZjB _ _)) cC (Mem.le_refl m) (fun b o v hv=>.inl hv)
   have dE:∀o,m w.heap.size o=none:=fun o=>by
    cases he:m w.heap.size o with
    | none=>rfl
    | some u=>have:=hr.sub.lt he;omega
   have bY:TokOk m (w.alloc (.cells ((List.replicate nc.toNat j.zero.cells.toList).flatten).toArray e (0,0))) ⟨.slice (some ⟨w.heap.size,0,none⟩) 0 nc.toNat,j.size⟩:=
    .inr ⟨w.heap.size,0,0,nc.toNat,((List.replicate nc.toNat j.zero.cells.toList).flatten).toArray,e,(0,0),rfl,Nat.zero_le _,by show(w.heap.push _)[w.heap.size]?=_;simp,by show 0+nc.toNat*j.size≤((List.replicate nc.toNat j.zero.cells.toList).flatten).length;rw[bQ,Nat.zero_add];exact Nat.le_refl _,fun o _ ho=>by simp at ho,fun o _ _=>dE o⟩
   have fD:∀b,(Tok.mk (.slice (some ⟨w.heap.size,0,none⟩) 0 nc.toNat) j.size).blk=some b→b=w.heap.size:=fun b hb=>by simp[Tok.blk]at hb;exact hb.symm
   have fZ:=kq.tokUpd key _ bY (fun b hb=>by
    have:=fD b hb
    subst this
    refine⟨⟨fun id x hx e=>?_,fun o=>?_⟩,fun k' t' _ hk' hb'=>?_⟩
    ·have:=(hr.own id x hx).lt;omega
    ·cases he:C.m0 w.heap.size o with
     | none=>rfl
     | some u=>have:=hr.sub.lt (hr.le _ _ _ he);omega
    ·have:=(hr.toks k' t' hk').1.lt hb';omega) (by
    obtain⟨M,hd'⟩:=hr.dom
    refine⟨_,hd'.step (m':=m) ((Keep.alloc (Nat.le_refl _) (ZjB _ _):Keep w.heap.size [] w _).upd (by simp)) (fun b o u hu=>.inl hu),fun b hb=>?_⟩
    have:=fD b hb
    subst this
    exact .inr ⟨Nat.le_refl _,by show w.heap.size < (w.heap.push _).size;simp⟩)
   have eG:=hk w.heap.size
   have nJ:=ZsE fW dE eG
   refine⟨_,.slice (some ⟨w.heap.size,0,none⟩) 0 nc.toNat,_,nJ,fZ.put (some d) hd rfl,?_,fun hc=>⟨i,e,eQ,gA,?_,?_⟩⟩
   rotate_left
   ·subst hc
    have:vc=.int .i64 0:=by simpa[St.val,St.ev,St.den]using kr.symm
    subst this
    simp only[intOf]at gD;subst gD;rfl
   ·subst hc
    have:vc=.int .i64 0:=by simpa[St.val,St.ev,St.den]using kr.symm
    subst this
    simp only[intOf]at gD;subst gD;rfl
   rw[hr.ev gJ,hr.ev kr,jq,k8]
   have w1:IntKind.i64.wrap 0=0:=Zce (by omega) (by omega)
   have w2:IntKind.i64.wrap nc=nc:=Zce (by omega) (by omega)
   have c1:¬(nc < 0):=by omega
   have c2:¬((0:Int) < 0):=by omega
   have c4:¬(281474976710656 < (x.bytes:Int)*nc):=by rw[g4,Int.mul_comm];omega
   have cZ:(Array.map (fun i=>(if nc.toNat*j.size=0 then(#[]:Array Value)else j.zero.cells)[i % (if nc.toNat*j.size=0 then(#[]:Array Value)else j.zero.cells).size]!) (Array.range (nc.toNat*j.size)))=((List.replicate nc.toNat j.zero.cells.toList).flatten).toArray:=by
    have:=ZjL j.zero.cells.toList nc.toNat
    rw[gE]at this
    apply Array.ext'
    by_cases h0:nc.toNat*j.size=0
    ·have iL:(List.replicate nc.toNat j.zero.cells.toList).flatten=[]:=List.eq_nil_of_length_eq_zero (by rw[bQ,h0])
     simp[h0,iL]
    ·simp only[h0,if_false,Array.toList_map,Array.toList_range]
     rw[←this]
   by_cases h0:nc.toNat*j.size=0
   ·simp only[h0,if_true]at cZ
    simp[Instr.makeSlice,hu,asInt,asIntOf,g1,w1,w2,c1,c2,c4,bT,h0,newRow,←cZ]
   ·simp only[h0,if_false]at cZ
    simp[Instr.makeSlice,hu,asInt,asIntOf,g1,w1,w2,c1,c2,c4,bT,h0,hz,newRow,←cZ]
theorem Rel.freeze(h:Rel C S m a w){id:Nat}{x:Box}(hx:S.L id=some x)(n:Nat)(hn:∃cells T fr,w.heap[x.b]?=some (.cells cells T fr)∧cells.size=n):Rel C S m a (w.freeze ⟨x.b,n,none⟩ 1):=by
 obtain⟨sp,fr,hh,hc,hf⟩:=(h.own id x hx).cells
 obtain⟨cells,T,fr',hh',pW⟩:=hn
 rw[hh]at hh'
 simp only[Option.some.injEq,Obj.cells.injEq]at hh'
 obtain⟨e1,_,_⟩:=hh'
 have dV:n=x.cap:=by rw[←pW,←e1];simpa using hc
 have cA:∀k,k≠x.b→(w.freeze ⟨x.b,n,none⟩ 1).heap[k]?=w.heap[k]?:=fun k hk=>by
  simp only[World.freeze,Nat.one_ne_zero,if_false,Array.getElem?_modify]
  rw[if_neg (by simpa using Ne.symm hk)]
 have cV:∃fr',(w.freeze ⟨x.b,n,none⟩ 1).heap[x.b]?=some (.cells (x.cs++sp).toArray x.T fr')∧(fr'.1=fr'.2∨x.cap≤fr'.1):=by
  obtain⟨lo,hi⟩:=fr
  refine⟨if lo == hi then(n,n+1)else(min lo n,max hi (n+1)),?_,?_⟩
  ·simp only[World.freeze,Nat.one_ne_zero,if_false,Array.getElem?_modify,if_true,hh,Option.map_some]
  ·split
   ·right;simp only;omega
   ·rename_i cS
    simp only at hf
    rcases hf with hf|hf
    ·simp[hf]at cS
    ·right;simp only;omega
 obtain⟨fr2,cV,nK⟩:=cV
 have cQ:∀(b o:Nat),(w.freeze ⟨x.b,n,none⟩ 1).cell? ⟨b,o,none⟩=w.cell? ⟨b,o,none⟩:=fun b o=>by
  by_cases hb:b=x.b
  ·subst hb;simp only[World.cell?,cV,hh]
  ·exact Zbi (cA b hb) o
 have lB:(w.freeze ⟨x.b,n,none⟩ 1).os=w.os∧(w.freeze ⟨x.b,n,none⟩ 1).tape=w.tape∧(w.freeze ⟨x.b,n,none⟩ 1).output=w.output∧(w.freeze ⟨x.b,n,none⟩ 1).heap.size=w.heap.size:=by
  simp[World.freeze]
 have:=h.upd (w':=w.freeze ⟨x.b,n,none⟩ 1) (m':=m) (L':=S.L) [x.b] ⟨lB.1,lB.2.1,lB.2.2.1,by omega,fun k _ hk=>cA k (by simpa using hk),fun k hk=>by
  by_cases gW:k=x.b
  ·subst gW
   intro c1 T1 fr1 nL i hi nM
   rw[cV]at nL
   simp only[Option.some.injEq,Obj.cells.injEq]at nL
   obtain⟨rfl,rfl,rfl⟩:=nL
   have:i < x.cap:=by rw[←hc];simpa using hi
   omega
  ·exact hk.of_eq (cA k gW)⟩ (fun b o v hv=>by rw[cQ];exact h.sub b o v hv) (Mem.le_refl m) (fun _ _ _ hv=>.inl hv) (fun _=>rfl)
  (fun i y hy=>by
   by_cases hi:i=id
   ·subst hi
    rw[hx]at hy;cases hy
    have ho:=(h.own _ x hx)
    exact .inr ⟨⟨sp,fr2,cV,hc,nK⟩,ho.free,ho.known,ho.whole⟩
   ·refine .inl ⟨hy,?_⟩
    simp only[List.mem_singleton]
    exact fun e=>hi (h.apart i id y x hy hx e))
  (fun b hb=>⟨id,x,hx,by simp at hb;exact hb.symm⟩)
 exact this
theorem ZcV{P:Program}{w:World}(b o:Nat){cells:Array Value}{T:TypeId}{fr:Nat×Nat}(h:w.heap[b]?=some (.cells cells T fr)):
  (markStringish ⟨b,o,none⟩).run P w=.ok () (w.freeze ⟨b,cells.size,none⟩ 1):=by
 simp[markStringish,World.shape?,h]
end
def ZaH(s:ByteArray):List Value:=s.data.toList.map fun b=>.int .u8 b.toNat
def Zco(E:Env)(s d:TypeId):Bool:=ZeK E s&&(match ZaB E d with
 | none=>false
 | some (_,j)=>match j.d with
  | .int .u8=>true
  | _=>false)
def Zvi(S:St)(m:Mem)(x:Operand)(d:Option Tmp)(K:St→Mem→Prop):Prop:=
 wv S x fun v=>chk (Zmh v) (∀(b c:Nat),m.free b→(ZbQ v).size≤c→K (S.put d (some (.v (.slice (some ⟨b,0,none⟩) (ZbQ v).size c)))) (m.add b (ZaH (ZbQ v))))
section
variable {C:Ctx} {S:St} {m:Mem} {a:Act} {w:World}
theorem ZmR{E:Env}(hE:E.ok){s d:TypeId}(eS:Zco E s d=true){x:Operand}{t:Option Tmp}{K:St→Mem→Prop}(hd:∀t',t=some t'→t' < C.n)(hr:Rel C S m a w)(h:Zvi S m x t K):
  ∃S' m' v w',K S' m'∧Rel C S' m' (a.put t v) w'∧(convert s d (a.eval x)).run E.P w=.ok v w':=by
 unfold Zvi at h
 obtain⟨v,hv,h⟩:=ZaC h
 obtain⟨h1,hk⟩:=Zae h
 have he:=hr.ev hv
 have dY:=Zcm h1
 generalize ZbQ v=bs at *
 subst dY
 unfold Zco at eS
 rw[Bool.and_eq_true]at eS
 obtain⟨i,hi,cL⟩:=ZfW eS.1
 have eS:=eS.2
 cases hs:ZaB E d with
 | none=>simp[hs]at eS
 | some ej=>
  obtain⟨e,j⟩:=ej
  simp only[hs]at eS
  obtain⟨k,ir,eH,lJ⟩:=ZaJ hs
  have gC:j.d=.int .u8:=by
   cases gC:j.d with
   | int kk=>cases kk <;> simp[gC]at eS <;> rfl
   | _=>simp[gC]at eS
  have lK:=(hE s i hi).run_und (w:=w)
  rw[cL]at lK
  have mT:=(hE d k ir).run_und (w:=w)
  rw[eH]at mT
  have kt:=(hE e j lJ).run_und (w:=w)
  rw[gC]at kt
  generalize dV:grownCap w bs.size 0 e=cap
  have cN:bs.size≤cap:=by rw[←dV];exact grownCap_ge w bs.size 0 e
  have bS:m.free w.heap.size:=fun o=>by
   cases he:m w.heap.size o with
   | none=>rfl
   | some v=>have:=hr.sub.lt he;omega
  obtain⟨cells,iM⟩:∃cells,cells=(ZaH bs++List.replicate (cap - bs.size) (Value.int .u8 0)).toArray:=⟨_,rfl⟩
  obtain⟨w1,ku⟩:∃w1,w1=w.drew.alloc (.cells cells e (0,0)):=⟨_,rfl⟩
  have lD:w1.heap[w.heap.size]?=some (.cells cells e (0,0)):=by rw[ku];exact heap_alloc_new w.drew _
  obtain⟨w2,ig⟩:∃w2,w2=w1.freeze ⟨w.heap.size,cells.size,none⟩ 1:=⟨_,rfl⟩
  have cA:∀k,k≠w.heap.size→w2.heap[k]?=w1.heap[k]?:=fun k hk=>by
   rw[ig]
   simp only[World.freeze,Nat.one_ne_zero,if_false,Array.getElem?_modify]
   rw[if_neg (by simpa using Ne.symm hk)]
  have cV:∃fr',w2.heap[w.heap.size]?=some (.cells cells e fr'):=by
   rw[ig]
   simp only[World.freeze,Nat.one_ne_zero,if_false,Array.getElem?_modify,if_true,lD,Option.map_some]
   exact⟨_,rfl⟩
  obtain⟨fr',cV⟩:=cV
  have nN:Wr w2 w.heap.size:=by
   intro c1 T1 fr1 hh i hi
   rw[ig]at hh
   simp[World.freeze,Array.getElem?_modify,lD]at hh
   obtain⟨rfl,rfl,rfl⟩:=hh
   simp only;omega
  have kv:Keep w.heap.size [] w w1:=(Keep.drew w).trans (by rw[ku];exact Keep.alloc (B:=w.heap.size) (w:=w.drew) (show w.heap.size≤w.drew.heap.size from Nat.le_refl _) (ZjB _ _))
  have kw:Keep w.heap.size [] w1 w2:=by
   refine⟨by rw[ig];simp[World.freeze],by rw[ig];simp[World.freeze],by rw[ig];simp[World.freeze],by rw[ig];simp[World.freeze],fun k hk _=>cA k (by omega),fun k hk=>?_⟩
   by_cases gW:k=w.heap.size
   ·subst gW;exact nN
   ·exact hk.of_eq (cA k gW)
  have dX:=kv.trans kw
  have eP:Sub (m.add w.heap.size (ZaH bs)) w2:=by
   intro b' o v hv
   by_cases fQ:b'=w.heap.size
   ·subst fQ
    rw[Mem.add_same]at hv
    have bA:=(List.getElem?_eq_some_iff.1 hv).1
    simp only[World.cell?,cV,Option.isSome_none,Bool.false_eq_true,if_false,iM,List.getElem?_toArray]
    rw[List.getElem?_append_left bA,hv]
   ·rw[Mem.add_other _ fQ]at hv
    have bA:=hr.sub.lt hv
    rw[Zbi (w:=w) (dX.block b' bA (by simp))];exact hr.sub _ _ _ hv
  have bB:Rel C S (m.add w.heap.size (ZaH bs)) a w2:=hr.world dX eP (Mem.le_add bS _) (fun b' o v hv=>by
   by_cases fQ:b'=w.heap.size
   ·exact .inr (by omega)
   ·rw[Mem.add_other _ fQ]at hv;exact .inl hv)
  refine⟨_,_,.slice (some ⟨w.heap.size,0,none⟩) bs.size cap,w2,hk w.heap.size cap bS cN,bB.put t hd rfl,?_⟩
  have nO:=ZcV (P:=E.P) (w:=w1) w.heap.size 0 lD
  have cZ:(Array.map (fun b:UInt8=>Value.int .u8 (b.toNat:Int)) bs.data++Array.replicate (cap - bs.size) (Value.int .u8 0))=cells:=by
   rw[iM]
   apply Array.ext'
   simp[ZaH]
  have qL:(newRow e cells).run E.P w.drew=.ok ⟨w.heap.size,0,none⟩ w1:=by
   rw[ku];simp[newRow]
  rw[he]
  simp only[convert,Sem.run_bind,lK,Result.andThen_ok,mT,kt,Conv.stringToBytes]
  simp[Question.forced]
  rw[show(Question.appendCap bs.size 0 e).cut (w.tape w.drawn (Question.appendCap bs.size 0 e))=cap from dV,cZ,qL]
  simp only[Result.andThen_ok,nO,←ig]
end
def Zcp(E:Env)(s d:TypeId):Bool:=ZeK E d&&(match ZaB E s with
 | none=>false
 | some (_,j)=>match j.d with
  | .int .u8=>true
  | _=>false)
def Zed(S:St)(m:Mem)(x:Operand)(K:Value→Prop):Prop:=match S.ev x with
 | some (.sl id n c)=>match S.L id with
  | none=>False
  | some bx=>∃bs:ByteArray,Nat.beq bs.size n=true∧ZaH bs=bx.cs.take n∧K (.string bs)
 | _=>wv S x fun v=>chk (ZbS v) (∃bs:ByteArray,bs.size=slN v∧rowRd m (slA v) (ZaH bs)∧K (.string bs))
theorem Zdb(s:ByteArray):(ZaH s).length=s.size:=by
 unfold ZaH ByteArray.size
 rw[List.length_map,Array.length_toList]
theorem Zqy(ns:List UInt8):∀s:ByteArray,(ns.map fun b:UInt8=>(b.toNat:Int)).foldl (fun(r:ByteArray)(n:Int)=>r.push (UInt8.ofNat n.toNat)) s=⟨s.data++ns.toArray⟩:=by
 induction ns with
 | nil=>intro s;simp
 | cons b l ih=>
  intro s
  rw[List.map_cons,List.foldl_cons,ih]
  congr 1
  apply Array.ext'
  simp[ByteArray.push]
theorem ZlK{P:Program}{w:World}{s d e:TypeId}{a:Option Addr}{c:Nat}{bs:ByteArray}(hs:P.underlying s=some (.slice e))(he:P.underlying e=some (.int .u8))(hd:P.underlying d=some .string)
  (cH:∀j v,(ZaH bs)[j]?=some v→∃b o,a=some ⟨b,o,none⟩∧w.cell? ⟨b,o+j,none⟩=some v):(convert s d (.slice a bs.size c)).run P w=.ok (.string bs) w:=by
 rw[run_convert_bytes_string w s d e a bs.size c hs he hd]
 cases a with
 | none=>
  have h0:ZaH bs=[]:=by
   cases h:ZaH bs with
   | nil=>rfl
   | cons v l=>obtain⟨_,_,h1,_⟩:=cH 0 v (by rw[h];rfl);cases h1
  have hb:bs.size=0:=by rw[←Zdb,h0];rfl
  have:bs=ByteArray.empty:=by
   cases bs with
   | mk data=>
    have:data=#[]:=Array.eq_empty_of_size_eq_zero hb
    subst this;rfl
  subst this
  simp[Conv.bytesToString]
 | some a=>
  have hl:(loadCells a bs.size).run P w=.ok (((bs.data.toList.map fun b:UInt8=>(b.toNat:Int))).map (Value.int .u8)).toArray w:=by
   have kx:(bs.data.toList.map fun b:UInt8=>(b.toNat:Int)).map (Value.int .u8)=ZaH bs:=by simp[ZaH]
   rw[kx]
   by_cases h0:bs.size=0
   ·have:ZaH bs=[]:=List.eq_nil_of_length_eq_zero (by rw[Zdb,h0])
    rw[this,h0];rfl
   ·obtain⟨v,hv⟩:∃v,(ZaH bs)[0]?=some v:=⟨_,List.getElem?_eq_getElem (by rw[Zdb];omega)⟩
    obtain⟨b,o,ha,_⟩:=cH 0 v hv
    cases ha
    rw[←Zdb]
    exact Zdy b o _ (fun j u hu=>by obtain⟨_,_,h1,h2⟩:=cH j u hu;cases h1;exact h2)
  have fZ:(⟨ByteArray.empty.data++bs.data.toList.toArray⟩:ByteArray)=bs:=by
   cases bs with
   | mk data=>
    congr 1
    apply Array.ext'
    show((#[]:Array UInt8)++data.toList.toArray).toList=data.toList
    simp
  rw[run_bytesToString w a bs.size c _ hl,Zqy,fZ]
section
variable {C:Ctx} {S:St} {m:Mem} {a:Act} {w:World}
theorem ZgS{E:Env}(hE:E.ok){s d:TypeId}(eS:Zcp E s d=true){x:Operand}{K:Value→Prop}(hr:Rel C S m a w)(h:Zed S m x K):
  ∃v,K v∧(convert s d (a.eval x)).run E.P w=.ok v w:=by
 unfold Zcp at eS
 rw[Bool.and_eq_true]at eS
 obtain⟨i,hi,cL⟩:=ZfW eS.1
 have eS:=eS.2
 cases hs:ZaB E s with
 | none=>simp[hs]at eS
 | some ej=>
  obtain⟨e,j⟩:=ej
  simp only[hs]at eS
  obtain⟨k,ir,eH,lJ⟩:=ZaJ hs
  have gC:j.d=.int .u8:=by
   cases gC:j.d with
   | int kk=>cases kk <;> simp[gC]at eS <;> rfl
   | _=>simp[gC]at eS
  have mT:E.P.underlying d=some .string:=by rw[(hE d i hi).und,cL]
  have lK:E.P.underlying s=some (.slice e):=by rw[(hE s k ir).und,eH]
  have kt:E.P.underlying e=some (.int .u8):=by rw[(hE e j lJ).und,gC]
  have gen:∀{v:Value},S.val x=some v→(∃bs,ZbS v=true∧bs.size=slN v∧(∀j u,(ZaH bs)[j]?=some u→∃b o,slA v=some ⟨b,o,none⟩∧w.cell? ⟨b,o+j,none⟩=some u)∧K (.string bs))→∃v,K v∧(convert s d (a.eval x)).run E.P w=.ok v w:=by
   rintro v hv ⟨bs,h1,h2,h3,h4⟩
   obtain⟨ba,n,c,rfl⟩:∃ba n c,v=.slice ba n c:=⟨_,_,_,ZbC h1⟩
   simp only[slN,slA]at h2 h3
   subst h2
   exact⟨_,h4,by rw[hr.ev hv];exact ZlK lK kt mT h3⟩
  unfold Zed at h
  split at h
  ·rename_i id n c he
   cases hL:S.L id with
   | none=>simp[hL]at h
   | some bx=>
    simp only[hL]at h
    obtain⟨bs,h1,h2,h3⟩:=h
    have h1:=Nat.eq_of_beq_eq_true h1
    refine gen (v:=.slice (some ⟨bx.b,0,none⟩) n c) (by simp[St.val,he,St.den,hL]) ⟨bs,rfl,h1,fun j u hu=>⟨bx.b,0,rfl,?_⟩,h3⟩
    rw[Nat.zero_add]
    refine(hr.own id bx hL).cell ?_
    rw[h2]at hu
    rw[List.getElem?_take]at hu
    split at hu
    ·exact hu
    ·cases hu
  ·obtain⟨v,hv,h⟩:=ZaC h
   obtain⟨h1,bs,h2,h3,h4⟩:=Zae h
   refine gen hv ⟨bs,h1,h2,fun j u hu=>?_,h4⟩
   rcases h3 with h3|⟨b,o,h5,h6⟩
   ·rw[h3]at hu;simp at hu
   ·exact⟨b,o,h5,hr.sub _ _ _ (h6 j u hu)⟩
end
def Mem.upd(m:Mem)(b o:Nat)(vs:List Value):Mem:=fun b' o'=>if b'=b∧o≤o'∧o' < o+vs.length then vs[o' - o]? else m b' o'
theorem Mem.upd_other(m:Mem){b b':Nat}(h:b'≠b)(o:Nat)(vs:List Value)(o':Nat):m.upd b o vs b' o'=m b' o':=by
 simp only[Mem.upd];rw[if_neg (fun hc=>h hc.1)]
theorem Mem.le_upd{m0 m:Mem}(h:m0.le m){b:Nat}(hb:m0.free b)(o:Nat)(vs:List Value):m0.le (m.upd b o vs):=fun b' o' v hv=>by
 by_cases e:b'=b
 ·subst e;rw[hb o']at hv;cases hv
 ·rw[Mem.upd_other m e];exact h _ _ _ hv
def ZmS(E:Env)(x:Operand):Option Nat:=bif E.thaw then(match x with
 | .tmp t=>E.stAt t
 | _=>none)else none
def ZgT(E:Env)(S:St)(m:Mem)(T:TypeId)(key:Nat)(x:Operand)(v:Value)(K:Mem→Prop):Prop:=wv S x fun p=>match E.tt T with
 | none=>False
 | some i=>match S.tok key with
  | none=>match E.m0 with
   | none=>False
   | some m0=>chk (ZjC p&&(Nat.beq v.cells.size i.size&&Zcb v.cells.toList)) ((∃vs:List Value,vs.length=i.size∧m.reads (Zqn p) (Zqo p) vs)∧Mem.free m0 (Zqn p)∧Nat.blt 0 i.size=true∧nfz S (Zqn p) S.ids (K (m.upd (Zqn p) (Zqo p) v.cells.toList)))
  | some t=>chk (ZjC p&&(Nat.beq v.cells.size i.size&&Zcb v.cells.toList)) (t.v=.slice (some ⟨Zqn p,0,none⟩) (slN t.v) (slC t.v)∧Zqo p+i.size≤slN t.v*t.esz∧K (m.upd (Zqn p) (Zqo p) v.cells.toList))
section
variable {C:Ctx} {S:St} {m:Mem} {a:Act} {w:World}
theorem Rel.storeOwn(hr:Rel C S m a w){b o:Nat}{vs:List Value}{cur:Array Value}{TT:TypeId}{fr:Nat×Nat}{w':World}(cK:w.heap[b]?=some (.cells cur TT fr))(gK:Wr w b)(bT:o+vs.length≤cur.size)
  (hw':w'=w.setRow b (Zaj cur.toList o vs).toArray) (hM:∀M,Dom C S m a w M→M b) (h0:C.m0.free b) (nP:∀id x,S.L id=some x→x.b≠b)
  (bY:∀k t o0 n c,S.tok k=some t→t.v=.slice (some ⟨b,o0,none⟩) n c→∀q,o≤q→q < o+vs.length→o0+n*t.esz≤q→q < o0+c*t.esz→False):Rel C S (m.upd b o vs) a w':=by
 have cA:∀k,k≠b→w'.heap[k]?=w.heap[k]?:=fun k hk=>by rw[hw'];exact setRow_other w b k _ hk
 have cV:w'.heap[b]?=some (.cells (Zaj cur.toList o vs).toArray TT fr):=by rw[hw'];exact setRow_heap w b cur _ TT fr cK
 have fC:(Zaj cur.toList o vs).length=cur.size:=by
  rw[Zb1 (by rw[Array.length_toList];omega),Array.length_toList]
 have eB:∀o,o < cur.size→¬(fr.1≤o∧o < fr.2):=gK cur TT fr cK
 have eP:Sub (m.upd b o vs) w':=by
  intro b1 o1 u hu
  by_cases hb:b1=b
  ·subst hb
   simp only[Mem.upd,true_and]at hu
   simp only[World.cell?,cV,Option.isSome_none,Bool.false_eq_true,if_false,List.getElem?_toArray]
   have ky:o+vs.length≤cur.toList.length:=by simp;omega
   have et:(List.take o cur.toList).length=o:=by simp;simp at ky;omega
   by_cases eW:o≤o1∧o1 < o+vs.length
   ·rw[if_pos eW]at hu
    simp only[Zaj]
    rw[List.append_assoc,List.getElem?_append_right (by omega),et,List.getElem?_append_left (by omega)]
    exact hu
   ·rw[if_neg eW]at hu
    have jO:=hr.sub _ _ _ hu
    simp only[World.cell?,cK,Option.isSome_none,Bool.false_eq_true,if_false]at jO
    rw[←Array.getElem?_toList]at jO
    simp only[Zaj]
    by_cases la:o1 < o
    ·rw[List.append_assoc,List.getElem?_append_left (by omega),List.getElem?_take,if_pos la];exact jO
    ·rw[List.getElem?_append_right (by simp at eW et ⊢;omega),List.getElem?_drop]
     have:o+vs.length+(o1 - (List.take o cur.toList++vs).length)=o1:=by
      rw[List.length_append,et];omega
     rw[this];exact jO
  ·rw[Mem.upd_other m hb]at hu
   rw[Zbi (cA b1 hb)];exact hr.sub _ _ _ hu
 refine⟨?_,hr.size,hr.env,fun id y hy=>?_,hr.apart,hr.ids,fun k t' ht'=>?_,hr.tkeys,hr.tapart,eP,Mem.le_upd hr.le h0 _ _,?_⟩
 ·obtain⟨ms,d1,d2,d3⟩:=hr.defers
  refine⟨ms,d1,d2,fun D hD=>?_⟩
  rw[cA D (fun e=>by have:=d3 D hD;rw[e,cK]at this;cases this)];exact d3 D hD
 ·have ho:=hr.own id y hy
  have cS:=nP id y hy
  exact⟨by rw[cA _ cS];exact ho.cells,fun hz o1=>by rw[Mem.upd_other m cS];exact ho.free hz o1,fun hz j u hu=>by rw[Mem.upd_other m cS];exact ho.known hz j u hu,ho.whole⟩
 ·obtain⟨q1,q2⟩:=hr.toks k t' ht'
  refine⟨?_,q2⟩
  by_cases eG:t'.blk=some b
  ·rcases q1 with q1|⟨b',o0,n,c,cur',TT',fr',hv,gD,hh,gI,qM,bS⟩
   ·exact .inl q1
   obtain rfl:b'=b:=by simpa[Tok.blk,hv]using eG
   rw[cK]at hh
   simp only[Option.some.injEq,Obj.cells.injEq]at hh
   obtain⟨rfl,rfl,rfl⟩:=hh
   have cI:=bY k t' o0 n c ht' hv
   refine .inr ⟨b',o0,n,c,_,TT,fr,hv,gD,cV,by simp only[List.size_toArray,fC];exact gI,fun o1 iH=>eB o1 (by simpa only[List.size_toArray,fC]using iH),fun o1 iH eR=>?_⟩
   simp only[Mem.upd]
   rw[if_neg (fun hc=>cI o1 hc.2.1 hc.2.2 iH eR)];exact bS o1 iH eR
  ·have cS:∀b1,t'.blk=some b1→b1≠b:=fun b1 eZ e=>by subst e;exact eG eZ
   exact q1.same (fun b1 eZ=>cA _ (cS b1 eZ)) (fun b1 o1 eZ hn=>by rw[Mem.upd_other m (cS b1 eZ)];exact hn)
 ·obtain⟨M,hd⟩:=hr.dom
  have hu:Upd M w w':=⟨by rw[hw'];rfl,by rw[hw'];rfl,by rw[hw'];rfl,by rw[hw'];simp,fun k hk hn=>cA k (fun e=>hn (e ▸ hM M hd)),fun k hk=>by
   by_cases gW:k=b
   ·subst gW
    intro c1 T1 fr1 hh i hi
    rw[cV]at hh
    simp only[Option.some.injEq,Obj.cells.injEq]at hh
    obtain⟨rfl,rfl,rfl⟩:=hh
    exact eB i (by simpa only[List.size_toArray,fC]using hi)
   ·exact hk.of_eq (cA k gW)⟩
  exact⟨_,hd.step hu (fun b1 o1 u eX=>by
   by_cases hb:b1=b
   ·exact .inr (.inl (hb ▸ hM M hd))
   ·rw[Mem.upd_other m hb]at eX;exact .inl eX)⟩
theorem ZgU{E:Env}{T:TypeId}{i:TI}(cB:TOk E.P T i){w:World}{b o:Nat}{v:Value}{cur:Array Value}{TT:TypeId}{fr:Nat×Nat}(cK:w.heap[b]?=some (.cells cur TT fr))(gK:Wr w b)(bT:o+v.cells.toList.length≤cur.size)
  (h1:v.cells.size=i.size) (dS:v.cells.all Value.oneCell'=true):(Instr.storeAt T (ptr b o) v).run E.P w=.ok () (w.setRow b (Zaj cur.toList o v.cells.toList).toArray):=by
 have lL:=Zbx (P:=E.P) b o TT fr v.cells.toList 0 cur w cK (fun o ho=>gK cur TT fr cK o ho) (by omega) (fun u hu=>by
  rw[Array.all_eq_true_iff_forall_mem]at dS;exact dS u (by simpa using hu))
 have bL:(storeVar T ⟨b,o,none⟩ v).run E.P w=.ok () (w.setRow b (Zaj cur.toList o v.cells.toList).toArray):=by
  have hz:=cB.run_size (w:=w)
  simp only[storeVar,Sem.run_bind,hz,Result.andThen_ok,h1,ne_eq,not_true_eq_false,if_false]
  rw[lL]
  simp[Zaj]
 simp[Instr.storeAt,Instr.sureAddr,ptr,bL]
theorem ZgV{E:Env}(hE:E.ok)(hY:YOk E C){T:TypeId}{key:Nat}{x:Operand}{v:Value}{K:Mem→Prop}(hr:Rel C S m a w)(h:ZgT E S m T key x v K):
  ∃m' w',K m'∧Rel C S m' a w'∧(Instr.storeAt T (a.eval x) v).run E.P w=.ok () w':=by
 unfold ZgT at h
 obtain⟨p,hp,h⟩:=ZaC h
 have he:=hr.ev hp
 cases ht:E.tt T with
 | none=>simp[ht]at h
 | some i=>
  simp only[ht]at h
  have cB:=hE T i ht
  cases hk:S.tok key with
  | none=>
   simp only[hk]at h
   cases eI:E.m0 with
   | none=>simp[eI]at h
   | some mm=>
    simp only[eI]at h
    obtain⟨jr,hW⟩:=hY.m0 mm eI
    obtain⟨h1,⟨us,lK,cH⟩,h3,h5,h4⟩:=Zae h
    simp only[Bool.and_eq_true]at h1
    have lM:=Zb0 h1.1
    generalize Zqn p=b at *
    generalize Zqo p=o at *
    have bT:=Nat.eq_of_beq_eq_true h1.2.1
    have dS:=Zfy h1.2.2
    have bQ:v.cells.toList.length=i.size:=by simpa using bT
    have eT:0 < i.size:=by simpa[Nat.blt_eq]using h5
    obtain⟨nQ,qN⟩:=Zf3 h4
    obtain⟨u,hu⟩:∃u,us[i.size - 1]?=some u:=⟨_,List.getElem?_eq_getElem (by omega)⟩
    have cQ:=hr.sub _ _ _ (cH _ _ hu)
    obtain⟨cur,TT,fr,cK⟩:∃c T fr,w.heap[b]?=some (.cells c T fr):=by
     unfold World.cell? at cQ
     split at cQ
     ·rename_i c T fr hc;exact⟨c,T,fr,hc⟩
     ·cases cQ
    have dA:o+(i.size - 1) < cur.size:=by
     simp only[World.cell?,cK,Option.isSome_none,Bool.false_eq_true,if_false]at cQ
     exact(Array.getElem?_eq_some_iff.1 cQ).1
    have jM:∀M,Dom C S m a w M→M b:=fun M hd=>by
     rcases hd.new _ _ _ (cH _ _ hu)with h6|h6
     ·rw[jr,h3]at h6;cases h6
     ·exact h6
    have gK:Wr w b:=by
     obtain⟨M,hd⟩:=hr.dom
     exact hW _ _ _ hd.p b (jM M hd)
    refine⟨_,_,nQ,hr.storeOwn cK gK (by omega) rfl jM (jr ▸ h3) (fun id y hy e=>?_) (fun k t o0 n c iC hv q iu lb pX pY=>?_),?_⟩
    ·have ho:=hr.own id y hy
     cases hz:y.fz with
     | true=>exact qN id y (hr.ids id y hy) hy hz e
     | false=>
      have:=ho.free hz (o+(i.size - 1))
      rw[e,cH _ _ hu]at this;cases this
    ·rcases(hr.toks k t iC).1 with q0|⟨b',o',n',c',_,_,_,hv',_,_,_,_,bS⟩
     ·rw[hv]at q0;cases q0
     ·rw[hv]at hv'
      simp only[Value.slice.injEq,Option.some.injEq,Addr.mk.injEq,and_true]at hv'
      obtain⟨⟨rfl,rfl⟩,rfl,rfl⟩:=hv'
      have h7:=bS _ pX pY
      obtain⟨u7,qO⟩:∃u7,us[q - o]?=some u7:=⟨us[q - o]'(by omega),List.getElem?_eq_getElem _⟩
      have h8:=cH _ _ qO
      rw[show o+(q - o)=q by omega,h7]at h8;cases h8
    ·rw[he,lM];exact ZgU cB cK gK (by omega) bT dS
  | some t=>
   simp only[hk]at h
   obtain⟨h1,h2,h3,h4⟩:=Zae h
   simp only[Bool.and_eq_true]at h1
   have lM:=Zb0 h1.1
   generalize Zqn p=b at *
   generalize Zqo p=o at *
   have bT:=Nat.eq_of_beq_eq_true h1.2.1
   have dS:=Zfy h1.2.2
   have bQ:v.cells.toList.length=i.size:=by simpa using bT
   obtain⟨g1,g2⟩:=hr.toks key t hk
   have fD:t.blk=some b:=by unfold Tok.blk;rw[h2]
   obtain⟨g2,g3⟩:=g2 b fD
   rcases g1 with g1|⟨b',o0,n,c,cur,TT,fr,hv,gD,cK,gI,eB,bS⟩
   ·rw[g1]at h2;cases h2
   rw[hv]at h2
   simp only[Value.slice.injEq,Option.some.injEq,Addr.mk.injEq,and_true]at h2
   obtain⟨⟨rfl,rfl⟩,_,_⟩:=h2
   rw[hv]at h3
   simp only[slN]at h3
   have cI:n*t.esz≤c*t.esz:=Nat.mul_le_mul_right _ gD
   have gK:Wr w b':=fun c1 T1 fr1 hh o ho=>by
    rw[cK]at hh
    simp only[Option.some.injEq,Obj.cells.injEq]at hh
    obtain⟨rfl,rfl,rfl⟩:=hh
    exact eB o ho
   refine⟨_,_,h4,hr.storeOwn cK gK (by omega) rfl (fun M hd=>hd.tok key t b' hk fD) g3 g2 (fun k t' o' n' c' iC hv' q iu lb pX pY=>?_),?_⟩
   ·have:k=key:=hr.tapart k key t' t b' iC hk (by simp[Tok.blk,hv']) fD
    subst this
    rw[hk]at iC;cases iC
    rw[hv]at hv'
    simp only[Value.slice.injEq,Option.some.injEq,Addr.mk.injEq,and_true,true_and]at hv'
    obtain⟨rfl,rfl,rfl⟩:=hv'
    omega
   ·rw[he,lM];exact ZgU cB cK gK (by omega) bT dS
end
def Zoh(E:Env)(S:St)(m:Mem)(T:TypeId)(id:Nat)(vd vs:Value)(K:Int→St→Prop):Prop:=match ZaB E T with
 | none=>False
 | some (e,j)=>match S.L id with
  | none=>False
  | some bx=>chk (ZbS vd&&(ZbS vs&&!bx.fz)) (m.free bx.b→∃(o:Nat)(xs:List Value),slA vd=some ⟨bx.b,o,none⟩∧xs.length=min (slN vs) (slN vd)*j.size∧o+xs.length≤bx.cs.length∧(∀u∈xs,u.oneCell'=true)∧
    (rowRd m (slA vs) xs∨∃o',slA vs=some ⟨bx.b,o',none⟩∧∀i u,xs[i]?=some u→bx.cs[o'+i]?=some u)∧K ((min (slN vs) (slN vd):Nat):Int) (S.setL id (some { bx with cs:=Zaj bx.cs o xs })))
theorem ZlL{P:Program}{w:World}{m:Mem}{x:Box}(hx:Own m w x)(o:Nat)(xs:List Value)(h1:∀u∈xs,u.oneCell'=true)(hb:o+xs.length≤x.cs.length):
  ∃w',(storeCells ⟨x.b,o,none⟩ xs 0).run P w=.ok () w'∧w'.os=w.os∧w'.tape=w.tape∧w'.output=w.output∧w'.heap.size=w.heap.size∧(∀k,k≠x.b→w'.heap[k]?=w.heap[k]?)∧
   (x.fz=false→Own m w' { x with cs:=Zaj x.cs o xs }):=by
 obtain⟨sp,fr,hh,hc,hf⟩:=hx.cells
 have h3:=Zbx (P:=P) x.b o x.T fr xs 0 _ w hh (fun o ho=>by have ho':o < x.cap:=(by simpa[hc]using ho);omega) (by simp at hc ⊢;omega) h1
 have h4:(storeCells ⟨x.b,o,none⟩ xs 0).run P w=.ok () (w.setRow x.b (Zaj (x.cs++sp) o xs).toArray):=by
  rw[h3]
  simp[Zaj]
 refine⟨_,h4,rfl,rfl,rfl,by simp,fun k hk=>setRow_other w x.b k _ hk,fun hz=>?_⟩
 refine⟨⟨sp,fr,?_,?_,hf⟩,fun _=>hx.free hz,fun hz'=>by simp[hz]at hz',fun gG=>?_⟩
 ·rw[setRow_heap w x.b _ _ x.T fr hh,ZfV (by omega)]
 ·have:=Zb1 (cs:=x.cs) (o:=o) (vs:=xs) (by omega)
  simp only[List.length_append]at hc ⊢
  omega
 ·have:=hx.whole gG
  show(Zaj x.cs o xs).length=x.cap
  rw[Zb1 (by omega)];exact this
section
variable {C:Ctx} {S:St} {m:Mem} {a:Act} {w:World}
theorem ZmT{E:Env}(hE:E.ok){T xT ty:TypeId}{id:Nat}{vd vs:Value}{K:Int→St→Prop}(hr:Rel C S m a w)(h:Zoh E S m T id vd vs K):
  ∃n S' w',K n S'∧Rel C S' m a w'∧(Builtin.copy_ #[T,xT] ty #[vd,vs]).run E.P w=.ok (.int .i64 n) w':=by
 unfold Zoh at h
 cases hs:ZaB E T with
 | none=>simp[hs]at h
 | some ej=>
  obtain⟨e,j⟩:=ej
  simp only[hs]at h
  cases hL:S.L id with
  | none=>simp[hL]at h
  | some bx=>
   simp only[hL]at h
   obtain⟨h1,hq⟩:=Zae h
   simp only[Bool.and_eq_true,Bool.not_eq_true']at h1
   obtain⟨o,xs,h2,h3,h4,h5,h6,hk⟩:=hq ((hr.own id bx hL).free h1.2.2)
   clear hq h
   have nR:=ZbC h1.1
   have dY:=ZbC h1.2.1
   generalize slA vd=ad at *
   generalize slN vd=nd at *
   generalize slC vd=cd at *
   generalize slA vs=as at *
   generalize slN vs=ns at *
   generalize slC vs=cs at *
   subst nR dY h2
   obtain⟨i,eQ,gA,iI⟩:=ZaJ hs
   have cX:=hE e j iI
   have hu:=(hE T i eQ).run_und (w:=w)
   rw[gA]at hu
   have bT:=cX.run_size (w:=w)
   have kf:=hr.own id bx hL
   have jN:(Builtin.firstCells j.size (min ns nd) (.slice as ns cs)).run E.P w=.ok xs.toArray w:=by
    rcases h6 with h6|⟨o',h6,h7⟩
    ·exact Za9 hr.sub h6 _ _ _ _ h3
    ·subst h6
     refine run_firstCells_some w j.size _ _ ns cs xs h3 (fun i u hu=>?_)
     rw[Zbu]
     obtain⟨sp,fr,hh,_⟩:=kf.cells
     have h8:=h7 i u hu
     have h9:=(List.getElem?_eq_some_iff.1 h8).1
     simp only[World.cell?,hh,Option.isSome_none,Bool.false_eq_true,if_false,List.getElem?_toArray]
     rw[List.getElem?_append_left h9];exact h8
   obtain⟨w',bL,e1,e2,e3,e4,e5,e6⟩:=ZlL (P:=E.P) kf o xs h5 h4
   refine⟨_,_,w',hk,hr.store hL h1.2.2 rfl e1 e2 e3 e4 e5 (e6 h1.2.2),?_⟩
   have iv:Nat.min ns nd=min ns nd:=rfl
   simp[Builtin.copy_,hu,Builtin.lenOf,bT,iv,jN,bL,goInt]
end
end Go.Eng
namespace Go.Eng
open Go Go.RowKit
def Zf6(E:Env)(s d:TypeId):Bool:=match E.tt s with
 | none=>false
 | some i=>match i.d with
  | .slice e=>Nat.beq s d&&(match E.tt e with
   | none=>false
   | some j=>match j.d with
    | .int .u8=>true
    | _=>false)
  | _=>false
def opW(E:Env)(S:St)(m:Mem)(o:Oper)(K:St→Mem→Prop):Prop:=match o.op with
 | .move x=>K (S.put o.dst (S.ev x)) m
 | .assign x=>K (S.put o.dst (S.ev x)) m
 | .pick c x y=>wv S c fun v=>chk (ZgA v) (br (Zcl v) (K (S.put o.dst (S.ev x)) m) (K (S.put o.dst (S.ev y)) m))
 | .load T x=>match Zpp E o.dst with
  | none=>ZfA E S m T x fun v=>K (S.put o.dst (some (.v v))) m
  | some y=>bif E.fix.isSome then False else ZfA E S m T x fun v=>ldW y v fun v=>K (S.put o.dst (some (.v v))) m
 | .store T x y=>wv S y fun v=>match ZmS E x with
  | none=>ZgB E S T x v fun S'=>K (S'.put o.dst none) m
  | some key=>bif E.fix.isSome then False else ZgT E S m T key x v fun m'=>K (S.put o.dst none) m'
 | .alloc T=>Zqv E S T o.dst fun S'=>K S' m
 | .box T x=>wv S x fun v=>bif Zf0 E o.dst then(bif E.fix.isSome then False else Zvh E S m T v o.dst K)else ZwE E S T v o.dst fun S'=>K S' m
 | .buildSlice T len parts=>match ZcM E o.dst with
  | none=>Zec E S m T len parts.toList o.dst K
  | some ke=>bif E.fix.isSome then False else match len,parts.toList with
   | 0,[]=>ZlJ E S (some m) T (.const (.int .i64 0)) (.const (.int .i64 0)) o.dst ke.1 fun S'=>K S' m
   | _,_=>False
 | .makeSlice T l c=>match ZcM E o.dst with
  | none=>bif ZrW E o.dst then(bif E.fix.isSome then False else Zqx E S m T l c o.dst K)else ZtI E S T l c o.dst fun S'=>K S' m
  | some ke=>bif E.fix.isSome then False else ZlJ E S none T l c o.dst ke.1 fun S'=>K S' m
 | .convert s d x=>bif Zf6 E s d then(match S.ev x with
   | some (.sl id n c)=>K (S.put o.dst (some (.sl id n c))) m
   | _=>False)
  else bif Zco E s d then(bif E.fix.isSome then False else Zvi S m x o.dst K)
  else bif Zcp E s d then(bif E.fix.isSome then False else Zed S m x fun v=>K (S.put o.dst (some (.v v))) m)
  else Zcv E S o fun sv=>K (S.put o.dst (some sv)) m
 | .call c=>match c.callee with
  | .value f=>ZtU E o.dst S m (ZtH E o.type o.dst f c.args.toList K)
  | .builtin .append=>match c.args.toList,c.argTypes.toList,o.dst with
   | [s,x],[T,xT],some d=>ZtU E (some d) S m fun S m=>wv S s fun vs=>wv S x fun vx=>Ze2 E S m T xT (E.tokOf d) vs vx fun v tk m'=>K ({ S with tok:=tk,tkeys:=E.tokOf d::S.tkeys }.put (some d) (some (.v v))) m'
   | _,_,_=>False
  | .builtin .copy=>match c.args.toList,c.argTypes.toList with
   | [d,s],[T,xT]=>(match ZeL E d with
    | none=>False
    | some id=>wv S d fun vd=>wv S s fun vs=>Zoh E S m T id vd vs fun n S'=>K (S'.put o.dst (some (.v (.int .i64 n)))) m)
   | _,_=>False
  | _=>Zcv E S o fun sv=>K (S.put o.dst (some sv)) m
 | _=>Zcv E S o fun sv=>K (S.put o.dst (some sv)) m
section
variable {C:Ctx} {S:St} {m:Mem} {a:Act} {w:World}
theorem ZgW{E:Env}(hE:E.ok){o:Oper}(hd:∀t,o.dst=some t→t < C.n)(hr:Rel C S m a w){K:St→Mem→Prop}(h:Zcv E S o fun sv=>K (S.put o.dst (some sv)) m){F:Fence}{n:Nat}{next:Act→World→Prop}{Q:Exit→Act→World→Prop}
  (hK:∀S' m' a' w',K S' m'→Rel C S' m' a' w'→next a' w'):o.uponIn F n E.P a next Q ((execOp a.eval o).run E.P w):=by
 obtain⟨sv,v,hk,nS,bL⟩:=ZmL hE hr h
 rw[bL]
 exact hK _ _ _ _ hk (hr.put o.dst hd nS)
theorem ZlM{C:Ctx}{S:St}{m:Mem}{a:Act}{w:World}{E:Env}{rt:TypeId}{g:FuncId}{args:List Value}{key esz:Nat}{K:Value→St→Mem→Prop}(hr:Rel C S m a w)(h:Zqu E S m rt g args key esz K):
  ZgC E.P g∧Calls E.P g args.toArray w fun e w'=>∃v S' m',e=.returned v∧K v S' m'∧Rel C S' m' a w':=by
 obtain⟨R,eM,eD,bM⟩:=h
 refine⟨eM.1,(eM.2 w hr.sub).mono ?_⟩
 rintro e w' ⟨v,m',rfl,cI,cC,cT,dX,bY,fD,hR⟩
 have hk:=Shape.all_fits _ _ bM v (eD _ _ _ hR) m' cI hR
 have kq:=hr.world dX cC cI cT
 refine⟨v,_,m',rfl,hk,kq.tokUpd key ⟨v,esz⟩ bY (fun b hb=>?_) ?_⟩
 ·have cN:=fD b hb
  refine⟨⟨fun id x hx e=>?_,fun o=>?_⟩,fun k' t' _ hk' hb'=>?_⟩
  ·have:=(hr.own id x hx).lt;omega
  ·cases he:C.m0 b o with
   | none=>rfl
   | some u=>have:=hr.sub.lt (hr.le _ _ _ he);omega
  ·have:=(hr.toks k' t' hk').1.lt hb';omega
 ·obtain⟨M,hd⟩:=hr.dom
  refine⟨_,hd.step (m':=m') (dX.upd (by simp)) (fun b o u hu=>(cT b o u hu).imp_right fun h=>.inr ⟨h,cC.lt hu⟩),fun b hb=>?_⟩
  exact .inr ⟨fD b hb,bY.lt hb⟩
theorem ZlN{C:Ctx}{S:St}{m:Mem}{a:Act}{w:World}{E:Env}{rt:TypeId}{g:FuncId}{args:List Value}{ids:List Nat}{ks:List (Nat×Nat)}{K:Value→St→Mem→Prop}(hY:YOk E C)(hr:Rel C S m a w)(h:Zij E S m rt g args ids ks K):
  ZgC E.P g∧Calls E.P g args.toArray w fun e w'=>∃v S' m',e=.returned v∧K v S' m'∧Rel C S' m' a w':=by
 unfold Zij at h
 cases hb:Zbb S ids with
 | none=>simp[hb]at h
 | some bxs=>
 simp only[hb]at h
 cases eI:E.m0 with
 | none=>simp[eI]at h
 | some mm=>
 simp only[eI]at h
 obtain⟨h1,Y,R,eM,c1,c2,eD,bM⟩:=Zae h
 simp only[Bool.and_eq_true,List.all_eq_true]at h1
 obtain⟨jr,hW⟩:=hY.m0 mm eI
 obtain⟨bQ,bZ⟩:=ZbU hb
 obtain⟨tlen,tmem⟩:=Zi3 (S:=S) (ks:=ks)
 generalize ZdG S ks=tks at *
 have tlen:tks.length=(ks.map (·.1)).length:=by rw[List.length_map];exact tlen
 have jq:(ks.map (·.1)).length=ks.length:=List.length_map _
 generalize js:ks.map (·.1)=kl at *
 have dQ:=ZaE h1.2.1
 have pZ:=ZaE h1.2.2
 have tk_of:∀t∈tks,∀b,t.blk=some b→∃k∈kl,S.tok k=some t:=fun t ht b hb=>by
  obtain⟨i,hi⟩:=List.getElem?_of_mem ht
  obtain⟨k,q1,q2⟩:=tmem i t hi
  rcases q2 with q2|q2
  ·exact⟨k,List.mem_of_getElem? q1,q2⟩
  ·simp[Tok.blk,q2]at hb
 have iw:∀b,Y b→b < w.heap.size∧(∀D,w.heap[b]?≠some (.deferred D))∧C.m0.free b∧(∀M,Dom C S m a w M→M b)∧(∀id x,S.L id=some x→x.b≠b)∧(∀k t,S.tok k=some t→t.blk=some b→k∈kl):=fun b mU=>by
  rcases c2 b mU with⟨t,ht,dI⟩|⟨q1,⟨o,v,q2⟩,q3⟩
  ·obtain⟨k,hk,iC⟩:=tk_of t ht b dI
   obtain⟨g1,g2⟩:=hr.toks k t iC
   refine⟨g1.lt dI,fun D e=>?_,(g2 b dI).2,fun M hd=>hd.tok k t b iC dI,(g2 b dI).1,fun k' t' hk' hb'=>?_⟩
   ·rcases g1 with g1|⟨b',o0,n,c,cur,T,fr,hv,_,hh,_⟩
    ·simp[Tok.blk,g1]at dI
    ·simp[Tok.blk,hv]at dI;subst dI;rw[hh]at e;cases e
   ·rw[hr.tapart k' k t' t b hk' iC hb' dI];exact hk
  ·obtain⟨q4,q5⟩:=Zf3 q3
   have hs:=hr.sub b o v q2
   refine⟨hr.sub.lt q2,fun D e=>?_,by rw[jr];exact q1,fun M hd=>?_,fun id x hx e=>?_,fun k t iC dI=>?_⟩
   ·unfold World.cell? at hs
    rw[e]at hs
    simp at hs
   ·rcases hd.new b o v q2 with h6|h6
    ·rw[jr,q1]at h6;cases h6
    ·exact h6
   ·have ho:=hr.own id x hx
    cases hz:x.fz with
    | true=>exact q5 id x (hr.ids id x hx) hx hz e
    | false=>
     have:=ho.free hz o
     rw[e,q2]at this;cases this
   ·exact Classical.byContradiction fun hn=>ZhW q4 k t (hr.tkeys k t iC) iC hn dI
 have eK:∀x∈bxs,Own m w x∧x.fz=false∧¬Y x.b:=fun x hx=>by
  obtain⟨i,hi⟩:=List.getElem?_of_mem hx
  obtain⟨id,_,hL⟩:=bZ i x hi
  exact⟨hr.own id x hL,by simpa using h1.1 x hx,fun hy=>(iw _ hy).2.2.2.2.1 id x hL rfl⟩
 have kh:(bxs.map (·.b)).Nodup:=ZfZ hr.apart hb dQ
 have jS:ZtG tks:=fun i j t t' b hi hj eZ dT=>by
  obtain⟨k,q1,q2⟩:=tmem i t hi
  obtain⟨k',q3,q4⟩:=tmem j t' hj
  have q2:S.tok k=some t:=q2.resolve_right fun e=>by simp[Tok.blk,e]at eZ
  have q4:S.tok k'=some t':=q4.resolve_right fun e=>by simp[Tok.blk,e]at dT
  have:=hr.tapart k k' t t' b q2 q4 eZ dT
  subst this
  have hi':=(List.getElem?_eq_some_iff.1 q1).1
  exact(List.getElem?_inj (l:=kl) (i:=i) (j:=j) hi' pZ).1 (by rw[q1,q3])
 refine⟨eM.1,(eM.2 w hr.sub eK kh (fun t ht=>?_) jS (fun b mU=>⟨(iw b mU).1,?_⟩)).mono ?_⟩
 ·refine⟨?_,c1 t ht⟩
  obtain⟨i,hi⟩:=List.getElem?_of_mem ht
  obtain⟨k,_,q2⟩:=tmem i t hi
  rcases q2 with q2|q2
  ·exact(hr.toks k t q2).1
  ·exact .inl q2
 ·obtain⟨M,hd⟩:=hr.dom
  exact hW _ _ _ hd.p b ((iw b mU).2.2.2.1 M hd)
 rintro e w' ⟨v,m',css,tvs,rfl,cI,cC,cT,hu,fC,cR,fX,kA,nT,hR⟩
 have fR:∀u∈tvs,ZbS u=true:=fun u hu=>by
  obtain⟨i,hi⟩:=List.getElem?_of_mem hu
  have bA:=(List.getElem?_eq_some_iff.1 hi).1
  exact(kA i (tks[i]'(by omega)) u (List.getElem?_eq_getElem (by omega)) hi).1
 have hk:=ZkQ (ZgO (Shape.all_fits _ _ bM v (eD _ _ _ _ hR) m' cI (fun b o u hu=>(cT b o u hu).imp_right fun h=>h.imp_right fun h o=>by
  cases he:m b o with
  | none=>rfl
  | some u=>have:=hr.sub.lt he;omega)) css (by omega)) tvs (by omega) fR hR
 refine⟨v,_,m',rfl,hk,?_⟩
 have lN:∀b,b < w.heap.size→¬Y b→∀o,m b o=none→m' b o=none:=fun b bA hn o ho=>by
  cases he:m' b o with
  | none=>rfl
  | some u=>
   rcases cT b o u he with h|h|h
   ·rw[ho]at h;cases h
   ·exact absurd h hn
   ·omega
 have dX:∀b,¬Y b→∀o u,m b o=some u→m' b o=some u:=fun b hn o u h=>cI b o u (by rw[Mem.off_at hn];exact h)
 have lc:∀id y,(Zcw S ids bxs css).L id=some y→∃x,S.L id=some x∧x.b=y.b:=fun id y hy=>by
  rcases Zea (S:=S) dQ bQ (by omega:css.length=ids.length) id with⟨_,h4⟩|⟨i,x,cs,h3,h4,h5,h6⟩
  ·exact⟨y,by rw[←h4];exact hy,rfl⟩
  ·obtain⟨id',g1,g2⟩:=bZ i x h4
   rw[h3]at g1;cases g1
   rw[h6]at hy;cases hy
   exact⟨x,g2,rfl⟩
 have p6:∀id x,S.L id=some x→∃y,(Zcw S ids bxs css).L id=some y∧y.b=x.b:=fun id x hx=>by
  rcases Zea (S:=S) dQ bQ (by omega:css.length=ids.length) id with⟨_,h4⟩|⟨i,x',cs,h3,h4,h5,h6⟩
  ·exact⟨x,by rw[h4];exact hx,rfl⟩
  ·obtain⟨id',g1,g2⟩:=bZ i x' h4
   rw[h3]at g1;cases g1
   rw[hx]at g2;cases g2
   exact⟨_,h6,rfl⟩
 have qP:∀M,Dom C S m a w M→∀b,b∈bxs.map (·.b)→M b:=fun M hd b hb=>by
  obtain⟨z,hz,rfl⟩:=List.mem_map.1 hb
  obtain⟨i,hi⟩:=List.getElem?_of_mem hz
  obtain⟨id',_,g2⟩:=bZ i z hi
  exact hd.own id' z g2
 have mV:∀b,b∈bxs.map (·.b)→∃id x,S.L id=some x∧x.b=b:=fun b hb=>by
  obtain⟨z,hz,rfl⟩:=List.mem_map.1 hb
  obtain⟨i,hi⟩:=List.getElem?_of_mem hz
  obtain⟨id',_,g2⟩:=bZ i z hi
  exact⟨id',z,g2,rfl⟩
 have iN:(Zcw S ids bxs css).env=S.env∧(Zcw S ids bxs css).ids=S.ids∧(Zcw S ids bxs css).tkeys=S.tkeys∧(Zcw S ids bxs css).gh=S.gh:=by rw[ZcB];exact⟨rfl,rfl,rfl,rfl⟩
 have kB:∀k t,Zog S.tok kl tks tvs k=some t→(k ∉ kl∧S.tok k=some t)∨∃(q:Nat)(t0:Tok)(tv:Value),kl[q]?=some k∧tks[q]?=some t0∧tvs[q]?=some tv∧t=⟨tv,t0.esz⟩:=fun k t ht=>by
  rcases ZkR (tok:=S.tok) pZ tlen (by omega:tvs.length=kl.length) k with⟨q1,q2⟩|⟨q,t0,tv,q1,q2,q3,q4⟩
  ·exact .inl ⟨q1,by rw[←q2];exact ht⟩
  ·rw[ht]at q4;cases q4
   exact .inr ⟨q,t0,tv,q1,q2,q3,rfl⟩
 refine⟨?_,hr.size,fun i sv he=>?_,fun id y hy=>?_,fun id id' y y' hy hy' e=>?_,fun id y hy=>?_,fun k t ht=>?_,fun k t ht=>?_,fun k k' t t' b ht ht' eZ dT=>?_,cC,fun b o u nU=>?_,?_⟩
 ·obtain⟨ms,q1,q2,q3⟩:=hr.defers
  refine⟨ms,q1,q2,fun D hD=>?_⟩
  rw[hu.block D (Array.getElem?_eq_some_iff.1 (q3 D hD)).1 (fun hm=>?_)]
  ·exact q3 D hD
  ·rcases hm with hm|hm
   ·obtain⟨id,x,g1,g2⟩:=mV D hm
    obtain⟨sp,fr,g3,_⟩:=(hr.own id x g1).cells
    have:=q3 D hD
    rw[←g2,g3]at this;cases this
   ·exact(iw D hm).2.1 _ (q3 D hD)
 ·simp only[iN.1]at he
  obtain⟨u,q1,q2⟩:=hr.env i sv he
  refine⟨u,?_,q2⟩
  cases sv with
  | v x=>exact q1
  | loc id off=>
   simp only[St.den]at q1 ⊢
   cases hx:S.L id with
   | none=>simp[hx]at q1
   | some x=>
    obtain⟨y,g1,g2⟩:=p6 id x hx
    simp only[hx]at q1
    simp only[g1,g2];exact q1
  | sl id n c=>
   simp only[St.den]at q1 ⊢
   cases hx:S.L id with
   | none=>simp[hx]at q1
   | some x=>
    obtain⟨y,g1,g2⟩:=p6 id x hx
    simp only[hx]at q1
    simp only[g1,g2];exact q1
 ·rcases Zea (S:=S) dQ bQ (by omega:css.length=ids.length) id with⟨h3,h4⟩|⟨i,x,cs,h3,h4,h5,h6⟩
  ·have hy':S.L id=some y:=by rw[←h4];exact hy
   have ho:=hr.own id y hy'
   have hn:¬Y y.b:=fun hh=>(iw _ hh).2.2.2.2.1 id y hy' rfl
   have cK:w'.heap[y.b]?=w.heap[y.b]?:=hu.block _ ho.lt (fun hm=>by
    rcases hm with hm|hm
    ·obtain⟨z,hz,nC⟩:=List.mem_map.1 hm
     obtain⟨i,hi⟩:=List.getElem?_of_mem hz
     obtain⟨id',g1,g2⟩:=bZ i z hi
     have:=hr.apart _ _ _ _ g2 hy' nC
     subst this
     exact h3 (List.mem_of_getElem? g1)
    ·exact hn hm)
   exact⟨by rw[cK];exact ho.cells,fun hz o=>lN _ ho.lt hn o (ho.free hz o),fun hz j u hu=>dX _ hn _ _ (ho.known hz j u hu),ho.whole⟩
  ·simp only[h6,Option.some.injEq]at hy
   subst hy
   exact cR i x cs h4 h5
 ·obtain⟨x,g1,g2⟩:=lc id y hy
  obtain⟨x',g3,g4⟩:=lc id' y' hy'
  exact hr.apart _ _ _ _ g1 g3 (by rw[g2,g4,e])
 ·obtain⟨x,g1,g2⟩:=lc id y hy
  simp only[iN.2.1];exact hr.ids id x g1
 ·rcases kB k t ht with⟨q1,q2⟩|⟨q,t0,tv,q1,q2,q3,rfl⟩
  ·obtain⟨g1,g2⟩:=hr.toks k t q2
   have hn:∀b,t.blk=some b→¬Y b:=fun b hb hh=>q1 ((iw b hh).2.2.2.2.2 k t q2 hb)
   refine⟨g1.same (fun b hb=>hu.block b (g1.lt hb) (fun hm=>?_)) (fun b o hb=>lN b (g1.lt hb) (hn b hb) o),fun b hb=>⟨fun id y hy=>?_,(g2 b hb).2⟩⟩
   ·rcases hm with hm|hm
    ·obtain⟨id,x,g3,g4⟩:=mV b hm
     exact(g2 b hb).1 id x g3 g4
    ·exact hn b hb hm
   ·obtain⟨x,g3,g4⟩:=lc id y hy
    rw[←g4];exact(g2 b hb).1 id x g3
  ·obtain⟨g1,g2,g3⟩:=kA q t0 tv q2 q3
   refine⟨g2,fun b hb=>⟨fun id y hy=>?_,?_⟩⟩
   ·obtain⟨x,g4,g5⟩:=lc id y hy
    rw[←g5]
    rcases(g3 b hb).1 with h|h
    ·exact(iw b h).2.2.2.2.1 id x g4
    ·have:=(hr.own id x g4).lt;omega
   ·rcases(g3 b hb).1 with h|h
    ·exact(iw b h).2.2.1
    ·intro o
     cases he:C.m0 b o with
     | none=>rfl
     | some u=>have:=hr.sub.lt (hr.le _ _ _ he);omega
 ·rcases kB k t ht with⟨q1,q2⟩|⟨q,t0,tv,q1,q2,q3,rfl⟩
  ·exact List.mem_append_right _ (hr.tkeys k t q2)
  ·exact List.mem_append_left _ (List.mem_of_getElem? q1)
 ·have cross:∀(k k':Nat)(t t':Tok),(k ∉ kl∧S.tok k=some t)→(∃(q:Nat)(t0:Tok)(tv:Value),kl[q]?=some k'∧tks[q]?=some t0∧tvs[q]?=some tv∧t'=⟨tv,t0.esz⟩)→t.blk=some b→t'.blk=some b→False:=by
   rintro k k' t t' ⟨q1,q2⟩ ⟨q,t0,tv,q3,q4,q5,rfl⟩ e1 e2
   rcases((kA q t0 tv q4 q5).2.2 b e2).1 with h|h
   ·exact q1 ((iw b h).2.2.2.2.2 k t q2 e1)
   ·have:=(hr.toks k t q2).1.lt e1;omega
  rcases kB k t ht with h3|h3 <;> rcases kB k' t' ht' with h4|h4
  ·exact hr.tapart k k' t t' b h3.2 h4.2 eZ dT
  ·exact(cross k k' t t' h3 h4 eZ dT).elim
  ·exact(cross k' k t' t h4 h3 dT eZ).elim
  ·obtain⟨q,t0,tv,q1,q2,q3,rfl⟩:=h3
   obtain⟨q',t0',tv',q1',q2',q3',rfl⟩:=h4
   have hz:∀(q:Nat)(t0:Tok)(tv:Value),tks[q]?=some t0→tvs[q]?=some tv→((tks.zip tvs).map fun q=>(⟨q.2,q.1.esz⟩:Tok))[q]?=some ⟨tv,t0.esz⟩:=fun q t0 tv h5 h6=>by
    rw[List.getElem?_map,(List.getElem?_zip_eq_some (z:=(t0,tv))).2 ⟨h5,h6⟩];rfl
   have:=nT q q' _ _ b (hz q t0 tv q2 q3) (hz q' t0' tv' q2' q3') eZ dT
   subst this
   rw[q1]at q1';cases q1';rfl
 ·refine dX b (fun hh=>?_) o u (hr.le b o u nU)
  rw[(iw b hh).2.2.1 o]at nU;cases nU
 ·obtain⟨M,hd⟩:=hr.dom
  have hu':Upd M w w':=⟨hu.os,hu.tape,hu.output,hu.size,fun k hk hn=>hu.block k hk (fun hm=>hn (by
   rcases hm with hm|hm
   ·exact qP M hd k hm
   ·exact(iw k hm).2.2.2.1 M hd)),hu.wr⟩
  have eC:=hd.step (m':=m') hu' (fun b o u h=>by
   rcases cT b o u h with h|h|h
   ·exact .inl h
   ·exact .inr (.inl ((iw b h).2.2.2.1 M hd))
   ·exact .inr (.inr ⟨h,cC.lt (by assumption)⟩))
  refine⟨_,by simpa only[iN.2.2.2]using eC.p,eC.lt,fun id y hy=>?_,fun k t b ht hb=>?_,eC.mks,eC.new⟩
  ·obtain⟨x,g1,g2⟩:=lc id y hy
   rw[←g2];exact eC.own id x g1
  ·rcases kB k t ht with⟨q1,q2⟩|⟨q,t0,tv,q1,q2,q3,rfl⟩
   ·exact eC.tok k t b q2 hb
   ·obtain⟨g1,g2,g3⟩:=kA q t0 tv q2 q3
    rcases(g3 b hb).1 with h|h
    ·exact .inl ((iw b h).2.2.2.1 M hd)
    ·exact .inr ⟨h,g2.lt hb⟩
theorem Zot{C:Ctx}{S:St}{m:Mem}{a:Act}{w:World}{E:Env}{rt:TypeId}{g:FuncId}{args:List Value}{K:Value→Int→Prop}(hY:YOk E C)(hr:Rel C S m a w)(h:Zwb E rt g args K S m):
  ZgC E.P g∧Calls E.P g args.toArray w fun e w'=>∃v gh,e=.returned v∧K v gh∧Rel C { S with gh:=gh } m a w':=by
 unfold Zwb at h
 split at h
 ·exact h.elim
 rename_i Y gv
 obtain⟨l,xs,go,stop,gX,nV,eD,bM⟩:=h
 have qQ:=hY.y Y gv
 obtain⟨M0,hd⟩:=hr.dom
 let at':Int→Int:=fun j=>if j < 0 then -1 else S.gh+j
 let p:Int→(Nat→Prop)→World→Prop:=fun j M w1=>C.p (at' j) (fun k=>M0 k∨M k) w1∧(∀k,M k→w.heap.size≤k)∧w.heap.size≤w1.heap.size∧(∀k,M0 k→w1.heap[k]?=w.heap[k]?)∧Sub m w1
 have nW:∀b o v,m b o=some v→b < w.heap.size:=fun b o v hv=>hr.sub.lt hv
 have hp:ZtZ p:=by
  rintro j M M' w1 w2 ⟨h1,h2,h3,h4,h5⟩ hu hM'
  have cW:∀k,M' k→w.heap.size≤k:=fun k hk=>by
   rcases hM' k hk with hk|hk
   ·exact h2 k hk
   ·exact Nat.le_trans h3 hk.1
  have eC:∀k,k < w.heap.size→w2.heap[k]?=w1.heap[k]?:=fun k hk=>hu.block k (Nat.lt_of_lt_of_le hk h3) fun hm=>by have:=h2 k hm;omega
  refine⟨C.st _ _ _ _ _ h1 ⟨hu.os,hu.tape,hu.output,hu.size,fun k hk hn=>hu.block k hk fun hm=>hn (.inr hm),hu.wr⟩ (fun k hk=>?_),cW,Nat.le_trans h3 hu.size,fun k hk=>by rw[eC k (hd.lt k hk)];exact h4 k hk,fun b o v hv=>?_⟩
  ·rcases hk with hk|hk
   ·exact .inl (.inl hk)
   ·rcases hM' k hk with hk|hk
    ·exact .inl (.inr hk)
    ·exact .inr hk
  ·rw[Zbi (eC b (nW b o v hv))];exact h5 b o v hv
 have nX:p 0 (fun _=>False) w:=by
  refine⟨?_,fun _ h=>h.elim,Nat.le_refl _,fun _ _=>rfl,hr.sub⟩
  have e1:at' 0=S.gh:=by simp[at']
  have e2:(fun k=>M0 k∨False)=M0:=by funext k;simp
  rw[e1]
  show C.p S.gh (fun k=>M0 k∨False) w
  rw[e2];exact hd.p
 have qR:ZkP E.P m p (fun l' g v=>l'=l∧0≤g∧xs[g.toNat]?=some v):=by
  rintro F n l' j v M w1 hF lO ⟨rfl,hj,eY⟩ ⟨h1,h2,h3,h4,h5⟩ cC
  have e1:at' j=S.gh+((j.toNat:Nat):Int):=by
   show(if j < 0 then -1 else S.gh+j)=_
   rw[if_neg (by omega)];omega
  rw[e1]at h1
  have bA:∀k,M0 k∨M k→k < w1.heap.size:=fun k hk=>by
   rcases hk with hk|hk
   ·exact Nat.lt_of_lt_of_le (hd.lt k hk) h3
   ·exact lO k hk
  have qS:=qQ F n l' _ v (fun k=>M0 k∨M k) w1 hF bA (nV _ _ eY) h1 (fun b o v hv=>cC b o v (hr.le b o v hv))
  obtain⟨fn,tmps,asg,bdy,lP,fE⟩:=qS
  refine⟨fn,tmps,asg,bdy,lP,fE.mono ?_⟩
  rintro e w2 ⟨b,rfl,mW,fW⟩
  have jT:Sub m w2:=fun b o v hv=>by
   rcases hd.new b o v hv with h6|h6
   ·exact fW.sub b o v h6
   ·have hb:=fW.block b (Nat.lt_of_lt_of_le (hd.lt b h6) h3) (.inl h6)
    rw[Zbi hb];exact cC b o v hv
  refine⟨b,rfl,⟨?_,h2,Nat.le_trans h3 fW.size,fun k hk=>?_,jT⟩,⟨fW.size,fun k hk hm=>fW.block k hk (.inr hm),jT⟩⟩
  ·cases b with
   | true=>
    have e2:at' (j+1)=S.gh+((j.toNat:Nat):Int)+1:=by
     show(if j+1 < 0 then -1 else S.gh+(j+1))=_
     rw[if_neg (by omega)];omega
    simp only[if_true]at mW ⊢
    rw[e2];exact mW
   | false=>
    simp only[Bool.false_eq_true,if_false]at mW ⊢
    exact mW
  ·rw[fW.block k (Nat.lt_of_lt_of_le (hd.lt k hk) h3) (.inl hk)];exact h4 k hk
 refine⟨gX.1,(gX.2 p hp w hr.sub nX qR).mono ?_⟩
 rintro e w' ⟨v,M,rfl,lO,jt⟩
 have fin:∀j,p j M w'→Rel C { S with gh:=at' j } m a w':=by
  rintro j ⟨h1,h2,h3,h4,h5⟩
  refine hr.yielded hd (C.st _ _ _ _ _ h1 (Upd.refl _ _) fun k hk=>.inl (.inl hk)) ⟨h3,fun k _ hk=>h4 k hk,fun b o v hv=>h5 b o v (hr.le b o v hv)⟩
 have hv:go v∨stop v:=by
  rcases jt with h|h
  ·exact .inl h.1
  ·exact .inr h.1
 have hk:=Shape.all_fits _ _ bM v (eD v hv)
 rcases jt with⟨h1,h2⟩|⟨h1,h2⟩
 ·have:=fin _ h2
  have e1:at' (xs.length:Int)=S.gh+(xs.length:Int):=by
   show(if((xs.length:Nat):Int) < 0 then -1 else S.gh+((xs.length:Nat):Int))=_
   rw[if_neg (by omega)]
  rw[e1]at this
  exact⟨v,_,rfl,hk.1 h1,this⟩
 ·have:=fin _ h2
  have e1:at' (-1)=-1:=rfl
  rw[e1]at this
  exact⟨v,_,rfl,hk.2 h1,this⟩
theorem Zqz{E:Env}(hE:E.ok){F:Fence}(hF:FOk F)(hY:YOk E C){o:Oper}(hd:∀t,o.dst=some t→t < C.n)(hr:Rel C S m a w){K:St→Mem→Prop}(h:opW E S m o K){n:Nat}{next:Act→World→Prop}{Q:Exit→Act→World→Prop}
  (hK:∀S' m' a' w',K S' m'→Rel C S' m' a' w'→next a' w'):o.uponIn F n E.P a next Q ((execOp a.eval o).run E.P w):=by
 obtain⟨dst,op,type,pos,after,guard⟩:=o
 cases op with
 | move x=>exact hK _ _ _ _ h (hr.putEv' dst hd x)
 | assign x=>exact hK _ _ _ _ h (hr.putEv' dst hd x)
 | pick c x y=>
  obtain⟨v,hv,h⟩:=ZaC h
  obtain⟨h1,h2⟩:=Zae h
  have he:=hr.ev hv
  obtain⟨b,rfl⟩:∃b,v=.bool b:=⟨_,Zbz h1⟩
  have bL:(execOp a.eval ⟨dst,.pick c x y,type,pos,after,guard⟩).run E.P w=.ok (.value (if b then a.eval x else a.eval y)) w:=by
   simp[execOp,he,asBool]
  rw[bL]
  simp only[Zcl]at h2
  cases b
  ·exact hK _ _ _ _ h2 (hr.putEv' dst hd y)
  ·exact hK _ _ _ _ h2 (hr.putEv' dst hd x)
 | load T x=>
  have h':∃v,K (S.put dst (some (.v v))) m∧(Instr.loadAt T (a.eval x)).run E.P w=.ok v w:=by
   simp only[opW]at h
   cases ld:Zpp E dst with
   | none=>
    simp only[ld]at h
    exact ZfY hE hr h
   | some y=>
    simp only[ld]at h
    cases cG:E.fix with
    | some f=>simp[cG]at h
    | none=>
     simp only[cG,Option.isSome_none,cond_false]at h
     obtain⟨v,hk,bL⟩:=ZfY hE hr h
     exact⟨v,ZsC hk,bL⟩
  obtain⟨v,hk,bL⟩:=h'
  have dB:(execOp a.eval ⟨dst,.load T x,type,pos,after,guard⟩).run E.P w=.ok (.value v) w:=by simp[execOp,bL]
  rw[dB]
  exact hK _ _ _ _ hk (hr.put dst hd rfl)
 | store T x y=>
  obtain⟨v,hv,h⟩:=ZaC h
  have he:=hr.ev hv
  cases ju:ZmS E x with
  | none=>
   simp only[ju]at h
   obtain⟨S',w',hk,bB,bL⟩:=ZlF hE hr h
   have dB:(execOp a.eval ⟨dst,.store T x y,type,pos,after,guard⟩).run E.P w=.ok .skip w':=by simp[execOp,he,bL]
   rw[dB]
   exact hK _ _ _ _ hk (bB.putNone dst _)
  | some key=>
   simp only[ju]at h
   cases cG:E.fix with
   | some f=>simp[cG]at h
   | none=>
    simp only[cG,Option.isSome_none,cond_false]at h
    obtain⟨m',w',hk,bB,bL⟩:=ZgV hE hY hr h
    have dB:(execOp a.eval ⟨dst,.store T x y,type,pos,after,guard⟩).run E.P w=.ok .skip w':=by simp[execOp,he,bL]
    rw[dB]
    exact hK _ _ _ _ hk (bB.putNone dst _)
 | alloc T=>
  simp only[opW,Zqv]at h
  cases dst with
  | none=>exact h.elim
  | some d=>
   simp only at h
   cases ht:E.tt T with
   | none=>simp[ht]at h
   | some i=>
    simp only[ht]at h
    cases hL:S.L d with
    | some x=>simp[hL]at h
    | none=>
     simp only[hL]at h
     have cB:=hE T i ht
     have hz:=cB.run_zero (w:=w)
     have gE:i.zero.cells.toList.length=i.size:=by simpa using cB.zsize
     have hb:=hr.newBox (d:=d) hL (x:={ b:=w.heap.size,cs:=i.zero.cells.toList,T:=T,cap:=i.size,fz:=false,full:=true }) (m':=m) [] rfl (by simpa using gE) (fun _=>gE) (.inl ⟨rfl,rfl⟩)
     simp only[List.append_nil,Array.toArray_toList]at hb
     have bL:(execOp a.eval ⟨some d,.alloc T,type,pos,after,guard⟩).run E.P w=.ok (.value (.pointer (some ⟨w.heap.size,0,none⟩))) (w.alloc (.cells i.zero.cells T (0,0))):=by
      simp[execOp,Instr.alloc,hz,newVar,newRow]
     rw[bL]
     exact hK _ _ _ _ (h w.heap.size) (hb.put (some d) hd (by simp[St.den,St.newL]))
 | box T x=>
  obtain⟨v,hv,h⟩:=ZaC h
  have he:=hr.ev hv
  cases kC:Zf0 E dst with
  | true=>
   simp only[kC,cond_true]at h
   cases cG:E.fix with
   | some f=>simp[cG]at h
   | none=>
    simp only[cG,Option.isSome_none,cond_false,Zvh]at h
    cases dst with
    | none=>exact h.elim
    | some d=>
     simp only at h
     cases ht:E.tt T with
     | none=>simp[ht]at h
     | some i=>
      simp only[ht]at h
      cases hL:S.L d with
      | some x=>simp[hL]at h
      | none=>
       simp only[hL]at h
       obtain⟨h1,h2⟩:=Zae h
       have bT:=Nat.eq_of_beq_eq_true h1
       have gE:v.cells.toList.length=i.size:=by simpa using bT
       have bS:m.free w.heap.size:=fun o=>by
        cases he:m w.heap.size o with
        | none=>rfl
        | some v=>have:=hr.sub.lt he;omega
       have hb:=hr.newBox (d:=d) hL (x:={ b:=w.heap.size,cs:=v.cells.toList,T:=T,cap:=i.size,fz:=true,full:=true }) (m':=m.add w.heap.size v.cells.toList) [] rfl (by simpa using gE) (fun _=>gE) (.inr ⟨rfl,rfl⟩)
       simp only[List.append_nil,Array.toArray_toList]at hb
       have bL:(execOp a.eval ⟨some d,.box T x,type,pos,after,guard⟩).run E.P w=.ok (.value (.pointer (some ⟨w.heap.size,0,none⟩))) (w.alloc (.cells v.cells T (0,0))):=by
        simp[execOp,he,Instr.box,newVar,newRow]
       rw[bL]
       exact hK _ _ _ _ (Zor (h2 w.heap.size _ (Mem.le_add bS _) (fun j v hv=>by rw[Mem.add_same];simpa using hv)) bS (fun b' o u hu=>by
        by_cases e:b'=w.heap.size
        ·exact .inr e
        ·rw[Mem.add_other _ e]at hu;exact .inl hu)) (hb.put (some d) hd (by simp[St.den,St.newL]))
  | false=>
  simp only[kC,cond_false]at h
  simp only[ZwE]at h
  cases dst with
  | none=>exact h.elim
  | some d=>
   simp only at h
   cases ht:E.tt T with
   | none=>simp[ht]at h
   | some i=>
    simp only[ht]at h
    cases hL:S.L d with
    | some x=>simp[hL]at h
    | none=>
     simp only[hL]at h
     obtain⟨h1,h2⟩:=Zae h
     have bT:=Nat.eq_of_beq_eq_true h1
     have gE:v.cells.toList.length=i.size:=by simpa using bT
     have hb:=hr.newBox (d:=d) hL (x:={ b:=w.heap.size,cs:=v.cells.toList,T:=T,cap:=i.size,fz:=false,full:=true }) (m':=m) [] rfl (by simpa using gE) (fun _=>gE) (.inl ⟨rfl,rfl⟩)
     simp only[List.append_nil,Array.toArray_toList]at hb
     have bL:(execOp a.eval ⟨some d,.box T x,type,pos,after,guard⟩).run E.P w=.ok (.value (.pointer (some ⟨w.heap.size,0,none⟩))) (w.alloc (.cells v.cells T (0,0))):=by
      simp[execOp,he,Instr.box,newVar,newRow]
     rw[bL]
     exact hK _ _ _ _ (h2 w.heap.size) (hb.put (some d) hd (by simp[St.den,St.newL]))
 | buildSlice T len parts=>
  simp only[opW]at h
  cases gL:ZcM E dst with
  | some ke=>
   simp only[gL]at h
   cases cG:E.fix with
   | some f=>simp[cG]at h
   | none=>
    simp only[cG,Option.isSome_none,cond_false]at h
    split at h
    ·rename_i hp
     have qT:parts=#[]:=by rw[←Array.toArray_toList (xs:=parts),hp]
     subst qT
     obtain⟨S',v,w',hk,bB,_,hx⟩:=ZgR hE (fun m' e=>by cases e;rfl) hd hr h
     obtain⟨i,e,g1,g2,rfl,rfl⟩:=hx rfl
     have hu:=(hE T i g1).run_und (w:=w)
     rw[g2]at hu
     have bT:∃n,(Go.sizeOf e).run E.P w=.ok n w:=by
      unfold ZlJ at h
      cases dst with
      | none=>exact h.elim
      | some d=>
       simp only at h
       cases hs:ZaB E T with
       | none=>simp[hs]at h
       | some ej=>
        obtain⟨e',j⟩:=ej
        obtain⟨i',q1,q2,q3⟩:=ZaJ hs
        rw[g1]at q1;cases q1
        rw[g2]at q2;cases q2
        exact⟨_,(hE _ j q3).run_size (w:=w)⟩
     obtain⟨n0,bT⟩:=bT
     have bL:(execOp a.eval ⟨dst,.buildSlice T 0 #[],type,pos,after,guard⟩).run E.P w=.ok (.value (.slice (some ⟨w.heap.size,0,none⟩) 0 0)) (w.alloc (.cells #[] e (0,0))):=by
      simp[execOp,Instr.buildSlice,hu,bT,newRow,Instr.fill]
      congr 2
      apply Array.ext'
      simp
     rw[bL]
     exact hK _ _ _ _ hk bB
    ·exact h.elim
  | none=>
  simp only[gL,Zec]at h
  cases dst with
  | none=>exact h.elim
  | some d=>
   simp only at h
   cases ht:E.tt T with
   | none=>simp[ht]at h
   | some t=>
    simp only[ht]at h
    have fS:=hE T t ht
    cases nY:t.d with
    | slice e=>
     simp only[nY]at h
     cases hi:E.tt e with
     | none=>simp[hi]at h
     | some i=>
      simp only[hi]at h
      have cB:=hE e i hi
      cases hL:S.L d with
      | some x=>simp[hL]at h
      | none=>
       simp only[hL]at h
       obtain⟨h1,h2⟩:=Zae h
       simp only[Bool.and_eq_true,Nat.ble_eq]at h1
       have h3:=ZbT hr h2
       obtain⟨h4,h5⟩:=Zae h3
       generalize dY:List.map a.eval (List.map (fun x=>x.2) parts.toList)=vs at *
       have bQ:parts.toList.length=len:=Nat.eq_of_beq_eq_true h1.2.1
       have gJ:vs.length=len:=by rw[←dY];simpa using bQ
       have fC:(Zbv vs).length=len*i.size:=by rw[ZmO h4,gJ]
       have bS:m.free w.heap.size:=fun o=>by
        cases he:m w.heap.size o with
        | none=>rfl
        | some v=>have:=hr.sub.lt he;omega
       have hb:=hr.newBox (d:=d) hL (x:={ b:=w.heap.size,cs:=Zbv vs,T:=e,cap:=len*i.size,fz:=true,full:=true }) (m':=m.add w.heap.size (Zbv vs)) [] rfl (by simpa using fC) (fun _=>fC) (.inr ⟨rfl,rfl⟩)
       simp only[List.append_nil]at hb
       have hu:=fS.run_und (w:=w)
       rw[nY]at hu
       have bT:=cB.run_size (w:=w)
       have hz:=cB.run_zero (w:=w)
       have kD:(parts.map fun x=>(x.1,a.eval x.2)).toList=(List.range' 0 vs.length).zip vs:=by
        have e1:=ZgP h1.1
        simp only[List.length_map]at e1
        rw[bQ,←gJ]at e1
        rw[←e1,←dY,List.map_map,List.zip_map']
        simp
       have gE:i.zero.cells.toList.length=i.size:=by simpa using cB.zsize
       have nZ:∀zz:Array Value,((Array.range (len*i.size)).map (fun q=>zz[q % zz.size]!)).toList.length=vs.length*i.size:=fun zz=>by simp[gJ]
       have jU:∀zz:Array Value,Instr.fill (fun q=>some (q*i.size,i.size)) ((Array.range (len*i.size)).map (fun q=>zz[q % zz.size]!)) (parts.map fun x=>(x.1,a.eval x.2)).toList=some (Zbv vs).toArray:=fun zz=>by
        have:=ZkS i.size vs 0 [] ((Array.range (len*i.size)).map (fun q=>zz[q % zz.size]!)).toList h4 (by simp) (nZ zz)
        rw[kD]
        simpa only[List.nil_append,Array.toArray_toList]using this
       have cI:¬(16777216 < len*i.size):=by omega
       have bL:(execOp a.eval ⟨some d,.buildSlice T len parts,type,pos,after,guard⟩).run E.P w=.ok (.value (.slice (some ⟨w.heap.size,0,none⟩) len len)) (w.alloc (.cells (Zbv vs).toArray e (0,0))):=by
        by_cases h0:len*i.size=0
        ·have:=jU #[]
         simp only[h0]at this
         simp[execOp,Instr.buildSlice,hu,bT,h0,newRow]
         simp at this
         simp[this]
        ·have:=jU i.zero.cells
         simp[execOp,Instr.buildSlice,hu,bT,cI,h0,hz,newRow]
         simp at this
         simp[this]
       rw[bL]
       exact hK _ _ _ _ (h5 w.heap.size bS) (hb.put (some d) hd (by simp[St.den,St.newL]))
    | _=>simp[nY]at h
 | makeSlice T l c=>
  have h':∃S' m' v w',K S' m'∧Rel C S' m' (a.put dst v) w'∧(Instr.makeSlice T (a.eval l) (a.eval c)).run E.P w=.ok v w':=by
   simp only[opW]at h
   cases gL:ZcM E dst with
   | none=>
    simp only[gL]at h
    cases lf:ZrW E dst with
    | false=>
     simp only[lf,cond_false]at h
     obtain⟨S',v,w',g⟩:=ZmQ hE hd hr h
     exact⟨S',m,v,w',g⟩
    | true=>
     simp only[lf,cond_true]at h
     cases cG:E.fix with
     | some f=>simp[cG]at h
     | none=>
      simp only[cG,Option.isSome_none,cond_false]at h
      exact ZlI hE hd hr h
   | some ke=>
    simp only[gL]at h
    cases cG:E.fix with
    | some f=>simp[cG]at h
    | none=>
     simp only[cG,Option.isSome_none,cond_false]at h
     obtain⟨S',v,w',g1,g2,g3,_⟩:=ZgR hE (fun m' e=>by cases e) hd hr h
     exact⟨S',m,v,w',g1,g2,g3⟩
  obtain⟨S',m',v,w',hk,bB,bL⟩:=h'
  have dB:(execOp a.eval ⟨dst,.makeSlice T l c,type,pos,after,guard⟩).run E.P w=.ok (.value v) w':=by simp[execOp,bL]
  rw[dB]
  exact hK _ _ _ _ hk bB
 | convert s d x=>
  simp only[opW]at h
  cases iD:Zf6 E s d with
  | false=>
   simp only[iD,cond_false]at h
   cases eS:Zco E s d with
   | false=>
    simp only[eS,cond_false]at h
    cases lQ:Zcp E s d with
    | false=>
     simp only[lQ,cond_false]at h
     exact ZgW hE hd hr h hK
    | true=>
     simp only[lQ,cond_true]at h
     cases cG:E.fix with
     | some f=>simp[cG]at h
     | none=>
      simp only[cG,Option.isSome_none,cond_false]at h
      obtain⟨v,hk,bL⟩:=ZgS hE lQ hr h
      have dB:(execOp a.eval ⟨dst,.convert s d x,type,pos,after,guard⟩).run E.P w=.ok (.value v) w:=by simp[execOp,bL]
      rw[dB]
      exact hK _ _ _ _ hk (hr.put dst hd rfl)
   | true=>
    simp only[eS,cond_true]at h
    cases cG:E.fix with
    | some f=>simp[cG]at h
    | none=>
     simp only[cG,Option.isSome_none,cond_false]at h
     obtain⟨S',m',v,w',hk,bB,bL⟩:=ZmR hE eS hd hr h
     have dB:(execOp a.eval ⟨dst,.convert s d x,type,pos,after,guard⟩).run E.P w=.ok (.value v) w':=by simp[execOp,bL]
     rw[dB]
     exact hK _ _ _ _ hk bB
  | true=>
   simp only[iD,cond_true]at h
   cases he:S.ev x with
   | none=>simp[he]at h
   | some sv=>
    cases sv with
    | v u=>simp[he]at h
    | loc id off=>simp[he]at h
    | sl id n' c=>
     simp only[he]at h
     obtain⟨v,h1,h2,h3⟩:=hr.ev_val he
     simp only[St.den]at h1
     cases hL:S.L id with
     | none=>simp[hL]at h1
     | some bx=>
      simp only[hL,Option.some.injEq]at h1
      unfold Zf6 at iD
      cases ht:E.tt s with
      | none=>simp[ht]at iD
      | some i=>
       simp only[ht]at iD
       cases cL:i.d with
       | slice e=>
        simp only[cL,Bool.and_eq_true]at iD
        have qU:s=d:=Nat.eq_of_beq_eq_true iD.1
        subst qU
        cases hj:E.tt e with
        | none=>simp[hj]at iD
        | some j=>
         simp only[hj]at iD
         have hu:=(hE s i ht).run_und (w:=w)
         have kt:=(hE e j hj).run_und (w:=w)
         rw[cL]at hu
         obtain⟨sp,fr,hh,hc,hf⟩:=(hr.own id bx hL).cells
         have nO:=ZcV (P:=E.P) bx.b 0 hh
         have bB:=hr.freeze hL _ ⟨_,_,_,hh,rfl⟩
         have gC:j.d=.int .u8:=by
          cases gC:j.d with
          | int kk=>cases kk <;> simp[gC]at iD <;> rfl
          | _=>simp[gC]at iD
         rw[gC]at kt
         have bL:(execOp a.eval ⟨dst,.convert s s x,type,pos,after,guard⟩).run E.P w=.ok (.value (.slice (some ⟨bx.b,0,none⟩) n' c)) (w.freeze ⟨bx.b,(bx.cs++sp).toArray.size,none⟩ 1):=by
          simp only[execOp,h3,←h1]
          simp only[convert,Sem.run_bind,hu,Result.andThen_ok,beq_self_eq_true,kt,nO,Sem.run_pure]
         rw[bL]
         exact hK _ _ _ _ h (bB.put dst hd (by simp[St.den,hL]))
       | _=>simp[cL]at iD
 | call c=>
  obtain⟨callee,args,argTypes⟩:=c
  cases callee with
  | value f=>
   simp only[opW]at h
   obtain⟨S,m,hr,h⟩:=ZhV hr h
   simp only[ZtH]at h
   cases he:S.ev f with
   | none=>simp[he]at h
   | some sv=>
    obtain⟨v,h1,h2,h3⟩:=hr.ev_val he
    cases sv with
    | v fv=>
     cases fv with
     | func fn first captured=>
      cases fn with
      | func g=>
       simp only[he]at h
       simp only[St.den,Option.some.injEq]at h1
       have qV:ZgC E.P g∧Calls E.P g (first.toList++List.map a.eval args.toList++captured.toList).toArray w fun e w'=>∃v S' m',e=.returned v∧K (S'.put dst (some (.v v))) m'∧Rel C S' m' a w':=by
        cases gX:Zeb E dst with
        | some ks=>
         simp only[gX]at h
         cases cG:E.fix with
         | some f=>simp[cG]at h
         | none=>
          simp only[cG,Option.isSome_none,cond_false]at h
          have h4:=ZbT hr h
          exact ZlN hY hr h4
        | none=>
        simp only[gX]at h
        cases lg:ZrS E dst with
        | true=>
         simp only[lg,cond_true]at h
         cases cG:E.fix with
         | some f=>simp[cG]at h
         | none=>
          simp only[cG,Option.isSome_none,cond_false]at h
          have h4:=ZbT hr h
          obtain⟨h5,h6⟩:=Zot hY hr h4
          refine⟨h5,h6.mono ?_⟩
          rintro e w' ⟨v,gh,rfl,h7,h8⟩
          exact⟨v,_,m,rfl,h7,h8⟩
        | false=>
        simp only[lg,cond_false]at h
        cases gL:ZcM E dst with
        | none=>
         simp only[gL]at h
         have h4:=ZbT hr h
         exact ZmM hr h4
        | some ke=>
         simp only[gL]at h
         cases cG:E.fix with
         | some f=>simp[cG]at h
         | none=>
          simp only[cG,Option.isSome_none,cond_false]at h
          split at h
          ·have h4:=ZbT hr h
           exact ZlM hr h4
          ·exact h.elim
       obtain⟨kE,bX⟩:=qV
       have bL:(execOp a.eval ⟨dst,.call ⟨.value f,args,argTypes⟩,type,pos,after,guard⟩).run E.P w=.ok (.enter g (first.toList++List.map a.eval args.toList++captured.toList).toArray) w:=by
        have gM:(first++Array.map a.eval args++captured)=(first.toList++List.map a.eval args.toList++captured.toList).toArray:=Array.ext' (by simp)
        simp only[execOp,resolve,h3,←h1,Deferred.ofValue]
        simp only[Sem.run_bind,Sem.run_pure,Result.andThen_ok,invoke,gM]
        exact kE _ _
       rw[bL]
       refine⟨fun hs=>by rw[hF.depth]at hs;simp at hs,?_⟩
       refine hF.calls (bX.mono ?_)
       rintro e w' ⟨v,S',m',rfl,hk,bB⟩
       exact hK _ _ _ _ hk (bB.put dst hd rfl)
      | yield l=>
       simp only[he]at h
       cases cG:E.fix with
       | some f=>simp[cG]at h
       | none=>
        simp only[cG,Option.isSome_none,cond_false]at h
        cases gv:E.yl with
        | none=>simp[gv]at h
        | some Y=>
         cases mX:first.toList with
         | cons x l=>simp[gv,mX]at h
         | nil=>
          cases oa:captured.toList with
          | cons x l=>simp[gv,mX,oa]at h
          | nil=>
           simp only[gv,mX,oa]at h
           obtain⟨hy,ir,eH⟩:=ZbT hr h
           have oe:first=#[]:=by rw[←Array.toArray_toList (xs:=first),mX]
           have og:captured=#[]:=by rw[←Array.toArray_toList (xs:=captured),oa]
           subst oe og
           obtain⟨M,hd'⟩:=hr.dom
           obtain⟨fn,tmps,asg,bdy,lP,fE⟩:=hY.y Y gv F (n - 1) l S.gh _ M w hF hd'.lt hy hd'.p (fun b o v hv=>hr.sub b o v (hr.le b o v hv))
           simp only[St.den,Option.some.injEq]at h1
           have bL:(execOp a.eval ⟨dst,.call ⟨.value f,args,argTypes⟩,type,pos,after,guard⟩).run E.P w=.ok (.round l fn tmps asg bdy) w:=by
            have gM:(#[]++Array.map a.eval args)=(List.map a.eval args.toList).toArray:=Array.ext' (by simp)
            simp only[execOp,resolve,h3,←h1,Deferred.ofValue]
            simp only[Sem.run_bind,Sem.run_pure,Result.andThen_ok,invoke,gM]
            simpa using lP
           rw[bL]
           refine⟨fun hs=>by rw[hF.depth]at hs;simp at hs,fE.mono ?_⟩
           rintro e w' ⟨b,rfl,hp,fW⟩
           cases b with
           | true=>exact hK _ _ _ _ ir ((hr.yielded hd' hp fW).put dst hd rfl)
           | false=>exact hK _ _ _ _ eH ((hr.yielded hd' hp fW).put dst hd rfl)
      | _=>simp[he]at h
     | _=>simp[he]at h
    | _=>simp[he]at h
  | invoke r m=>exact ZgW hE hd hr h hK
  | builtin b=>
   cases b with
   | append=>
    simp only[opW]at h
    split at h
    ·rename_i s x T xT d hA hT
     obtain⟨S,m,hr,h⟩:=ZhV hr h
     obtain⟨vs,dY,h⟩:=ZaC h
     obtain⟨vx,qW,h⟩:=ZaC h
     have ha:args=#[s,x]:=by rw[←Array.toArray_toList (xs:=args),hA]
     have dR:argTypes=#[T,xT]:=by rw[←Array.toArray_toList (xs:=argTypes),hT]
     subst ha dR
     obtain⟨v,tk,m',w',hk,bB,bL⟩:=ZjK (ty:=type) hE hr h
     have dB:(execOp a.eval ⟨some d,.call ⟨.builtin .append,#[s,x],#[T,xT]⟩,type,pos,after,guard⟩).run E.P w=.ok (.value v) w':=by
      simp[execOp,resolve,invoke,builtin,hr.ev dY,hr.ev qW,bL]
     rw[dB]
     exact hK _ _ _ _ hk (bB.put (some d) hd rfl)
    ·exact h.elim
   | copy=>
    simp only[opW]at h
    split at h
    ·rename_i d s T xT hA hT
     cases hh:ZeL E d with
     | none=>simp[hh]at h
     | some id=>
      simp only[hh]at h
      obtain⟨vd,nR,h⟩:=ZaC h
      obtain⟨vs,dY,h⟩:=ZaC h
      have ha:args=#[d,s]:=by rw[←Array.toArray_toList (xs:=args),hA]
      have dR:argTypes=#[T,xT]:=by rw[←Array.toArray_toList (xs:=argTypes),hT]
      subst ha dR
      obtain⟨n,S',w',hk,bB,bL⟩:=ZmT (ty:=type) (xT:=xT) hE hr h
      have dB:(execOp a.eval ⟨dst,.call ⟨.builtin .copy,#[d,s],#[T,xT]⟩,type,pos,after,guard⟩).run E.P w=.ok (.value (.int .i64 n)) w':=by
       simp[execOp,resolve,invoke,builtin,hr.ev nR,hr.ev dY,bL]
      rw[dB]
      exact hK _ _ _ _ hk (bB.put dst hd rfl)
    ·exact h.elim
   | _=>exact ZgW hE hd hr h hK
 | _=>exact ZgW hE hd hr h hK
end
end Go.Eng
namespace Go.Eng
open Go Go.RowKit
mutual
def Shape.ex:Shape→(Value→Prop)→Prop
 | .any,k=>∃v,k v
 | .int ki,k=>∃n:Int,k (.int ki n)
 | .bool,k=>∃b:Bool,k (.bool b)
 | .str,k=>∃s:ByteArray,k (.string s)
 | .slice,k=>∃(a:Option Addr)(n c:Nat),k (.slice a n c)
 | .agg l,k=>Shape.exL l fun vs=>k (.agg vs.toArray)
 | .tup l,k=>Shape.exL l fun vs=>k (.tuple vs.toArray)
 | .fn,k=>∃(g:Nat)(fi ca:List Value),k (.func (.func g) fi.toArray ca.toArray)
 | .cells,k=>∃cs:List Value,k (.agg cs.toArray)
 | .ptr,k=>∃b o:Nat,k (.pointer (some ⟨b,o,none⟩))
def Shape.exL:List Shape→(List Value→Prop)→Prop
 | [],k=>k []
 | s::l,k=>Shape.ex s fun v=>Shape.exL l fun vs=>k (v::vs)
end
mutual
theorem Shape.ex_elim:∀(s:Shape)(k:Value→Prop),s.ex k→∃v,k v
 | .any,k,h=>h
 | .int ki,k,h=>by simp only[Shape.ex]at h;obtain⟨n,h⟩:=h;exact⟨_,h⟩
 | .bool,k,h=>by simp only[Shape.ex]at h;obtain⟨n,h⟩:=h;exact⟨_,h⟩
 | .str,k,h=>by simp only[Shape.ex]at h;obtain⟨n,h⟩:=h;exact⟨_,h⟩
 | .slice,k,h=>by simp only[Shape.ex]at h;obtain⟨a,n,c,h⟩:=h;exact⟨_,h⟩
 | .agg l,k,h=>by
  simp only[Shape.ex]at h
  obtain⟨vs,_,h⟩:=Shape.exL_elim l _ h
  exact⟨_,h⟩
 | .tup l,k,h=>by
  simp only[Shape.ex]at h
  obtain⟨vs,_,h⟩:=Shape.exL_elim l _ h
  exact⟨_,h⟩
 | .fn,k,h=>by simp only[Shape.ex]at h;obtain⟨_,_,_,h⟩:=h;exact⟨_,h⟩
 | .cells,k,h=>by simp only[Shape.ex]at h;obtain⟨_,h⟩:=h;exact⟨_,h⟩
 | .ptr,k,h=>by simp only[Shape.ex]at h;obtain⟨_,_,h⟩:=h;exact⟨_,h⟩
theorem Shape.exL_elim:∀(l:List Shape)(k:List Value→Prop),Shape.exL l k→∃vs,vs.length=l.length∧k vs
 | [],k,h=>⟨[],rfl,h⟩
 | s::l,k,h=>by
  simp only[Shape.exL]at h
  obtain⟨v,h⟩:=Shape.ex_elim s _ h
  obtain⟨vs,hl,h⟩:=Shape.exL_elim l _ h
  exact⟨v::vs,by simp[hl],h⟩
end
def ZdA:Value→Bool
 | .tuple _=>true
 | _=>false
def opG(E:Env)(ops:Array Oper)(o:Oper)(S:St)(m:Mem)(K:St→Mem→Prop):Prop:=match o.guard with
 | none=>opW E S m o K
 | some (j,want)=>match ops.toList[j]? with
  | none=>False
  | some oj=>match oj.dst with
   | none=>False
   | some t=>match S.env t with
    | some (.v v)=>bif ZdA v then K (S.put o.dst (some (.v undef))) m else chk (ZgA v) (match want with
     | true=>br (Zcl v) (opW E S m o K) (K (S.put o.dst (some (.v undef))) m)
     | false=>br (Zcl v) (K (S.put o.dst (some (.v undef))) m) (opW E S m o K))
    | _=>False
def ZfB(ops:Array Oper)(o:Oper):Option Nat:=match o.guard with
 | none=>none
 | some (j,_)=>match ops.toList[j]? with
  | none=>none
  | some oj=>oj.dst
def Zvz(E:Env)(ops:Array Oper)(o:Oper)(S:St)(m:Mem)(K:St→Mem→Prop):Prop:=match ZfB ops o with
 | none=>opG E ops o S m K
 | some t=>match S.env t with
  | some (.v v)=>bif ZdA v then opG E ops o S m K else chk (ZgA v) (br (Zcl v) (opG E ops o (S.put (some t) (some (.v (.bool true)))) m K) (opG E ops o (S.put (some t) (some (.v (.bool false)))) m K))
  | _=>False
def ZtV(E:Env)(ops:Array Oper):List Nat→(St→Mem→Prop)→St→Mem→Prop
 | [],K,S,m=>K S m
 | i::l,K,S,m=>match ops.toList[i]? with
  | none=>False
  | some o=>Zvz E ops o S m (ZtV E ops l K)
def Zwd(n:Nat)(o:Oper):Bool:=match o.dst with
 | none=>true
 | some d=>Nat.blt d n
def ZkT(n:Nat):List Oper→Bool
 | []=>true
 | o::l=>Zwd n o&&ZkT n l
def Zbj(n:Nat):Code→Bool
 | .region _ ops _=>ZkT n ops.toList
 | .seq a b=>Zbj n a&&Zbj n b
 | .cond _ a b=>Zbj n a&&Zbj n b
 | .block _ a=>Zbj n a
 | .loop a=>Zbj n a
 | .scope a=>Zbj n a
 | .rangeFunc _ ps a b=>ps.toList.all (Nat.blt · n)&&(Zbj n a&&Zbj n b)
 | _=>true
def Zar:List Oper→List Nat
 | []=>[]
 | o::l=>match o.dst with
  | none=>Zar l
  | some d=>d::Zar l
def Zid:Code→List Nat
 | .region _ ops _=>Zar ops.toList
 | .seq a b=>Zid a++Zid b
 | .cond _ a b=>Zid a++Zid b
 | .block _ a=>Zid a
 | .loop a=>Zid a
 | .scope a=>Zid a
 | .rangeFunc _ ps a b=>ps.toList++(Zid a++Zid b)
 | _=>[]
def ZaN:Code→Nat
 | .region id _ _=>id
 | .seq a _=>ZaN a
 | .cond _ a _=>ZaN a
 | .block _ a=>ZaN a
 | .loop a=>ZaN a
 | .scope a=>ZaN a
 | .rangeFunc _ _ a _=>ZaN a
 | _=>0
def ZgD(S:St):List (Nat×Shape)→(List Value→Prop)→Prop
 | [],k=>k []
 | (t,sh)::l,k=>wv S (.tmp t) fun v=>chk (sh.fits v) (ZgD S l fun vs=>k (v::vs))
def ZrX(S:St):List Nat→(List (List Value)→Prop)→Prop
 | [],k=>k []
 | id::l,k=>match S.L id with
  | none=>False
  | some x=>ZrX S l fun css=>k (x.cs::css)
def ZqA(S:St)(k:Nat):Value:=match S.tok k with
 | some t=>t.v
 | none=>.slice none 0 0
def ZfC(S:St):List (Nat×Nat)→(List Value→Prop)→Prop
 | [],k=>k []
 | (q,esz)::l,k=>chk (ZbS (ZqA S q)&&(match S.tok q with
  | some t=>Nat.beq t.esz esz
  | none=>true)) (ZfC S l fun vs=>k (ZqA S q::vs))
def Zby(e:Nat→Option SV):List (Nat×Shape)→List Value→(Nat→Option SV)
 | (t,_)::l,v::vs=>fun i=>bif Nat.beq i t then some (.v v)else Zby e l vs i
 | _,_=>e
def ZgI(L:Nat→Option Box):List Nat→List (List Value)→(Nat→Option Box)
 | id::l,cs::css=>fun i=>bif Nat.beq i id then(match L i with
  | some x=>some { x with cs:=cs }
  | none=>none)else ZgI L l css i
 | _,_=>L
def Ze3(tk:Nat→Option Tok):List (Nat×Nat)→List Value→(Nat→Option Tok)
 | (q,esz)::l,v::vs=>fun i=>bif Nat.beq i q then some ⟨v,esz⟩ else Ze3 tk l vs i
 | _,_=>tk
def ZbA(S:St)(ds:List Nat)(A:LoopAnn)(g:Int)(xs:List Value)(css:List (List Value))(tvs:List Value):St:=
 {env:=Zby (fun i=>bif ds.any (Nat.beq i ·)then none else S.env i) A.slots xs
  L:=ZgI S.L A.boxes css
  ids:=S.ids
  tok:=Ze3 S.tok A.toks tvs
  tkeys:=A.toks.map (·.1)++S.tkeys
  gh:=g }
def ghs(b:Bool)(g:Int)(xs:List Value):List Value:=bif b then .int .i64 g::xs else xs
def Zvj(b:Bool)(g:Int)(k:Int→Prop):Prop:=bif b then ∀y,k y else k g
def ZkU(b:Bool)(x y:Int)(p:Prop):Prop:=bif b then p else match x,y with
 | .ofNat 0,.ofNat 0=>p
 | x,y=>x=y∧p
theorem ZdY{b:Bool}{x y:Int}{p:Prop}(h:ZkU b x y p):(b=false→x=y)∧p:=by
 cases b with
 | true=>exact⟨fun h=>(by cases h),h⟩
 | false=>
  simp only[ZkU,cond_false]at h
  split at h
  ·exact⟨fun _=>rfl,h⟩
  ·exact⟨fun _=>h.1,h.2⟩
theorem ZgX{b:Bool}{g:Int}{k:Int→Prop}(h:Zvj b g k){y:Int}(hy:b=false→y=g):k y:=by
 cases b with
 | true=>exact h y
 | false=>rw[hy rfl];exact h
def ZmU:List Nat→(List (List Value)→Prop)→Prop
 | [],k=>k []
 | _::l,k=>∀cs,ZmU l fun css=>k (cs::css)
def ZmV:List (Nat×Nat)→(List Value→Prop)→Prop
 | [],k=>k []
 | _::l,k=>∀(a:Option Addr)(n c:Nat),ZmV l fun vs=>k (.slice a n c::vs)
def ZbE(S:St)(A:LoopAnn)(ids:List Nat):List (Option Box):=ids.map fun id=>bif A.boxes.any (Nat.beq id ·)then(match S.L id with
 | some x=>some { x with cs:=[] }
 | none=>none)else S.L id
def Za5(S:St)(A:LoopAnn)(ks:List Nat):List (Option Tok):=ks.map fun k=>bif A.toks.any (fun q=>Nat.beq k q.1)then none else S.tok k
def Zmk(a b:List (Option Box))(p:Prop):Prop:=match a,b with
 | [],[]=>p
 | a,b=>a=b∧p
def Zml(a b:List (Option Tok))(p:Prop):Prop:=match a,b with
 | [],[]=>p
 | a,b=>a=b∧p
theorem ZcD{a b:List (Option Box)}{p:Prop}:Zmk a b p↔a=b∧p:=by
 unfold Zmk
 split
 ·simp
 ·exact Iff.rfl
theorem ZcE{a b:List (Option Tok)}{p:Prop}:Zml a b p↔a=b∧p:=by
 unfold Zml
 split
 ·simp
 ·exact Iff.rfl
abbrev KT:=Exit→St→Mem→Prop
def leT(th:Bool)(m m':Mem):Prop:=bif th then True else m.le m'
theorem leT.of{th:Bool}{m m':Mem}(h:m.le m'):leT th m m':=by
 cases th with
 | true=>trivial
 | false=>exact h
theorem leT.refl(th:Bool)(m:Mem):leT th m m:=.of (Mem.le_refl m)
theorem leT.trans{th:Bool}{a b c:Mem}(h:leT th a b)(k:leT th b c):leT th a c:=by
 cases th with
 | true=>trivial
 | false=>exact Mem.le_trans h k
def Env.cold(E:Env):Env:={ E with thaw:=false }
def ZwF(th:Bool)(A:LoopAnn)(ds:List Nat)(body:KT→St→Mem→Prop)(K:KT)(S:St)(m:Mem):Prop:=
 ∃I:List Value→List (List Value)→List Value→Mem→Nat→Prop,
  (ZgD S A.slots fun xs=>ZrX S A.boxes fun css=>ZfC S A.toks fun tvs=>∃n,I (ghs A.gh S.gh xs) css tvs m n)∧
  Zvj A.gh S.gh fun y=>Shape.allL (A.slots.map (·.2)) fun xs=>ZmU A.boxes fun css=>ZmV A.toks fun tvs=>∀(m':Mem)(n:Nat),leT th m m'→I (ghs A.gh y xs) css tvs m' n→
   body (fun e S' m''=>match e with
    | .normal=>ZkU A.gh S'.gh S.gh (Zmk (ZbE S' A S.ids) (ZbE S A S.ids) (Zml (Za5 S' A S.tkeys) (Za5 S A S.tkeys) (ZgD S' A.slots fun xs'=>ZrX S' A.boxes fun css'=>ZfC S' A.toks fun tvs'=>∃n',n' < n∧I (ghs A.gh S'.gh xs') css' tvs' m'' n')))
    | e=>K e S' m'') (ZbA S ds A y xs css tvs) m'
def Zxy(th:Bool)(A:LoopAnn)(ds:List Nat)(x y:KT→St→Mem→Prop)(K:KT)(S:St)(m:Mem):Prop:=
 ∃J:List Value→List (List Value)→List Value→Mem→Prop,
  x (fun e S' m'=>match e with
   | .normal=>ZkU A.gh S'.gh S.gh (Zmk (ZbE S' A S.ids) (ZbE S A S.ids) (Zml (Za5 S' A S.tkeys) (Za5 S A S.tkeys) (ZgD S' A.slots fun xs=>ZrX S' A.boxes fun css=>ZfC S' A.toks fun tvs=>J (ghs A.gh S'.gh xs) css tvs m')))
   | e=>K e S' m') S m∧
  Zvj A.gh S.gh fun g=>Shape.allL (A.slots.map (·.2)) fun xs=>ZmU A.boxes fun css=>ZmV A.toks fun tvs=>∀m':Mem,leT th m m'→J (ghs A.gh g xs) css tvs m'→y K (ZbA S ds A g xs css tvs) m'
def Zf7:LoopAnn:=⟨[],[],[],false⟩
def ZwG(outs:List (Nat×Shape))(ds:List Nat)(body:(St→Mem→Prop)→St→Mem→Prop)(K:St→Mem→Prop)(S:St)(m:Mem):Prop:=
 Shape.exL (outs.map (·.2)) fun xs=>(body (fun S' _=>ZkU false S'.gh S.gh (Zmk (ZbE S' Zf7 S.ids) (ZbE S Zf7 S.ids) (Zml (Za5 S' Zf7 S.tkeys) (Za5 S Zf7 S.tkeys) (ZgD S' outs fun xs'=>xs'=xs)))) S m)∧
  K { S with env:=Zby (fun i=>bif ds.any (Nat.beq i ·)then none else S.env i) outs xs } m
def IX(P:Program)(g:FuncId)(first captured:List Value)(m:Mem)(xs:List (List Value)):Prop:=
 ZgC P g∧∀(p:Int→(Nat→Prop)→World→Prop),ZtZ p→∀(l:Nat)(w:World),Sub m w→p 0 (fun _=>False) w→
  ZkP P m p (fun l' g v=>l'=l∧0≤g∧xs[g.toNat]?=some v)→
  Calls P g (first++.func (.yield l) #[] #[]::captured).toArray w fun e w'=>∃v M,e=.returned v∧(∀k,M k→k < w'.heap.size)∧(p xs.length M w'∨p (-1) M w')
def ZlO:List Nat→List Nat→Bool
 | [],[]=>true
 | a::l,b::l'=>Nat.beq a b&&ZlO l l'
 | _,_=>false
def ZmW(K:KT)(e:Exit)(S:St)(m:Mem):Prop:=match e with
 | .ret=>K .ret S m
 | .exit id=>K (.exit id) S m
 | .goto l=>K (.goto l) S m
 | _=>False
def ZwH(th:Bool)(m:Mem)(k:Mem→Prop):Prop:=bif th then ∃mi,Mem.le mi m∧k mi else k m
def Zwz(th:Bool)(mi m:Mem)(p:Prop):Prop:=bif th then(mi.le m∧p)else p
theorem ZqB{th:Bool}{m:Mem}{k:Mem→Prop}(h:ZwH th m k):∃mi:Mem,mi.le m∧(th=false→mi=m)∧k mi:=by
 cases th with
 | true=>obtain⟨mi,h1,h2⟩:=h;exact⟨mi,h1,fun e=>(by cases e),h2⟩
 | false=>exact⟨m,Mem.le_refl m,fun _=>rfl,h⟩
theorem ZqC{th:Bool}{mi m:Mem}{p:Prop}(h:Zwz th mi m p):(th=true→mi.le m)∧p:=by
 cases th with
 | true=>exact⟨fun _=>h.1,h.2⟩
 | false=>exact⟨fun e=>(by cases e),h⟩
theorem ZqD{th:Bool}{m:Mem}{k k':Mem→Prop}(h:∀mi:Mem,mi.le m→(th=false→mi=m)→k mi→k' mi)(hx:ZwH th m k):ZwH th m k':=by
 cases th with
 | true=>obtain⟨mi,h1,h2⟩:=hx;exact⟨mi,h1,h mi h1 (fun e=>(by cases e)) h2⟩
 | false=>exact h m (Mem.le_refl m) (fun _=>rfl) hx
theorem ZqE{th:Bool}{mi m:Mem}{p q:Prop}(h:p→q)(hx:Zwz th mi m p):Zwz th mi m q:=by
 cases th with
 | true=>exact⟨hx.1,h hx.2⟩
 | false=>exact h hx
def ZmX(th:Bool)(P:Program)(A:LoopAnn)(f:Operand)(ps:List Nat)(assign body:KT→St→Mem→Prop)(K:KT)(S:St)(m:Mem):Prop:=match S.ev f with
 | some (.v (.func (.func g) first captured))=>chk (ZlO ps (A.slots.map (·.1))&&Za6 ps) (ZwH th m fun mi=>∃xs:List (List Value),IX P g first.toList captured.toList mi xs∧(∀x∈xs,Shape.fitsL (A.slots.map (·.2)) x=true)∧
   ∃I:List Value→List (List Value)→List Value→Mem→Nat→Prop,
    (ZrX S A.boxes fun css=>ZfC S A.toks fun tvs=>I (ghs A.gh S.gh []) css tvs m 0)∧
    (Zvj A.gh S.gh fun y=>Shape.allL (A.slots.map (·.2)) fun x=>ZmU A.boxes fun css=>ZmV A.toks fun tvs=>∀(m':Mem)(n:Nat),mi.le m'→xs[n]?=some x→I (ghs A.gh y []) css tvs m' n→
     assign (fun e S1 m1=>match e with
      | .normal=>body (fun e S' m''=>Zwz th mi m'' (ZkU A.gh S'.gh S.gh (Zmk (ZbE S' A S.ids) (ZbE S A S.ids) (Zml (Za5 S' A S.tkeys) (Za5 S A S.tkeys) (ZrX S' A.boxes fun css'=>ZfC S' A.toks fun tvs'=>match e with
       | .normal=>I (ghs A.gh S'.gh []) css' tvs' m'' (n+1)
       | e=>ZmW K e (ZbA S [] { A with slots:=[] } S'.gh [] css' tvs') m''))))) S1 m1
      | _=>False) (ZbA S [] A y x css tvs) m')∧
    (Zvj A.gh S.gh fun y=>ZmU A.boxes fun css=>ZmV A.toks fun tvs=>∀m':Mem,mi.le m'→I (ghs A.gh y []) css tvs m' xs.length→K .normal (ZbA S [] { A with slots:=[] } y [] css tvs) m'))
 | _=>False
def Mem.cutA(m:Mem)(a:Option Addr)(o:Nat):Mem:=match a with
 | some ⟨b,_,_⟩=>fun b' o'=>if b'=b∧o≤o' then none else m b' o'
 | none=>m
def Mem.addA(m:Mem)(a:Option Addr)(o:Nat)(zs:List Value):Mem:=match a with
 | some ⟨b,o0,_⟩=>m.addAt b (o0+o) zs
 | none=>m
def Zxh(m m0:Mem)(esz:Nat)(a:Option Addr)(n c:Nat):Prop:=
 (a=none∧n=0∧c=0)∨∃b,a=some ⟨b,0,none⟩∧n≤c∧0 < c*esz∧(∀o,o < c*esz→∃v,m b o=some v)∧m0.free b
def Zt2(E:Env)(kz:Option (Nat×Nat))(f:(St→Mem→Prop)→St→Mem→Prop)(K:St→Mem→Prop)(S:St)(m:Mem):Prop:=match kz with
 | none=>f K S m
 | some (key,esz)=>chk (E.thaw&&E.fix.isNone) (match E.m0 with
  | none=>False
  | some m0=>∃(a:Option Addr)(n c:Nat),Zxh m m0 esz a n c∧(∀b,(Tok.mk (.slice a n c) esz).blk=some b→nfz S b S.ids (ntk S b [key] S.tkeys))∧
    f (fun S' m'=>match S'.tok key with
     | none=>False
     | some t=>chk (ZbS t.v) (∀zs:List Value,zs.length=(slC t.v - slN t.v)*t.esz→K { S' with tok:=fun k=>bif Nat.beq k key then none else S'.tok k } (m'.addA (slA t.v) (slN t.v*t.esz) zs)))
     {S with tok:=fun k=>bif Nat.beq k key then some ⟨.slice a n c,esz⟩ else S.tok k,tkeys:=key::S.tkeys } (m.cutA a (n*esz)))
def W(E:Env)(ZaZ:Nat→Array Oper→(St→Mem→Prop)→St→Mem→Prop):Code→KT→St→Mem→Prop
 | .skip,K,S,m=>K .normal S m
 | .label _,K,S,m=>K .normal S m
 | .region id ops draw,K,S,m=>match E.joins id with
  | none=>bif draw then ZaZ id ops (K .normal) S m else Zt2 E (E.acq id) (ZtV E ops (List.range ops.size)) (K .normal) S m
  | some outs=>ZwG outs (Zar ops.toList) (fun k S m=>bif draw then(bif E.last id then False else ZaZ id ops k S m)else ZtV E.cold ops (List.range ops.size) k S m) (K .normal) S m
 | .seq x y,K,S,m=>match E.cuts (ZaN y)with
  | none=>W E ZaZ x (fun e S' m'=>match e with
   | .normal=>W E ZaZ y K S' m'
   | e=>K e S' m') S m
  | some A=>Zxy E.thaw A (Zid x) (W E ZaZ x) (W E ZaZ y) K S m
 | .cond c x y,K,S,m=>wv S c fun v=>chk (ZgA v) (br (Zcl v) (W E ZaZ x K S m) (W E ZaZ y K S m))
 | .block id x,K,S,m=>W E ZaZ x (fun e S' m'=>match e with
  | .exit id'=>bif Nat.beq id' id then K .normal S' m' else K (.exit id') S' m'
  | e=>K e S' m') S m
 | .loop x,K,S,m=>ZwF E.thaw (E.loops (ZaN x)) (Zid x) (W E ZaZ x) K S m
 | .exit id,K,S,m=>K (.exit id) S m
 | .ret,K,S,m=>K .ret S m
 | .rangeFunc f ps x y,K,S,m=>ZmX E.thaw E.P (E.loops (ZaN y)) f ps.toList (W E ZaZ x) (W E ZaZ y) K S m
 | .scope x,K,S,m=>W E ZaZ x (fun e S' m'=>match e with
  | .goto _=>False
  | e=>K e S' m') S m
 | _,_,_,_=>False
section
variable {C:Ctx} {S:St} {m:Mem} {a:Act} {w:World}
theorem Zdc{E:Env}(hE:E.ok){F:Fence}(hF:FOk F)(hY:YOk E C){ops:Array Oper}{o:Oper}(hd:∀t,o.dst=some t→t < C.n)(hr:Rel C S m a w){K:St→Mem→Prop}(h:opG E ops o S m K){n:Nat}{next:Act→World→Prop}{Q:Exit→Act→World→Prop}
  (hK:∀S' m' a' w',K S' m'→Rel C S' m' a' w'→next a' w'):
  if Region.wanted o (yielded ops a.tmps)then o.wpIn F n E.P a w next Q else(∀f,o.about E.P w a.eval=some f→F.fn f)∧next (a.put o.dst undef) w:=by
 have p7:opW E S m o K→o.wpIn F n E.P a w next Q:=fun hh=>by
  have hC:∀c,o.op≠.defer c:=fun c e=>by
   obtain⟨dst,op,type,pos,after,guard⟩:=o
   simp only at e;subst e
   simp[opW,Zcv]at hh
  refine⟨fun f _=>hF.fn f,?_⟩
  rw[Oper.semAt_eq _ _ _ hC]
  exact Zqz hE hF hY hd hr hh hK
 have ju:K (S.put o.dst (some (.v undef))) m→(∀f,o.about E.P w a.eval=some f→F.fn f)∧next (a.put o.dst undef) w:=fun hh=>
  ⟨fun f _=>hF.fn f,hK _ _ _ _ hh (hr.put o.dst hd rfl)⟩
 unfold opG at h
 cases hg:o.guard with
 | none=>
  simp only[hg]at h
  simp only[Region.wanted,hg,if_true]
  exact p7 h
 | some jw=>
  obtain⟨j,want⟩:=jw
  simp only[hg]at h
  cases hj:ops.toList[j]? with
  | none=>simp[hj]at h
  | some oj=>
   simp only[hj]at h
   have hj':ops[j]?=some oj:=by simpa using hj
   cases ht:oj.dst with
   | none=>simp[ht]at h
   | some t=>
    simp only[ht]at h
    cases he:S.env t with
    | none=>simp[he]at h
    | some sv=>
     cases sv with
     | loc id off=>simp[he]at h
     | sl id n' c=>simp[he]at h
     | v v=>
      simp only[he]at h
      obtain⟨v',h1,h2⟩:=hr.env t _ he
      simp only[St.den,Option.some.injEq]at h1
      subst h1
      cases hu:ZdA v with
      | true=>
       simp only[hu,cond_true]at h
       have:Region.wanted o (yielded ops a.tmps)=false:=by
        cases v <;> simp[ZdA]at hu
        simp[Region.wanted,hg,yielded,hj',ht,h2]
       simp only[this,Bool.false_eq_true,if_false]
       exact ju h
      | false=>
       simp only[hu,cond_false]at h
       obtain⟨h3,h4⟩:=Zae h
       obtain⟨b,rfl⟩:∃b,v=.bool b:=⟨_,Zbz h3⟩
       have hw:Region.wanted o (yielded ops a.tmps)=(b == want):=by
        simp[Region.wanted,hg,yielded,hj',ht,h2]
       rw[hw]
       simp only[Zcl]at h4
       cases b <;> cases want <;> simp only[br]at h4 <;> simp <;> first
        | exact p7 h4
        | exact ju h4
theorem Rel.refine{t:Nat}{v:Value}(hr:Rel C S m a w)(he:S.env t=some (.v v)):Rel C (S.put (some t) (some (.v v))) m a w:=by
 have:S.put (some t) (some (.v v))=S:=by
  unfold St.put
  have:(fun i=>bif Nat.beq i t then some (SV.v v)else S.env i)=S.env:=by
   funext i
   by_cases hi:i=t
   ·subst hi;simp[he]
   ·simp[Zaq hi]
  simp only[this]
 rw[this];exact hr
theorem ZhY{E:Env}(hE:E.ok){F:Fence}(hF:FOk F)(hY:YOk E C){ops:Array Oper}{o:Oper}(hd:∀t,o.dst=some t→t < C.n)(hr:Rel C S m a w){K:St→Mem→Prop}(h:Zvz E ops o S m K){n:Nat}{next:Act→World→Prop}{Q:Exit→Act→World→Prop}
  (hK:∀S' m' a' w',K S' m'→Rel C S' m' a' w'→next a' w'):
  if Region.wanted o (yielded ops a.tmps)then o.wpIn F n E.P a w next Q else(∀f,o.about E.P w a.eval=some f→F.fn f)∧next (a.put o.dst undef) w:=by
 unfold Zvz at h
 split at h
 ·exact Zdc hE hF hY hd hr h hK
 ·rename_i t _
  split at h
  ·rename_i v he
   cases hu:ZdA v with
   | true=>simp only[hu,cond_true]at h;exact Zdc hE hF hY hd hr h hK
   | false=>
    simp only[hu,cond_false]at h
    obtain⟨h1,h2⟩:=Zae h
    obtain⟨b,rfl⟩:∃b,v=.bool b:=⟨_,Zbz h1⟩
    have fA:=hr.refine he
    cases b
    ·exact Zdc hE hF hY hd fA h2 hK
    ·exact Zdc hE hF hY hd fA h2 hK
  ·exact h.elim
theorem Zcq{n:Nat}:∀{l:List Oper},ZkT n l=true→∀(i:Nat) o,l[i]?=some o→∀t,o.dst=some t→t < n
 | [],_,i,o,h,_,_=>by simp at h
 | x::l,hl,i,o,h,t,ht=>by
  simp only[ZkT,Bool.and_eq_true]at hl
  cases i with
  | zero=>
   simp at h;subst h
   simp[Zwd,ht]at hl
   exact hl.1
  | succ i=>exact Zcq hl.2 i o (by simpa using h) t ht
theorem ZhZ{E:Env}(hE:E.ok){F:Fence}(hF:FOk F)(hY:YOk E C){ops:Array Oper}(bA:ZkT C.n ops.toList=true){n:Nat}{Q:Exit→Act→World→Prop}:∀(l:List Nat){K:St→Mem→Prop}{S:St}{m:Mem}{a:Act}{w:World},Rel C S m a w→ZtV E ops l K S m→
  (∀S' m' a' w',K S' m'→Rel C S' m' a' w'→Q .normal a' w')→wpOpsIn F n E.P ops Q l a w
 | [],K,S,m,a,w,hr,h,hK=>hK _ _ _ _ h hr
 | i::l,K,S,m,a,w,hr,h,hK=>by
  simp only[ZtV]at h
  cases ho:ops.toList[i]? with
  | none=>simp[ho]at h
  | some o=>
   simp only[ho]at h
   have ho':ops[i]?=some o:=by simpa using ho
   have:=ZhY hE hF hY (Zcq bA i o ho) hr h (n:=n) (Q:=Q) (next:=wpOpsIn F n E.P ops Q l) (fun S' m' a' w' hk bB=>ZhZ hE hF hY bA l bB hk hK)
   simp only[wpOpsIn,ho']
   exact this
end
end Go.Eng
namespace Go.Eng
open Go Go.RowKit
def SameOut(ds:List Nat)(S S':St):Prop:=∀i,i ∉ ds→S'.env i=S.env i
theorem SameOut.refl(ds:List Nat)(S:St):SameOut ds S S:=fun _ _=>rfl
theorem SameOut.trans{ds:List Nat}{a b c:St}(h:SameOut ds a b)(k:SameOut ds b c):SameOut ds a c:=fun i hi=>(k i hi).trans (h i hi)
theorem SameOut.mono{ds ds':List Nat}{a b:St}(h:SameOut ds a b)(k:∀i,i∈ds→i∈ds'):SameOut ds' a b:=fun i hi=>h i (fun hm=>hi (k i hm))
theorem SameOut.put{ds:List Nat}{S S':St}(h:SameOut ds S S'){d:Option Tmp}(hd:∀t,d=some t→t∈ds)(x:Option SV):SameOut ds S (S'.put d x):=by
 cases d with
 | none=>exact h
 | some d=>
  intro i hi
  have cS:i≠d:=fun e=>hi (e ▸ hd d rfl)
  simp[St.put,Zaq cS,h i hi]
theorem ZgY{b:Bool}{p q p' q':Prop}(h:p→p')(k:q→q')(x:br b p q):br b p' q':=by
 cases b
 ·exact k x
 ·exact h x
theorem Zah{b:Bool}{p p':Prop}(h:p→p')(x:chk b p):chk b p':=ZgY h id x
theorem ZaD{S:St}{x:Operand}{k k':Value→Prop}(h:∀v,k v→k' v)(hx:wv S x k):wv S x k':=by
 unfold wv at *
 split at hx
 ·exact h _ hx
 ·exact hx
theorem Zcc{S:St}:∀{l:List Operand} {k k':List Value→Prop},(∀v,k v→k' v)→wvs S l k→wvs S l k'
 | [],k,k',h,hx=>h _ hx
 | x::l,k,k',h,hx=>ZaD (fun v hv=>Zcc (fun vs dY=>h _ dY) hv) hx
theorem ZgZ{l:List Value}{n:Nat}{k k':Value→Prop}(h:∀v,k v→k' v)(hx:ZrO l n k):ZrO l n k':=by
 unfold ZrO at *
 split at hx
 ·exact h _ hx
 ·exact hx
theorem Zpr:∀{n:Nat} {k k':List Value→Prop},(∀v,k v→k' v)→exN n k→exN n k'
 | 0,k,k',h,hx=>h _ hx
 | n+1,k,k',h,⟨v,hx⟩=>⟨v,Zpr (fun l hl=>h _ hl) hx⟩
theorem allL_mono:∀{n:Nat} {k k':List (List Value)→Prop},(∀v,k v→k' v)→allL n k→allL n k'
 | 0,k,k',h,hx=>h _ hx
 | n+1,k,k',h,hx=>fun cs=>allL_mono (fun l hl=>h _ hl) (hx cs)
mutual
theorem Shape.all_mono:∀(s:Shape){k k':Value→Prop},(∀v,k v→k' v)→s.all k→s.all k'
 | .any,k,k',h,hx=>by simp only[Shape.all]at *;exact fun v=>h _ (hx v)
 | .int ki,k,k',h,hx=>by simp only[Shape.all]at *;exact fun v=>h _ (hx v)
 | .bool,k,k',h,hx=>by simp only[Shape.all]at *;exact fun v=>h _ (hx v)
 | .str,k,k',h,hx=>by simp only[Shape.all]at *;exact fun v=>h _ (hx v)
 | .slice,k,k',h,hx=>by simp only[Shape.all]at *;exact fun a n c=>h _ (hx a n c)
 | .agg l,k,k',h,hx=>by simp only[Shape.all]at *;exact Shape.allL_mono l (fun vs dY=>h _ dY) hx
 | .tup l,k,k',h,hx=>by simp only[Shape.all]at *;exact Shape.allL_mono l (fun vs dY=>h _ dY) hx
 | .fn,k,k',h,hx=>by simp only[Shape.all]at *;exact fun g fi ca=>h _ (hx g fi ca)
 | .cells,k,k',h,hx=>by simp only[Shape.all]at *;exact fun cs=>h _ (hx cs)
 | .ptr,k,k',h,hx=>by simp only[Shape.all]at *;exact fun b o=>h _ (hx b o)
theorem Shape.allL_mono:∀(l:List Shape){k k':List Value→Prop},(∀v,k v→k' v)→Shape.allL l k→Shape.allL l k'
 | [],k,k',h,hx=>by simp only[Shape.allL]at *;exact h _ hx
 | s::l,k,k',h,hx=>by simp only[Shape.allL]at *;exact Shape.all_mono s (fun v hv=>Shape.allL_mono l (fun vs dY=>h _ dY) hv) hx
end
mutual
theorem Shape.ex_mono:∀(s:Shape){k k':Value→Prop},(∀v,k v→k' v)→s.ex k→s.ex k'
 | .any,k,k',h,hx=>by simp only[Shape.ex]at *;obtain⟨v,hx⟩:=hx;exact⟨v,h _ hx⟩
 | .int ki,k,k',h,hx=>by simp only[Shape.ex]at *;obtain⟨v,hx⟩:=hx;exact⟨v,h _ hx⟩
 | .bool,k,k',h,hx=>by simp only[Shape.ex]at *;obtain⟨v,hx⟩:=hx;exact⟨v,h _ hx⟩
 | .str,k,k',h,hx=>by simp only[Shape.ex]at *;obtain⟨v,hx⟩:=hx;exact⟨v,h _ hx⟩
 | .slice,k,k',h,hx=>by simp only[Shape.ex]at *;obtain⟨a,n,c,hx⟩:=hx;exact⟨a,n,c,h _ hx⟩
 | .agg l,k,k',h,hx=>by simp only[Shape.ex]at *;exact Shape.exL_mono l (fun vs dY=>h _ dY) hx
 | .tup l,k,k',h,hx=>by simp only[Shape.ex]at *;exact Shape.exL_mono l (fun vs dY=>h _ dY) hx
 | .fn,k,k',h,hx=>by simp only[Shape.ex]at *;obtain⟨g,fi,ca,hx⟩:=hx;exact⟨g,fi,ca,h _ hx⟩
 | .cells,k,k',h,hx=>by simp only[Shape.ex]at *;obtain⟨cs,hx⟩:=hx;exact⟨cs,h _ hx⟩
 | .ptr,k,k',h,hx=>by simp only[Shape.ex]at *;obtain⟨b,o,hx⟩:=hx;exact⟨b,o,h _ hx⟩
theorem Shape.exL_mono:∀(l:List Shape){k k':List Value→Prop},(∀v,k v→k' v)→Shape.exL l k→Shape.exL l k'
 | [],k,k',h,hx=>by simp only[Shape.exL]at *;exact h _ hx
 | s::l,k,k',h,hx=>by simp only[Shape.exL]at *;exact Shape.ex_mono s (fun v hv=>Shape.exL_mono l (fun vs dY=>h _ dY) hv) hx
end
theorem ZqF{op:BinOp}{k:IntKind}{a b:Int}{r r':Value→Prop}(h:∀v,r v→r' v)(x:Zvd op k a b r):Zvd op k a b r':=by
 cases op <;> simp only[Zvd]at * <;> first
  | exact h _ x
  | exact⟨x.1,h _ x.2⟩
  | exact x
theorem ZmY{op:BinOp}{k:IntKind}{a b:Int}{r r':Value→Prop}(h:∀v,r v→r' v)(x:ZjD op k a b r):ZjD op k a b r':=by
 cases op <;> simp only[ZjD]at * <;> first
  | exact⟨x.1,h _ x.2⟩
  | exact x
theorem ZqG{op:BinOp}{a b:ByteArray}{r r':Value→Prop}(h:∀v,r v→r' v)(x:Zve op a b r):Zve op a b r':=by
 cases op <;> simp only[Zve]at * <;> first
  | exact h _ x
  | exact⟨x.1,h _ x.2⟩
  | exact x
theorem ZjM{op:BinOp}{b:Bool}{r r':Value→Prop}(h:∀v,r v→r' v)(x:ZrP op b r):ZrP op b r':=by
 cases op <;> simp only[ZrP]at * <;> first
  | exact h _ x
  | exact x
theorem ZmZ{E:Env}{op:BinOp}{T:TypeId}{x y:Value}{r r':Value→Prop}(h:∀v,r v→r' v)(hx:Zva E op T x y r):Zva E op T x y r':=by
 unfold Zva at *
 cases ht:E.tt T with
 | none=>simp[ht]at hx
 | some i=>
  simp only[ht]at *
  cases hd:i.d <;> simp only[hd]at * <;> first
   | exact hx.elim
   | exact Zah (fun y=>ZqG h y) hx
   | exact Zah (ZjM h) hx
   | exact Zah (fun⟨b,hb,y⟩=>⟨b,hb,ZjM h y⟩) hx
   | (cases hs:Zi0 op <;> simp only[hs,cond_true,cond_false]at * <;> first
     | exact Zah (ZqF h) hx
     | exact Zah (ZmY h) hx)
theorem ZkV{place:Nat→Option (Nat×Nat)}:∀{parts:List (Nat×Value)} {cs:List Value} {k k':List Value→Prop},(∀v,k v→k' v)→Zmi place cs parts k→Zmi place cs parts k'
 | [],cs,k,k',h,hx=>h _ hx
 | (i,v)::rest,cs,k,k',h,hx=>by
  simp only[Zmi]at *
  cases hp:place i with
  | none=>simp[hp]at hx
  | some os=>simp only[hp]at *;exact Zah (ZkV h) hx
theorem Zbr{x:Option Value}{d y:Nat}{r r':Nat→Prop}(h:∀v,r v→r' v)(hx:ZgM x d y r):ZgM x d y r':=by
 cases x with
 | none=>exact h _ hx
 | some v=>exact Zah (fun⟨a,b⟩=>⟨a,h _ b⟩) hx
theorem ZjN{S:St}{x:Option Operand}{r r':Option Value→Prop}(h:∀v,r v→r' v)(hx:Zvg S x r):Zvg S x r':=by
 cases x with
 | none=>exact h _ hx
 | some v=>exact ZaD (fun v hv=>h _ hv) hx
theorem Zi4{E:Env}{T:TypeId}{v:Value}{lo hi mx:Option Value}{r r':Value→Prop}(h:∀v,r v→r' v)(hx:Zii E T v lo hi mx r):Zii E T v lo hi mx r':=by
 unfold Zii at *
 cases he:ZhS E T with
 | some sz=>simp only[he]at *;exact Zah (fun y=>Zbr (fun m y=>Zbr (fun h' y=>Zbr (fun l y=>Zah (h _) y) y) y) y) hx
 | none=>
  simp only[he]at *
  cases hs:ZeK E T <;> simp only[hs,cond_true,cond_false]at *
  exact Zah (fun y=>Zbr (fun h' y=>Zbr (fun l y=>h _ y) y) y) hx
theorem ZkW{E:Env}{S:St}{o:Oper}{k k':SV→Prop}(h:∀v,k v→k' v)(hx:Zcv E S o k):Zcv E S o k':=by
 obtain⟨dst,op,type,pos,after,guard⟩:=o
 cases op <;> simp only[Zcv]at * <;> try exact hx.elim
 case unOp op T x=>
  refine ZaD (fun v y=>?_) hx
  cases op <;> simp only at *
  ·split at y <;> first|exact Zah (h _) y|exact y.elim
  ·split at y <;> first|exact Zah (h _) y|exact y.elim
  ·exact Zah (h _) y
 case binOp=>exact ZaD (fun v y=>ZaD (fun v' y=>ZmZ (fun r y=>h _ y) y) y) hx
 case convert=>
  refine ZaD (fun v y=>?_) hx
  unfold Zqt at *
  (repeat' split at y) <;> first|exact y.elim|exact Zah (h _) y
 case makeFunc=>exact Zcc (fun v y=>Zcc (fun v' y=>h _ y) y) hx
 case fieldAddr=>
  (repeat' split at hx) <;> first|exact hx.elim|exact h _ hx|exact Zah (h _) hx
 case indexAddr=>
  refine ZaD (fun v y=>Zah (fun y=>?_) y) hx
  split at y
  ·exact y.elim
  ·refine⟨y.1,?_⟩
   have y2:=y.2
   (repeat' split at y2) <;> first|exact y2.elim|exact h _ y2|exact Zah (h _) y2
  ·(repeat' split at y) <;> first
    | exact y.elim
    | exact⟨y.1,h _ y.2⟩
    | exact Zah (fun⟨b,o,h1,h2,h3⟩=>⟨b,o,h1,h2,h _ h3⟩) y
 case index=>
  refine ZaD (fun v y=>ZaD (fun v' y=>Zah (fun y=>?_) y) y) hx
  cases hs:ZeK E _ <;> simp only[hs,cond_true,cond_false]at *
  ·split at y
   ·exact Zah (fun⟨a,b⟩=>⟨a,ZgZ (fun u hu=>h _ hu) b⟩) y
   ·exact y.elim
  ·exact Zah (fun⟨a,b⟩=>⟨a,h _ b⟩) y
 case build=>
  split at hx
  ·exact hx.elim
  ·exact Zcc (fun vs y=>ZkV (fun r y=>h _ y) y) hx
 case extract=>exact ZaD (fun v y=>Zah (fun y=>ZgZ (fun u hu=>h _ hu) y) y) hx
 case makeInterface=>exact ZaD (fun v y=>Zah (h _) y) hx
 case nilCheck=>(repeat' split at hx) <;> first|exact hx.elim|exact h _ hx|exact Zah (h _) hx
 case slice=>exact ZaD (fun v y=>ZjN (fun l y=>ZjN (fun h' y=>ZjN (fun m y=>Zi4 (fun r y=>h _ y) y) y) y) y) hx
 case call c=>
  split at hx
  ·split at hx
   ·refine ZaD (fun v y=>?_) hx
    unfold Zvx at *
    (repeat' split at y) <;> first|exact y.elim|exact Zah (h _) y|exact h _ y
   ·exact hx.elim
  ·split at hx
   ·refine ZaD (fun v y=>ZaD (fun v' y=>?_) y) hx
    split at y
    ·exact Zah (h _) y
    ·exact y.elim
   ·exact hx.elim
  ·split at hx
   ·refine ZaD (fun v y=>ZaD (fun v' y=>?_) y) hx
    split at y
    ·exact Zah (h _) y
    ·exact y.elim
   ·refine ZaD (fun v y=>ZaD (fun v' y=>ZaD (fun v'' y=>?_) y) y) hx
    split at y
    ·exact Zah (h _) y
    ·exact y.elim
   ·exact hx.elim
  ·exact hx.elim
end Go.Eng
namespace Go.Eng
open Go Go.RowKit
def dl(d:Option Tmp):List Nat:=match d with
 | none=>[]
 | some t=>[t]
theorem ZvA{d:Option Tmp}{t:Nat}(h:d=some t):t∈dl d:=by subst h;simp[dl]
theorem Zcf(S:St)(d:Option Tmp)(x:Option SV):SameOut (dl d) S (S.put d x):=(SameOut.refl _ S).put (fun t ht=>ZvA ht) x
theorem ZcW{ds:List Nat}{S S':St}(h:S'.env=S.env):SameOut ds S S':=fun i _=>by rw[h]
theorem Zg0{i:TI}{m:Mem}{b o:Nat}{k k':Value→Prop}(h:∀v,k v→k' v)(hx:ZcA i m b o k):ZcA i m b o k':=by
 unfold ZcA at *
 cases ha:i.agg <;> simp only[ha,cond_true,cond_false]at *
 ·obtain⟨v,h1,h2⟩:=hx;exact⟨v,h1,h _ h2⟩
 ·cases hb:Nat.ble i.size 16 <;> simp only[hb,cond_true,cond_false]at *
  ·obtain⟨vs,h1,h2,h3⟩:=hx;exact⟨vs,h1,h2,h _ h3⟩
  ·exact Zpr (fun vs ⟨a,b⟩=>⟨a,h _ b⟩) hx
theorem Zdd{i:TI}{x:Box}{off:Nat}{k k':Value→Prop}(h:∀v,k v→k' v)(hx:Zcd i x off k):Zcd i x off k':=by
 unfold Zcd at *
 cases ha:i.agg <;> simp only[ha,cond_true,cond_false]at *
 ·exact ZgZ h hx
 ·cases hb:(x.full&&(Nat.beq x.cap i.size&&Nat.beq off 0)) <;> simp only[hb,cond_true,cond_false]at *
  ·exact Zah (h _) hx
  ·exact h _ hx
theorem ZfD{E:Env}{S:St}{m:Mem}{T:TypeId}{x:Operand}{k k':Value→Prop}(h:∀v,k v→k' v)(hx:ZfA E S m T x k):ZfA E S m T x k':=by
 unfold ZfA at *
 split at hx
 ·exact hx.elim
 ·split at hx
  ·split at hx
   ·exact hx.elim
   ·exact Zdd h hx
  ·split at hx
   ·exact Zah (Zg0 h) hx
   ·split at hx
    ·exact hx.elim
    ·exact Zah (fun⟨a,b⟩=>⟨a,Zdd h b⟩) hx
  ·exact hx.elim
theorem ZkX{E:Env}{S:St}{m:Mem}{T:TypeId}{id:Nat}{vd vs:Value}{k k':Int→St→Prop}(h:∀n S',S'.env=S.env→k n S'→k' n S')(hx:Zoh E S m T id vd vs k):Zoh E S m T id vd vs k':=by
 unfold Zoh at *
 split at hx
 ·exact hx.elim
 ·split at hx
  ·exact hx.elim
  ·exact Zah (fun g hf=>by
   obtain⟨o,xs,h1,h2,h3,h4,h5,h6⟩:=g hf
   exact⟨o,xs,h1,h2,h3,h4,h5,h _ _ rfl h6⟩) hx
theorem Zf8{E:Env}{S:St}{T:TypeId}{x:Operand}{v:Value}{k k':St→Prop}(h:∀S',S'.env=S.env→k S'→k' S')(hx:ZgB E S T x v k):ZgB E S T x v k':=by
 unfold ZgB at *
 split at hx
 ·exact hx.elim
 ·split at hx
  ·split at hx
   ·exact hx.elim
   ·refine Zah (fun y=>?_) hx
    cases hb:(_&&(Nat.beq _ _&&Nat.beq _ 0)) <;> simp only[hb,cond_true,cond_false]at *
    ·exact Zah (h _ rfl) y
    ·exact h _ rfl y
  ·split at hx
   ·exact hx.elim
   ·split at hx
    ·exact hx.elim
    ·exact Zah (fun⟨a,b,c⟩=>⟨a,b,h _ rfl c⟩) hx
  ·exact hx.elim
theorem Zm0(S:St)(ids:List Nat)(bxs:List Box)(css:List (List Value)):(Zcw S ids bxs css).env=S.env:=by
 rw[ZcB]
theorem Zm1{E:Env}{S:St}{m:Mem}{rt:TypeId}{g:FuncId}{args:List Value}{key esz:Nat}{K K':Value→St→Mem→Prop}(h:∀v S' m',S'.env=S.env→m.le m'→K v S' m'→K' v S' m')(hx:Zqu E S m rt g args key esz K):Zqu E S m rt g args key esz K':=by
 obtain⟨R,h1,h2,h3⟩:=hx
 exact⟨R,h1,h2,Shape.all_mono _ (fun v y m' hm hr=>h v _ m' rfl hm (y m' hm hr)) h3⟩
theorem ZkY{E:Env}{S:St}{m:Mem}{rt:TypeId}{g:FuncId}{args:List Value}{ids:List Nat}{K K':Value→St→Mem→Prop}(h:∀v S' m',S'.env=S.env→m.le m'→K v S' m'→K' v S' m')(hx:Zmj E S m rt g args ids K):Zmj E S m rt g args ids K':=by
 unfold Zmj at *
 split at hx
 ·exact hx.elim
 ·refine Zah (fun⟨R,h0,h1,h2,h3⟩=>⟨R,h0,h1,h2,Shape.all_mono _ (fun v y m' hm=>allL_mono (fun css y hR=>h _ _ _ (Zm0 _ _ _ _) hm (y hR)) (y m' hm)) h3⟩) hx
theorem Zi5{E:Env}{S:St}{m:Mem}{rt:TypeId}{g:FuncId}{args:List Value}{ids:List Nat}{ks:List (Nat×Nat)}{K K':Value→St→Mem→Prop}(h:∀v S' m',S'.env=S.env→K v S' m'→K' v S' m')(hx:Zij E S m rt g args ids ks K):Zij E S m rt g args ids ks K':=by
 unfold Zij at *
 split at hx
 ·exact hx.elim
 ·split at hx
  ·exact hx.elim
  ·exact Zah (fun⟨Y,R,h1,h2,h3,h4,h5⟩=>⟨Y,R,h1,h2,h3,h4,Shape.all_mono _ (fun v y m' hm hn=>allL_mono (fun css y=>ZhX (fun tvs y hR=>h _ _ _ (Zm0 S _ _ _) (y hR)) y) (y m' hm hn)) h5⟩) hx
theorem Zik{S:St}{m:Mem}{x:Operand}{k k':Value→Prop}(h:∀v,k v→k' v)(hx:Zed S m x k):Zed S m x k':=by
 unfold Zed at *
 split at hx
 ·split at hx
  ·exact hx.elim
  ·obtain⟨bs,h1,h2,h3⟩:=hx
   exact⟨bs,h1,h2,h _ h3⟩
 ·exact ZaD (fun v y=>Zah (fun⟨bs,h1,h2,h3⟩=>⟨bs,h1,h2,h _ h3⟩) y) hx
theorem ZqH{E:Env}{rt:TypeId}{g:FuncId}{args:List Value}{K K':Value→Int→Prop}{S:St}{m:Mem}(h:∀v gh,K v gh→K' v gh)(hx:Zwb E rt g args K S m):Zwb E rt g args K' S m:=by
 unfold Zwb at *
 split at hx
 ·exact hx.elim
 ·obtain⟨l,xs,go,stop,h1,h2,h3,h4⟩:=hx
  exact⟨l,xs,go,stop,h1,h2,h3,Shape.all_mono _ (fun v hv=>⟨fun hg=>h _ _ (hv.1 hg),fun hs=>h _ _ (hv.2 hs)⟩) h4⟩
theorem Zg1{E:Env}{S:St}{m:Mem}{T xT:TypeId}{key:Nat}{vs vx:Value}{K K':Value→(Nat→Option Tok)→Mem→Prop}(h:∀v tk m',m.le m'→K v tk m'→K' v tk m')(hx:Ze2 E S m T xT key vs vx K):Ze2 E S m T xT key vs vx K':=by
 unfold Ze2 at *
 split at hx
 ·exact hx.elim
 ·split at hx
  ·exact hx.elim
  ·have hb:∀{j:TI},Zvb E S m j key vs vx K→Zvb E S m j key vs vx K':=fun⟨ht,xs,ys,a1,a2,a3,a4,a5,a6,a7,a8⟩=>⟨ht,xs,ys,a1,a2,a3,a4,a5,a6,a7,fun a' c' m' h1 h2=>ZmP (h _ _ _ h1) (a8 a' c' m' h1 h2)⟩
   refine Zah (fun y=>?_) hx
   cases fX:E.tails with
   | false=>rw[fX]at y;exact hb y
   | true=>rw[fX]at y;exact ZgY (Zah (h _ _ _ (Mem.le_refl m))) hb y
def Zm2(E:Env)(o:Oper):Prop:=(∀T x y,o.op=.store T x y→ZmS E x=none)∧(∀f as ats,o.op=.call ⟨.value f,as,ats⟩→Zeb E o.dst=none)
theorem ZsF(E:Env)(o:Oper):E.thaw=true∨Zm2 E o:=by
 cases h:E.thaw with
 | true=>exact .inl rfl
 | false=>exact .inr ⟨fun T x y _=>by simp[ZmS,h],fun _ _ _ _=>by simp[Zeb,h]⟩
theorem Zms{th:Bool}{E:Env}{S:St}{m:Mem}{o:Oper}(hH:th=true∨Zm2 E o){K K':St→Mem→Prop}(h0:∀S' m',SameOut (dl o.dst) S S'→leT th m m'→K S' m'→K' S' m')(hx:opW E S m o K):opW E S m o K':=by
 have h:∀S' m',SameOut (dl o.dst) S S'→m.le m'→K S' m'→K' S' m':=fun S' m' hs hm=>h0 S' m' hs (.of hm)
 have hp:∀x,K (S.put o.dst x) m→K' (S.put o.dst x) m:=fun x=>h _ _ (Zcf S _ x) (Mem.le_refl m)
 have fT:∀(S1:St) x m',S1.env=S.env→m.le m'→K (S1.put o.dst x) m'→K' (S1.put o.dst x) m':=fun S1 x m' he hm=>h _ _ ((ZcW he).trans (Zcf S1 _ x)) hm
 obtain⟨dst,op,type,pos,after,guard⟩:=o
 simp only at hp fT
 have eJ:∀(o:Oper),o.dst=dst→Zcv E S o (fun sv=>K (S.put dst (some sv)) m)→Zcv E S o (fun sv=>K' (S.put dst (some sv)) m):=fun o ho y=>ZkW (fun sv y=>hp _ y) y
 cases op with
 | move x=>exact hp _ hx
 | assign x=>exact hp _ hx
 | pick c x y=>exact ZaD (fun v y=>Zah (fun y=>ZgY (hp _) (hp _) y) y) hx
 | load T x=>
  simp only[opW]at hx ⊢
  cases ld:Zpp E dst with
  | none=>simp only[ld]at hx ⊢;exact ZfD (fun v y=>hp _ y) hx
  | some y=>
   simp only[ld]at hx ⊢
   cases cG:E.fix with
   | some f=>simp[cG]at hx
   | none=>
    simp only[cG,Option.isSome_none,cond_false]at hx ⊢
    exact ZfD (fun v y=>ZsD (fun v y=>hp _ y) y) hx
 | store T x y=>
  refine ZaD (fun v y=>?_) hx
  cases ju:ZmS E x with
  | none=>
   simp only[ju]at y ⊢
   exact Zf8 (fun S' he y=>fT S' _ _ he (Mem.le_refl m) y) y
  | some key=>
   simp only[ju]at y ⊢
   have hH:th=true:=by
    rcases hH with h|h
    ·exact h
    ·have:=h.1 T x _ rfl;rw[ju]at this;cases this
   cases cG:E.fix with
   | some f=>simp[cG]at y
   | none=>
    simp only[cG,Option.isSome_none,cond_false]at y ⊢
    unfold ZgT at *
    refine ZaD (fun p y=>?_) y
    split at y
    ·exact y.elim
    ·split at y
     ·split at y
      ·exact y.elim
      ·exact Zah (fun⟨y1,y2,y3,y4⟩=>⟨y1,y2,y3,ZjJ (h0 _ _ (Zcf S _ _) (by rw[hH];trivial)) y4⟩) y
     ·exact Zah (fun⟨y1,y2,y3⟩=>⟨y1,y2,h0 _ _ (Zcf S _ _) (by rw[hH];trivial) y3⟩) y
 | alloc T=>
  simp only[opW,Zqv]at *
  split at hx
  ·exact hx.elim
  ·split at hx
   ·exact hx.elim
   ·split at hx
    ·exact hx.elim
    ·exact fun b=>fT _ _ _ rfl (Mem.le_refl m) (hx b)
 | box T x=>
  refine ZaD (fun v y=>?_) hx
  simp only at y ⊢
  cases kC:Zf0 E dst with
  | true=>
   simp only[kC,cond_true]at y ⊢
   cases cG:E.fix with
   | some f=>simp[cG]at y
   | none=>
    simp only[cG,Option.isSome_none,cond_false,Zvh]at y ⊢
    split at y
    ·exact y.elim
    ·split at y
     ·exact y.elim
     ·split at y
      ·exact y.elim
      ·exact Zah (fun y b m' hm hb=>Zos (fT _ _ _ rfl hm) (y b m' hm hb)) y
  | false=>
  simp only[kC,cond_false]at y ⊢
  simp only[ZwE]at *
  split at y
  ·exact y.elim
  ·split at y
   ·exact y.elim
   ·split at y
    ·exact y.elim
    ·exact Zah (fun y b=>fT _ _ _ rfl (Mem.le_refl m) (y b)) y
 | buildSlice T len parts=>
  cases gL:ZcM E dst with
  | some ke=>
   simp only[opW,gL]at hx ⊢
   cases cG:E.fix with
   | some f=>simp[cG]at hx
   | none=>
    simp only[cG,Option.isSome_none,cond_false]at hx ⊢
    split at hx
    ·simp only[ZlJ]at hx ⊢
     split at hx
     ·exact hx.elim
     ·split at hx
      ·exact hx.elim
      ·exact ZaD (fun v y=>ZaD (fun v' y=>Zah (fun⟨a,y⟩=>⟨a,fun b=>Zpq (fT _ _ _ rfl (Mem.le_refl m)) (y b)⟩) y) y) hx
    ·exact hx.elim
  | none=>
  simp only[opW,gL,Zec]at hx ⊢
  split at hx
  ·exact hx.elim
  ·split at hx
   ·exact hx.elim
   ·split at hx
    ·split at hx
     ·exact hx.elim
     ·split at hx
      ·exact hx.elim
      ·exact Zah (fun y=>Zcc (fun vs y=>Zah (fun y b hf=>fT _ _ _ rfl (Mem.le_add hf _) (y b hf)) y) y) hx
    ·exact hx.elim
 | makeSlice T l c=>
  simp only[opW]at hx ⊢
  cases gL:ZcM E dst with
  | none=>
   simp only[gL]at hx ⊢
   cases lf:ZrW E dst with
   | true=>
    simp only[lf,cond_true]at hx ⊢
    cases cG:E.fix with
    | some f=>simp[cG]at hx
    | none=>
     simp only[cG,Option.isSome_none,cond_false,Zqx]at hx ⊢
     split at hx
     ·exact hx.elim
     ·split at hx
      ·exact hx.elim
      ·exact ZaD (fun v y=>ZaD (fun v' y=>Zah (fun⟨a,y⟩=>⟨a,fun b hf=>fT _ _ _ rfl (Mem.le_add hf _) (y b hf)⟩) y) y) hx
   | false=>
   simp only[lf,cond_false,ZtI]at hx ⊢
   split at hx
   ·exact hx.elim
   ·split at hx
    ·exact hx.elim
    ·split at hx
     ·exact hx.elim
     ·exact ZaD (fun v y=>ZaD (fun v' y=>Zah (fun⟨a,y⟩=>⟨a,fun b=>fT _ _ _ rfl (Mem.le_refl m) (y b)⟩) y) y) hx
  | some ke=>
   simp only[gL]at hx ⊢
   cases cG:E.fix with
   | some f=>simp[cG]at hx
   | none=>
    simp only[cG,Option.isSome_none,cond_false,ZlJ]at hx ⊢
    split at hx
    ·exact hx.elim
    ·split at hx
     ·exact hx.elim
     ·exact ZaD (fun v y=>ZaD (fun v' y=>Zah (fun⟨a,y⟩=>⟨a,fun b=>Zpq (fT _ _ _ rfl (Mem.le_refl m)) (y b)⟩) y) y) hx
 | convert s d x=>
  simp only[opW]at *
  cases hb:Zf6 E s d <;> simp only[hb,cond_true,cond_false]at *
  ·cases eS:Zco E s d <;> simp only[eS,cond_true,cond_false]at *
   ·cases lQ:Zcp E s d <;> simp only[lQ,cond_true,cond_false]at *
    ·exact eJ _ rfl hx
    ·cases cG:E.fix with
     | some f=>simp[cG]at hx
     | none=>
      simp only[cG,Option.isSome_none,cond_false]at hx ⊢
      exact Zik (fun v y=>hp _ y) hx
   ·cases cG:E.fix with
    | some f=>simp[cG]at hx
    | none=>
     simp only[cG,Option.isSome_none,cond_false]at hx ⊢
     exact ZaD (fun v y=>Zah (fun y b c hf hc=>fT _ _ _ rfl (Mem.le_add hf _) (y b c hf hc)) y) hx
  ·split at hx
   ·exact hp _ hx
   ·exact hx.elim
 | call c=>
  obtain⟨callee,args,argTypes⟩:=c
  cases callee with
  | value f=>
   simp only[opW]at *
   refine ZjI (fun S2 m2 dG aY hx=>?_) hx
   simp only[ZtH]at hx ⊢
   split at hx
   ·cases gX:Zeb E dst with
    | some ks=>
     simp only[gX]at hx ⊢
     have hH:th=true:=by
      rcases hH with h|h
      ·exact h
      ·have:=h.2 _ _ _ rfl;simp only at this;rw[gX]at this;cases this
     cases cG:E.fix with
     | some f=>simp[cG]at hx
     | none=>
      simp only[cG,Option.isSome_none,cond_false]at hx ⊢
      exact Zcc (fun vs y=>Zi5 (fun v S' m' he y=>h0 _ _ ((ZcW (he.trans dG)).trans (Zcf S' _ _)) (by rw[hH];trivial) y) y) hx
    | none=>
    simp only[gX]at hx ⊢
    cases lg:ZrS E dst with
    | true=>
     simp only[lg,cond_true]at hx ⊢
     cases cG:E.fix with
     | some f=>simp[cG]at hx
     | none=>
      simp only[cG,Option.isSome_none,cond_false]at hx ⊢
      exact Zcc (fun vs y=>ZqH (fun v gh y=>fT _ _ _ dG aY y) y) hx
    | false=>
    simp only[lg,cond_false]at hx ⊢
    split at hx
    ·exact Zcc (fun vs y=>ZkY (fun v S' m' he hm y=>fT S' _ _ (he.trans dG) (Mem.le_trans aY hm) y) y) hx
    ·cases cG:E.fix with
     | some f=>simp[cG]at hx
     | none=>
      simp only[cG,Option.isSome_none,cond_false]at hx ⊢
      split at hx
      ·exact Zcc (fun vs y=>Zm1 (fun v S' m' he hm y=>fT S' _ _ (he.trans dG) (Mem.le_trans aY hm) y) y) hx
      ·exact hx.elim
   ·cases cG:E.fix with
    | some f=>simp[cG]at hx
    | none=>
     simp only[cG,Option.isSome_none,cond_false]at hx ⊢
     split at hx
     ·exact Zcc (fun vs ⟨y1,y2,y3⟩=>⟨y1,fT _ _ _ dG aY y2,fT _ _ _ dG aY y3⟩) hx
     ·exact hx.elim
   ·exact hx.elim
  | invoke r mm=>
   simp only[opW]at *
   exact eJ _ rfl hx
  | builtin b=>
   cases b with
   | append=>
    simp only[opW]at *
    split at hx
    ·exact ZjI (fun S2 m2 dG aY hx=>ZaD (fun v y=>ZaD (fun v' y=>Zg1 (fun v tk m' hm y=>fT _ _ _ dG (Mem.le_trans aY hm) y) y) y) hx) hx
    ·exact hx.elim
   | copy=>
    simp only[opW]at *
    split at hx
    ·split at hx
     ·exact hx.elim
     ·exact ZaD (fun v y=>ZaD (fun v' y=>ZkX (fun n S' he y=>fT S' _ _ he (Mem.le_refl m) y) y) y) hx
    ·exact hx.elim
   | _=>
    simp only[opW]at *
    exact eJ _ rfl hx
 | _=>
  simp only[opW]at *
  exact eJ _ rfl hx
theorem Zf9{th:Bool}{E:Env}{ops:Array Oper}{S:St}{m:Mem}{o:Oper}(hH:th=true∨Zm2 E o){K K':St→Mem→Prop}(h:∀S' m',SameOut (dl o.dst) S S'→leT th m m'→K S' m'→K' S' m')(hx:opG E ops o S m K):opG E ops o S m K':=by
 unfold opG at *
 have hs:K (S.put o.dst (some (.v undef))) m→K' (S.put o.dst (some (.v undef))) m:=h _ _ (Zcf S _ _) (leT.refl _ m)
 split at hx
 ·exact Zms hH h hx
 ·split at hx
  ·exact hx.elim
  ·split at hx
   ·exact hx.elim
   ·split at hx
    ·rename_i v _
     cases hu:ZdA v <;> simp only[hu,cond_true,cond_false]at *
     ·refine Zah (fun y=>?_) hx
      split at y
      ·exact ZgY (Zms hH h) hs y
      ·exact ZgY hs (Zms hH h) y
     ·exact hs hx
    ·exact hx.elim
theorem ZaX:∀{l:List Oper} {i:Nat} {o:Oper} {t:Nat},l[i]?=some o→o.dst=some t→t∈Zar l
 | [],i,o,t,h,_=>by simp at h
 | x::l,0,o,t,h,ht=>by simp at h;subst h;simp[Zar,ht]
 | x::l,i+1,o,t,h,ht=>by
  have:=ZaX (l:=l) (by simpa using h) ht
  simp only[Zar]
  cases x.dst with
  | none=>exact this
  | some d=>simp[this]
theorem ZjO{ops:Array Oper}{o:Oper}{t:Nat}(h:ZfB ops o=some t):t∈Zar ops.toList:=by
 unfold ZfB at h
 split at h
 ·cases h
 ·split at h
  ·cases h
  ·rename_i hj;exact ZaX hj h
theorem ZjP{E:Env}{ops:Array Oper}{S:St}{m:Mem}{o:Oper}(ho:∀t,o.dst=some t→t∈Zar ops.toList){K K':St→Mem→Prop}(h:∀S' m',SameOut (Zar ops.toList) S S'→leT E.thaw m m'→K S' m'→K' S' m')(hx:Zvz E ops o S m K):Zvz E ops o S m K':=by
 have hm:∀{S':St},SameOut (dl o.dst) S S'→SameOut (Zar ops.toList) S S':=fun hs=>hs.mono fun q hq=>by
  cases hd:o.dst with
  | none=>simp[hd,dl]at hq
  | some t=>simp[hd,dl]at hq;subst hq;exact ho _ hd
 unfold Zvz at *
 split at hx
 ·exact Zf9 (ZsF E o) (fun S' m' hs hm' y=>h _ _ (hm hs) hm' y) hx
 ·rename_i t ht
  have mY:=ZjO ht
  have hb:∀b:Bool,opG E ops o (S.put (some t) (some (.v (.bool b)))) m K→opG E ops o (S.put (some t) (some (.v (.bool b)))) m K':=fun b=>Zf9 (ZsF E o) (fun S' m' hs hm' y=>h _ _ (by
   have h1:SameOut (Zar ops.toList) S (S.put (some t) (some (.v (.bool b)))):=(SameOut.refl _ S).put (fun t' e=>by cases e;exact mY) _
   refine h1.trans (hs.mono fun q hq=>?_)
   cases hd:o.dst with
   | none=>simp[hd,dl]at hq
   | some t=>simp[hd,dl]at hq;subst hq;exact ho _ hd) hm' y)
  split at hx
  ·rename_i v _
   cases hu:ZdA v with
   | true=>simp only[hu,cond_true]at hx ⊢;exact Zf9 (ZsF E o) (fun S' m' hs hm' y=>h _ _ (hm hs) hm' y) hx
   | false=>simp only[hu,cond_false]at hx ⊢;exact Zah (ZgY (hb true) (hb false)) hx
  ·exact hx.elim
theorem Zg2{E:Env}{ops:Array Oper}:∀{l:List Nat} {S:St} {m:Mem} {K K':St→Mem→Prop},(∀S' m',SameOut (Zar ops.toList) S S'→leT E.thaw m m'→K S' m'→K' S' m')→ZtV E ops l K S m→ZtV E ops l K' S m
 | [],S,m,K,K',h,hx=>h _ _ (SameOut.refl _ S) (leT.refl _ m) hx
 | i::l,S,m,K,K',h,hx=>by
  simp only[ZtV]at *
  cases ho:ops.toList[i]? with
  | none=>simp[ho]at hx
  | some o=>
   simp only[ho]at hx ⊢
   exact ZjP (fun t ht=>ZaX ho ht) (fun S' m' hs hm y=>Zg2 (fun S'' m'' hs' hm' y=>h _ _ (SameOut.trans hs hs') (leT.trans hm hm') y) y) hx
theorem Zm3{S:St}:∀{l:List Nat} {k k':List (List Value)→Prop},(∀v,k v→k' v)→ZrX S l k→ZrX S l k'
 | [],k,k',h,hx=>h _ hx
 | id::l,k,k',h,hx=>by
  simp only[ZrX]at *
  split at hx
  ·exact hx.elim
  ·exact Zm3 (fun vs dY=>h _ dY) hx
theorem Zi6{S:St}:∀{l:List (Nat×Nat)} {k k':List Value→Prop},(∀v,k v→k' v)→ZfC S l k→ZfC S l k'
 | [],k,k',h,hx=>h _ hx
 | (q,e)::l,k,k',h,hx=>Zah (fun y=>Zi6 (fun vs dY=>h _ dY) y) hx
theorem ZdZ:∀{l:List Nat} {k k':List (List Value)→Prop},(∀v,k v→k' v)→ZmU l k→ZmU l k'
 | [],k,k',h,hx=>h _ hx
 | _::l,k,k',h,hx=>fun cs=>ZdZ (fun vs dY=>h _ dY) (hx cs)
theorem Zd0:∀{l:List (Nat×Nat)} {k k':List Value→Prop},(∀v,k v→k' v)→ZmV l k→ZmV l k'
 | [],k,k',h,hx=>h _ hx
 | _::l,k,k',h,hx=>fun a n c=>Zd0 (fun vs dY=>h _ dY) (hx a n c)
theorem Zi7:∀{A:List (Nat×Shape)} {xs:List Value} {e:Nat→Option SV} {i:Nat},(∀q∈A,q.1≠i)→Zby e A xs i=e i
 | [],xs,e,i,h=>by simp[Zby]
 | (t,s)::A,[],e,i,h=>by simp[Zby]
 | (t,s)::A,v::xs,e,i,h=>by
  have h1:i≠t:=fun e=>h (t,s) (by simp) e.symm
  simp only[Zby,Zaq h1,cond_false]
  exact Zi7 (fun q hq=>h q (by simp[hq]))
theorem Ze4{ds:List Nat}{i:Nat}:ds.any (Nat.beq i ·)=true↔i∈ds:=by
 rw[List.any_eq_true]
 constructor
 ·rintro⟨x,hx,he⟩;rw[Nat.eq_of_beq_eq_true he];exact hx
 ·intro h;exact⟨i,h,Nat.beq_refl i⟩
theorem Zga{ds:List Nat}{i:Nat}(h:i ∉ ds):ds.any (Nat.beq i ·)=false:=by
 cases hh:ds.any (Nat.beq i ·)with
 | false=>rfl
 | true=>exact absurd (Ze4.1 hh) h
def ZtJ(ds:List Nat)(A:List (Nat×Shape)):Bool:=A.all fun q=>ds.any (Nat.beq q.1 ·)
theorem Zde{ds:List Nat}{A:List (Nat×Shape)}(hA:ZtJ ds A=true){S S':St}{xs:List Value}(h:S'.env=Zby (fun i=>bif ds.any (Nat.beq i ·)then none else S.env i) A xs):SameOut ds S S':=by
 intro i hi
 rw[h,Zi7]
 ·simp[Zga hi]
 ·intro q hq e
  simp only[ZtJ,List.all_eq_true]at hA
  exact hi (e ▸ Ze4.1 (hA q hq))
def Zav(E:Env):Code→Bool
 | .region id ops draw=>(match E.joins id with
  | none=>true
  | some outs=>ZtJ (Zar ops.toList) outs)
 | .seq a b=>Zav E a&&Zav E b&&(match E.cuts (ZaN b)with
  | none=>true
  | some A=>ZtJ (Zid a) A.slots)
 | .cond _ a b=>Zav E a&&Zav E b
 | .block _ a=>Zav E a
 | .loop a=>Zav E a&&ZtJ (Zid a) (E.loops (ZaN a)).slots
 | .rangeFunc _ _ a b=>Zav E a&&Zav E b
 | .scope a=>Zav E a
 | _=>true
def leD(E:Env)(id:Nat)(m m':Mem):Prop:=match E.last id with
 | true=>leT E.thaw m m'
 | false=>m.le m'
theorem leD.leT{E:Env}{id:Nat}{m m':Mem}(h:leD E id m m'):leT E.thaw m m':=by
 unfold leD at h
 cases hl:E.last id with
 | true=>rw[hl]at h;exact h
 | false=>rw[hl]at h;exact .of h
theorem leD.le{E:Env}{id:Nat}{m m':Mem}(hl:E.last id=false)(h:leD E id m m'):m.le m':=by
 unfold leD at h;rw[hl]at h;exact h
def ZdW(E:Env)(ZaZ:Nat→Array Oper→(St→Mem→Prop)→St→Mem→Prop):Prop:=
 ∀(id:Nat)(ops:Array Oper)(K K':St→Mem→Prop)(S:St)(m:Mem),(∀S' m',SameOut (Zar ops.toList) S S'→leD E id m m'→K S' m'→K' S' m')→ZaZ id ops K S m→ZaZ id ops K' S m
theorem Zg3{b:Bool}{g:Int}{k k':Int→Prop}(h:∀y,k y→k' y)(hx:Zvj b g k):Zvj b g k':=by
 cases b with
 | true=>exact fun y=>h y (hx y)
 | false=>exact h g hx
theorem Zou{b:Bool}{x y:Int}{p q:Prop}(h:p→q)(hx:ZkU b x y p):ZkU b x y q:=by
 cases b with
 | true=>exact h hx
 | false=>
  simp only[ZkU,cond_false]at *
  split at hx
  ·exact h hx
  ·exact⟨hx.1,h hx.2⟩
theorem Zov{a b:List (Option Box)}{p q:Prop}(h:p→q)(hx:Zmk a b p):Zmk a b q:=ZcD.2 ⟨(ZcD.1 hx).1,h (ZcD.1 hx).2⟩
theorem Zow{a b:List (Option Tok)}{p q:Prop}(h:p→q)(hx:Zml a b p):Zml a b q:=ZcE.2 ⟨(ZcE.1 hx).1,h (ZcE.1 hx).2⟩
theorem ZlP{K K':KT}{e:Exit}{S:St}{m:Mem}(h:∀e,K e S m→K' e S m)(hx:ZmW K e S m):ZmW K' e S m:=by
 cases e with
 | ret=>exact h _ hx
 | exit id=>exact h _ hx
 | goto l=>exact h _ hx
 | _=>exact hx
theorem leT.up{th:Bool}{mi m m':Mem}(hc:th=false→mi=m)(h:mi.le m'):leT th m m':=by
 cases th with
 | true=>trivial
 | false=>rw[hc rfl]at h;exact h
theorem Zm4{th:Bool}{P:Program}{A:LoopAnn}{f:Operand}{ps:List Nat}{assign body:KT→St→Mem→Prop}{ds:List Nat}
  (ha:∀{S:St} {m:Mem} {K K':KT},(∀e S' m',leT th m m'→K e S' m'→K' e S' m')→assign K S m→assign K' S m)
  (hb:∀{S:St} {m:Mem} {K K':KT},(∀e S' m',leT th m m'→K e S' m'→K' e S' m')→body K S m→body K' S m)
  {S:St} {m:Mem} {K K':KT} (h:∀e S' m',SameOut ds S S'→leT th m m'→K e S' m'→K' e S' m') (hx:ZmX th P A f ps assign body K S m):ZmX th P A f ps assign body K' S m:=by
 unfold ZmX at *
 split at hx
 ·refine Zah (ZqD fun mi lh jV ⟨xs,h1,h2,I,h3,h4,h5⟩=>⟨xs,h1,h2,I,h3,?_,?_⟩) hx
  all_goals have up:∀{m':Mem},mi.le m'→leT th m m':=fun hm=>leT.up jV hm
  ·refine Zg3 (fun y z=>Shape.allL_mono _ (fun x z=>ZdZ (fun css z=>Zd0 (fun tvs z m' n hm hn hI=>?_) z) z) z) h4
   refine ha (fun e S1 m1 aW k=>?_) (z m' n hm hn hI)
   cases e with
   | normal=>
    refine hb (fun e S' m'' aY k=>ZqE (Zou (Zov (Zow (Zm3 fun css' k=>?_ )))) k) k
    refine Zi6 (fun tvs' k=>?_) k
    cases e with
    | normal=>exact k
    | _=>exact ZlP (fun e=>h e _ _ (SameOut.refl _ _) (leT.trans (up hm) (leT.trans aW aY))) k
   | _=>exact k
  ·exact Zg3 (fun y z=>ZdZ (fun css z=>Zd0 (fun tvs z m' hm hI=>h _ _ _ (SameOut.refl _ _) (up hm) (z m' hm hI)) z) z) h5
 ·exact hx.elim
theorem ZqI{E:Env}{kz:Option (Nat×Nat)}{ops:Array Oper}{l:List Nat}{S:St}{m:Mem}{K K':St→Mem→Prop}(h:∀S' m',SameOut (Zar ops.toList) S S'→leT E.thaw m m'→K S' m'→K' S' m')
  (y:Zt2 E kz (ZtV E ops l) K S m):Zt2 E kz (ZtV E ops l) K' S m:=by
 unfold Zt2 at *
 split at y
 ·exact Zg2 h y
 ·obtain⟨y1,y2⟩:=Zae y
  refine Zaa y1 ?_
  simp only[Bool.and_eq_true]at y1
  split at y2
  ·exact y2
  ·obtain⟨a,n,c,z1,z2,z3⟩:=y2
   refine⟨a,n,c,z1,z2,Zg2 (fun S' m' hs _ z=>?_) z3⟩
   split at z
   ·exact z
   ·exact Zah (fun z zs hz=>h _ _ (fun t ht=>hs t ht) (by rw[y1.1];trivial) (z zs hz)) z
theorem ZdH{E:Env}{ZaZ:Nat→Array Oper→(St→Mem→Prop)→St→Mem→Prop}(hD:ZdW E ZaZ):∀(c:Code),Zav E c=true→∀{S:St} {m:Mem} {K K':KT},(∀e S' m',SameOut (Zid c) S S'→leT E.thaw m m'→K e S' m'→K' e S' m')→W E ZaZ c K S m→W E ZaZ c K' S m
 | .skip,_,S,m,K,K',h,hx=>h _ _ _ (SameOut.refl _ S) (leT.refl _ m) hx
 | .label _,_,S,m,K,K',h,hx=>h _ _ _ (SameOut.refl _ S) (leT.refl _ m) hx
 | .exit _,_,S,m,K,K',h,hx=>h _ _ _ (SameOut.refl _ S) (leT.refl _ m) hx
 | .ret,_,S,m,K,K',h,hx=>h _ _ _ (SameOut.refl _ S) (leT.refl _ m) hx
 | .region id ops draw,hc,S,m,K,K',h,hx=>by
  simp only[W]at *
  cases hj:E.joins id with
  | none=>
   simp only[hj]at hx ⊢
   cases draw with
   | true=>simp only[cond_true]at *;exact hD _ _ _ _ _ _ (fun S' m' hs hm y=>h _ _ _ hs (leD.leT hm) y) hx
   | false=>
    simp only[cond_false]at *
    exact ZqI (fun S' m' hs hm y=>h _ _ _ hs hm y) hx
  | some outs=>
   simp only[hj]at hx ⊢
   refine Shape.exL_mono _ (fun xs ⟨h1,h2⟩=>⟨h1,h _ _ _ ?_ (leT.refl _ m) h2⟩) hx
   simp only[Zav,hj]at hc
   exact Zde hc rfl
 | .seq x y,hc,S,m,K,K',h,hx=>by
  simp only[Zav,Bool.and_eq_true]at hc
  simp only[W,Zid]at *
  cases fF:E.cuts (ZaN y)with
  | none=>
   simp only[fF]at hx ⊢
   refine ZdH hD x hc.1.1 (fun e S' m' hs hm hy=>?_) hx
   have hs':SameOut (Zid x++Zid y) S S':=hs.mono (fun i hi=>by simp[hi])
   cases e with
   | normal=>exact ZdH hD y hc.1.2 (fun e S'' m'' jv aY hy=>h _ _ _ (hs'.trans (jv.mono (fun i hi=>by simp[hi]))) (leT.trans hm aY) hy) hy
   | _=>exact h _ _ _ hs' hm hy
  | some A=>
   simp only[fF]at hx ⊢ hc
   obtain⟨J,h1,h2⟩:=hx
   refine⟨J,ZdH hD x hc.1.1 (fun e S' m' hs hm hy=>?_) h1,Zg3 (fun g z=>Shape.allL_mono _ (fun xs z=>ZdZ (fun css z=>Zd0 (fun tvs z m' hm hJ=>?_) z) z) z) h2⟩
   ·cases e with
    | normal=>exact hy
    | _=>exact h _ _ _ (hs.mono (fun i hi=>by simp[hi])) hm hy
   ·refine ZdH hD y hc.1.2 (fun e S' m'' hs aY hy=>h _ _ _ ?_ (leT.trans hm aY) hy) (z m' hm hJ)
    have h3:SameOut (Zid x) S (ZbA S (Zid x) A g xs css tvs):=Zde (S':=ZbA S (Zid x) A g xs css tvs) hc.2 rfl
    exact(h3.mono (fun i hi=>by simp[hi])).trans (hs.mono (fun i hi=>by simp[hi]))
 | .cond c x y,hc,S,m,K,K',h,hx=>by
  simp only[Zav,Bool.and_eq_true]at hc
  simp only[W,Zid]at *
  exact ZaD (fun v hy=>Zah (fun hy=>ZgY (ZdH hD x hc.1 (fun e S' m' hs hm hy=>h _ _ _ (hs.mono (fun i hi=>by simp[hi])) hm hy)) (ZdH hD y hc.2 (fun e S' m' hs hm hy=>h _ _ _ (hs.mono (fun i hi=>by simp[hi])) hm hy)) hy) hy) hx
 | .block id x,hc,S,m,K,K',h,hx=>by
  simp only[Zav]at hc
  simp only[W,Zid]at *
  refine ZdH hD x hc (fun e S' m' hs hm hy=>?_) hx
  cases e with
  | exit id'=>
   simp only at *
   cases hb:Nat.beq id' id <;> simp only[hb,cond_true,cond_false]at *
   ·exact h _ _ _ hs hm hy
   ·exact h _ _ _ hs hm hy
  | _=>exact h _ _ _ hs hm hy
 | .loop x,hc,S,m,K,K',h,hx=>by
  simp only[Zav,Bool.and_eq_true]at hc
  simp only[W,Zid]at *
  obtain⟨I,h1,h2⟩:=hx
  refine⟨I,h1,Zg3 (fun g y=>Shape.allL_mono _ (fun xs y=>ZdZ (fun css y=>Zd0 (fun tvs y m' n hm hI=>?_) y) y) y) h2⟩
  refine ZdH hD x hc.1 (fun e S' m'' hs aY hy=>?_) (y m' n hm hI)
  have hs':SameOut (Zid x) S S':=(Zde (S':=ZbA S (Zid x) (E.loops (ZaN x)) g xs css tvs) hc.2 rfl).trans hs
  cases e with
  | normal=>exact hy
  | _=>exact h _ _ _ hs' (leT.trans hm aY) hy
 | .goto _,_,S,m,K,K',h,hx=>by simp[W]at hx
 | .scope x,hc,S,m,K,K',h,hx=>by
  simp only[Zav]at hc
  simp only[W,Zid]at *
  refine ZdH hD x hc (fun e S' m' hs hm hy=>?_) hx
  cases e with
  | goto l=>exact hy
  | _=>exact h _ _ _ hs hm hy
 | .rangeFunc f ps x y,hc,S,m,K,K',h,hx=>by
  simp only[Zav,Bool.and_eq_true]at hc
  simp only[W]at *
  exact Zm4 (assign:=W E ZaZ x) (body:=W E ZaZ y) (fun h'=>ZdH hD x hc.1 fun e S' m' _ hm hy=>h' e S' m' hm hy) (fun h'=>ZdH hD y hc.2 fun e S' m' _ hm hy=>h' e S' m' hm hy) (fun e S' m' hs hm=>h e S' m' hs hm) hx
 | .refuse _,_,S,m,K,K',h,hx=>by simp[W]at hx
end Go.Eng
namespace Go.Eng
open Go Go.RowKit
section
variable {C:Ctx} {m:Mem} {a:Act} {w:World}
theorem Rel.restrict{S S2:St}(h:Rel C S m a w)(hg:S2.gh=S.gh)(hL:∀id x,S2.L id=some x→S.L id=some x)(hT:∀k t,S2.tok k=some t→S.tok k=some t∨t.v=.slice none 0 0)
  (dG:∀i sv,S2.env i=some sv→∃v,S2.den sv=some v∧a.tmps[i]?=some v) (dL:∀id x,S2.L id=some x→id∈S2.ids) (lR:∀k t,S2.tok k=some t→k∈S2.tkeys):Rel C S2 m a w:=by
 refine⟨h.defers,h.size,dG,fun id x hx=>h.own id x (hL id x hx),fun id id' x x' hx hx'=>h.apart id id' x x' (hL _ _ hx) (hL _ _ hx'),dL,?_,lR,?_,h.sub,h.le,h.dom.imp fun M d=>d.cut hg (fun id x hx=>⟨id,x,hL id x hx,rfl⟩) (fun k t b ht hb=>?_) rfl (fun _ _ _ hv=>hv)⟩
 ·intro k t ht
  rcases hT k t ht with h1|h1
  ·obtain⟨h2,h3⟩:=h.toks k t h1
   exact⟨h2,fun b hb=>⟨fun id x hx=>(h3 b hb).1 id x (hL _ _ hx),(h3 b hb).2⟩⟩
  ·exact⟨.inl h1,fun b hb=>by simp[Tok.blk,h1]at hb⟩
 ·intro k k' t t' b ht ht' hb hb'
  rcases hT k t ht with h1|h1
  ·rcases hT k' t' ht' with h2|h2
   ·exact h.tapart k k' t t' b h1 h2 hb hb'
   ·simp[Tok.blk,h2]at hb'
  ·simp[Tok.blk,h1]at hb
 ·rcases hT k t ht with h1|h1
  ·exact⟨k,t,h1,hb⟩
  ·simp[Tok.blk,h1]at hb
theorem Rel.forget{S:St}{m':Mem}(h:Rel C S m' a w)(hm:m.le m')(h0:C.m0.le m)(hz:∀id x,S.L id=some x→x.fz=true→m.reads x.b 0 x.cs):Rel C S m a w:=by
 have hn:∀b o,m' b o=none→m b o=none:=fun b o ho=>by
  cases he:m b o with
  | none=>rfl
  | some v=>rw[hm _ _ _ he]at ho;cases ho
 refine⟨h.defers,h.size,h.env,fun id x hx=>?_,h.apart,h.ids,fun k t ht=>?_,h.tkeys,h.tapart,fun b o v hv=>h.sub b o v (hm _ _ _ hv),h0,h.dom.imp fun M d=>d.cut rfl (fun id x hx=>⟨id,x,hx,rfl⟩) (fun k t b ht hb=>⟨k,t,ht,hb⟩) rfl hm⟩
 ·have h1:=h.own id x hx
  exact⟨h1.cells,fun hf o=>hn _ _ (h1.free hf o),hz id x hx,h1.whole⟩
 ·obtain⟨h1,h2⟩:=h.toks k t ht
  exact⟨h1.same (fun _ _=>rfl) (fun b o _ ho=>hn _ _ ho),h2⟩
theorem Zcr{S:St}(hr:Rel C S m a w):∀{l:List (Nat×Shape)} {k:List Value→Prop},ZgD S l k→∃xs,Shape.fitsL (l.map (·.2)) xs=true∧(∀(i:Nat) t sh v,l[i]?=some (t,sh)→xs[i]?=some v→a.tmps[t]?=some v)∧xs.length=l.length∧k xs
 | [],k,h=>⟨[],rfl,by simp,rfl,h⟩
 | (t,sh)::l,k,h=>by
  obtain⟨v,hv,h⟩:=ZaC h
  obtain⟨h1,h2⟩:=Zae h
  obtain⟨xs,g1,g2,g3,g4⟩:=Zcr hr h2
  refine⟨v::xs,by simp[Shape.fitsL,h1,g1],?_,by simp[g3],g4⟩
  intro i t' sh' v' hi hx
  cases i with
  | zero=>
   simp at hi hx
   obtain⟨rfl,rfl⟩:=hi
   subst hx
   simp only[St.val,St.ev]at hv
   cases he:S.env t with
   | none=>simp[he]at hv
   | some sv=>
    simp only[he]at hv
    obtain⟨u,h3,h4⟩:=hr.env t sv he
    rw[hv]at h3;cases h3;exact h4
  | succ i=>exact g2 i t' sh' v' (by simpa using hi) (by simpa using hx)
theorem ZcX{S:St}:∀{l:List Nat} {k:List (List Value)→Prop},ZrX S l k→∃css,css.length=l.length∧(∀(i:Nat) id cs,l[i]?=some id→css[i]?=some cs→∃x,S.L id=some x∧x.cs=cs)∧k css
 | [],k,h=>⟨[],rfl,by simp,h⟩
 | id::l,k,h=>by
  simp only[ZrX]at h
  cases hx:S.L id with
  | none=>simp[hx]at h
  | some x=>
   simp only[hx]at h
   obtain⟨css,g1,g2,g3⟩:=ZcX h
   refine⟨x.cs::css,by simp[g1],?_,g3⟩
   intro i id' cs hi hc
   cases i with
   | zero=>simp at hi hc;subst hi hc;exact⟨x,hx,rfl⟩
   | succ i=>exact g2 i id' cs (by simpa using hi) (by simpa using hc)
theorem ZbV{S:St}:∀{l:List (Nat×Nat)} {k:List Value→Prop},ZfC S l k→∃vs,vs.length=l.length∧(∀(i:Nat) q e v,l[i]?=some (q,e)→vs[i]?=some v→ZbS v=true∧(S.tok q=some ⟨v,e⟩∨v=.slice none 0 0))∧k vs
 | [],k,h=>⟨[],rfl,by simp,h⟩
 | (q,e)::l,k,h=>by
  obtain⟨h1,h2⟩:=Zae h
  simp only[Bool.and_eq_true]at h1
  obtain⟨vs,g1,g2,g3⟩:=ZbV h2
  refine⟨ZqA S q::vs,by simp[g1],?_,g3⟩
  intro i q' e' v hi hv
  cases i with
  | zero=>
   simp at hi hv
   obtain⟨rfl,rfl⟩:=hi
   subst hv
   refine⟨h1.1,?_⟩
   unfold ZqA
   cases ht:S.tok q with
   | none=>exact .inr rfl
   | some t=>
    left
    have:t.esz=e:=by have:=h1.2;simp only[ht]at this;exact Nat.eq_of_beq_eq_true this
    cases t;simp at this ⊢;exact this
  | succ i=>exact g2 i q' e' v (by simpa using hi) (by simpa using hv)
theorem Zd1:∀{l:List Nat} {k:List (List Value)→Prop},ZmU l k→∀css,css.length=l.length→k css
 | [],k,h,css,hl=>by cases css <;> simp_all [ZmU]
 | _::l,k,h,css,hl=>by
  cases css with
  | nil=>simp at hl
  | cons c css=>exact Zd1 (h c) css (by simpa using hl)
theorem Zd2:∀{l:List (Nat×Nat)} {k:List Value→Prop},ZmV l k→∀vs,vs.length=l.length→(∀v∈vs,ZbS v=true)→k vs
 | [],k,h,vs,hl,_=>by cases vs <;> simp_all [ZmV]
 | _::l,k,h,vs,hl,hs=>by
  cases vs with
  | nil=>simp at hl
  | cons v vs=>
   have:=ZbC (hs v (by simp))
   rw[this]
   exact Zd2 (h _ _ _) vs (by simpa using hl) (fun u hu=>hs u (by simp[hu]))
theorem ZkZ:∀{A:List (Nat×Shape)} {xs:List Value} {e:Nat→Option SV} {i:Nat} {sv:SV},Zby e A xs i=some sv→e i=some sv∨∃(q:Nat)(sh:Shape)(v:Value),A[q]?=some (i,sh)∧xs[q]?=some v∧sv=.v v
 | [],xs,e,i,sv,h=>.inl (by simpa[Zby]using h)
 | (t,s)::A,[],e,i,sv,h=>.inl (by simpa[Zby]using h)
 | (t,s)::A,v::xs,e,i,sv,h=>by
  by_cases hi:i=t
  ·subst hi
   simp[Zby]at h
   exact .inr ⟨0,s,v,by simp,by simp,h.symm⟩
  ·simp only[Zby,Zaq hi,cond_false]at h
   rcases ZkZ h with h1|⟨q,sh,u,h1,h2,h3⟩
   ·exact .inl h1
   ·exact .inr ⟨q+1,sh,u,by simpa using h1,by simpa using h2,h3⟩
theorem ZfE:∀{l:List Nat} {css:List (List Value)} {L:Nat→Option Box} {id:Nat} {y:Box},ZgI L l css id=some y→(∃(i:Nat)(x:Box)(cs:List Value),l[i]?=some id∧css[i]?=some cs∧L id=some x∧y={ x with cs:=cs })∨((∀i,l[i]?=some id→css.length≤i)∧L id=some y)
 | [],css,L,id,y,h=>.inr ⟨by simp,by simpa[ZgI]using h⟩
 | d::l,[],L,id,y,h=>.inr ⟨fun i _=>by simp,by simpa[ZgI]using h⟩
 | d::l,cs::css,L,id,y,h=>by
  by_cases cL:id=d
  ·subst cL
   simp only[ZgI,ZbZ,cond_true]at h
   cases hx:L id with
   | none=>simp[hx]at h
   | some x=>simp[hx]at h;exact .inl ⟨0,x,cs,by simp,by simp,rfl,h.symm⟩
  ·simp only[ZgI,Zaq cL,cond_false]at h
   rcases ZfE h with⟨i,x,c,h1,h2,h3,h4⟩|⟨h1,h2⟩
   ·exact .inl ⟨i+1,x,c,by simpa using h1,by simpa using h2,h3,h4⟩
   ·refine .inr ⟨fun i hi=>?_,h2⟩
    cases i with
    | zero=>simp at hi;exact absurd hi.symm cL
    | succ i=>have:=h1 i (by simpa using hi);simp;omega
theorem Zd3:∀{l:List Nat} {css:List (List Value)} {L:Nat→Option Box} {id:Nat} {x:Box},L id=some x→∃y,ZgI L l css id=some y∧y.b=x.b
 | [],css,L,id,x,h=>⟨x,by simpa[ZgI]using h,rfl⟩
 | d::l,[],L,id,x,h=>⟨x,by simpa[ZgI]using h,rfl⟩
 | d::l,cs::css,L,id,x,h=>by
  by_cases cL:id=d
  ·subst cL
   exact⟨{ x with cs:=cs },by simp[ZgI,h],rfl⟩
  ·simp only[ZgI,Zaq cL,cond_false]
   exact Zd3 h
theorem Zdf:∀{l:List (Nat×Nat)} {vs:List Value} {tk:Nat→Option Tok} {k:Nat} {t:Tok},Ze3 tk l vs k=some t→(∃(i:Nat)(e:Nat)(v:Value),l[i]?=some (k,e)∧vs[i]?=some v∧t=⟨v,e⟩)∨((∀i q,l[i]?=some q→q.1=k→vs.length≤i)∧tk k=some t)
 | [],vs,tk,k,t,h=>.inr ⟨by simp,by simpa[Ze3]using h⟩
 | (q,e)::l,[],tk,k,t,h=>.inr ⟨fun i _ _ _=>by simp,by simpa[Ze3]using h⟩
 | (q,e)::l,v::vs,tk,k,t,h=>by
  by_cases hk:k=q
  ·subst hk
   simp[Ze3]at h
   exact .inl ⟨0,e,v,by simp,by simp,h.symm⟩
  ·simp only[Ze3,Zaq hk,cond_false]at h
   rcases Zdf h with⟨i,e',u,h1,h2,h3⟩|⟨h1,h2⟩
   ·exact .inl ⟨i+1,e',u,by simpa using h1,by simpa using h2,h3⟩
   ·refine .inr ⟨fun i p hi hp=>?_,h2⟩
    cases i with
    | zero=>simp at hi;subst hi;exact absurd hp.symm hk
    | succ i=>have:=h1 i p (by simpa using hi) hp;simp;omega
structure StOk (S:St):Prop where
 env:∀i sv,S.env i=some sv→∃v,S.den sv=some v
 ids:∀id x,S.L id=some x→id∈S.ids
 tkeys:∀k t,S.tok k=some t→k∈S.tkeys
theorem Rel.ok{S:St}(h:Rel C S m a w):StOk S:=⟨fun i sv he=>(h.env i sv he).imp fun v hv=>hv.1,h.ids,h.tkeys⟩
theorem Zee{S S':St}(hS:StOk S){ds:List Nat}{A:LoopAnn}(hr:Rel C S' m a w)(cU:SameOut ds S S')(jW:ZbE S' A S.ids=ZbE S A S.ids)(bY:Za5 S' A S.tkeys=Za5 S A S.tkeys)
  {xs:List Value} {css:List (List Value)} {tvs:List Value} (hx:∀(i:Nat) t sh v,A.slots[i]?=some (t,sh)→xs[i]?=some v→a.tmps[t]?=some v)
  (fC:css.length=A.boxes.length) (hc:∀(i:Nat) id cs,A.boxes[i]?=some id→css[i]?=some cs→∃x,S'.L id=some x∧x.cs=cs)
  (fX:tvs.length=A.toks.length) (ht:∀(i:Nat) q e v,A.toks[i]?=some (q,e)→tvs[i]?=some v→ZbS v=true∧(S'.tok q=some ⟨v,e⟩∨v=.slice none 0 0)):Rel C (ZbA S ds A S'.gh xs css tvs) m a w:=by
 have hL:∀id y,ZgI S.L A.boxes css id=some y→S'.L id=some y:=by
  intro id y hy
  have dS:∀id,id∈S.ids→(bif A.boxes.any (Nat.beq id ·)then(match S'.L id with
    | some x=>some { x with cs:=[] }
    | none=>none)else S'.L id)=(bif A.boxes.any (Nat.beq id ·)then(match S.L id with
    | some x=>some { x with cs:=[] }
    | none=>none)else S.L id):=fun id cL=>by
   simp only[ZbE]at jW
   exact(List.map_inj_left.1 jW) id cL
  rcases ZfE hy with⟨i,x,cs,h1,h2,h3,h4⟩|⟨h1,h2⟩
  ·obtain⟨x',g1,g2⟩:=hc i id cs h1 h2
   have:=dS id (hS.ids id x h3)
   have hm:A.boxes.any (Nat.beq id ·)=true:=Ze4.2 (List.mem_of_getElem? h1)
   simp only[hm,cond_true,g1,h3,Option.some.injEq,Box.mk.injEq,true_and]at this
   rw[g1,h4]
   obtain⟨e1,e2,e3,e4,e5⟩:=this
   cases x;cases x'
   simp_all
  ·have hm:A.boxes.any (Nat.beq id ·)=false:=Zga (fun bZ=>by
    obtain⟨i,hi⟩:=List.getElem?_of_mem bZ
    have h3:=h1 i hi
    have h4:=(List.getElem?_eq_some_iff.1 hi).1
    omega)
   have:=dS id (hS.ids id y h2)
   simp only[hm,cond_false]at this
   rw[this,h2]
 have kB:∀k t,Ze3 S.tok A.toks tvs k=some t→S'.tok k=some t∨t.v=.slice none 0 0:=by
  intro k t hk
  have dS:∀k,k∈S.tkeys→(bif A.toks.any (fun q=>Nat.beq k q.1)then none else S'.tok k)=(bif A.toks.any (fun q=>Nat.beq k q.1)then none else S.tok k):=fun k hk=>by
   simp only[Za5]at bY
   exact(List.map_inj_left.1 bY) k hk
  rcases Zdf hk with⟨i,e,v,h1,h2,h3⟩|⟨h1,h2⟩
  ·obtain⟨g1,g2⟩:=ht i k e v h1 h2
   subst h3
   exact g2.imp id id
  ·left
   have hm:A.toks.any (fun q=>Nat.beq k q.1)=false:=by
    cases hh:A.toks.any (fun q=>Nat.beq k q.1)with
    | false=>rfl
    | true=>
     obtain⟨q,hq,he⟩:=List.any_eq_true.1 hh
     obtain⟨i,hi⟩:=List.getElem?_of_mem hq
     have h3:=h1 i q hi (Nat.eq_of_beq_eq_true he).symm
     have h4:=(List.getElem?_eq_some_iff.1 hi).1
     omega
   have:=dS k (hS.tkeys k t h2)
   simp only[hm,cond_false]at this
   rw[this,h2]
 refine hr.restrict rfl hL kB ?_ ?_ ?_
 ·intro i sv he
  simp only[ZbA]at he
  rcases ZkZ he with h1|⟨q,sh,v,h1,h2,h3⟩
  ·cases hi:ds.any (Nat.beq i ·)with
   | true=>simp[hi]at h1
   | false=>
    simp only[hi,cond_false]at h1
    have qX:i ∉ ds:=fun hm=>by rw[Ze4.2 hm]at hi;cases hi
    have h2:S'.env i=some sv:=by rw[cU i qX,h1]
    obtain⟨v,h3,h4⟩:=hr.env i sv h2
    refine⟨v,?_,h4⟩
    cases sv with
    | v u=>exact h3
    | loc id off=>
     obtain⟨v0,h5⟩:=hS.env i _ h1
     simp only[St.den]at h5
     cases hx:S.L id with
     | none=>simp[hx]at h5
     | some x=>
      obtain⟨y,hy,_⟩:=Zd3 (l:=A.boxes) (css:=css) hx
      have:=hL id y hy
      simp only[St.den,this]at h3
      simp only[St.den,ZbA,hy];exact h3
    | sl id n c=>
     obtain⟨v0,h5⟩:=hS.env i _ h1
     simp only[St.den]at h5
     cases hx:S.L id with
     | none=>simp[hx]at h5
     | some x=>
      obtain⟨y,hy,_⟩:=Zd3 (l:=A.boxes) (css:=css) hx
      have:=hL id y hy
      simp only[St.den,this]at h3
      simp only[St.den,ZbA,hy];exact h3
  ·subst h3
   exact⟨v,rfl,hx q i sh v h1 h2⟩
 ·intro id y hy
  simp only[ZbA]at hy ⊢
  rcases ZfE hy with⟨i,x,cs,h1,h2,h3,h4⟩|⟨h1,h2⟩
  ·exact hS.ids id x h3
  ·exact hS.ids id y h2
 ·intro k t hk
  simp only[ZbA]at hk ⊢
  rcases Zdf hk with⟨i,e,v,h1,h2,h3⟩|⟨h1,h2⟩
  ·exact List.mem_append_left _ (List.mem_map.2 ⟨(k,e),List.mem_of_getElem? h1,rfl⟩)
  ·exact List.mem_append_right _ (hS.tkeys k t h2)
end
theorem Rel.lessMem{C:Ctx}{S:St}{m m1:Mem}{a:Act}{w:World}(h:Rel C S m a w)(hm:m1.le m)(h0:C.m0.le m1)(hk:∀id x,S.L id=some x→x.fz=true→∀o,m1 x.b o=m x.b o):Rel C S m1 a w:=by
 have dE:∀b o,m b o=none→m1 b o=none:=fun b o hn=>by
  cases he:m1 b o with
  | none=>rfl
  | some v=>have:=hm _ _ _ he;rw[hn]at this;cases this
 refine⟨h.defers,h.size,h.env,fun id x hx=>?_,h.apart,h.ids,fun k t ht=>?_,h.tkeys,h.tapart,fun b o v hv=>h.sub b o v (hm _ _ _ hv),h0,?_⟩
 ·obtain⟨g1,g2,g3,g4⟩:=h.own id x hx
  exact⟨g1,fun hz o=>dE _ _ (g2 hz o),fun hz j u hu=>by rw[hk id x hx hz];exact g3 hz j u hu,g4⟩
 ·obtain⟨g1,g2⟩:=h.toks k t ht
  exact⟨g1.same (fun b _=>rfl) (fun b o _=>dE b o),g2⟩
 ·obtain⟨M,hd⟩:=h.dom
  exact⟨M,hd.p,hd.lt,hd.own,hd.tok,hd.mks,fun b o v hv=>hd.new b o v (hm _ _ _ hv)⟩
theorem Rel.acq{E:Env}{C:Ctx}(hY:YOk E C){mm:Mem}(eI:E.m0=some mm){S:St}{m:Mem}{a:Act}{w:World}(hr:Rel C S m a w){key esz:Nat}{p:Option Addr}{n c:Nat}(h1:Zxh m mm esz p n c)
  (h2:∀b,(Tok.mk (.slice p n c) esz).blk=some b→nfz S b S.ids (ntk S b [key] S.tkeys)):
  Rel C { S with tok:=fun k=>bif Nat.beq k key then some ⟨.slice p n c,esz⟩ else S.tok k,tkeys:=key::S.tkeys } (m.cutA p (n*esz)) a w:=by
 obtain⟨jr,hW⟩:=hY.m0 mm eI
 rcases h1 with⟨rfl,rfl,rfl⟩|⟨b,rfl,gD,eT,k7,fW⟩
 ·exact hr.tokNil key _ rfl
 ·obtain⟨q1,q2⟩:=Zf3 (h2 b rfl)
  have cI:(m.cutA (some ⟨b,0,none⟩) (n*esz)).le m:=fun b' o v hv=>by
   simp only[Mem.cutA]at hv
   split at hv
   ·cases hv
   ·exact hv
  have gm:∀b',b'≠b→∀o,m.cutA (some ⟨b,0,none⟩) (n*esz) b' o=m b' o:=fun b' hb o=>by simp[Mem.cutA,hb]
  have iF:∀id x,S.L id=some x→x.b≠b:=fun id x hx e=>by
   have ho:=hr.own id x hx
   cases hz:x.fz with
   | true=>exact q2 id x (hr.ids id x hx) hx hz e
   | false=>
    obtain⟨v,hv⟩:=k7 0 eT
    have:=ho.free hz 0
    rw[e,hv]at this;cases this
  have dU:Rel C S (m.cutA (some ⟨b,0,none⟩) (n*esz)) a w:=hr.lessMem cI (fun b' o v hv=>by
   by_cases hb:b'=b
   ·subst hb;rw[jr]at hv;rw[fW o]at hv;cases hv
   ·rw[gm b' hb];exact hr.le _ _ _ hv) (fun id x hx _ o=>gm _ (iF id x hx) o)
  obtain⟨v0,qY⟩:=k7 0 eT
  have hM:∀M,Dom C S m a w M→M b:=fun M hd=>(hd.new b 0 v0 qY).resolve_left fun h=>by rw[jr,fW 0]at h;cases h
  have cQ:∀o,o < c*esz→∃v,w.cell? ⟨b,o,none⟩=some v:=fun o ho=>by
   obtain⟨v,hv⟩:=k7 o ho
   exact⟨v,hr.sub _ _ _ hv⟩
  obtain⟨cur,T,fr,hh⟩:∃cur T fr,w.heap[b]?=some (.cells cur T fr):=by
   obtain⟨v,hv⟩:=cQ 0 eT
   unfold World.cell? at hv
   cases hh:w.heap[b]? with
   | none=>simp[hh]at hv
   | some ob=>
    cases ob <;> simp[hh]at hv
    exact⟨_,_,_,rfl⟩
  have bT:c*esz≤cur.size:=by
   obtain⟨v,hv⟩:=cQ (c*esz - 1) (by omega)
   simp only[World.cell?,hh]at hv
   simp at hv
   have:=(Array.getElem?_eq_some_iff.1 hv).1
   omega
  obtain⟨M,hd⟩:=hr.dom
  have gK:Wr w b:=hW _ _ _ hd.p b (hM M hd)
  refine dU.tokUpd key _ (.inr ⟨b,0,n,c,cur,T,fr,rfl,gD,hh,by rw[Nat.zero_add];exact bT,gK cur T fr hh,fun o ho _=>by rw[Nat.zero_add]at ho;simp[Mem.cutA,ho]⟩) (fun b' hb'=>?_) ?_
  ·have:b'=b:=by simp[Tok.blk]at hb';exact hb'.symm
   subst this
   exact⟨⟨iF,by rw[jr];exact fW⟩,fun k' t' cS ht'=>ZhW q1 k' t' (hr.tkeys k' t' ht') ht' (by simpa using cS)⟩
  ·obtain⟨M1,jj⟩:=dU.dom
   refine⟨M,⟨hd.p,hd.lt,hd.own,hd.tok,hd.mks,fun b o v hv=>hd.new b o v (cI _ _ _ hv)⟩,fun b' hb'=>?_⟩
   have:b'=b:=by simp[Tok.blk]at hb';exact hb'.symm
   subst this
   exact hM M hd
theorem Rel.unacq{C:Ctx}{S:St}{m:Mem}{a:Act}{w:World}(hr:Rel C S m a w){key:Nat}{t:Tok}(ht:S.tok key=some t):
  ∃zs:List Value,zs.length=(slC t.v - slN t.v)*t.esz∧Rel C { S with tok:=fun k=>bif Nat.beq k key then none else S.tok k } (m.addA (slA t.v) (slN t.v*t.esz) zs) a w:=by
 have dU:Rel C { S with tok:=fun k=>bif Nat.beq k key then none else S.tok k } m a w:=by
  refine hr.restrict rfl (fun _ _ hx=>hx) (fun k t' hk=>?_) (fun i sv he=>?_) hr.ids (fun k t' hk=>?_)
  ·by_cases e:k=key
   ·subst e;simp at hk
   ·simp[Zaq e]at hk;exact .inl hk
  ·obtain⟨v,h1,h2⟩:=hr.env i sv he
   exact⟨v,by cases sv <;> exact h1,h2⟩
  ·by_cases e:k=key
   ·subst e;simp at hk
   ·simp[Zaq e]at hk;exact hr.tkeys k t' hk
 obtain⟨g1,g2⟩:=hr.toks key t ht
 rcases g1 with g1|⟨b,o0,n,c,cur,T,fr,hv,gD,hh,bT,eB,cM⟩
 ·rw[g1]
  exact⟨[],by simp[slC,slN],dU⟩
 ·have dI:t.blk=some b:=by simp[Tok.blk,hv]
  rw[hv]
  simp only[slC,slN,slA]
  have qZ:c*t.esz=n*t.esz+(c - n)*t.esz:=by rw[←Nat.add_mul];congr 1;omega
  obtain⟨P0,lG⟩:∃P0,P0=o0+n*t.esz:=⟨_,rfl⟩
  refine⟨(cur.toList.drop P0).take ((c - n)*t.esz),by simp;omega,?_⟩
  simp only[Mem.addA]
  rw[←lG]at cM ⊢
  obtain⟨zs,li⟩:∃zs,zs=(cur.toList.drop (P0)).take ((c - n)*t.esz):=⟨_,rfl⟩
  rw[←li]
  have oh:∀q v,zs[q]?=some v→cur[P0+q]?=some v:=fun q v hq=>by
   rw[li,List.getElem?_take]at hq
   split at hq
   ·rw[List.getElem?_drop]at hq;simpa using hq
   ·cases hq
  have cI:m.le (m.addAt b (P0) zs):=fun b' o v hv'=>by
   simp only[Mem.addAt]
   split
   ·rename_i hc
    obtain⟨rfl,ho⟩:=hc
    cases hz:zs[o - P0]? with
    | none=>simp only[hz];exact hv'
    | some u=>
     have hq:=(List.getElem?_eq_some_iff.1 hz).1
     rw[li,List.length_take]at hq
     rw[cM o ho (by omega)]at hv';cases hv'
   ·exact hv'
  have gm:∀b',b'≠b→∀o,m.addAt b (P0) zs b' o=m b' o:=fun b' hb o=>by simp[Mem.addAt,hb]
  have nB:∀id x,S.L id=some x→x.b≠b:=(g2 b dI).1
  refine⟨dU.defers,dU.size,dU.env,fun id x hx=>?_,dU.apart,dU.ids,fun k t' hk=>?_,dU.tkeys,dU.tapart,fun b' o v hv'=>?_,Mem.le_trans dU.le cI,?_⟩
  ·obtain⟨q1,q2,q3,q4⟩:=hr.own id x hx
   exact⟨q1,fun hz o=>by rw[gm _ (nB id x hx)];exact q2 hz o,fun hz j u hu=>cI _ _ _ (q3 hz j u hu),q4⟩
  ·obtain⟨q1,q2⟩:=dU.toks k t' hk
   refine⟨q1.same (fun b' _=>rfl) (fun b' o hb' hn=>?_),q2⟩
   have cS:b'≠b:=fun e=>by
    subst e
    by_cases e:k=key
    ·subst e;simp at hk
    ·simp[Zaq e]at hk
     exact e (hr.tapart k key t' t _ hk ht hb' dI)
   rw[gm b' cS];exact hn
  ·by_cases hb:b'=b
   ·subst hb
    simp only[Mem.addAt]at hv'
    by_cases ho:P0≤o
    ·simp only[ho,and_self,if_true]at hv'
     cases hz:zs[o - P0]? with
     | none=>simp only[hz]at hv';exact hr.sub _ _ _ hv'
     | some u=>
      simp only[hz]at hv';cases hv'
      have:=oh _ _ hz
      rw[show P0+(o - P0)=o by omega]at this
      simp only[World.cell?,hh]
      simpa using this
    ·simp only[ho,and_false,if_false]at hv';exact hr.sub _ _ _ hv'
   ·rw[gm b' hb]at hv';exact hr.sub _ _ _ hv'
  ·obtain⟨M,hd⟩:=hr.dom
   refine⟨M,hd.p,hd.lt,hd.own,fun k t' b' hk hb'=>?_,hd.mks,fun b' o v hv'=>?_⟩
   ·by_cases e:k=key
    ·subst e;simp at hk
    ·simp[Zaq e]at hk;exact hd.tok k t' b' hk hb'
   ·by_cases hb:b'=b
    ·subst hb;exact .inr (hd.tok key t _ ht dI)
    ·rw[gm b' hb]at hv';exact hd.new b' o v hv'
theorem Zt3{E:Env}{C:Ctx}(hY:YOk E C){kz:Option (Nat×Nat)}{f:(St→Mem→Prop)→St→Mem→Prop}{K:St→Mem→Prop}{S:St}{m:Mem}{a:Act}{w:World}{p:Prop}(hr:Rel C S m a w)(h:Zt2 E kz f K S m)
  (hf:∀(K':St→Mem→Prop) S' m',Rel C S' m' a w→f K' S' m'→(∀S2 m2 a2 w2,K' S2 m2→Rel C S2 m2 a2 w2→∃S3 m3,K S3 m3∧Rel C S3 m3 a2 w2)→p):p:=by
 unfold Zt2 at h
 split at h
 ·exact hf _ _ _ hr h fun S2 m2 a2 w2 hk bB=>⟨S2,m2,hk,bB⟩
 ·rename_i key esz
  obtain⟨h3,h4⟩:=Zae h
  cases eI:E.m0 with
  | none=>simp[eI]at h4
  | some mm=>
   simp only[eI]at h4
   obtain⟨q,n',c,z1,z2,z3⟩:=h4
   refine hf _ _ _ (hr.acq hY eI z1 z2) z3 fun S2 m2 a2 w2 hk bB=>?_
   split at hk
   ·exact hk.elim
   ·rename_i t ht
    obtain⟨ir,eH⟩:=Zae hk
    obtain⟨zs,oi,ol⟩:=bB.unacq ht
    exact⟨_,_,eH zs oi,ol⟩
end Go.Eng
namespace Go.Eng
open Go Go.RowKit
theorem Zi8:∀{A:List (Nat×Shape)} {xs:List Value} {e:Nat→Option SV} {i:Nat} {sv:SV},xs.length=A.length→Zby e A xs i=some sv→(e i=some sv∧i ∉ A.map (·.1))∨∃(q:Nat)(sh:Shape)(v:Value),A[q]?=some (i,sh)∧xs[q]?=some v∧sv=.v v
 | [],xs,e,i,sv,_,h=>.inl ⟨by simpa[Zby]using h,by simp⟩
 | (t,s)::A,[],e,i,sv,hl,h=>by simp at hl
 | (t,s)::A,v::xs,e,i,sv,hl,h=>by
  by_cases hi:i=t
  ·subst hi
   simp[Zby]at h
   exact .inr ⟨0,s,v,by simp,by simp,h.symm⟩
  ·simp only[Zby,Zaq hi,cond_false]at h
   rcases Zi8 (by simpa using hl) h with⟨h1,h2⟩|⟨q,sh,u,h1,h2,h3⟩
   ·exact .inl ⟨h1,by simp only[List.map_cons,List.mem_cons,not_or];exact⟨hi,h2⟩⟩
   ·exact .inr ⟨q+1,sh,u,by simpa using h1,by simpa using h2,h3⟩
theorem Zi9:∀(ps:List Nat)(vs:List Value)(t:Array Value),vs.length=ps.length→ps.Nodup→
  ((ps.zip vs).foldl (fun(t:Array Value)(x:Nat×Value)=>t.setIfInBounds x.1 x.2) t).size=t.size∧
  (∀i,i ∉ ps→((ps.zip vs).foldl (fun(t:Array Value)(x:Nat×Value)=>t.setIfInBounds x.1 x.2) t)[i]?=t[i]?)∧
  (∀(q i:Nat)(v:Value),ps[q]?=some i→vs[q]?=some v→i < t.size→((ps.zip vs).foldl (fun(t:Array Value)(x:Nat×Value)=>t.setIfInBounds x.1 x.2) t)[i]?=some v)
 | [],vs,t,_,_=>⟨rfl,fun _ _=>rfl,fun q i v h=>by simp at h⟩
 | p::ps,[],t,h,_=>by simp at h
 | p::ps,v::vs,t,h,hn=>by
  obtain⟨hp,hn⟩:=List.nodup_cons.1 hn
  obtain⟨h1,h2,h3⟩:=Zi9 ps vs (t.setIfInBounds p v) (by simpa using h) hn
  simp only[List.zip_cons_cons,List.foldl_cons]
  refine⟨by simpa using h1,fun i hi=>?_,fun q i u hq hu bA=>?_⟩
  ·simp only[List.mem_cons,not_or]at hi
   rw[h2 i hi.2,Array.getElem?_setIfInBounds_ne (Ne.symm hi.1)]
  ·cases q with
   | zero=>
    simp at hq hu
    subst hq hu
    rw[h2 p hp]
    simp[bA]
   | succ q=>exact h3 q i u (by simpa using hq) (by simpa using hu) (by simpa using bA)
theorem Zja:∀{a b:List Nat},ZlO a b=true→a=b
 | [],[],_=>rfl
 | [],_::_,h=>by simp[ZlO]at h
 | _::_,[],h=>by simp[ZlO]at h
 | x::a,y::b,h=>by
  simp only[ZlO,Bool.and_eq_true]at h
  rw[Nat.eq_of_beq_eq_true h.1,Zja h.2]
theorem ZeN:∀{l:List Shape} {x:List Value},Shape.fitsL l x=true→x.length=l.length
 | [],[],_=>rfl
 | [],_::_,h=>by simp[Shape.fitsL]at h
 | _::_,[],h=>by simp[Shape.fitsL]at h
 | _::l,_::x,h=>by
  simp only[Shape.fitsL,Bool.and_eq_true]at h
  simp[ZeN h.2]
section
variable {C:Ctx} {S:St} {m:Mem} {a:Act} {w w':World} {M M':Nat→Prop}
structure Apart (M':Nat→Prop)(S:St)(m:Mem)(a:Act):Prop where
 box:∀id x,S.L id=some x→¬M' x.b
 tok:∀k t b,S.tok k=some t→t.blk=some b→¬M' b
 mks:∀D,ZiZ D∈a.defers→¬M' D
 mem:∀b o v,m b o=some v→¬M' b
theorem Rel.markAt(h:Rel C S m a w){D:Nat}(hD:ZiZ D∈a.defers):w.heap[D]?=some (.deferred (some [])):=by
 obtain⟨ms,h1,h2,h3⟩:=h.defers
 rw[h1]at hD
 obtain⟨D',h4,h5⟩:=List.mem_map.1 hD
 have:D'=D:=by simpa[ZiZ]using h5
 exact this ▸ h3 D' h4
theorem Rel.foreign(h:Rel C S m a w)(hd:Dom C S m a w M)(hM:∀k,M' k→M k)(fV:Apart M' S m a)(hu:Upd M' w w'):Rel C S m a w'∧Dom C S m a w' (Zu9 M w w'):=by
 have hd':Dom C S m a w' (Zu9 M w w'):=hd.step ⟨hu.os,hu.tape,hu.output,hu.size,fun k hk hn=>hu.block k hk (fun hm=>hn (hM k hm)),hu.wr⟩ (fun b o v hv=>.inl hv)
 refine⟨⟨?_,h.size,h.env,fun id x hx=>?_,h.apart,h.ids,fun k t ht=>?_,h.tkeys,h.tapart,fun b o v hv=>?_,h.le,⟨_,hd'⟩⟩,hd'⟩
 ·obtain⟨ms,h1,h2,h3⟩:=h.defers
  refine⟨ms,h1,h2,fun D hD=>?_⟩
  rw[hu.block D (Array.getElem?_eq_some_iff.1 (h3 D hD)).1 (fV.mks D (by rw[h1];exact List.mem_map.2 ⟨D,hD,rfl⟩))];exact h3 D hD
 ·exact(h.own id x hx).same (hu.block _ (h.own id x hx).lt (fV.box id x hx)) (Mem.le_refl m) (h.own id x hx).free
 ·obtain⟨h1,h2⟩:=h.toks k t ht
  exact⟨h1.same (fun b hb=>hu.block b (h1.lt hb) (fV.tok k t b ht hb)) (fun _ _ _ hn=>hn),h2⟩
 ·rw[Zbi (hu.block b (h.sub.lt hv) (fV.mem b o v hv))];exact h.sub b o v hv
theorem Rel.swap{C2:Ctx}{S2:St}{a2:Act}(h:Rel C S m a w)(hn:C2.n=C.n)(hm:C2.m0.le m)(hL:S2.L=S.L)(dL:S2.ids=S.ids)(bY:S2.tok=S.tok)(fS:S2.tkeys=S.tkeys)
  (dG:∀i sv,S2.env i=some sv→∃v,S2.den sv=some v∧a2.tmps[i]?=some v) (bT:a2.tmps.size=C2.n)
  (hC:∃ms:List Nat,a2.defers=ms.map ZiZ∧ms.Nodup∧∀D∈ms,w'.heap[D]?=some (.deferred (some [])))
  (fG:∀(k:Nat) c T fr,w.heap[k]?=some (Obj.cells c T fr)→w'.heap[k]?=w.heap[k]?) (bS:∀k t b,S.tok k=some t→t.blk=some b→C2.m0.free b) (hd:∃M,Dom C2 S2 m a2 w' M):Rel C2 S2 m a2 w':=by
 refine⟨hC,bT,dG,fun id x hx=>?_,fun id id' x x' hx hx'=>?_,fun id x hx=>?_,fun k t ht=>?_,fun k t ht=>?_,fun k k' t t' b ht ht'=>?_,fun b o v hv=>?_,hm,hd⟩
 ·rw[hL]at hx
  have ho:=h.own id x hx
  obtain⟨sp,fr,hc,_⟩:=ho.cells
  exact ho.same (fG _ _ _ _ hc) (Mem.le_refl m) ho.free
 ·rw[hL]at hx hx';exact h.apart id id' x x' hx hx'
 ·rw[hL]at hx;rw[dL];exact h.ids id x hx
 ·rw[bY]at ht
  obtain⟨h1,h2⟩:=h.toks k t ht
  refine⟨h1.same (fun b hb=>?_) (fun _ _ _ hn=>hn),fun b hb=>⟨fun id x hx=>?_,?_⟩⟩
  ·rcases h1 with h1|⟨b',o0,n,c,cur,T,fr,hv,_,hh,_⟩
   ·simp[Tok.blk,h1]at hb
   ·simp[Tok.blk,hv]at hb;subst hb;exact fG _ _ _ _ hh
  ·rw[hL]at hx;exact(h2 b hb).1 id x hx
  ·exact bS k t b ht hb
 ·rw[bY]at ht;rw[fS];exact h.tkeys k t ht
 ·rw[bY]at ht ht';exact h.tapart k k' t t' b ht ht'
 ·have h1:=h.sub b o v hv
  have:∃c T fr,w.heap[b]?=some (Obj.cells c T fr):=by
   unfold World.cell? at h1
   split at h1
   ·rename_i c T fr hc;exact⟨c,T,fr,hc⟩
   ·cases h1
  obtain⟨c,T,fr,hc⟩:=this
  rw[Zbi (fG _ _ _ _ hc)];exact h1
end
def Zvk(C:Ctx)(X:Nat→Prop)(h:Nat→Option Obj)(B:Nat):Ctx where
 n:=C.n
 m0:=C.m0
 p:=fun g Mr w=>∃M,C.p g M w∧(∀k,M k→k < w.heap.size)∧(∀k,Mr k→M k)∧(∀k,X k→M k∧¬Mr k∧w.heap[k]?=h k)∧B≤w.heap.size
 st:=by
  rintro g Mr M2 w w' ⟨M,h1,h2,h3,h4,h5⟩ hu hg
  refine⟨Zu9 M w w',C.st g M _ w w' h1 ⟨hu.os,hu.tape,hu.output,hu.size,fun k hk hn=>hu.block k hk (fun hm=>hn (h3 k hm)),hu.wr⟩ (fun _ hk=>hk),?_,?_,?_,Nat.le_trans h5 hu.size⟩
  ·rintro k (hk|hk)
   ·exact Nat.lt_of_lt_of_le (h2 k hk) hu.size
   ·exact hk.2
  ·intro k hk
   exact(hg k hk).imp_left (h3 k)
  ·intro k hk
   obtain⟨g1,g2,g3⟩:=h4 k hk
   have bA:=h2 k g1
   refine⟨.inl g1,fun hm=>?_,?_⟩
   ·rcases hg k hm with h|h
    ·exact g2 h
    ·omega
   ·rw[hu.block k bA g2];exact g3
theorem Zps{E:Env}{C:Ctx}{X:Nat→Prop}{h:Nat→Option Obj}{B:Nat}(hY:YOk E C):YOk E (Zvk C X h B):=by
 refine⟨?_,fun mm eU=>⟨(hY.m0 mm eU).1,fun g Mr w ⟨M,h1,h2,h3,h4,h5⟩ k hk=>(hY.m0 mm eU).2 g M w h1 k (h3 k hk)⟩⟩
 rintro Y q7 F n l g v Mr w hF bA hy ⟨M,h1,h2,h3,h4,h5⟩ hs
 obtain⟨fn,tmps,asg,bdy,lP,fE⟩:=hY.y Y q7 F n l g v M w hF h2 hy h1 hs
 refine⟨fn,tmps,asg,bdy,lP,fE.mono ?_⟩
 rintro e w' ⟨b,rfl,hp,hf⟩
 refine⟨b,rfl,⟨M,hp,fun k hk=>Nat.lt_of_lt_of_le (h2 k hk) hf.size,h3,fun k hk=>?_,Nat.le_trans h5 hf.size⟩,hf.size,fun k hk hm=>hf.block k hk (h3 k hm),hf.sub⟩
 obtain⟨g1,g2,g3⟩:=h4 k hk
 exact⟨g1,g2,by rw[hf.block k (h2 k g1) g1];exact g3⟩
def ROk(F:Fence)(C:Ctx):Prop:=∀l,F.round=some l→∀g M w,C.p g M w→∃r,w.heap[l]?=some (.loop r)
end Go.Eng
namespace Go.Eng
open Go Go.RowKit
def ZjQ:Obj→Bool
 | .cells _ _ _=>false
 | _=>true
theorem Zm5{o:Obj}(h:ZjQ o=true):ZtX o:=fun c T fr e=>by subst e;simp[ZjQ]at h
theorem ZfF{M:Nat→Prop}{w:World}{l:Nat}{o:Obj}(ho:ZjQ o=true)(hl:M l):Upd M w (w.putObj l o):=
 ⟨rfl,rfl,rfl,by simp[World.putObj],fun k hk hn=>World.putObj_heap_other (fun e=>hn (e ▸ hl)),fun k hk c T fr hh i hi=>by
  by_cases e:k=l
  ·subst e
   by_cases bA:k < w.heap.size
   ·rw[World.putObj_heap_same bA]at hh
    exact Zm5 ho c T fr (Option.some.inj hh) i hi
   ·have h1:=(Array.getElem?_eq_some_iff.1 hh).1
    have h2:(w.putObj k o).heap.size=w.heap.size:=by simp[World.putObj]
    omega
  ·rw[World.putObj_heap_other e]at hh;exact hk c T fr hh i hi⟩
theorem ZcY(w:World)(l:Nat)(o:Obj):(w.putObj l o).heap.size=w.heap.size:=by simp[World.putObj]
theorem FOk.inRound{F:Fence}(h:FOk F)(l:Nat):FOk (F.inRound l):=by
 rcases h with rfl|⟨l',rfl⟩
 ·exact .inr ⟨l,rfl⟩
 ·exact .inr ⟨l,rfl⟩
section
variable {C:Ctx} {S:St} {m:Mem} {a:Act} {w w':World} {M M':Nat→Prop}
theorem Rel.alloc(h:Rel C S m a w)(hd:Dom C S m a w M){o:Obj}(ho:ZjQ o=true):Rel C S m a (w.alloc o)∧Dom C S m a (w.alloc o) (Zu9 M w (w.alloc o)):=by
 have hk:Keep w.heap.size [] w (w.alloc o):=Keep.alloc (Nat.le_refl _) (Zm5 ho)
 refine⟨h.world hk (fun b o' v hv=>?_) (Mem.le_refl m) (fun _ _ _ hv=>.inl hv),hd.step (hk.upd (by simp)) (fun b o v hv=>.inl hv)⟩
 rw[Zbi (Below.heap_alloc w _ b (h.sub.lt hv))];exact h.sub _ _ _ hv
theorem ZfG(M:Nat→Prop)(w:World)(o:Obj):Zu9 M w (w.alloc o) w.heap.size:=.inr ⟨Nat.le_refl _,by simp⟩
theorem Rel.enter{P:Program}(hr:Rel C S m a w){F:Fence}(hR:ROk F C)(fn:FuncId)(ps:Array Tmp)(asg bdy:Code):
  ∃l mk w1 D,(Instr.enterLoop fn a.tmps ps asg bdy F.round).run P w=.ok (l,mk) w1∧Rel C S m { a with defers:=mk++a.defers } w1∧(∃M,Dom C S m { a with defers:=mk++a.defers } w1 M∧M l)∧
   w1.heap[l]?=some (.loop { state:=.ready,pending:=none,fn,tmps:=a.tmps,params:=ps,assign:=asg,body:=bdy,defers:=D }):=by
 obtain⟨M,hd⟩:=hr.dom
 cases om:F.round with
 | none=>
  obtain⟨h1,d1⟩:=hr.alloc hd (o:=.deferred (some [])) rfl
  obtain⟨h2,d2⟩:=h1.alloc d1 (o:=.loop { state:=.ready,pending:=none,fn,tmps:=a.tmps,params:=ps,assign:=asg,body:=bdy,defers:=w.heap.size }) rfl
  have e1:(w.alloc (.deferred (some []))).heap.size=w.heap.size+1:=by simp
  have g1:((w.alloc (.deferred (some []))).alloc (.loop { state:=.ready,pending:=none,fn,tmps:=a.tmps,params:=ps,assign:=asg,body:=bdy,defers:=w.heap.size })).heap[w.heap.size]?=some (.deferred (some [])):=by
   rw[Below.heap_alloc _ _ _ (by simp)];exact heap_alloc_new w _
  refine⟨_,_,_,w.heap.size,run_enterLoop_outer _ _ _ _ _,?_,?_,?_⟩
  ·obtain⟨ms,k1,k2,k3⟩:=h2.defers
   have hD:∃M,Dom C S m { a with defers:=[ZiZ w.heap.size]++a.defers } ((w.alloc (.deferred (some []))).alloc (.loop { state:=.ready,pending:=none,fn,tmps:=a.tmps,params:=ps,assign:=asg,body:=bdy,defers:=w.heap.size })) M:=
    ⟨_,d2.p,d2.lt,d2.own,d2.tok,fun D hD=>by
     simp only[List.singleton_append,List.mem_cons]at hD
     rcases hD with hD|hD
     ·have:D=w.heap.size:=by simpa[ZiZ]using hD
      subst this
      exact .inl (ZfG _ _ _)
     ·exact d2.mks D hD,d2.new⟩
   refine⟨⟨w.heap.size::ms,by simp[k1,ZiZ],?_,?_⟩,h2.size,h2.env,h2.own,h2.apart,h2.ids,h2.toks,h2.tkeys,h2.tapart,h2.sub,h2.le,hD⟩
   ·refine List.nodup_cons.2 ⟨fun hm=>?_,k2⟩
    obtain⟨ms',q1,q2,q3⟩:=hr.defers
    have:w.heap.size∈ms':=by
     have e:ZiZ w.heap.size∈a.defers:=by
      have:a.defers=ms.map ZiZ:=k1
      rw[this];exact List.mem_map.2 ⟨_,hm,rfl⟩
     rw[q1]at e
     obtain⟨D',r1,r2⟩:=List.mem_map.1 e
     have:D'=w.heap.size:=by simpa[ZiZ]using r2
     exact this ▸ r1
    have:=(Array.getElem?_eq_some_iff.1 (q3 _ this)).1
    omega
   ·intro D hD
    rcases List.mem_cons.1 hD with rfl|hD
    ·exact g1
    ·exact k3 D hD
  ·refine⟨_,⟨d2.p,d2.lt,d2.own,d2.tok,fun D hD=>?_,d2.new⟩,by rw[←e1];exact ZfG _ _ _⟩
   simp only[List.singleton_append,List.mem_cons]at hD
   rcases hD with hD|hD
   ·have:D=w.heap.size:=by simpa[ZiZ]using hD
    subst this
    exact .inl (ZfG _ _ _)
   ·exact d2.mks D hD
  ·rw[←e1];exact heap_alloc_new _ _
 | some l0=>
  obtain⟨r0,h0⟩:=hR l0 om _ _ _ hd.p
  obtain⟨h1,d1⟩:=hr.alloc hd (o:=.loop { state:=.ready,pending:=none,fn,tmps:=a.tmps,params:=ps,assign:=asg,body:=bdy,defers:=r0.defers }) rfl
  exact⟨_,_,_,r0.defers,run_enterLoop_inner h0 _ _ _ _ _,h1,⟨_,d1,ZfG _ _ _⟩,heap_alloc_new _ _⟩
theorem Zm6{S:St}{ds:List Nat}{A:LoopAnn}{g:Int}{xs:List Value}{css:List (List Value)}{tvs:List Value}{sv:SV}{v:Value}(h:S.den sv=some v):(ZbA S ds A g xs css tvs).den sv=some v:=by
 cases sv with
 | v u=>exact h
 | loc id off=>
  simp only[St.den]at h ⊢
  cases hx:S.L id with
  | none=>simp[hx]at h
  | some x=>
   obtain⟨y,hy,hb⟩:=Zd3 (l:=A.boxes) (css:=css) hx
   simp only[hx]at h
   simp only[ZbA,hy,hb];exact h
 | sl id n c=>
  simp only[St.den]at h ⊢
  cases hx:S.L id with
  | none=>simp[hx]at h
  | some x=>
   obtain⟨y,hy,hb⟩:=Zd3 (l:=A.boxes) (css:=css) hx
   simp only[hx]at h
   simp only[ZbA,hy,hb];exact h
end
end Go.Eng
namespace Go.Eng
open Go Go.RowKit
def ZqJ(E:Env)(T:KT→St→Mem→Prop)(c:Code):Prop:=
 ∀{F:Fence} (_:FOk F) {C:Ctx} (_:YOk E C) (_:ROk F C) (n:Nat),Zbj C.n c=true→∀{S:St} {m:Mem} {a:Act} {w:World} {K:KT} {Q:Exit→Act→World→Prop},Rel C S m a w→T K S m→
  (∀e S' m' a' w',K e S' m'→Rel C S' m' a' w'→Q e a' w')→c.wpIn F n E.P Q a w
def Zpt(tvs:List Value):Prop:=∀v∈tvs,ZbS v=true
def Zt4(K:KT)(c:Code)(S:St)(m:Mem):Prop:=match c with
 | .ret=>K .ret S m
 | .exit id=>K (.exit id) S m
 | .goto l=>K (.goto l) S m
 | _=>False
section
variable {C:Ctx} {S:St} {m:Mem} {a:Act} {w w':World} {M M':Nat→Prop}
def ZgJ(fn:FuncId)(tmps:Array Value)(ps:Array Tmp)(x y:Code)(D:Nat)(st:LoopState)(pe:Option Code):Loop:=
 {state:=st,pending:=pe,fn,tmps,params:=ps,assign:=x,body:=y,defers:=D }
def ZqK(C:Ctx)(S:St)(m:Mem)(A:LoopAnn)(I:List Value→List (List Value)→List Value→Mem→Nat→Prop)(K:KT)(a1:Act)(l:Nat)(rec:LoopState→Option Code→Loop)(k:Int)(M':Nat→Prop)(W:World):Prop:=
 ∃(g:Int) (css:List (List Value)) (tvs:List Value) (m':Mem),css.length=A.boxes.length∧tvs.length=A.toks.length∧Zpt tvs∧(A.gh=false→g=S.gh)∧m.le m'∧
  Rel C (ZbA S [] { A with slots:=[] } g [] css tvs) m' a1 W∧
  (∃M,Dom C (ZbA S [] { A with slots:=[] } g [] css tvs) m' a1 W M∧M l∧¬M' l∧(∀k,M' k→M k)∧Apart M' (ZbA S [] { A with slots:=[] } g [] css tvs) m' a1)∧
  ((0≤k∧I (ghs A.gh g []) css tvs m' k.toNat∧W.heap[l]?=some (.loop (rec .ready none)))∨
   (k=-1∧∃c,W.heap[l]?=some (.loop (rec .done (some c)))∧Zt4 K c (ZbA S [] { A with slots:=[] } g [] css tvs) m'))
theorem ZlQ{A:LoopAnn}{I:List Value→List (List Value)→List Value→Mem→Nat→Prop}{K:KT}{a1:Act}{l:Nat}{rec:LoopState→Option Code→Loop}:ZtZ (ZqK C S m A I K a1 l rec):=by
 rintro k M' M2 W W' ⟨g,css,tvs,m',h1,h2,h3,h4,h5,hr,⟨M,hd,hl,hl',hM,fV⟩,hc⟩ hu hg
 obtain⟨fA,oo⟩:=hr.foreign hd hM fV hu
 have gF:=hd.lt l hl
 have q8:W'.heap[l]?=W.heap[l]?:=hu.block l gF hl'
 have key:∀k,k < W.heap.size→¬M' k→¬M2 k:=fun k hk hn h=>by
  rcases hg k h with h|h
  ·exact hn h
  ·omega
 refine⟨g,css,tvs,m',h1,h2,h3,h4,h5,fA,⟨_,oo,.inl hl,key l gF hl',fun k hk=>?_,?_⟩,?_⟩
 ·rcases hg k hk with h|h
  ·exact .inl (hM k h)
  ·exact .inr h
 ·refine⟨fun id x hx=>key _ (hr.own id x hx).lt (fV.box id x hx),fun k t b ht hb=>key _ ((hr.toks k t ht).1.lt hb) (fV.tok k t b ht hb),fun D hD=>key _ (hd.lt D (hd.mks D hD)) (fV.mks D hD),fun b o v hv=>key _ (hr.sub.lt hv) (fV.mem b o v hv)⟩
 ·rw[q8];exact hc
end
end Go.Eng
namespace Go.Eng
open Go Go.RowKit
section
variable {C:Ctx} {S:St} {m:Mem} {a:Act} {w w':World} {M M':Nat→Prop}
theorem Zt5{a b:Nat}(h:Nat.blt a b=true):a < b:=by simpa[Nat.blt_eq]using h
theorem Zb2{w:World}{k l:Nat}{c T fr}{r:Loop}(h:w.heap[k]?=some (.cells c T fr))(hl:w.heap[l]?=some (.loop r)):k≠l:=fun e=>by subst e;rw[h]at hl;cases hl
theorem Zg4{w:World}{k l:Nat}{c T fr d}(h:w.heap[k]?=some (.cells c T fr))(hl:w.heap[l]?=some (.deferred d)):k≠l:=fun e=>by subst e;rw[h]at hl;cases hl
theorem Own.isCells{m:Mem}{w:World}{x:Box}(h:Own m w x):∃c T fr,w.heap[x.b]?=some (.cells c T fr):=by
 obtain⟨sp,fr,hh,_⟩:=h.cells
 exact⟨_,_,_,hh⟩
theorem TokOk.isCells{m:Mem}{w:World}{t:Tok}(h:TokOk m w t){b:Nat}(hb:t.blk=some b):∃c T fr,w.heap[b]?=some (.cells c T fr):=by
 rcases h with h|⟨b',o0,n,c,cur,T,fr,hv,_,hh,_⟩
 ·simp[Tok.blk,h]at hb
 ·simp[Tok.blk,hv]at hb;subst hb;exact⟨_,_,_,hh⟩
theorem Sub.isCells{m:Mem}{w:World}(h:Sub m w){b o:Nat}{v:Value}(hv:m b o=some v):∃c T fr,w.heap[b]?=some (.cells c T fr):=by
 have h1:=h b o v hv
 unfold World.cell? at h1
 split at h1
 ·rename_i c T fr hc;exact⟨c,T,fr,hc⟩
 ·cases h1
theorem Rel.intoRound{S0 S1:St}{a1:Act}{l:Nat}{r:Loop}{tm:Array Value}(hr:Rel C S0 m a1 w)(hd:Dom C S0 m a1 w M)(hl:M l)(hl':¬M' l)(hM:∀k,M' k→M k)(fV:Apart M' S0 m a1)(dM:w.heap[l]?=some (.loop r))
  (hL:S1.L=S0.L) (dL:S1.ids=S0.ids) (bY:S1.tok=S0.tok) (fS:S1.tkeys=S0.tkeys) (hg:S1.gh=S0.gh) (bT:tm.size=C.n) (dG:∀i sv,S1.env i=some sv→∃v,S1.den sv=some v∧tm[i]?=some v):
  Rel (Zvk C (fun k=>M' k∨k=l∨ZiZ k∈a1.defers) (fun k=>w.heap[k]?) w.heap.size) S1 m { tmps:=tm,defers:=[] } w:=by
 have hX:∀k,(∃c T fr,w.heap[k]?=some (.cells c T fr))→¬M' k→¬(M' k∨k=l∨ZiZ k∈a1.defers):=by
  rintro k ⟨c,T,fr,hk⟩ hn (h|h|h)
  ·exact hn h
  ·exact Zb2 hk dM h
  ·exact Zg4 hk (hr.markAt h) rfl
 refine hr.swap rfl hr.le hL dL bY fS dG bT ⟨[],rfl,List.nodup_nil,by simp⟩ (fun _ _ _ _ _=>rfl) (fun k t b ht hb=>((hr.toks k t ht).2 b hb).2) ⟨fun k=>M k∧¬(M' k∨k=l∨ZiZ k∈a1.defers),?_,fun k hk=>hd.lt k hk.1,fun id x hx=>?_,fun k t b ht hb=>?_,by simp,fun b o v hv=>?_⟩
 ·rw[hg]
  refine⟨M,hd.p,hd.lt,fun k hk=>hk.1,fun k hk=>⟨?_,fun h=>h.2 hk,rfl⟩,Nat.le_refl _⟩
  rcases hk with h|h|h
  ·exact hM k h
  ·exact h ▸ hl
  ·exact hd.mks k h
 ·rw[hL]at hx
  exact⟨hd.own id x hx,hX _ (hr.own id x hx).isCells (fV.box id x hx)⟩
 ·rw[bY]at ht
  exact⟨hd.tok k t b ht hb,hX _ ((hr.toks k t ht).1.isCells hb) (fV.tok k t b ht hb)⟩
 ·exact(hd.new b o v hv).imp_right fun h=>⟨h,hX _ (hr.sub.isCells hv) (fV.mem b o v hv)⟩
theorem Rel.beginRound{X:Nat→Prop}{h1:Nat→Option Obj}{B:Nat}{S1:St}{ar:Act}{l:Nat}{r r':Loop}(hr:Rel (Zvk C X h1 B) S1 m ar w)(hl:X l)(dM:w.heap[l]?=some (.loop r)):
  Rel (Zvk C X (fun k=>(w.putObj l (.loop r')).heap[k]?) B) S1 m ar (w.putObj l (.loop r')):=by
 have cS:∀(k:Nat) c T fr,w.heap[k]?=some (Obj.cells c T fr)→(w.putObj l (.loop r')).heap[k]?=w.heap[k]?:=fun k c T fr hk=>World.putObj_heap_other (Zb2 hk dM)
 obtain⟨ms,q1,q2,q3⟩:=hr.defers
 refine hr.swap rfl hr.le rfl rfl rfl rfl hr.env hr.size ⟨ms,q1,q2,fun D hD=>?_⟩ cS (fun k t b ht hb=>((hr.toks k t ht).2 b hb).2) ?_
 ·rw[World.putObj_heap_other (fun e=>by have:=q3 D hD;rw[e,dM]at this;cases this)];exact q3 D hD
 ·obtain⟨Mr,hd⟩:=hr.dom
  obtain⟨M,p1,p2,p3,p4,p5⟩:=hd.p
  refine⟨Mr,⟨M,C.st _ M M _ _ p1 (ZfF rfl (p4 l hl).1) (fun k hk=>.inl hk),fun k hk=>by rw[ZcY];exact p2 k hk,p3,fun k hk=>⟨(p4 k hk).1,(p4 k hk).2.1,rfl⟩,by rw[ZcY];exact p5⟩,fun k hk=>by rw[ZcY];exact hd.lt k hk,hd.own,hd.tok,hd.mks,hd.new⟩
theorem Rel.outOfRound{X:Nat→Prop}{h1:Nat→Option Obj}{B:Nat}{S' S2:St}{a3 a1:Act}{l:Nat}{r r':Loop}(hr:Rel (Zvk C X h1 B) S' m a3 w)(hl:X l)(dM:w.heap[l]?=some (.loop r))
  (eI:∀b o v,C.m0 b o=some v→¬X b) (q9:∀D,ZiZ D∈a1.defers→X D) (hX':∀k,M' k→X k) (ra:∀D,ZiZ D∈a1.defers→¬M' D)
  (hL:S2.L=S'.L) (dL:S2.ids=S'.ids) (bY:S2.tok=S'.tok) (fS:S2.tkeys=S'.tkeys) (hg:S2.gh=S'.gh) (bT:a1.tmps.size=C.n) (dG:∀i sv,S2.env i=some sv→∃v,S2.den sv=some v∧a1.tmps[i]?=some v)
  (hC:∃ms:List Nat,a1.defers=ms.map ZiZ∧ms.Nodup∧∀D∈ms,w.heap[D]?=some (.deferred (some []))):
  Rel C S2 m a1 (w.putObj l (.loop r'))∧∃M,Dom C S2 m a1 (w.putObj l (.loop r')) M∧M l∧(∀k,M' k→M k)∧Apart M' S2 m a1:=by
 have cS:∀(k:Nat) c T fr,w.heap[k]?=some (Obj.cells c T fr)→(w.putObj l (.loop r')).heap[k]?=w.heap[k]?:=fun k c T fr hk=>World.putObj_heap_other (Zb2 hk dM)
 obtain⟨ms,q1,q2,q3⟩:=hC
 obtain⟨Mr,hd⟩:=hr.dom
 obtain⟨M,p1,p2,p3,p4,p5⟩:=hd.p
 have hD:Dom C S2 m a1 (w.putObj l (.loop r')) M:=by
  refine⟨hg ▸ C.st _ M M _ _ p1 (ZfF rfl (p4 l hl).1) (fun k hk=>.inl hk),fun k hk=>by rw[ZcY];exact p2 k hk,fun id x hx=>p3 _ (hd.own id x (hL ▸ hx)),fun k t b ht hb=>p3 _ (hd.tok k t b (bY ▸ ht) hb),fun D hD=>(p4 D (q9 D hD)).1,fun b o v hv=>(hd.new b o v hv).imp_right (p3 b)⟩
 refine⟨hr.swap rfl hr.le hL dL bY fS dG bT ⟨ms,q1,q2,fun D hD=>?_⟩ cS (fun k t b ht hb=>((hr.toks k t ht).2 b hb).2) ⟨M,hD⟩,?_⟩
 ·rw[World.putObj_heap_other (fun e=>by have:=q3 D hD;rw[e,dM]at this;cases this)];exact q3 D hD
 ·refine⟨M,hD,(p4 l hl).1,fun k hk=>(p4 k (hX' k hk)).1,?_⟩
  refine⟨fun id x hx h=>(p4 _ (hX' _ h)).2.1 (hd.own id x (hL ▸ hx)),fun k t b ht hb h=>(p4 _ (hX' _ h)).2.1 (hd.tok k t b (bY ▸ ht) hb),ra,fun b o v hv h=>?_⟩
  rcases hd.new b o v hv with h2|h2
  ·exact eI b o v h2 (hX' b h)
  ·exact(p4 b (hX' b h)).2.1 h2
theorem Rel.atX{X:Nat→Prop}{h1:Nat→Option Obj}{B:Nat}{S':St}{a3:Act}(hr:Rel (Zvk C X h1 B) S' m a3 w):B≤w.heap.size∧∀k,X k→w.heap[k]?=h1 k:=by
 obtain⟨Mr,hd⟩:=hr.dom
 obtain⟨M,p1,p2,p3,p4,p5⟩:=hd.p
 exact⟨p5,fun k hk=>(p4 k hk).2.2⟩
theorem ZlR{th:Bool}{E:Env}{A:LoopAnn}{I:List Value→List (List Value)→List Value→Mem→Nat→Prop}{K:KT}{a1:Act}{l:Nat}{fn:FuncId}{ps:Array Tmp}{x y:Code}{D:Nat}{Tx Ty:KT→St→Mem→Prop}{xs:List (List Value)}
  (oq:ZqJ E Tx x) (ot:ZqJ E Ty y) (ou:∀{K:KT} {S:St} {m:Mem},Tx K S m→Tx (fun e S' m'=>K e S' m'∧leT th m m') S m) (ov:∀{K:KT} {S:St} {m:Mem},Ty K S m→Ty (fun e S' m'=>K e S' m'∧leT th m m') S m) (mZ:YOk E C) (ow:Zbj C.n x=true) (oz:Zbj C.n y=true) (oA:ps.toList.all (Nat.blt · C.n)=true) (hS:StOk S) (bT:a1.tmps.size=C.n) (dG:∀i sv,S.env i=some sv→∃v,S.den sv=some v∧a1.tmps[i]?=some v)
  (rb:ZlO ps.toList (A.slots.map (·.1))=true) (lj:Za6 ps.toList=true) (eD:∀v∈xs,Shape.fitsL (A.slots.map (·.2)) v=true)
  (hb:Zvj A.gh S.gh fun y=>Shape.allL (A.slots.map (·.2)) fun x=>ZmU A.boxes fun css=>ZmV A.toks fun tvs=>∀(m':Mem)(n:Nat),m.le m'→xs[n]?=some x→I (ghs A.gh y []) css tvs m' n→
     Tx (fun e S1 m1=>match e with
      | .normal=>Ty (fun e S' m''=>Zwz th m m'' (ZkU A.gh S'.gh S.gh (Zmk (ZbE S' A S.ids) (ZbE S A S.ids) (Zml (Za5 S' A S.tkeys) (Za5 S A S.tkeys) (ZrX S' A.boxes fun css'=>ZfC S' A.toks fun tvs'=>match e with
       | .normal=>I (ghs A.gh S'.gh []) css' tvs' m'' (n+1)
       | e=>ZmW K e (ZbA S [] { A with slots:=[] } S'.gh [] css' tvs') m''))))) S1 m1
      | _=>False) (ZbA S [] A y x css tvs) m'):
  ZkP E.P m (ZqK C S m A I K a1 l (ZgJ fn a1.tmps ps x y D)) (fun l' g v=>l'=l∧0≤g∧xs[g.toNat]?=some v):=by
 rintro F n l' k v M' w hF bA ⟨rfl,sU,p8⟩ ⟨g,css,tvs,m',h1,h2,h3,h4,h5,hr,⟨M,hd,hl,hl',hM,fV⟩,hc⟩ cC
 rcases hc with⟨_,hI,dM⟩|⟨ir,_⟩
 rotate_left
 ·omega
 have jx:=Zja rb
 have oB:=eD v (List.mem_of_getElem? p8)
 have gJ:v.length=ps.toList.length:=by rw[jx,ZeN oB];simp
 have dQ:=ZaE lj
 have hy:=run_yield (P:=E.P) (args:=v.toArray) dM (by simpa[ZgJ]using gJ)
 simp only[ZgJ]at hy
 refine⟨_,_,_,_,hy,roundIn_of_wpIn (hF.fn _) ?_⟩
 have lS:((ps.zip v.toArray).foldl (fun tmps (x:Tmp×Value)=>tmps.setIfInBounds x.1 x.2) a1.tmps)=((ps.toList.zip v).foldl (fun(t:Array Value)(x:Nat×Value)=>t.setIfInBounds x.1 x.2) a1.tmps):=by
  rw[←Array.foldl_toList,Array.toList_zip]
 obtain⟨f1,f2,f3⟩:=Zi9 ps.toList v a1.tmps gJ dQ
 have p9:=hF.inRound l'
 have dU:=hr.intoRound (S1:=ZbA S [] A g v css tvs) (tm:=(ps.toList.zip v).foldl (fun(t:Array Value)(x:Nat×Value)=>t.setIfInBounds x.1 x.2) a1.tmps) hd hl hl' hM fV dM rfl rfl rfl rfl rfl (by rw[f1];exact bT) (by
  intro i sv he
  simp only[ZbA]at he
  rcases Zi8 (by rw[ZeN oB];simp) he with⟨g1,g2⟩|⟨q,sh,u,g1,g2,g3⟩
  ·simp only[List.any_nil,cond_false]at g1
   obtain⟨u,g3,g4⟩:=dG i sv g1
   exact⟨u,Zm6 g3,by rw[f2 i (by rw[jx];exact g2)];exact g4⟩
  ·subst g3
   refine⟨u,rfl,f3 q i u ?_ g2 ?_⟩
   ·rw[jx,List.getElem?_map,g1];rfl
   ·have:i∈ps.toList:=by rw[jx];exact List.mem_map.2 ⟨_,List.mem_of_getElem? g1,rfl⟩
    have:=List.all_eq_true.1 oA i this
    rw[bT];exact Zt5 this)
 rw[lS]
 have rc:∀b o v,C.m0 b o=some v→¬(M' b∨b=l'∨ZiZ b∈a1.defers):=by
  intro b o v hv
  have hv':m' b o=some v:=hr.le b o v hv
  obtain⟨c,T,fr,hc⟩:=hr.sub.isCells hv'
  rintro(h|h|h)
  ·exact fV.mem b o v hv' h
  ·exact Zb2 hc dM h
  ·exact Zg4 hc (hr.markAt h) rfl
 have eZ:=Zd2 (Zd1 (Shape.allL_fits _ _ (ZgX hb h4) v oB) css h1) tvs h2 h3 m' k.toNat h5 p8 hI
 refine oq p9 (Zps mZ) ?_ n ow dU (ou eZ) ?_
 ·intro l2 fU g2 Mr w2 hp
  have:l2=l':=by simpa using fU.symm
  subst this
  obtain⟨M2,_,_,_,p4,_⟩:=hp
  exact⟨_,by rw[(p4 l2 (.inr (.inl rfl))).2.2];exact dM⟩
 rintro e S1 m1 a2 w1 ⟨hk,oC⟩ fA
 cases e with
 | normal=>
  obtain⟨z1,z2⟩:=fA.atX
  have iO:w1.heap[l']?=some (.loop (ZgJ fn a1.tmps ps x y D .ready none)):=by rw[z2 l' (.inr (.inl rfl))];exact dM
  refine⟨_,run_beginRound iO rfl,?_⟩
  have rd:=fA.beginRound (r':={ ZgJ fn a1.tmps ps x y D .ready none with state:=.busy }) (.inr (.inl rfl)) iO
  have jX:l' < w1.heap.size:=(Array.getElem?_eq_some_iff.1 iO).1
  have ig:(w1.putObj l' (.loop { ZgJ fn a1.tmps ps x y D .ready none with state:=.busy })).heap[l']?=some (.loop { ZgJ fn a1.tmps ps x y D .ready none with state:=.busy }):=World.putObj_heap_same jX
  refine ot p9 (Zps mZ) ?_ n oz rd (ov hk) ?_
  ·intro l2 fU g2 Mr w2 hp
   have:l2=l':=by simpa using fU.symm
   subst this
   obtain⟨M2,_,_,_,p4,_⟩:=hp
   exact⟨_,by rw[(p4 l2 (.inr (.inl rfl))).2.2];exact ig⟩
  rintro e S' m'' a3 w3 ⟨hk,oD⟩ na
  obtain⟨q0,hk⟩:=ZqC hk
  obtain⟨q1,hk⟩:=ZdY hk
  obtain⟨q2,hk⟩:=ZcD.1 hk
  obtain⟨q3,hk⟩:=ZcE.1 hk
  obtain⟨css',g1,g2,hk⟩:=ZcX hk
  obtain⟨tvs',k1,k2,hk⟩:=ZbV hk
  obtain⟨y1,y2⟩:=na.atX
  have ii:w3.heap[l']?=some (.loop { ZgJ fn a1.tmps ps x y D .ready none with state:=.busy }):=by rw[y2 l' (.inr (.inl rfl))];exact ig
  have lh:m.le m'':=by
   cases th with
   | true=>exact q0 rfl
   | false=>exact Mem.le_trans h5 (Mem.le_trans oC oD)
  have hx:Rel (Zvk C (fun k=>M' k∨k=l'∨ZiZ k∈a1.defers) (fun k=>(w1.putObj l' (.loop { ZgJ fn a1.tmps ps x y D .ready none with state:=.busy })).heap[k]?) w.heap.size) (ZbA { S with env:=fun _=>none } [] { A with slots:=[] } S'.gh [] css' tvs') m'' a3 w3:=by
   have hh:Rel (Zvk C (fun k=>M' k∨k=l'∨ZiZ k∈a1.defers) (fun k=>(w1.putObj l' (.loop { ZgJ fn a1.tmps ps x y D .ready none with state:=.busy })).heap[k]?) w.heap.size) { S' with env:=fun _=>none } m'' a3 w3:=
    na.restrict rfl (fun _ _ h=>h) (fun _ _ h=>.inl h) (fun i sv h=>(by cases h)) na.ids na.tkeys
   exact Zee (S:={ S with env:=fun _=>none }) (S':={ S' with env:=fun _=>none }) (A:={ A with slots:=[] }) ⟨fun i sv h=>(by cases h),hS.ids,hS.tkeys⟩ hh (fun _ _=>rfl) q2 q3 (by simp) g1 g2 k1 k2
  have hC:∃ms:List Nat,a1.defers=ms.map ZiZ∧ms.Nodup∧∀D∈ms,w3.heap[D]?=some (.deferred (some [])):=by
   obtain⟨ms,r1,r2,r3⟩:=hr.defers
   refine⟨ms,r1,r2,fun D' hD'=>?_⟩
   have hm:ZiZ D'∈a1.defers:=by rw[r1];exact List.mem_map.2 ⟨_,hD',rfl⟩
   rw[y2 D' (.inr (.inr hm)),World.putObj_heap_other (fun e=>by have:=r3 D' hD';rw[e,dM]at this;cases this),z2 D' (.inr (.inr hm))];exact r3 D' hD'
  have cU:=fun(r':Loop)=>hx.outOfRound (S2:=ZbA S [] { A with slots:=[] } S'.gh [] css' tvs') (a1:=a1) (M':=M') (r':=r') (.inr (.inl rfl)) ii rc (fun D' hD'=>.inr (.inr hD')) (fun k hk=>.inl hk) fV.mks rfl rfl rfl rfl rfl bT (by
   intro i sv he
   simp only[ZbA,Zby,List.any_nil,cond_false]at he
   obtain⟨u,g3,g4⟩:=dG i sv he
   exact⟨u,Zm6 g3,g4⟩) hC
  have jk:l' < w3.heap.size:=(Array.getElem?_eq_some_iff.1 ii).1
  have lT:∀r',Frn m M' w (w3.putObj l' (.loop r')):=fun r'=>by
   refine⟨by rw[ZcY];exact y1,fun k hk oE=>?_,fun b o v hv=>?_⟩
   ·have cS:k≠l':=fun e=>hl' (e ▸ oE)
    rw[World.putObj_heap_other cS,y2 k (.inl oE),World.putObj_heap_other cS,z2 k (.inl oE)]
   ·have:=(cU r').1.sub b o v (lh b o v hv)
    exact this
  have fR:Zpt tvs':=by
   intro u hu
   obtain⟨i,hi⟩:=List.getElem?_of_mem hu
   have bA:=(List.getElem?_eq_some_iff.1 hi).1
   obtain⟨qe,iP⟩:∃qe,A.toks[i]?=some qe:=⟨_,List.getElem?_eq_getElem (by omega)⟩
   exact(k2 i qe.1 qe.2 u iP hi).1
  have fin:∀(c:Code) ,Zt4 K c (ZbA S [] { A with slots:=[] } S'.gh [] css' tvs') m''→∃v w',(Instr.endRound l' (some c)).run E.P w3=.ok v w'∧∃b,Ending.returned v=Ending.returned (.bool b)∧ZqK C S m A I K a1 l' (ZgJ fn a1.tmps ps x y D) (if b then k+1 else -1) M' w'∧Frn m M' w w':=by
   intro c hc
   refine⟨_,_,run_endRound (some c) ii,false,rfl,?_,lT _⟩
   obtain⟨o1,M3,o2,o3,o4,o5⟩:=cU (ZgJ fn a1.tmps ps x y D .done (some c))
   exact⟨S'.gh,css',tvs',m'',g1,k1,fR,q1,lh,o1,⟨M3,o2,o3,hl',o4,o5⟩,.inr ⟨rfl,c,World.putObj_heap_same jk,hc⟩⟩
  cases e with
  | normal=>
   refine⟨_,_,run_endRound none ii,true,rfl,?_,lT _⟩
   obtain⟨o1,M3,o2,o3,o4,o5⟩:=cU (ZgJ fn a1.tmps ps x y D .ready none)
   refine⟨S'.gh,css',tvs',m'',g1,k1,fR,q1,lh,o1,⟨M3,o2,o3,hl',o4,o5⟩,.inl ⟨by simp;omega,?_,World.putObj_heap_same jk⟩⟩
   have:(k+1).toNat=k.toNat+1:=by omega
   simp only[if_true,this]
   exact hk
  | ret=>exact fin _ hk
  | exit id=>exact fin _ hk
  | goto t=>exact fin _ hk
  | panic ch=>exact hk.elim
  | outgrown=>exact hk.elim
 | exit id=>exact hk.elim
 | goto t=>exact hk.elim
 | ret=>exact hk.elim
 | panic ch=>exact hk.elim
 | outgrown=>exact hk.elim
end
end Go.Eng
namespace Go.Eng
open Go Go.RowKit
section
variable {C:Ctx} {S:St} {m:Mem} {a:Act} {w w':World}
theorem Rel.afterRange{S2:St}{a1:Act}{l:Nat}{r r':Loop}{M:Nat→Prop}(hr:Rel C S2 m a1 w)(hd:Dom C S2 m a1 w M)(hl:M l)(dM:w.heap[l]?=some (.loop r)):Rel C S2 m a1 (w.putObj l (.loop r')):=by
 obtain⟨ms,q1,q2,q3⟩:=hr.defers
 refine hr.swap rfl hr.le rfl rfl rfl rfl hr.env hr.size ⟨ms,q1,q2,fun D hD=>?_⟩ (fun k c T fr hk=>World.putObj_heap_other (Zb2 hk dM)) (fun k t b ht hb=>((hr.toks k t ht).2 b hb).2) ⟨_,hd.step (ZfF rfl hl) (fun b o v hv=>.inl hv)⟩
 rw[World.putObj_heap_other (fun e=>by have:=q3 D hD;rw[e,dM]at this;cases this)];exact q3 D hD
theorem Zm7{th:Bool}{E:Env}{F:Fence}(hF:FOk F)(mZ:YOk E C)(hR:ROk F C)(n:Nat){A:LoopAnn}{f:Operand}{ps:Array Tmp}{x y:Code}{Tx Ty:KT→St→Mem→Prop}
  (oq:ZqJ E Tx x) (ot:ZqJ E Ty y) (ou:∀{K:KT} {S:St} {m:Mem},Tx K S m→Tx (fun e S' m'=>K e S' m'∧leT th m m') S m) (ov:∀{K:KT} {S:St} {m:Mem},Ty K S m→Ty (fun e S' m'=>K e S' m'∧leT th m m') S m)
  (ow:Zbj C.n x=true) (oz:Zbj C.n y=true) (oA:ps.toList.all (Nat.blt · C.n)=true)
  {K:KT} {Q:Exit→Act→World→Prop} (hr:Rel C S m a w) (h:ZmX th E.P A f ps.toList Tx Ty K S m) (hK:∀e S' m' a' w',K e S' m'→Rel C S' m' a' w'→Q e a' w'):(Code.rangeFunc f ps x y).wpIn F n E.P Q a w:=by
 unfold ZmX at h
 split at h
 rotate_left
 ·exact h.elim
 rename_i g first captured iG
 obtain⟨hc,lh⟩:=Zae h
 obtain⟨mi,iQ,jV,xs,qa,eD,I,h0,hb,iR⟩:=ZqB lh
 simp only[Bool.and_eq_true]at hc
 obtain⟨v,e1,_,e2⟩:=hr.ev_val iG
 simp only[St.den,Option.some.injEq]at e1
 refine wpIn_rangeFunc fun fn kC=>?_
 obtain⟨l,mk,w1,D,kE,dU,⟨M1,jj,jX⟩,dM⟩:=hr.enter (P:=E.P) hR fn ps x y
 obtain⟨a1,kF⟩:∃a1,a1=({ a with defers:=mk++a.defers }:Act):=⟨_,rfl⟩
 rw[←kF]at dU jj
 have dR:a1.tmps=a.tmps:=by rw[kF]
 have lU:w1.heap[l]?=some (.loop (ZgJ fn a1.tmps ps x y D .ready none)):=by rw[dR];exact dM
 refine⟨l,mk,w1,{ target:=.fn (.func g) captured,args:=first++#[.func (.yield l) #[] #[]] },w1,g,(first.toList++.func (.yield l) #[] #[]::captured.toList).toArray,w1,kE,?_,fun f' _=>hF.fn f',?_,fun hs=>by rw[hF.depth]at hs;simp at hs,?_⟩
 ·simp only[resolve,e2,←e1,Deferred.ofValue]
  simp[go_sem]
 ·have gM:first++#[Value.func (.yield l) #[] #[]]++captured=(first.toList++Value.func (.yield l) #[] #[]::captured.toList).toArray:=Array.ext' (by simp)
  simp only[invoke,gM]
  exact qa.1 _ _
 ·obtain⟨css,g1,g2,h0⟩:=ZcX h0
  obtain⟨tvs,k1,k2,hI⟩:=ZbV h0
  have fR:Zpt tvs:=by
   intro u hu
   obtain⟨i,hi⟩:=List.getElem?_of_mem hu
   have bA:=(List.getElem?_eq_some_iff.1 hi).1
   obtain⟨qe,iP⟩:∃qe,A.toks[i]?=some qe:=⟨_,List.getElem?_eq_getElem (by omega)⟩
   exact(k2 i qe.1 qe.2 u iP hi).1
  have oF:Rel C (ZbA S [] { A with slots:=[] } S.gh [] css tvs) m a1 w1:=Zee dU.ok dU (SameOut.refl _ _) rfl rfl (by simp) g1 g2 k1 k2
  have oG:ZqK C S mi A I K a1 l (ZgJ fn a1.tmps ps x y D) 0 (fun _=>False) w1:=by
   refine⟨S.gh,css,tvs,m,g1,k1,fR,fun _=>rfl,iQ,oF,?_,.inl ⟨Int.le_refl _,hI,lU⟩⟩
   have oo:Dom C (ZbA S [] { A with slots:=[] } S.gh [] css tvs) m a1 w1 M1:=by
    refine⟨jj.p,jj.lt,fun id y hy=>?_,fun k t b ht hb=>?_,jj.mks,jj.new⟩
    ·simp only[ZbA]at hy
     rcases ZfE hy with⟨i,x',cs,q1,q2,q3,q4⟩|⟨q1,q2⟩
     ·rw[q4];exact jj.own id x' q3
     ·exact jj.own id y q2
    ·simp only[ZbA]at ht
     rcases Zdf ht with⟨i,e,u,q1,q2,q3⟩|⟨q1,q2⟩
     ·obtain⟨_,q5⟩:=k2 i k e u q1 q2
      subst q3
      rcases q5 with q5|q5
      ·exact jj.tok k _ b q5 hb
      ·simp[Tok.blk,q5]at hb
     ·exact jj.tok k t b q2 hb
   exact⟨M1,oo,jX,fun h=>h,fun _ h=>h.elim,⟨fun _ _ _ h=>h,fun _ _ _ _ _ h=>h,fun _ _ h=>h,fun _ _ _ _ h=>h⟩⟩
  have dG:∀i sv,S.env i=some sv→∃v,S.den sv=some v∧a1.tmps[i]?=some v:=fun i sv he=>dU.env i sv he
  have kG:=ZlR (th:=th) (E:=E) (S:=S) (m:=mi) (K:=K) (l:=l) (fn:=fn) (D:=D) oq ot ou ov mZ ow oz oA hr.ok dU.size dG hc.1 hc.2 eD hb
  refine hF.calls ((qa.2 _ ZlQ l w1 (fun b o v hv=>dU.sub b o v (iQ b o v hv)) oG kG).mono ?_)
  rintro e w2 ⟨v,M2,rfl,bA,fC⟩
  rw[←kF]
  rcases fC with fC|fC
  all_goals obtain⟨gg,css2,tvs2,m2,y1,y2,y3,y4,y5,y6,⟨M3,y7,y8,y9,y10,y11⟩,y12⟩:=fC
  ·rcases y12 with⟨_,re,gN⟩|⟨hk,_⟩
   ·refine⟨none,_,run_endLoop gN (by simp[ZgJ]),?_⟩
    have:=Zd2 (Zd1 (ZgX iR y4) css2 y1) tvs2 y2 y3 m2 y5 (by simpa using re)
    exact hK _ _ _ _ _ this (y6.afterRange y7 y8 gN)
   ·omega
  ·rcases y12 with⟨hk,_⟩|⟨_,c,gN,ij⟩
   ·omega
   ·refine⟨some c,_,run_endLoop gN (by simp[ZgJ]),?_⟩
    have hR:=fun r'=>y6.afterRange (r':=r') y7 y8 gN
    cases c with
    | ret=>exact wpIn_ret (hK _ _ _ _ _ ij (hR _))
    | exit id=>exact wpIn_exit (hK _ _ _ _ _ ij (hR _))
    | goto t=>exact wpIn_goto (hK _ _ _ _ _ ij (hR _))
    | _=>exact ij.elim
end
end Go.Eng
