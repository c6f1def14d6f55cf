/- The engine: a reckoner over the code of a program in Lean, with its soundness; it names no program. No condition. -/
import Derived.Test.YthiefodednaikaaMa
import Derived.RangeFuncNested
import Derived.RangeFuncLeaves
set_option linter.unusedVariables false
set_option linter.unusedSimpArgs false
set_option linter.unusedSectionVars false
namespace Go.Eng
open Go Go.RowKit
theorem ZcS{n:Int}(h0 : -9223372036854775808<=n)(h1:n<=9223372036854775807):IntKind.i64.wrap n=n:=by
 simp only[IntKind.wrap,IntKind.bits,IntKind.signed,Bool.true_and]
 split
 ·rename_i h;simp at h;omega
 ·rename_i h;simp at h;omega
def Zvz(E:Env)(S:St)(T:TypeId)(l c:Operand)(d:Option Tmp)(K:St->Prop):Prop:=match d with
 | none=>False
 | some d=>match ZaF E T with
  | none=>False
  | some (e,j)=>match S.L d with
   | some _=>False
   | none=>wv S l λvl=>wv S c λvc=>chk (Zcm vl&&Zcm vc) ((0<=intOf vl/\intOf vl<=intOf vc/\intOf vc*j.bytes<=281474976710656/\intOf vc<=9223372036854775807)/\
     ∀b,K ((S.newL d { b:=b,cs:=(List.replicate (intOf vc).toNat j.zero.cells.toList).flatten,T:=e,cap:=(intOf vc).toNat*j.size,fz:=false,full:=true }).put (some d) (some (.sl d (intOf vl).toNat (intOf vc).toNat))))
def Zsd(E:Env)(S:St)(m:Mem)(T:TypeId)(l c:Operand)(d:Option Tmp)(K:St->Mem->Prop):Prop:=match d with
 | none=>False
 | some d=>match ZaF E T with
  | none=>False
  | some (e,j)=>wv S l λvl=>wv S c λvc=>chk (Zcm vl&&Zcm vc) ((0<=intOf vl/\intOf vl<=intOf vc/\intOf vc*j.bytes<=281474976710656/\intOf vc<=9223372036854775807)/\
     ∀b,m.free b->K (S.put (some d) (some (.v (.slice (some ⟨b,0,none⟩) (intOf vl).toNat (intOf vc).toNat)))) (m.add b (List.replicate (intOf vc).toNat j.zero.cells.toList).flatten))
def ZtH(E:Env)(d:Option Tmp):Bool:=match d with
 | none=>false
 | some d=>E.mkM d
theorem Zk5(zs:List Value):∀(c:Nat),(List.range (c*zs.length)).map (λi=>zs.toArray[i % zs.toArray.size]!)=(List.replicate c zs).flatten
 | 0=>by simp
 | c+1=>by
  rw[Nat.add_mul,Nat.one_mul,List.replicate_succ',List.flatten_append,<-Zk5 zs c,List.range_add,List.map_append]
  congr 1
  simp only[List.flatten_cons,List.flatten_nil,List.append_nil,List.map_map]
  refine List.ext_getElem (by simp) λi h1 h2=>?_
  simp only[List.length_map,List.length_range]at h1
  simp only[List.getElem_map,List.getElem_range,Function.comp,List.size_toArray]
  rw[Nat.mul_comm,Nat.mul_add_mod,Nat.mod_eq_of_lt h1]
  simp[h1]
section
variable {C:Ctx} {S:St} {m:Mem} {a:Act} {w:World}
theorem Zoq{E:Env}(hE:E.ok){T:TypeId}{l c:Operand}{d:Option Tmp}{K:St->Prop}(hd:∀t,d=some t->t < C.n)(hr:Rel C S m a w)(h:Zvz E S T l c d K):
  ∃S' v w',K S'/\Rel C S' m (a.put d v) w'/\(Instr.makeSlice T (a.eval l) (a.eval c)).run E.P w=.ok v w':=by
 unfold Zvz at h
 cases d with
 | none=>exact h.elim
 | some d=>
  simp only at h
  cases hs:ZaF E T with
  | none=>simp[hs]at h
  | some ej=>
   obtain⟨e,j⟩:=ej
   simp only[hs]at h
   cases hL:S.L d with
   | some x=>simp[hL]at h
   | none=>
    simp only[hL]at h
    obtain⟨vl,gX,h⟩:=ZaK h
    obtain⟨vc,li,h⟩:=ZaK h
    obtain⟨h1,⟨h2,h3,h4,h5⟩,hk⟩:=Zag h
    simp only[Bool.and_eq_true]at h1
    obtain⟨kl,jQ⟩:=Za6 h1.1
    obtain⟨kc,ku⟩:=Za6 h1.2
    generalize r9:intOf vl=nl at *
    generalize gQ:intOf vc=nc at *
    obtain⟨i,eO,gK,i9⟩:=ZaS hs
    have dB:=hE e j i9
    have hu:=(hE T i eO).run_und (w:=w)
    rw[gK]at hu
    have bW:=dB.run_size (w:=w)
    have hz:=dB.run_zero (w:=w)
    obtain⟨x,g1,_,_,g4⟩:=dB.run_info (w:=w)
    have gR:j.zero.cells.toList.length=j.size:=by simpa using dB.zsize
    have bS:((List.replicate nc.toNat j.zero.cells.toList).flatten).length=nc.toNat*j.size:=by simp[dB.zsize]
    have hb:=hr.newBox (d:=d) hL (x:={ b:=w.heap.size,cs:=(List.replicate nc.toNat j.zero.cells.toList).flatten,T:=e,cap:=nc.toNat*j.size,fz:=false,full:=true }) (m':=m) [] rfl (by simpa using bS) (λ_=>bS) (.inl ⟨rfl,rfl⟩)
    simp only[List.append_nil]at hb
    refine⟨_,.slice (some ⟨w.heap.size,0,none⟩) nl.toNat nc.toNat,_,hk w.heap.size,hb.put (some d) hd (by simp[St.den,St.newL]),?_⟩
    rw[hr.ev gX,hr.ev li,jQ,ku]
    have w1:IntKind.i64.wrap nl=nl:=ZcS (by omega) (by omega)
    have w2:IntKind.i64.wrap nc=nc:=ZcS (by omega) (by omega)
    have pF:0<=nc:=by omega
    have c1:¬(nc < 0):=by omega
    have c2:¬(nl < 0):=by omega
    have c3:¬(nc < nl):=by omega
    have c4:¬(281474976710656 < (x.bytes:Int)*nc):=by rw[g4,Int.mul_comm];omega
    have dD:(Array.map (λi=>(if nc.toNat*j.size=0 then(#[]:Array Value)else j.zero.cells)[i % (if nc.toNat*j.size=0 then(#[]:Array Value)else j.zero.cells).size]!) (Array.range (nc.toNat*j.size)))=(List.replicate nc.toNat j.zero.cells.toList).flatten.toArray:=by
     have:=Zk5 j.zero.cells.toList nc.toNat
     rw[gR]at this
     apply Array.ext'
     by_cases h0:nc.toNat*j.size=0
     ·have jc:(List.replicate nc.toNat j.zero.cells.toList).flatten=[]:=List.eq_nil_of_length_eq_zero (by rw[bS,h0])
      simp[h0,jc]
     ·simp only[h0,if_false,Array.toList_map,Array.toList_range]
      rw[<-this]
    by_cases h0:nc.toNat*j.size=0
    ·simp only[h0,if_true]at dD
     simp[Instr.makeSlice,hu,asInt,asIntOf,g1,w1,w2,c1,c2,c3,c4,bW,h0,newRow,<-dD]
    ·simp only[h0,if_false]at dD
     simp[Instr.makeSlice,hu,asInt,asIntOf,g1,w1,w2,c1,c2,c3,c4,bW,h0,hz,newRow,<-dD]
theorem Zng{E:Env}(hE:E.ok){T:TypeId}{l c:Operand}{d:Option Tmp}{K:St->Mem->Prop}(hd:∀t,d=some t->t < C.n)(hr:Rel C S m a w)(h:Zsd E S m T l c d K):
  ∃S' m' v w',K S' m'/\Rel C S' m' (a.put d v) w'/\(Instr.makeSlice T (a.eval l) (a.eval c)).run E.P w=.ok v w':=by
 unfold Zsd at h
 cases d with
 | none=>exact h.elim
 | some d=>
  simp only at h
  cases hs:ZaF E T with
  | none=>simp[hs]at h
  | some ej=>
   obtain⟨e,j⟩:=ej
   simp only[hs]at h
   obtain⟨vl,gX,h⟩:=ZaK h
   obtain⟨vc,li,h⟩:=ZaK h
   obtain⟨h1,⟨h2,h3,h4,h5⟩,hk⟩:=Zag h
   simp only[Bool.and_eq_true]at h1
   obtain⟨kl,jQ⟩:=Za6 h1.1
   obtain⟨kc,ku⟩:=Za6 h1.2
   generalize r9:intOf vl=nl at *
   generalize gQ:intOf vc=nc at *
   obtain⟨i,eO,gK,i9⟩:=ZaS hs
   have dB:=hE e j i9
   have hu:=(hE T i eO).run_und (w:=w)
   rw[gK]at hu
   have bW:=dB.run_size (w:=w)
   have hz:=dB.run_zero (w:=w)
   obtain⟨x,g1,_,_,g4⟩:=dB.run_info (w:=w)
   have gR:j.zero.cells.toList.length=j.size:=by simpa using dB.zsize
   have bS:((List.replicate nc.toNat j.zero.cells.toList).flatten).length=nc.toNat*j.size:=by simp[dB.zsize]
   have dH:∀o,m w.heap.size o=none:=λo=>by
    cases he:m w.heap.size o with
    | none=>rfl
    | some u=>have:=hr.sub.lt he;omega
   have cF:Sub (m.add w.heap.size (List.replicate nc.toNat j.zero.cells.toList).flatten) (w.alloc (.cells ((List.replicate nc.toNat j.zero.cells.toList).flatten).toArray e (0,0))):=λb o v hv=>by
    by_cases hb:b=w.heap.size
    ·subst hb
     rw[Mem.add_same]at hv
     have:(w.alloc (.cells ((List.replicate nc.toNat j.zero.cells.toList).flatten).toArray e (0,0))).heap[w.heap.size]?=some (.cells ((List.replicate nc.toNat j.zero.cells.toList).flatten).toArray e (0,0)):=by show(w.heap.push _)[w.heap.size]?=_;simp
     simp only[World.cell?,this]
     simpa using hv
    ·rw[Mem.add_other _ hb]at hv
     rw[ZbA (w:=w) (Below.heap_alloc w _ b (hr.sub.lt hv))];exact hr.sub _ _ _ hv
   have lh:=hr.world (m':=m.add w.heap.size (List.replicate nc.toNat j.zero.cells.toList).flatten) (Keep.alloc (Nat.le_refl _) (ZkV _ _)) cF (Mem.le_add dH _) (λb o v hv=>by
    by_cases hb:b=w.heap.size
    ·exact .inr (by omega)
    ·rw[Mem.add_other _ hb]at hv;exact .inl hv)
   refine⟨_,_,.slice (some ⟨w.heap.size,0,none⟩) nl.toNat nc.toNat,_,hk w.heap.size dH,lh.put (some d) hd rfl,?_⟩
   rw[hr.ev gX,hr.ev li,jQ,ku]
   have w1:IntKind.i64.wrap nl=nl:=ZcS (by omega) (by omega)
   have w2:IntKind.i64.wrap nc=nc:=ZcS (by omega) (by omega)
   have pF:0<=nc:=by omega
   have c1:¬(nc < 0):=by omega
   have c2:¬(nl < 0):=by omega
   have c3:¬(nc < nl):=by omega
   have c4:¬(281474976710656 < (x.bytes:Int)*nc):=by rw[g4,Int.mul_comm];omega
   have dD:(Array.map (λi=>(if nc.toNat*j.size=0 then(#[]:Array Value)else j.zero.cells)[i % (if nc.toNat*j.size=0 then(#[]:Array Value)else j.zero.cells).size]!) (Array.range (nc.toNat*j.size)))=(List.replicate nc.toNat j.zero.cells.toList).flatten.toArray:=by
    have:=Zk5 j.zero.cells.toList nc.toNat
    rw[gR]at this
    apply Array.ext'
    by_cases h0:nc.toNat*j.size=0
    ·have jc:(List.replicate nc.toNat j.zero.cells.toList).flatten=[]:=List.eq_nil_of_length_eq_zero (by rw[bS,h0])
     simp[h0,jc]
    ·simp only[h0,if_false,Array.toList_map,Array.toList_range]
     rw[<-this]
   by_cases h0:nc.toNat*j.size=0
   ·simp only[h0,if_true]at dD
    simp[Instr.makeSlice,hu,asInt,asIntOf,g1,w1,w2,c1,c2,c3,c4,bW,h0,newRow,<-dD]
   ·simp only[h0,if_false]at dD
    simp[Instr.makeSlice,hu,asInt,asIntOf,g1,w1,w2,c1,c2,c3,c4,bW,h0,hz,newRow,<-dD]
def frW(fr:Option Mem)(b:Nat)(p:Prop):Prop:=match fr with
 | none=>p
 | some m=>m.free b->p
theorem Zul{fr:Option Mem}{m:Mem}{b:Nat}{p:Prop}(eZ:∀m',fr=some m'->m'=m)(hf:m.free b)(h:frW fr b p):p:=by
 cases fr with
 | none=>exact h
 | some m'=>exact h (by rw[eZ m' rfl];exact hf)
theorem Zq1{fr:Option Mem}{b:Nat}{p q:Prop}(h:p->q)(hx:frW fr b p):frW fr b q:=by
 cases fr with
 | none=>exact h hx
 | some m=>exact λhf=>h (hx hf)
def Znh(E:Env)(S:St)(fr:Option Mem)(T:TypeId)(l c:Operand)(d:Option Tmp)(key:Nat)(K:St->Prop):Prop:=match d with
 | none=>False
 | some d=>match ZaF E T with
  | none=>False
  | some (e,j)=>wv S l λvl=>wv S c λvc=>chk (Zcm vl&&Zcm vc) ((intOf vl=0/\0<=intOf vc/\intOf vc*j.bytes<=281474976710656/\intOf vc<=9223372036854775807)/\
     ∀b,frW fr b (K (({ S with tok:=λk=>bif Nat.beq k key then some ⟨.slice (some ⟨b,0,none⟩) 0 (intOf vc).toNat,j.size⟩ else S.tok k,tkeys:=key::S.tkeys }:St).put (some d) (some (.v (.slice (some ⟨b,0,none⟩) 0 (intOf vc).toNat))))))
theorem Zh9{E:Env}(hE:E.ok){T:TypeId}{l c:Operand}{d:Option Tmp}{key:Nat}{K:St->Prop}{fr:Option Mem}(eZ:∀m',fr=some m'->m'=m)(hd:∀t,d=some t->t < C.n)(hr:Rel C S m a w)(h:Znh E S fr T l c d key K):
  ∃S' v w',K S'/\Rel C S' m (a.put d v) w'/\(Instr.makeSlice T (a.eval l) (a.eval c)).run E.P w=.ok v w'/\
   (c=.const (.int .i64 0)->∃i e,E.tt T=some i/\i.d=.slice e/\v=.slice (some ⟨w.heap.size,0,none⟩) 0 0/\w'=w.alloc (.cells #[] e (0,0))):=by
 unfold Znh at h
 cases d with
 | none=>exact h.elim
 | some d=>
  simp only at h
  cases hs:ZaF E T with
  | none=>simp[hs]at h
  | some ej=>
   obtain⟨e,j⟩:=ej
   simp only[hs]at h
   obtain⟨vl,gX,h⟩:=ZaK h
   obtain⟨vc,li,h⟩:=ZaK h
   obtain⟨h1,⟨h2,h3,h4,h5⟩,hk⟩:=Zag h
   simp only[Bool.and_eq_true]at h1
   obtain⟨kl,jQ⟩:=Za6 h1.1
   obtain⟨kc,ku⟩:=Za6 h1.2
   generalize r9:intOf vl=nl at *
   generalize gQ:intOf vc=nc at *
   subst h2
   obtain⟨i,eO,gK,i9⟩:=ZaS hs
   have dB:=hE e j i9
   have hu:=(hE T i eO).run_und (w:=w)
   rw[gK]at hu
   have bW:=dB.run_size (w:=w)
   have hz:=dB.run_zero (w:=w)
   obtain⟨x,g1,_,_,g4⟩:=dB.run_info (w:=w)
   have gR:j.zero.cells.toList.length=j.size:=by simpa using dB.zsize
   have bS:((List.replicate nc.toNat j.zero.cells.toList).flatten).length=nc.toNat*j.size:=by simp[dB.zsize]
   have cF:Sub m (w.alloc (.cells ((List.replicate nc.toNat j.zero.cells.toList).flatten).toArray e (0,0))):=λb o v hv=>by
    rw[ZbA (w:=w) (Below.heap_alloc w _ b (hr.sub.lt hv))];exact hr.sub _ _ _ hv
   have lh:Rel C S m a (w.alloc (.cells ((List.replicate nc.toNat j.zero.cells.toList).flatten).toArray e (0,0))):=hr.world (Keep.alloc (Nat.le_refl _) (ZkV _ _)) cF (Mem.le_refl m) (λb o v hv=>.inl hv)
   have dH:∀o,m w.heap.size o=none:=λo=>by
    cases he:m w.heap.size o with
    | none=>rfl
    | some u=>have:=hr.sub.lt he;omega
   have cA:TokOk m (w.alloc (.cells ((List.replicate nc.toNat j.zero.cells.toList).flatten).toArray e (0,0))) ⟨.slice (some ⟨w.heap.size,0,none⟩) 0 nc.toNat,j.size⟩:=
    .inr ⟨w.heap.size,0,0,nc.toNat,((List.replicate nc.toNat j.zero.cells.toList).flatten).toArray,e,(0,0),rfl,Nat.zero_le _,by show(w.heap.push _)[w.heap.size]?=_;simp,by show 0+nc.toNat*j.size<=((List.replicate nc.toNat j.zero.cells.toList).flatten).length;rw[bS,Nat.zero_add];exact Nat.le_refl _,λo _ ho=>by simp at ho,λo _ _=>dH o⟩
   have fM:∀b,(Tok.mk (.slice (some ⟨w.heap.size,0,none⟩) 0 nc.toNat) j.size).blk=some b->b=w.heap.size:=λb hb=>by simp[Tok.blk]at hb;exact hb.symm
   have gv:=lh.tokUpd key _ cA (λb hb=>by
    have:=fM b hb
    subst this
    refine⟨⟨λid x hx e=>?_,λo=>?_⟩,λk' t' _ hk' hb'=>?_⟩
    ·have:=(hr.own id x hx).lt;omega
    ·cases he:C.m0 w.heap.size o with
     | none=>rfl
     | some u=>have:=hr.sub.lt (hr.le _ _ _ he);omega
    ·have:=(hr.toks k' t' hk').1.lt hb';omega) (by
    obtain⟨M,hd'⟩:=hr.dom
    refine⟨_,hd'.step (m':=m) ((Keep.alloc (Nat.le_refl _) (ZkV _ _):Keep w.heap.size [] w _).upd (by simp)) (λb o u hu=>.inl hu),λb hb=>?_⟩
    have:=fM b hb
    subst this
    exact .inr ⟨Nat.le_refl _,by show w.heap.size < (w.heap.push _).size;simp⟩)
   have eH:=hk w.heap.size
   have pG:=Zul eZ dH eH
   refine⟨_,.slice (some ⟨w.heap.size,0,none⟩) 0 nc.toNat,_,pG,gv.put (some d) hd rfl,?_,λhc=>⟨i,e,eO,gK,?_,?_⟩⟩
   rotate_left
   ·subst hc
    have:vc=.int .i64 0:=by simpa[St.val,St.ev,St.den]using li.symm
    subst this
    simp only[intOf]at gQ;subst gQ;rfl
   ·subst hc
    have:vc=.int .i64 0:=by simpa[St.val,St.ev,St.den]using li.symm
    subst this
    simp only[intOf]at gQ;subst gQ;rfl
   rw[hr.ev gX,hr.ev li,jQ,ku]
   have w1:IntKind.i64.wrap 0=0:=ZcS (by omega) (by omega)
   have w2:IntKind.i64.wrap nc=nc:=ZcS (by omega) (by omega)
   have c1:¬(nc < 0):=by omega
   have c2:¬((0:Int) < 0):=by omega
   have c4:¬(281474976710656 < (x.bytes:Int)*nc):=by rw[g4,Int.mul_comm];omega
   have dD:(Array.map (λi=>(if nc.toNat*j.size=0 then(#[]:Array Value)else j.zero.cells)[i % (if nc.toNat*j.size=0 then(#[]:Array Value)else j.zero.cells).size]!) (Array.range (nc.toNat*j.size)))=((List.replicate nc.toNat j.zero.cells.toList).flatten).toArray:=by
    have:=Zk5 j.zero.cells.toList nc.toNat
    rw[gR]at this
    apply Array.ext'
    by_cases h0:nc.toNat*j.size=0
    ·have jc:(List.replicate nc.toNat j.zero.cells.toList).flatten=[]:=List.eq_nil_of_length_eq_zero (by rw[bS,h0])
     simp[h0,jc]
    ·simp only[h0,if_false,Array.toList_map,Array.toList_range]
     rw[<-this]
   by_cases h0:nc.toNat*j.size=0
   ·simp only[h0,if_true]at dD
    simp[Instr.makeSlice,hu,asInt,asIntOf,g1,w1,w2,c1,c2,c4,bW,h0,newRow,<-dD]
   ·simp only[h0,if_false]at dD
    simp[Instr.makeSlice,hu,asInt,asIntOf,g1,w1,w2,c1,c2,c4,bW,h0,hz,newRow,<-dD]
theorem Rel.freeze(h:Rel C S m a w){id:Nat}{x:Box}(hx:S.L id=some x)(n:Nat)(hn:∃cells T fr,w.heap[x.b]?=some (.cells cells T fr)/\cells.size=n):Rel C S m a (w.freeze ⟨x.b,n,none⟩ 1):=by
 obtain⟨sp,fr,hh,hc,hf⟩:=(h.own id x hx).cells
 obtain⟨cells,T,fr',hh',sd⟩:=hn
 rw[hh]at hh'
 simp only[Option.some.injEq,Obj.cells.injEq]at hh'
 obtain⟨e1,_,_⟩:=hh'
 have eY:n=x.cap:=by rw[<-sd,<-e1];simpa using hc
 have cB:∀k,k≠x.b->(w.freeze ⟨x.b,n,none⟩ 1).heap[k]?=w.heap[k]?:=λk hk=>by
  simp only[World.freeze,Nat.one_ne_zero,if_false,Array.getElem?_modify]
  rw[if_neg (by simpa using Ne.symm hk)]
 have cY:∃fr',(w.freeze ⟨x.b,n,none⟩ 1).heap[x.b]?=some (.cells (x.cs++sp).toArray x.T fr')/\(fr'.1=fr'.2\/x.cap<=fr'.1):=by
  obtain⟨lo,hi⟩:=fr
  refine⟨if lo == hi then(n,n+1)else(min lo n,max hi (n+1)),?_,?_⟩
  ·simp only[World.freeze,Nat.one_ne_zero,if_false,Array.getElem?_modify,if_true,hh,Option.map_some]
  ·split
   ·right;simp only;omega
   ·rename_i cW
    simp only at hf
    rcases hf with hf|hf
    ·simp[hf]at cW
    ·right;simp only;omega
 obtain⟨fr2,cY,pH⟩:=cY
 have cS:∀(b o:Nat),(w.freeze ⟨x.b,n,none⟩ 1).cell? ⟨b,o,none⟩=w.cell? ⟨b,o,none⟩:=λb o=>by
  by_cases hb:b=x.b
  ·subst hb;simp only[World.cell?,cY,hh]
  ·exact ZbA (cB b hb) o
 have mN:(w.freeze ⟨x.b,n,none⟩ 1).os=w.os/\(w.freeze ⟨x.b,n,none⟩ 1).tape=w.tape/\(w.freeze ⟨x.b,n,none⟩ 1).output=w.output/\(w.freeze ⟨x.b,n,none⟩ 1).heap.size=w.heap.size:=by
  simp[World.freeze]
 have:=h.upd (w':=w.freeze ⟨x.b,n,none⟩ 1) (m':=m) (L':=S.L) [x.b] ⟨mN.1,mN.2.1,mN.2.2.1,by omega,λk _ hk=>cB k (by simpa using hk),λk hk=>by
  by_cases ij:k=x.b
  ·subst ij
   intro c1 T1 fr1 pI i hi l9
   rw[cY]at pI
   simp only[Option.some.injEq,Obj.cells.injEq]at pI
   obtain⟨rfl,rfl,rfl⟩:=pI
   have:i < x.cap:=by rw[<-hc];simpa using hi
   omega
  ·exact hk.of_eq (cB k ij)⟩ (λb o v hv=>by rw[cS];exact h.sub b o v hv) (Mem.le_refl m) (λ_ _ _ hv=>.inl hv) (λ_=>rfl)
  (λi y hy=>by
   by_cases hi:i=id
   ·subst hi
    rw[hx]at hy;cases hy
    have ho:=(h.own _ x hx)
    exact .inr ⟨⟨sp,fr2,cY,hc,pH⟩,ho.free,ho.known,ho.whole⟩
   ·refine .inl ⟨hy,?_⟩
    simp only[List.mem_singleton]
    exact λe=>hi (h.apart i id y x hy hx e))
  (λb hb=>⟨id,x,hx,by simp at hb;exact hb.symm⟩)
 exact this
theorem ZdJ{P:Program}{w:World}(b o:Nat){cells:Array Value}{T:TypeId}{fr:Nat×Nat}(h:w.heap[b]?=some (.cells cells T fr)):
  (markStringish ⟨b,o,none⟩).run P w=.ok () (w.freeze ⟨b,cells.size,none⟩ 1):=by
 simp[markStringish,World.shape?,h]
end
def ZaP(s:ByteArray):List Value:=s.data.toList.map λb=>.int .u8 b.toNat
def Zc2(E:Env)(s d:TypeId):Bool:=ZfN E s&&(match ZaF E d with
 | none=>false
 | some (_,j)=>match j.d with
  | .int .u8=>true
  | _=>false)
def Zxa(S:St)(m:Mem)(x:Operand)(d:Option Tmp)(K:St->Mem->Prop):Prop:=
 wv S x λv=>chk (ZnQ v) (∀(b c:Nat),m.free b->(Zco v).size<=c->K (S.put d (some (.v (.slice (some ⟨b,0,none⟩) (Zco v).size c)))) (m.add b (ZaP (Zco v))))
section
variable {C:Ctx} {S:St} {m:Mem} {a:Act} {w:World}
theorem Zor{E:Env}(hE:E.ok){s d:TypeId}(fB:Zc2 E s d=true){x:Operand}{t:Option Tmp}{K:St->Mem->Prop}(hd:∀t',t=some t'->t' < C.n)(hr:Rel C S m a w)(h:Zxa S m x t K):
  ∃S' m' v w',K S' m'/\Rel C S' m' (a.put t v) w'/\(convert s d (a.eval x)).run E.P w=.ok v w':=by
 unfold Zxa at h
 obtain⟨v,hv,h⟩:=ZaK h
 obtain⟨h1,hk⟩:=Zag h
 have he:=hr.ev hv
 have dY:=Zc0 h1
 generalize Zco v=bs at *
 subst dY
 unfold Zc2 at fB
 rw[Bool.and_eq_true]at fB
 obtain⟨i,hi,cO⟩:=Zg5 fB.1
 have fB:=fB.2
 cases hs:ZaF E d with
 | none=>simp[hs]at fB
 | some ej=>
  obtain⟨e,j⟩:=ej
  simp only[hs]at fB
  obtain⟨k,ip,eB,ma⟩:=ZaS hs
  have gP:j.d=.int .u8:=by
   cases gP:j.d with
   | int kk=>cases kk <;> simp[gP]at fB <;> rfl
   | _=>simp[gP]at fB
  have mU:=(hE s i hi).run_und (w:=w)
  rw[cO]at mU
  have oM:=(hE d k ip).run_und (w:=w)
  rw[eB]at oM
  have lj:=(hE e j ma).run_und (w:=w)
  rw[gP]at lj
  generalize eY:grownCap w bs.size 0 e=cap
  have cK:bs.size<=cap:=by rw[<-eY];exact grownCap_ge w bs.size 0 e
  have bT:m.free w.heap.size:=λo=>by
   cases he:m w.heap.size o with
   | none=>rfl
   | some v=>have:=hr.sub.lt he;omega
  obtain⟨cells,iq⟩:∃cells,cells=(ZaP bs++List.replicate (cap - bs.size) (Value.int .u8 0)).toArray:=⟨_,rfl⟩
  obtain⟨w1,jR⟩:∃w1,w1=w.drew.alloc (.cells cells e (0,0)):=⟨_,rfl⟩
  have kr:w1.heap[w.heap.size]?=some (.cells cells e (0,0)):=by rw[jR];exact heap_alloc_new w.drew _
  obtain⟨w2,gS⟩:∃w2,w2=w1.freeze ⟨w.heap.size,cells.size,none⟩ 1:=⟨_,rfl⟩
  have cB:∀k,k≠w.heap.size->w2.heap[k]?=w1.heap[k]?:=λk hk=>by
   rw[gS]
   simp only[World.freeze,Nat.one_ne_zero,if_false,Array.getElem?_modify]
   rw[if_neg (by simpa using Ne.symm hk)]
  have cY:∃fr',w2.heap[w.heap.size]?=some (.cells cells e fr'):=by
   rw[gS]
   simp only[World.freeze,Nat.one_ne_zero,if_false,Array.getElem?_modify,if_true,kr,Option.map_some]
   exact⟨_,rfl⟩
  obtain⟨fr',cY⟩:=cY
  have pJ:Wr w2 w.heap.size:=by
   intro c1 T1 fr1 hh i hi
   rw[gS]at hh
   simp[World.freeze,Array.getElem?_modify,kr]at hh
   obtain⟨rfl,rfl,rfl⟩:=hh
   simp only;omega
  have lk:Keep w.heap.size [] w w1:=(Keep.drew w).trans (by rw[jR];exact Keep.alloc (B:=w.heap.size) (w:=w.drew) (show w.heap.size<=w.drew.heap.size from Nat.le_refl _) (ZkV _ _))
  have ll:Keep w.heap.size [] w1 w2:=by
   refine⟨by rw[gS];simp[World.freeze],by rw[gS];simp[World.freeze],by rw[gS];simp[World.freeze],by rw[gS];simp[World.freeze],λk hk _=>cB k (by omega),λk hk=>?_⟩
   by_cases ij:k=w.heap.size
   ·subst ij;exact pJ
   ·exact hk.of_eq (cB k ij)
  have dX:=lk.trans ll
  have eX:Sub (m.add w.heap.size (ZaP bs)) w2:=by
   intro b' o v hv
   by_cases gn:b'=w.heap.size
   ·subst gn
    rw[Mem.add_same]at hv
    have bB:=(List.getElem?_eq_some_iff.1 hv).1
    simp only[World.cell?,cY,Option.isSome_none,Bool.false_eq_true,if_false,iq,List.getElem?_toArray]
    rw[List.getElem?_append_left bB,hv]
   ·rw[Mem.add_other _ gn]at hv
    have bB:=hr.sub.lt hv
    rw[ZbA (w:=w) (dX.block b' bB (by simp))];exact hr.sub _ _ _ hv
  have bC:Rel C S (m.add w.heap.size (ZaP bs)) a w2:=hr.world dX eX (Mem.le_add bT _) (λb' o v hv=>by
   by_cases gn:b'=w.heap.size
   ·exact .inr (by omega)
   ·rw[Mem.add_other _ gn]at hv;exact .inl hv)
  refine⟨_,_,.slice (some ⟨w.heap.size,0,none⟩) bs.size cap,w2,hk w.heap.size cap bT cK,bC.put t hd rfl,?_⟩
  have pK:=ZdJ (P:=E.P) (w:=w1) w.heap.size 0 kr
  have dD:(Array.map (λb:UInt8=>Value.int .u8 (b.toNat:Int)) bs.data++Array.replicate (cap - bs.size) (Value.int .u8 0))=cells:=by
   rw[iq]
   apply Array.ext'
   simp[ZaP]
  have tx:(newRow e cells).run E.P w.drew=.ok ⟨w.heap.size,0,none⟩ w1:=by
   rw[jR];simp[newRow]
  rw[he]
  simp only[convert,Sem.run_bind,mU,Result.andThen_ok,oM,lj,Conv.stringToBytes]
  simp[Question.forced]
  rw[show(Question.appendCap bs.size 0 e).cut (w.tape w.drawn (Question.appendCap bs.size 0 e))=cap from eY,dD,tx]
  simp only[Result.andThen_ok,pK,<-gS]
end
def Zc3(E:Env)(s d:TypeId):Bool:=ZfN E d&&(match ZaF E s with
 | none=>false
 | some (_,j)=>match j.d with
  | .int .u8=>true
  | _=>false)
def Zfe(S:St)(m:Mem)(x:Operand)(K:Value->Prop):Prop:=match S.ev x with
 | some (.sl id n c)=>match S.L id with
  | none=>False
  | some bx=>∃bs:ByteArray,Nat.beq bs.size n=true/\ZaP bs=bx.cs.take n/\K (.string bs)
 | _=>wv S x λv=>chk (Zcf v) (∃bs:ByteArray,bs.size=slN v/\rowRd m (slA v) (ZaP bs)/\K (.string bs))
theorem Zd1(s:ByteArray):(ZaP s).length=s.size:=by
 unfold ZaP ByteArray.size
 rw[List.length_map,Array.length_toList]
theorem Zse(ns:List UInt8):∀s:ByteArray,(ns.map λb:UInt8=>(b.toNat:Int)).foldl (λ(r:ByteArray)(n:Int)=>r.push (UInt8.ofNat n.toNat)) s=⟨s.data++ns.toArray⟩:=by
 induction ns with
 | nil=>intro s;simp
 | cons b l ih=>
  intro s
  rw[List.map_cons,List.foldl_cons,ih]
  congr 1
  apply Array.ext'
  simp[ByteArray.push]
theorem Zni{P:Program}{w:World}{s d e:TypeId}{a:Option Addr}{c:Nat}{bs:ByteArray}(hs:P.underlying s=some (.slice e))(he:P.underlying e=some (.int .u8))(hd:P.underlying d=some .string)
  (cJ:∀j v,(ZaP bs)[j]?=some v->∃b o,a=some ⟨b,o,none⟩/\w.cell? ⟨b,o+j,none⟩=some v):(convert s d (.slice a bs.size c)).run P w=.ok (.string bs) w:=by
 rw[run_convert_bytes_string w s d e a bs.size c hs he hd]
 cases a with
 | none=>
  have h0:ZaP bs=[]:=by
   cases h:ZaP bs with
   | nil=>rfl
   | cons v l=>obtain⟨_,_,h1,_⟩:=cJ 0 v (by rw[h];rfl);cases h1
  have hb:bs.size=0:=by rw[<-Zd1,h0];rfl
  have:bs=ByteArray.empty:=by
   cases bs with
   | mk data=>
    have:data=#[]:=Array.eq_empty_of_size_eq_zero hb
    subst this;rfl
  subst this
  simp[Conv.bytesToString]
 | some a=>
  have hl:(loadCells a bs.size).run P w=.ok (((bs.data.toList.map λb:UInt8=>(b.toNat:Int))).map (Value.int .u8)).toArray w:=by
   have lm:(bs.data.toList.map λb:UInt8=>(b.toNat:Int)).map (Value.int .u8)=ZaP bs:=by simp[ZaP]
   rw[lm]
   by_cases h0:bs.size=0
   ·have:ZaP bs=[]:=List.eq_nil_of_length_eq_zero (by rw[Zd1,h0])
    rw[this,h0];rfl
   ·obtain⟨v,hv⟩:∃v,(ZaP bs)[0]?=some v:=⟨_,List.getElem?_eq_getElem (by rw[Zd1];omega)⟩
    obtain⟨b,o,ha,_⟩:=cJ 0 v hv
    cases ha
    rw[<-Zd1]
    exact Zer b o _ (λj u hu=>by obtain⟨_,_,h1,h2⟩:=cJ j u hu;cases h1;exact h2)
  have gv:(⟨ByteArray.empty.data++bs.data.toList.toArray⟩:ByteArray)=bs:=by
   cases bs with
   | mk data=>
    congr 1
    apply Array.ext'
    show((#[]:Array UInt8)++data.toList.toArray).toList=data.toList
    simp
  rw[run_bytesToString w a bs.size c _ hl,Zse,gv]
section
variable {C:Ctx} {S:St} {m:Mem} {a:Act} {w:World}
theorem Zia{E:Env}(hE:E.ok){s d:TypeId}(fB:Zc3 E s d=true){x:Operand}{K:Value->Prop}(hr:Rel C S m a w)(h:Zfe S m x K):
  ∃v,K v/\(convert s d (a.eval x)).run E.P w=.ok v w:=by
 unfold Zc3 at fB
 rw[Bool.and_eq_true]at fB
 obtain⟨i,hi,cO⟩:=Zg5 fB.1
 have fB:=fB.2
 cases hs:ZaF E s with
 | none=>simp[hs]at fB
 | some ej=>
  obtain⟨e,j⟩:=ej
  simp only[hs]at fB
  obtain⟨k,ip,eB,ma⟩:=ZaS hs
  have gP:j.d=.int .u8:=by
   cases gP:j.d with
   | int kk=>cases kk <;> simp[gP]at fB <;> rfl
   | _=>simp[gP]at fB
  have oM:E.P.underlying d=some .string:=by rw[(hE d i hi).und,cO]
  have mU:E.P.underlying s=some (.slice e):=by rw[(hE s k ip).und,eB]
  have lj:E.P.underlying e=some (.int .u8):=by rw[(hE e j ma).und,gP]
  have gen:∀{v:Value},S.val x=some v->(∃bs,Zcf v=true/\bs.size=slN v/\(∀j u,(ZaP bs)[j]?=some u->∃b o,slA v=some ⟨b,o,none⟩/\w.cell? ⟨b,o+j,none⟩=some u)/\K (.string bs))->∃v,K v/\(convert s d (a.eval x)).run E.P w=.ok v w:=by
   rintro v hv ⟨bs,h1,h2,h3,h4⟩
   obtain⟨ba,n,c,rfl⟩:∃ba n c,v=.slice ba n c:=⟨_,_,_,Zb8 h1⟩
   simp only[slN,slA]at h2 h3
   subst h2
   exact⟨_,h4,by rw[hr.ev hv];exact Zni mU lj oM h3⟩
  unfold Zfe at h
  split at h
  ·rename_i id n c he
   cases hL:S.L id with
   | none=>simp[hL]at h
   | some bx=>
    simp only[hL]at h
    obtain⟨bs,h1,h2,h3⟩:=h
    have h1:=Nat.eq_of_beq_eq_true h1
    refine gen (v:=.slice (some ⟨bx.b,0,none⟩) n c) (by simp[St.val,he,St.den,hL]) ⟨bs,rfl,h1,λj u hu=>⟨bx.b,0,rfl,?_⟩,h3⟩
    rw[Nat.zero_add]
    refine(hr.own id bx hL).cell ?_
    rw[h2]at hu
    rw[List.getElem?_take]at hu
    split at hu
    ·exact hu
    ·cases hu
  ·obtain⟨v,hv,h⟩:=ZaK h
   obtain⟨h1,bs,h2,h3,h4⟩:=Zag h
   refine gen hv ⟨bs,h1,h2,λj u hu=>?_,h4⟩
   rcases h3 with h3|⟨b,o,h5,h6⟩
   ·rw[h3]at hu;simp at hu
   ·exact⟨b,o,h5,hr.sub _ _ _ (h6 j u hu)⟩
end
def Mem.upd(m:Mem)(b o:Nat)(vs:List Value):Mem:=λb' o'=>if b'=b/\o<=o'/\o' < o+vs.length then vs[o' - o]? else m b' o'
theorem Mem.upd_other(m:Mem){b b':Nat}(h:b'≠b)(o:Nat)(vs:List Value)(o':Nat):m.upd b o vs b' o'=m b' o':=by
 simp only[Mem.upd];rw[if_neg (λhc=>h hc.1)]
theorem Mem.le_upd{m0 m:Mem}(h:m0.le m){b:Nat}(hb:m0.free b)(o:Nat)(vs:List Value):m0.le (m.upd b o vs):=λb' o' v hv=>by
 by_cases e:b'=b
 ·subst e;rw[hb o']at hv;cases hv
 ·rw[Mem.upd_other m e];exact h _ _ _ hv
def Zos(E:Env)(x:Operand):Option Nat:=bif E.thaw then(match x with
 | .tmp t=>E.stAt t
 | _=>none)else none
def Zib(E:Env)(S:St)(m:Mem)(T:TypeId)(key:Nat)(x:Operand)(v:Value)(K:Mem->Prop):Prop:=wv S x λp=>match E.tt T with
 | none=>False
 | some i=>match S.tok key with
  | none=>match E.m0 with
   | none=>False
   | some m0=>chk (ZkW p&&(Nat.beq v.cells.size i.size&&Zcp v.cells.toList)) ((∃vs:List Value,vs.length=i.size/\m.reads (Zr2 p) (Zr3 p) vs)/\Mem.free m0 (Zr2 p)/\Nat.blt 0 i.size=true/\nfz S (Zr2 p) S.ids (K (m.upd (Zr2 p) (Zr3 p) v.cells.toList)))
  | some t=>chk (ZkW p&&(Nat.beq v.cells.size i.size&&Zcp v.cells.toList)) (t.v=.slice (some ⟨Zr2 p,0,none⟩) (slN t.v) (slC t.v)/\Zr3 p+i.size<=slN t.v*t.esz/\K (m.upd (Zr2 p) (Zr3 p) v.cells.toList))
section
variable {C:Ctx} {S:St} {m:Mem} {a:Act} {w:World}
theorem Rel.storeOwn(hr:Rel C S m a w){b o:Nat}{vs:List Value}{cur:Array Value}{TT:TypeId}{fr:Nat×Nat}{w':World}(cM:w.heap[b]?=some (.cells cur TT fr))(gL:Wr w b)(bW:o+vs.length<=cur.size)
  (hw':w'=w.setRow b (Zam cur.toList o vs).toArray) (hM:∀M,Dom C S m a w M->M b) (h0:C.m0.free b) (pL:∀id x,S.L id=some x->x.b≠b)
  (cA:∀k t o0 n c,S.tok k=some t->t.v=.slice (some ⟨b,o0,none⟩) n c->∀q,o<=q->q < o+vs.length->o0+n*t.esz<=q->q < o0+c*t.esz->False):Rel C S (m.upd b o vs) a w':=by
 have cB:∀k,k≠b->w'.heap[k]?=w.heap[k]?:=λk hk=>by rw[hw'];exact setRow_other w b k _ hk
 have cY:w'.heap[b]?=some (.cells (Zam cur.toList o vs).toArray TT fr):=by rw[hw'];exact setRow_heap w b cur _ TT fr cM
 have fL:(Zam cur.toList o vs).length=cur.size:=by
  rw[ZbB (by rw[Array.length_toList];omega),Array.length_toList]
 have eC:∀o,o < cur.size->¬(fr.1<=o/\o < fr.2):=gL cur TT fr cM
 have eX:Sub (m.upd b o vs) w':=by
  intro b1 o1 u hu
  by_cases hb:b1=b
  ·subst hb
   simp only[Mem.upd,true_and]at hu
   simp only[World.cell?,cY,Option.isSome_none,Bool.false_eq_true,if_false,List.getElem?_toArray]
   have ln:o+vs.length<=cur.toList.length:=by simp;omega
   have et:(List.take o cur.toList).length=o:=by simp;simp at ln;omega
   by_cases fI:o<=o1/\o1 < o+vs.length
   ·rw[if_pos fI]at hu
    simp only[Zam]
    rw[List.append_assoc,List.getElem?_append_right (by omega),et,List.getElem?_append_left (by omega)]
    exact hu
   ·rw[if_neg fI]at hu
    have kw:=hr.sub _ _ _ hu
    simp only[World.cell?,cM,Option.isSome_none,Bool.false_eq_true,if_false]at kw
    rw[<-Array.getElem?_toList]at kw
    simp only[Zam]
    by_cases md:o1 < o
    ·rw[List.append_assoc,List.getElem?_append_left (by omega),List.getElem?_take,if_pos md];exact kw
    ·rw[List.getElem?_append_right (by simp at fI et ⊢;omega),List.getElem?_drop]
     have:o+vs.length+(o1 - (List.take o cur.toList++vs).length)=o1:=by
      rw[List.length_append,et];omega
     rw[this];exact kw
  ·rw[Mem.upd_other m hb]at hu
   rw[ZbA (cB b1 hb)];exact hr.sub _ _ _ hu
 refine⟨?_,hr.size,hr.env,λid y hy=>?_,hr.apart,hr.ids,λk t' ht'=>?_,hr.tkeys,hr.tapart,eX,Mem.le_upd hr.le h0 _ _,?_⟩
 ·obtain⟨ms,d1,d2,d3⟩:=hr.defers
  refine⟨ms,d1,d2,λD hD=>?_⟩
  rw[cB D (λe=>by have:=d3 D hD;rw[e,cM]at this;cases this)];exact d3 D hD
 ·have ho:=hr.own id y hy
  have cW:=pL id y hy
  exact⟨by rw[cB _ cW];exact ho.cells,λhz o1=>by rw[Mem.upd_other m cW];exact ho.free hz o1,λhz j u hu=>by rw[Mem.upd_other m cW];exact ho.known hz j u hu,ho.whole⟩
 ·obtain⟨q1,q2⟩:=hr.toks k t' ht'
  refine⟨?_,q2⟩
  by_cases eH:t'.blk=some b
  ·rcases q1 with q1|⟨b',o0,n,c,cur',TT',fr',hv,gQ,hh,gW,tz,bT⟩
   ·exact .inl q1
   obtain rfl:b'=b:=by simpa[Tok.blk,hv]using eH
   rw[cM]at hh
   simp only[Option.some.injEq,Obj.cells.injEq]at hh
   obtain⟨rfl,rfl,rfl⟩:=hh
   have cL:=cA k t' o0 n c ht' hv
   refine .inr ⟨b',o0,n,c,_,TT,fr,hv,gQ,cY,by simp only[List.size_toArray,fL];exact gW,λo1 i7=>eC o1 (by simpa only[List.size_toArray,fL]using i7),λo1 i7 fA=>?_⟩
   simp only[Mem.upd]
   rw[if_neg (λhc=>cL o1 hc.2.1 hc.2.2 i7 fA)];exact bT o1 i7 fA
  ·have cW:∀b1,t'.blk=some b1->b1≠b:=λb1 eS e=>by subst e;exact eH eS
   exact q1.same (λb1 eS=>cB _ (cW b1 eS)) (λb1 o1 eS hn=>by rw[Mem.upd_other m (cW b1 eS)];exact hn)
 ·obtain⟨M,hd⟩:=hr.dom
  have hu:Upd M w w':=⟨by rw[hw'];rfl,by rw[hw'];rfl,by rw[hw'];rfl,by rw[hw'];simp,λk hk hn=>cB k (λe=>hn (e ▸ hM M hd)),λk hk=>by
   by_cases ij:k=b
   ·subst ij
    intro c1 T1 fr1 hh i hi
    rw[cY]at hh
    simp only[Option.some.injEq,Obj.cells.injEq]at hh
    obtain⟨rfl,rfl,rfl⟩:=hh
    exact eC i (by simpa only[List.size_toArray,fL]using hi)
   ·exact hk.of_eq (cB k ij)⟩
  exact⟨_,hd.step hu (λb1 o1 u eM=>by
   by_cases hb:b1=b
   ·exact .inr (.inl (hb ▸ hM M hd))
   ·rw[Mem.upd_other m hb]at eM;exact .inl eM)⟩
theorem Zic{E:Env}{T:TypeId}{i:TI}(cC:TOk E.P T i){w:World}{b o:Nat}{v:Value}{cur:Array Value}{TT:TypeId}{fr:Nat×Nat}(cM:w.heap[b]?=some (.cells cur TT fr))(gL:Wr w b)(bW:o+v.cells.toList.length<=cur.size)
  (h1:v.cells.size=i.size) (dW:v.cells.all Value.oneCell'=true):(Instr.storeAt T (ptr b o) v).run E.P w=.ok () (w.setRow b (Zam cur.toList o v.cells.toList).toArray):=by
 have mV:=ZbX (P:=E.P) b o TT fr v.cells.toList 0 cur w cM (λo ho=>gL cur TT fr cM o ho) (by omega) (λu hu=>by
  rw[Array.all_eq_true_iff_forall_mem]at dW;exact dW u (by simpa using hu))
 have bM:(storeVar T ⟨b,o,none⟩ v).run E.P w=.ok () (w.setRow b (Zam cur.toList o v.cells.toList).toArray):=by
  have hz:=cC.run_size (w:=w)
  simp only[storeVar,Sem.run_bind,hz,Result.andThen_ok,h1,ne_eq,not_true_eq_false,if_false]
  rw[mV]
  simp[Zam]
 simp[Instr.storeAt,Instr.sureAddr,ptr,bM]
theorem Zid{E:Env}(hE:E.ok)(hY:YOk E C){T:TypeId}{key:Nat}{x:Operand}{v:Value}{K:Mem->Prop}(hr:Rel C S m a w)(h:Zib E S m T key x v K):
  ∃m' w',K m'/\Rel C S m' a w'/\(Instr.storeAt T (a.eval x) v).run E.P w=.ok () w':=by
 unfold Zib at h
 obtain⟨p,hp,h⟩:=ZaK h
 have he:=hr.ev hp
 cases ht:E.tt T with
 | none=>simp[ht]at h
 | some i=>
  simp only[ht]at h
  have cC:=hE T i ht
  cases hk:S.tok key with
  | none=>
   simp only[hk]at h
   cases eI:E.m0 with
   | none=>simp[eI]at h
   | some mm=>
    simp only[eI]at h
    obtain⟨jS,hW⟩:=hY.m0 mm eI
    obtain⟨h1,⟨us,mU,cJ⟩,h3,h5,h4⟩:=Zag h
    simp only[Bool.and_eq_true]at h1
    have mW:=Zcy h1.1
    generalize Zr2 p=b at *
    generalize Zr3 p=o at *
    have bW:=Nat.eq_of_beq_eq_true h1.2.1
    have dW:=ZgG h1.2.2
    have bS:v.cells.toList.length=i.size:=by simpa using bW
    have fC:0 < i.size:=by simpa[Nat.blt_eq]using h5
    obtain⟨oN,tA⟩:=Zhc h4
    obtain⟨u,hu⟩:∃u,us[i.size - 1]?=some u:=⟨_,List.getElem?_eq_getElem (by omega)⟩
    have cS:=hr.sub _ _ _ (cJ _ _ hu)
    obtain⟨cur,TT,fr,cM⟩:∃c T fr,w.heap[b]?=some (.cells c T fr):=by
     unfold World.cell? at cS
     split at cS
     ·rename_i c T fr hc;exact⟨c,T,fr,hc⟩
     ·cases cS
    have dE:o+(i.size - 1) < cur.size:=by
     simp only[World.cell?,cM,Option.isSome_none,Bool.false_eq_true,if_false]at cS
     exact(Array.getElem?_eq_some_iff.1 cS).1
    have iK:∀M,Dom C S m a w M->M b:=λM hd=>by
     rcases hd.new _ _ _ (cJ _ _ hu)with h6|h6
     ·rw[jS,h3]at h6;cases h6
     ·exact h6
    have gL:Wr w b:=by
     obtain⟨M,hd⟩:=hr.dom
     exact hW _ _ _ hd.p b (iK M hd)
    refine⟨_,_,oN,hr.storeOwn cM gL (by omega) rfl iK (jS ▸ h3) (λid y hy e=>?_) (λk t o0 n c iT hv q iL me se sf=>?_),?_⟩
    ·have ho:=hr.own id y hy
     cases hz:y.fz with
     | true=>exact tA id y (hr.ids id y hy) hy hz e
     | false=>
      have:=ho.free hz (o+(i.size - 1))
      rw[e,cJ _ _ hu]at this;cases this
    ·rcases(hr.toks k t iT).1 with q0|⟨b',o',n',c',_,_,_,hv',_,_,_,_,bT⟩
     ·rw[hv]at q0;cases q0
     ·rw[hv]at hv'
      simp only[Value.slice.injEq,Option.some.injEq,Addr.mk.injEq,and_true]at hv'
      obtain⟨⟨rfl,rfl⟩,rfl,rfl⟩:=hv'
      have h7:=bT _ se sf
      obtain⟨u7,tB⟩:∃u7,us[q - o]?=some u7:=⟨us[q - o]'(by omega),List.getElem?_eq_getElem _⟩
      have h8:=cJ _ _ tB
      rw[show o+(q - o)=q by omega,h7]at h8;cases h8
    ·rw[he,mW];exact Zic cC cM gL (by omega) bW dW
  | some t=>
   simp only[hk]at h
   obtain⟨h1,h2,h3,h4⟩:=Zag h
   simp only[Bool.and_eq_true]at h1
   have mW:=Zcy h1.1
   generalize Zr2 p=b at *
   generalize Zr3 p=o at *
   have bW:=Nat.eq_of_beq_eq_true h1.2.1
   have dW:=ZgG h1.2.2
   have bS:v.cells.toList.length=i.size:=by simpa using bW
   obtain⟨g1,g2⟩:=hr.toks key t hk
   have fM:t.blk=some b:=by unfold Tok.blk;rw[h2]
   obtain⟨g2,g3⟩:=g2 b fM
   rcases g1 with g1|⟨b',o0,n,c,cur,TT,fr,hv,gQ,cM,gW,eC,bT⟩
   ·rw[g1]at h2;cases h2
   rw[hv]at h2
   simp only[Value.slice.injEq,Option.some.injEq,Addr.mk.injEq,and_true]at h2
   obtain⟨⟨rfl,rfl⟩,_,_⟩:=h2
   rw[hv]at h3
   simp only[slN]at h3
   have cL:n*t.esz<=c*t.esz:=Nat.mul_le_mul_right _ gQ
   have gL:Wr w b':=λc1 T1 fr1 hh o ho=>by
    rw[cM]at hh
    simp only[Option.some.injEq,Obj.cells.injEq]at hh
    obtain⟨rfl,rfl,rfl⟩:=hh
    exact eC o ho
   refine⟨_,_,h4,hr.storeOwn cM gL (by omega) rfl (λM hd=>hd.tok key t b' hk fM) g3 g2 (λk t' o' n' c' iT hv' q iL me se sf=>?_),?_⟩
   ·have:k=key:=hr.tapart k key t' t b' iT hk (by simp[Tok.blk,hv']) fM
    subst this
    rw[hk]at iT;cases iT
    rw[hv]at hv'
    simp only[Value.slice.injEq,Option.some.injEq,Addr.mk.injEq,and_true,true_and]at hv'
    obtain⟨rfl,rfl,rfl⟩:=hv'
    omega
   ·rw[he,mW];exact Zic cC cM gL (by omega) bW dW
end
def ZpV(E:Env)(S:St)(m:Mem)(T:TypeId)(id:Nat)(vd vs:Value)(K:Int->St->Prop):Prop:=match ZaF E T with
 | none=>False
 | some (e,j)=>match S.L id with
  | none=>False
  | some bx=>chk (Zcf vd&&(Zcf vs&&!bx.fz)) (m.free bx.b->∃(o:Nat)(xs:List Value),slA vd=some ⟨bx.b,o,none⟩/\xs.length=min (slN vs) (slN vd)*j.size/\o+xs.length<=bx.cs.length/\(∀u∈xs,u.oneCell'=true)/\
    (rowRd m (slA vs) xs\/∃o',slA vs=some ⟨bx.b,o',none⟩/\∀i u,xs[i]?=some u->bx.cs[o'+i]?=some u)/\K ((min (slN vs) (slN vd):Nat):Int) (S.setL id (some { bx with cs:=Zam bx.cs o xs })))
theorem Znj{P:Program}{w:World}{m:Mem}{x:Box}(hx:Own m w x)(o:Nat)(xs:List Value)(h1:∀u∈xs,u.oneCell'=true)(hb:o+xs.length<=x.cs.length):
  ∃w',(storeCells ⟨x.b,o,none⟩ xs 0).run P w=.ok () w'/\w'.os=w.os/\w'.tape=w.tape/\w'.output=w.output/\w'.heap.size=w.heap.size/\(∀k,k≠x.b->w'.heap[k]?=w.heap[k]?)/\
   (x.fz=false->Own m w' { x with cs:=Zam x.cs o xs }):=by
 obtain⟨sp,fr,hh,hc,hf⟩:=hx.cells
 have h3:=ZbX (P:=P) x.b o x.T fr xs 0 _ w hh (λo ho=>by have ho':o < x.cap:=(by simpa[hc]using ho);omega) (by simp at hc ⊢;omega) h1
 have h4:(storeCells ⟨x.b,o,none⟩ xs 0).run P w=.ok () (w.setRow x.b (Zam (x.cs++sp) o xs).toArray):=by
  rw[h3]
  simp[Zam]
 refine⟨_,h4,rfl,rfl,rfl,by simp,λk hk=>setRow_other w x.b k _ hk,λhz=>?_⟩
 refine⟨⟨sp,fr,?_,?_,hf⟩,λ_=>hx.free hz,λhz'=>by simp[hz]at hz',λgU=>?_⟩
 ·rw[setRow_heap w x.b _ _ x.T fr hh,Zg4 (by omega)]
 ·have:=ZbB (cs:=x.cs) (o:=o) (vs:=xs) (by omega)
  simp only[List.length_append]at hc ⊢
  omega
 ·have:=hx.whole gU
  show(Zam x.cs o xs).length=x.cap
  rw[ZbB (by omega)];exact this
section
variable {C:Ctx} {S:St} {m:Mem} {a:Act} {w:World}
theorem Zot{E:Env}(hE:E.ok){T xT ty:TypeId}{id:Nat}{vd vs:Value}{K:Int->St->Prop}(hr:Rel C S m a w)(h:ZpV E S m T id vd vs K):
  ∃n S' w',K n S'/\Rel C S' m a w'/\(Builtin.copy_ #[T,xT] ty #[vd,vs]).run E.P w=.ok (.int .i64 n) w':=by
 unfold ZpV at h
 cases hs:ZaF E T with
 | none=>simp[hs]at h
 | some ej=>
  obtain⟨e,j⟩:=ej
  simp only[hs]at h
  cases hL:S.L id with
  | none=>simp[hL]at h
  | some bx=>
   simp only[hL]at h
   obtain⟨h1,hq⟩:=Zag h
   simp only[Bool.and_eq_true,Bool.not_eq_true']at h1
   obtain⟨o,xs,h2,h3,h4,h5,h6,hk⟩:=hq ((hr.own id bx hL).free h1.2.2)
   clear hq h
   have pM:=Zb8 h1.1
   have dY:=Zb8 h1.2.1
   generalize slA vd=ad at *
   generalize slN vd=nd at *
   generalize slC vd=cd at *
   generalize slA vs=as at *
   generalize slN vs=ns at *
   generalize slC vs=cs at *
   subst pM dY h2
   obtain⟨i,eO,gK,i9⟩:=ZaS hs
   have dB:=hE e j i9
   have hu:=(hE T i eO).run_und (w:=w)
   rw[gK]at hu
   have bW:=dB.run_size (w:=w)
   have k9:=hr.own id bx hL
   have kv:(Builtin.firstCells j.size (min ns nd) (.slice as ns cs)).run E.P w=.ok xs.toArray w:=by
    rcases h6 with h6|⟨o',h6,h7⟩
    ·exact Zbp hr.sub h6 _ _ _ _ h3
    ·subst h6
     refine run_firstCells_some w j.size _ _ ns cs xs h3 (λi u hu=>?_)
     rw[Zdb]
     obtain⟨sp,fr,hh,_⟩:=k9.cells
     have h8:=h7 i u hu
     have h9:=(List.getElem?_eq_some_iff.1 h8).1
     simp only[World.cell?,hh,Option.isSome_none,Bool.false_eq_true,if_false,List.getElem?_toArray]
     rw[List.getElem?_append_left h9];exact h8
   obtain⟨w',bM,e1,e2,e3,e4,e5,e6⟩:=Znj (P:=E.P) k9 o xs h5 h4
   refine⟨_,_,w',hk,hr.store hL h1.2.2 rfl e1 e2 e3 e4 e5 (e6 h1.2.2),?_⟩
   have iM:Nat.min ns nd=min ns nd:=rfl
   simp[Builtin.copy_,hu,Builtin.lenOf,bW,iM,kv,bM,goInt]
end
def Zhf(E:Env)(s d:TypeId):Bool:=match E.tt s with
 | none=>false
 | some i=>match i.d with
  | .slice e=>Nat.beq s d&&(match E.tt e with
   | none=>false
   | some j=>match j.d with
    | .int .u8=>true
    | _=>false)
  | _=>false
def opW(E:Env)(S:St)(m:Mem)(o:Oper)(K:St->Mem->Prop):Prop:=match o.op with
 | .move x=>K (S.put o.dst (S.ev x)) m
 | .assign x=>K (S.put o.dst (S.ev x)) m
 | .pick c x y=>wv S c λv=>chk (ZhK v) (br (ZcZ v) (K (S.put o.dst (S.ev x)) m) (K (S.put o.dst (S.ev y)) m))
 | .load T x=>match ZqZ E o.dst with
  | none=>ZgH E S m T x λv=>K (S.put o.dst (some (.v v))) m
  | some y=>bif E.fix.isSome then False else ZgH E S m T x λv=>ldW y v λv=>K (S.put o.dst (some (.v v))) m
 | .store T x y=>wv S y λv=>match Zos E x with
  | none=>ZhL E S T x v λS'=>K (S'.put o.dst none) m
  | some key=>bif E.fix.isSome then False else Zib E S m T key x v λm'=>K (S.put o.dst none) m'
 | .alloc T=>Zsb E S T o.dst λS'=>K S' m
 | .box T x=>wv S x λv=>bif Zg9 E o.dst then(bif E.fix.isSome then False else Zw9 E S m T v o.dst K)else Zyw E S T v o.dst λS'=>K S' m
 | .buildSlice T len parts=>match Zdz E o.dst with
  | none=>Zfd E S m T len parts.toList o.dst K
  | some ke=>bif E.fix.isSome then False else match len,parts.toList with
   | 0,[]=>Znh E S (some m) T (.const (.int .i64 0)) (.const (.int .i64 0)) o.dst ke.1 λS'=>K S' m
   | _,_=>False
 | .makeSlice T l c=>match Zdz E o.dst with
  | none=>bif ZtH E o.dst then(bif E.fix.isSome then False else Zsd E S m T l c o.dst K)else Zvz E S T l c o.dst λS'=>K S' m
  | some ke=>bif E.fix.isSome then False else Znh E S none T l c o.dst ke.1 λS'=>K S' m
 | .convert s d x=>bif Zhf E s d then(match S.ev x with
   | some (.sl id n c)=>K (S.put o.dst (some (.sl id n c))) m
   | _=>False)
  else bif Zc2 E s d then(bif E.fix.isSome then False else Zxa S m x o.dst K)
  else bif Zc3 E s d then(bif E.fix.isSome then False else Zfe S m x λv=>K (S.put o.dst (some (.v v))) m)
  else Zc8 E S o λsv=>K (S.put o.dst (some sv)) m
 | .call c=>match c.callee with
  | .value f=>ZvL E o.dst S m (Zvy E o.type o.dst f c.args.toList K)
  | .builtin .append=>match c.args.toList,c.argTypes.toList,o.dst with
   | [s,x],[T,xT],some d=>ZvL E (some d) S m λS m=>wv S s λvs=>wv S x λvx=>Zf9 E S m T xT (E.tokOf d) vs vx λv tk m'=>K ({ S with tok:=tk,tkeys:=E.tokOf d::S.tkeys }.put (some d) (some (.v v))) m'
   | _,_,_=>False
  | .builtin .copy=>match c.args.toList,c.argTypes.toList with
   | [d,s],[T,xT]=>(match ZfO E d with
    | none=>False
    | some id=>wv S d λvd=>wv S s λvs=>ZpV E S m T id vd vs λn S'=>K (S'.put o.dst (some (.v (.int .i64 n)))) m)
   | _,_=>False
  | _=>Zc8 E S o λsv=>K (S.put o.dst (some sv)) m
 | _=>Zc8 E S o λsv=>K (S.put o.dst (some sv)) m
section
variable {C:Ctx} {S:St} {m:Mem} {a:Act} {w:World}
theorem Zie{E:Env}(hE:E.ok){o:Oper}(hd:∀t,o.dst=some t->t < C.n)(hr:Rel C S m a w){K:St->Mem->Prop}(h:Zc8 E S o λsv=>K (S.put o.dst (some sv)) m){F:Fence}{n:Nat}{next:Act->World->Prop}{Q:Exit->Act->World->Prop}
  (hK:∀S' m' a' w',K S' m'->Rel C S' m' a' w'->next a' w'):o.uponIn F n E.P a next Q ((execOp a.eval o).run E.P w):=by
 obtain⟨sv,v,hk,pN,bM⟩:=Zol hE hr h
 rw[bM]
 exact hK _ _ _ _ hk (hr.put o.dst hd pN)
theorem Zp7{C:Ctx}{S:St}{m:Mem}{a:Act}{w:World}{E:Env}{g:FuncId}{args:List Value}{d:Option Tmp}{K:St->SV->Prop}(hd:∀t,d=some t->t < C.n)(hr:Rel C S m a w)(h:ZxY E S g args d K):
  ∃S' sv v w',K S' sv/\Rel C (S'.put d (some sv)) m (a.put d v) w'/\(callFunc g args.toArray).run E.P w=.ok (.value v) w':=by
 unfold ZxY at h
 split at h
 ·rename_i d v
  cases hL:S.L d with
  | some x=>simp only[hL]at h
  | none=>
   simp only[hL]at h
   obtain⟨n,e,rfl,hn,kB,hk⟩:=h
   obtain⟨cs,bM,cL⟩:=kB n w hn
   have hb:=hr.drew.drew.newBox (d:=d) hL (x:={ b:=w.heap.size,cs:=cs.toList,T:=e,cap:=cs.toList.length,fz:=false,full:=true }) (m':=m) [] rfl (by simp) (λ_=>rfl) (.inl ⟨rfl,rfl⟩)
   simp only[List.append_nil,Array.toArray_toList]at hb
   exact⟨_,_,.slice (some ⟨w.heap.size,0,none⟩) n cs.size,_,hk w.heap.size cs.toList (by simpa using cL),hb.put (some d) hd (by simp[St.den,St.newL]),by simpa using bM⟩
 ·exact h.elim
theorem Znk{C:Ctx}{S:St}{m:Mem}{a:Act}{w:World}{E:Env}{rt:TypeId}{g:FuncId}{args:List Value}{key esz:Nat}{K:Value->St->Mem->Prop}(hr:Rel C S m a w)(h:Zr9 E S m rt g args key esz K):
  ZhM E.P g/\Calls E.P g args.toArray w λe w'=>∃v S' m',e=.returned v/\K v S' m'/\Rel C S' m' a w':=by
 obtain⟨R,eQ,eG,bR⟩:=h
 refine⟨eQ.1,(eQ.2 w hr.sub).mono ?_⟩
 rintro e w' ⟨v,m',rfl,cL,cF,cU,dX,cA,fM,hR⟩
 have hk:=Shape.all_fits _ _ bR v (eG _ _ _ hR) m' cL hR
 have lh:=hr.world dX cF cL cU
 refine⟨v,_,m',rfl,hk,lh.tokUpd key ⟨v,esz⟩ cA (λb hb=>?_) ?_⟩
 ·have cK:=fM b hb
  refine⟨⟨λid x hx e=>?_,λo=>?_⟩,λk' t' _ hk' hb'=>?_⟩
  ·have:=(hr.own id x hx).lt;omega
  ·cases he:C.m0 b o with
   | none=>rfl
   | some u=>have:=hr.sub.lt (hr.le _ _ _ he);omega
  ·have:=(hr.toks k' t' hk').1.lt hb';omega
 ·obtain⟨M,hd⟩:=hr.dom
  refine⟨_,hd.step (m':=m') (dX.upd (by simp)) (λb o u hu=>(cU b o u hu).imp_right λh=>.inr ⟨h,cF.lt hu⟩),λb hb=>?_⟩
  exact .inr ⟨fM b hb,cA.lt hb⟩
theorem Znl{C:Ctx}{S:St}{m:Mem}{a:Act}{w:World}{E:Env}{rt:TypeId}{g:FuncId}{args:List Value}{ids:List Nat}{ks:List (Nat×Nat)}{K:Value->St->Mem->Prop}(hY:YOk E C)(hr:Rel C S m a w)(h:ZjE E S m rt g args ids ks K):
  ZhM E.P g/\Calls E.P g args.toArray w λe w'=>∃v S' m',e=.returned v/\K v S' m'/\Rel C S' m' a w':=by
 unfold ZjE at h
 cases hb:Zbr S ids with
 | none=>simp[hb]at h
 | some bxs=>
 simp only[hb]at h
 cases eI:E.m0 with
 | none=>simp[eI]at h
 | some mm=>
 simp only[eI]at h
 obtain⟨h1,Y,R,eQ,c1,c2,eG,bR⟩:=Zag h
 simp only[Bool.and_eq_true,List.all_eq_true]at h1
 obtain⟨jS,hW⟩:=hY.m0 mm eI
 obtain⟨bS,cD⟩:=Zcr hb
 obtain⟨tlen,tmem⟩:=Zko (S:=S) (ks:=ks)
 generalize ZeE S ks=tks at *
 have tlen:tks.length=(ks.map (·.1)).length:=by rw[List.length_map];exact tlen
 have jQ:(ks.map (·.1)).length=ks.length:=List.length_map _
 generalize jT:ks.map (·.1)=kl at *
 have dT:=ZaN h1.2.1
 have sg:=ZaN h1.2.2
 have tk_of:∀t∈tks,∀b,t.blk=some b->∃k∈kl,S.tok k=some t:=λt ht b hb=>by
  obtain⟨i,hi⟩:=List.getElem?_of_mem ht
  obtain⟨k,q1,q2⟩:=tmem i t hi
  rcases q2 with q2|q2
  ·exact⟨k,List.mem_of_getElem? q1,q2⟩
  ·simp[Tok.blk,q2]at hb
 have iN:∀b,Y b->b < w.heap.size/\(∀D,w.heap[b]?≠some (.deferred D))/\C.m0.free b/\(∀M,Dom C S m a w M->M b)/\(∀id x,S.L id=some x->x.b≠b)/\(∀k t,S.tok k=some t->t.blk=some b->k∈kl):=λb oO=>by
  rcases c2 b oO with⟨t,ht,dK⟩|⟨q1,⟨o,v,q2⟩,q3⟩
  ·obtain⟨k,hk,iT⟩:=tk_of t ht b dK
   obtain⟨g1,g2⟩:=hr.toks k t iT
   refine⟨g1.lt dK,λD e=>?_,(g2 b dK).2,λM hd=>hd.tok k t b iT dK,(g2 b dK).1,λk' t' hk' hb'=>?_⟩
   ·rcases g1 with g1|⟨b',o0,n,c,cur,T,fr,hv,_,hh,_⟩
    ·simp[Tok.blk,g1]at dK
    ·simp[Tok.blk,hv]at dK;subst dK;rw[hh]at e;cases e
   ·rw[hr.tapart k' k t' t b hk' iT hb' dK];exact hk
  ·obtain⟨q4,q5⟩:=Zhc q3
   have hs:=hr.sub b o v q2
   refine⟨hr.sub.lt q2,λD e=>?_,by rw[jS];exact q1,λM hd=>?_,λid x hx e=>?_,λk t iT dK=>?_⟩
   ·unfold World.cell? at hs
    rw[e]at hs
    simp at hs
   ·rcases hd.new b o v q2 with h6|h6
    ·rw[jS,q1]at h6;cases h6
    ·exact h6
   ·have ho:=hr.own id x hx
    cases hz:x.fz with
    | true=>exact q5 id x (hr.ids id x hx) hx hz e
    | false=>
     have:=ho.free hz o
     rw[e,q2]at this;cases this
   ·exact Classical.byContradiction λhn=>Zji q4 k t (hr.tkeys k t iT) iT hn dK
 have eP:∀x∈bxs,Own m w x/\x.fz=false/\¬Y x.b:=λx hx=>by
  obtain⟨i,hi⟩:=List.getElem?_of_mem hx
  obtain⟨id,_,hL⟩:=cD i x hi
  exact⟨hr.own id x hL,by simpa using h1.1 x hx,λhy=>(iN _ hy).2.2.2.2.1 id x hL rfl⟩
 have lc:(bxs.map (·.b)).Nodup:=Zg8 hr.apart hb dT
 have kC:Zvx tks:=λi j t t' b hi hj eS dS=>by
  obtain⟨k,q1,q2⟩:=tmem i t hi
  obtain⟨k',q3,q4⟩:=tmem j t' hj
  have q2:S.tok k=some t:=q2.resolve_right λe=>by simp[Tok.blk,e]at eS
  have q4:S.tok k'=some t':=q4.resolve_right λe=>by simp[Tok.blk,e]at dS
  have:=hr.tapart k k' t t' b q2 q4 eS dS
  subst this
  have hi':=(List.getElem?_eq_some_iff.1 q1).1
  exact(List.getElem?_inj (l:=kl) (i:=i) (j:=j) hi' sg).1 (by rw[q1,q3])
 refine⟨eQ.1,(eQ.2 w hr.sub eP lc (λt ht=>?_) kC (λb oO=>⟨(iN b oO).1,?_⟩)).mono ?_⟩
 ·refine⟨?_,c1 t ht⟩
  obtain⟨i,hi⟩:=List.getElem?_of_mem ht
  obtain⟨k,_,q2⟩:=tmem i t hi
  rcases q2 with q2|q2
  ·exact(hr.toks k t q2).1
  ·exact .inl q2
 ·obtain⟨M,hd⟩:=hr.dom
  exact hW _ _ _ hd.p b ((iN b oO).2.2.2.1 M hd)
 rintro e w' ⟨v,m',css,tvs,rfl,cL,cF,cU,hu,fL,cV,gt,jU,pO,hR⟩
 have fD:∀u∈tvs,Zcf u=true:=λu hu=>by
  obtain⟨i,hi⟩:=List.getElem?_of_mem hu
  have bB:=(List.getElem?_eq_some_iff.1 hi).1
  exact(jU i (tks[i]'(by omega)) u (List.getElem?_eq_getElem (by omega)) hi).1
 have hk:=Zmg (Zh6 (Shape.all_fits _ _ bR v (eG _ _ _ _ hR) m' cL (λb o u hu=>(cU b o u hu).imp_right λh=>h.imp_right λh o=>by
  cases he:m b o with
  | none=>rfl
  | some u=>have:=hr.sub.lt he;omega)) css (by omega)) tvs (by omega) fD hR
 refine⟨v,_,m',rfl,hk,?_⟩
 have mX:∀b,b < w.heap.size->¬Y b->∀o,m b o=none->m' b o=none:=λb bB hn o ho=>by
  cases he:m' b o with
  | none=>rfl
  | some u=>
   rcases cU b o u he with h|h|h
   ·rw[ho]at h;cases h
   ·exact absurd h hn
   ·omega
 have dX:∀b,¬Y b->∀o u,m b o=some u->m' b o=some u:=λb hn o u h=>cL b o u (by rw[Mem.off_at hn];exact h)
 have mf:∀id y,(Zc9 S ids bxs css).L id=some y->∃x,S.L id=some x/\x.b=y.b:=λid y hy=>by
  rcases Zfb (S:=S) dT bS (by omega:css.length=ids.length) id with⟨_,h4⟩|⟨i,x,cs,h3,h4,h5,h6⟩
  ·exact⟨y,by rw[<-h4];exact hy,rfl⟩
  ·obtain⟨id',g1,g2⟩:=cD i x h4
   rw[h3]at g1;cases g1
   rw[h6]at hy;cases hy
   exact⟨x,g2,rfl⟩
 have si:∀id x,S.L id=some x->∃y,(Zc9 S ids bxs css).L id=some y/\y.b=x.b:=λid x hx=>by
  rcases Zfb (S:=S) dT bS (by omega:css.length=ids.length) id with⟨_,h4⟩|⟨i,x',cs,h3,h4,h5,h6⟩
  ·exact⟨x,by rw[h4];exact hx,rfl⟩
  ·obtain⟨id',g1,g2⟩:=cD i x' h4
   rw[h3]at g1;cases g1
   rw[hx]at g2;cases g2
   exact⟨_,h6,rfl⟩
 have oP:∀M,Dom C S m a w M->∀b,b∈bxs.map (·.b)->M b:=λM hd b hb=>by
  obtain⟨z,hz,rfl⟩:=List.mem_map.1 hb
  obtain⟨i,hi⟩:=List.getElem?_of_mem hz
  obtain⟨id',_,g2⟩:=cD i z hi
  exact hd.own id' z g2
 have oQ:∀b,b∈bxs.map (·.b)->∃id x,S.L id=some x/\x.b=b:=λb hb=>by
  obtain⟨z,hz,rfl⟩:=List.mem_map.1 hb
  obtain⟨i,hi⟩:=List.getElem?_of_mem hz
  obtain⟨id',_,g2⟩:=cD i z hi
  exact⟨id',z,g2,rfl⟩
 have jd:(Zc9 S ids bxs css).env=S.env/\(Zc9 S ids bxs css).ids=S.ids/\(Zc9 S ids bxs css).tkeys=S.tkeys/\(Zc9 S ids bxs css).gh=S.gh:=by rw[Zde];exact⟨rfl,rfl,rfl,rfl⟩
 have lp:∀k t,ZpU S.tok kl tks tvs k=some t->(k ∉ kl/\S.tok k=some t)\/∃(q:Nat)(t0:Tok)(tv:Value),kl[q]?=some k/\tks[q]?=some t0/\tvs[q]?=some tv/\t=⟨tv,t0.esz⟩:=λk t ht=>by
  rcases Zmh (tok:=S.tok) sg tlen (by omega:tvs.length=kl.length) k with⟨q1,q2⟩|⟨q,t0,tv,q1,q2,q3,q4⟩
  ·exact .inl ⟨q1,by rw[<-q2];exact ht⟩
  ·rw[ht]at q4;cases q4
   exact .inr ⟨q,t0,tv,q1,q2,q3,rfl⟩
 refine⟨?_,hr.size,λi sv he=>?_,λid y hy=>?_,λid id' y y' hy hy' e=>?_,λid y hy=>?_,λk t ht=>?_,λk t ht=>?_,λk k' t t' b ht ht' eS dS=>?_,cF,λb o u pP=>?_,?_⟩
 ·obtain⟨ms,q1,q2,q3⟩:=hr.defers
  refine⟨ms,q1,q2,λD hD=>?_⟩
  rw[hu.block D (Array.getElem?_eq_some_iff.1 (q3 D hD)).1 (λhm=>?_)]
  ·exact q3 D hD
  ·rcases hm with hm|hm
   ·obtain⟨id,x,g1,g2⟩:=oQ D hm
    obtain⟨sp,fr,g3,_⟩:=(hr.own id x g1).cells
    have:=q3 D hD
    rw[<-g2,g3]at this;cases this
   ·exact(iN D hm).2.1 _ (q3 D hD)
 ·simp only[jd.1]at he
  obtain⟨u,q1,q2⟩:=hr.env i sv he
  refine⟨u,?_,q2⟩
  cases sv with
  | v x=>exact q1
  | loc id off=>
   simp only[St.den]at q1 ⊢
   cases hx:S.L id with
   | none=>simp[hx]at q1
   | some x=>
    obtain⟨y,g1,g2⟩:=si id x hx
    simp only[hx]at q1
    simp only[g1,g2];exact q1
  | sl id n c=>
   simp only[St.den]at q1 ⊢
   cases hx:S.L id with
   | none=>simp[hx]at q1
   | some x=>
    obtain⟨y,g1,g2⟩:=si id x hx
    simp only[hx]at q1
    simp only[g1,g2];exact q1
 ·rcases Zfb (S:=S) dT bS (by omega:css.length=ids.length) id with⟨h3,h4⟩|⟨i,x,cs,h3,h4,h5,h6⟩
  ·have hy':S.L id=some y:=by rw[<-h4];exact hy
   have ho:=hr.own id y hy'
   have hn:¬Y y.b:=λhh=>(iN _ hh).2.2.2.2.1 id y hy' rfl
   have cM:w'.heap[y.b]?=w.heap[y.b]?:=hu.block _ ho.lt (λhm=>by
    rcases hm with hm|hm
    ·obtain⟨z,hz,pz⟩:=List.mem_map.1 hm
     obtain⟨i,hi⟩:=List.getElem?_of_mem hz
     obtain⟨id',g1,g2⟩:=cD i z hi
     have:=hr.apart _ _ _ _ g2 hy' pz
     subst this
     exact h3 (List.mem_of_getElem? g1)
    ·exact hn hm)
   exact⟨by rw[cM];exact ho.cells,λhz o=>mX _ ho.lt hn o (ho.free hz o),λhz j u hu=>dX _ hn _ _ (ho.known hz j u hu),ho.whole⟩
  ·simp only[h6,Option.some.injEq]at hy
   subst hy
   exact cV i x cs h4 h5
 ·obtain⟨x,g1,g2⟩:=mf id y hy
  obtain⟨x',g3,g4⟩:=mf id' y' hy'
  exact hr.apart _ _ _ _ g1 g3 (by rw[g2,g4,e])
 ·obtain⟨x,g1,g2⟩:=mf id y hy
  simp only[jd.2.1];exact hr.ids id x g1
 ·rcases lp k t ht with⟨q1,q2⟩|⟨q,t0,tv,q1,q2,q3,rfl⟩
  ·obtain⟨g1,g2⟩:=hr.toks k t q2
   have hn:∀b,t.blk=some b->¬Y b:=λb hb hh=>q1 ((iN b hh).2.2.2.2.2 k t q2 hb)
   refine⟨g1.same (λb hb=>hu.block b (g1.lt hb) (λhm=>?_)) (λb o hb=>mX b (g1.lt hb) (hn b hb) o),λb hb=>⟨λid y hy=>?_,(g2 b hb).2⟩⟩
   ·rcases hm with hm|hm
    ·obtain⟨id,x,g3,g4⟩:=oQ b hm
     exact(g2 b hb).1 id x g3 g4
    ·exact hn b hb hm
   ·obtain⟨x,g3,g4⟩:=mf id y hy
    rw[<-g4];exact(g2 b hb).1 id x g3
  ·obtain⟨g1,g2,g3⟩:=jU q t0 tv q2 q3
   refine⟨g2,λb hb=>⟨λid y hy=>?_,?_⟩⟩
   ·obtain⟨x,g4,g5⟩:=mf id y hy
    rw[<-g5]
    rcases(g3 b hb).1 with h|h
    ·exact(iN b h).2.2.2.2.1 id x g4
    ·have:=(hr.own id x g4).lt;omega
   ·rcases(g3 b hb).1 with h|h
    ·exact(iN b h).2.2.1
    ·intro o
     cases he:C.m0 b o with
     | none=>rfl
     | some u=>have:=hr.sub.lt (hr.le _ _ _ he);omega
 ·rcases lp k t ht with⟨q1,q2⟩|⟨q,t0,tv,q1,q2,q3,rfl⟩
  ·exact List.mem_append_right _ (hr.tkeys k t q2)
  ·exact List.mem_append_left _ (List.mem_of_getElem? q1)
 ·have cross:∀(k k':Nat)(t t':Tok),(k ∉ kl/\S.tok k=some t)->(∃(q:Nat)(t0:Tok)(tv:Value),kl[q]?=some k'/\tks[q]?=some t0/\tvs[q]?=some tv/\t'=⟨tv,t0.esz⟩)->t.blk=some b->t'.blk=some b->False:=by
   rintro k k' t t' ⟨q1,q2⟩ ⟨q,t0,tv,q3,q4,q5,rfl⟩ e1 e2
   rcases((jU q t0 tv q4 q5).2.2 b e2).1 with h|h
   ·exact q1 ((iN b h).2.2.2.2.2 k t q2 e1)
   ·have:=(hr.toks k t q2).1.lt e1;omega
  rcases lp k t ht with h3|h3 <;> rcases lp k' t' ht' with h4|h4
  ·exact hr.tapart k k' t t' b h3.2 h4.2 eS dS
  ·exact(cross k k' t t' h3 h4 eS dS).elim
  ·exact(cross k' k t' t h4 h3 dS eS).elim
  ·obtain⟨q,t0,tv,q1,q2,q3,rfl⟩:=h3
   obtain⟨q',t0',tv',q1',q2',q3',rfl⟩:=h4
   have hz:∀(q:Nat)(t0:Tok)(tv:Value),tks[q]?=some t0->tvs[q]?=some tv->((tks.zip tvs).map λq=>(⟨q.2,q.1.esz⟩:Tok))[q]?=some ⟨tv,t0.esz⟩:=λq t0 tv h5 h6=>by
    rw[List.getElem?_map,(List.getElem?_zip_eq_some (z:=(t0,tv))).2 ⟨h5,h6⟩];rfl
   have:=pO q q' _ _ b (hz q t0 tv q2 q3) (hz q' t0' tv' q2' q3') eS dS
   subst this
   rw[q1]at q1';cases q1';rfl
 ·refine dX b (λhh=>?_) o u (hr.le b o u pP)
  rw[(iN b hh).2.2.1 o]at pP;cases pP
 ·obtain⟨M,hd⟩:=hr.dom
  have hu':Upd M w w':=⟨hu.os,hu.tape,hu.output,hu.size,λk hk hn=>hu.block k hk (λhm=>hn (by
   rcases hm with hm|hm
   ·exact oP M hd k hm
   ·exact(iN k hm).2.2.2.1 M hd)),hu.wr⟩
  have eD:=hd.step (m':=m') hu' (λb o u h=>by
   rcases cU b o u h with h|h|h
   ·exact .inl h
   ·exact .inr (.inl ((iN b h).2.2.2.1 M hd))
   ·exact .inr (.inr ⟨h,cF.lt (by assumption)⟩))
  refine⟨_,by simpa only[jd.2.2.2]using eD.p,eD.lt,λid y hy=>?_,λk t b ht hb=>?_,eD.mks,eD.new⟩
  ·obtain⟨x,g1,g2⟩:=mf id y hy
   rw[<-g2];exact eD.own id x g1
  ·rcases lp k t ht with⟨q1,q2⟩|⟨q,t0,tv,q1,q2,q3,rfl⟩
   ·exact eD.tok k t b q2 hb
   ·obtain⟨g1,g2,g3⟩:=jU q t0 tv q2 q3
    rcases(g3 b hb).1 with h|h
    ·exact .inl ((iN b h).2.2.2.1 M hd)
    ·exact .inr ⟨h,g2.lt hb⟩
theorem Zp8{C:Ctx}{S:St}{m:Mem}{a:Act}{w:World}{E:Env}{rt:TypeId}{g:FuncId}{args:List Value}{K:Value->Int->Prop}(hY:YOk E C)(hr:Rel C S m a w)(h:ZxW E rt g args K S m):
  ZhM E.P g/\Calls E.P g args.toArray w λe w'=>∃v gh,e=.returned v/\K v gh/\Rel C { S with gh:=gh } m a w':=by
 unfold ZxW at h
 split at h
 ·exact h.elim
 rename_i Y gG
 obtain⟨l,xs,go,stop,il,pQ,eG,bR⟩:=h
 have tC:=hY.y Y gG
 obtain⟨M0,hd⟩:=hr.dom
 let at':Int->Int:=λj=>if j < 0 then -1 else S.gh+j
 let p:Int->(Nat->Prop)->World->Prop:=λj M w1=>C.p (at' j) (λk=>M0 k\/M k) w1/\(∀k,M k->w.heap.size<=k)/\w.heap.size<=w1.heap.size/\(∀k,M0 k->w1.heap[k]?=w.heap[k]?)/\Sub m w1
 have pR:∀b o v,m b o=some v->b < w.heap.size:=λb o v hv=>hr.sub.lt hv
 have hp:ZvQ p:=by
  rintro j M M' w1 w2 ⟨h1,h2,h3,h4,h5⟩ hu hM'
  have cT:∀k,M' k->w.heap.size<=k:=λk hk=>by
   rcases hM' k hk with hk|hk
   ·exact h2 k hk
   ·exact Nat.le_trans h3 hk.1
  have eD:∀k,k < w.heap.size->w2.heap[k]?=w1.heap[k]?:=λk hk=>hu.block k (Nat.lt_of_lt_of_le hk h3) λhm=>by have:=h2 k hm;omega
  refine⟨C.st _ _ _ _ _ h1 ⟨hu.os,hu.tape,hu.output,hu.size,λk hk hn=>hu.block k hk λhm=>hn (.inr hm),hu.wr⟩ (λk hk=>?_),cT,Nat.le_trans h3 hu.size,λk hk=>by rw[eD k (hd.lt k hk)];exact h4 k hk,λb o v hv=>?_⟩
  ·rcases hk with hk|hk
   ·exact .inl (.inl hk)
   ·rcases hM' k hk with hk|hk
    ·exact .inl (.inr hk)
    ·exact .inr hk
  ·rw[ZbA (eD b (pR b o v hv))];exact h5 b o v hv
 have pS:p 0 (λ_=>False) w:=by
  refine⟨?_,λ_ h=>h.elim,Nat.le_refl _,λ_ _=>rfl,hr.sub⟩
  have e1:at' 0=S.gh:=by simp[at']
  have e2:(λk=>M0 k\/False)=M0:=by funext k;simp
  rw[e1]
  show C.p S.gh (λk=>M0 k\/False) w
  rw[e2];exact hd.p
 have tD:Zmf E.P m p (λl' g v=>l'=l/\0<=g/\xs[g.toNat]?=some v):=by
  rintro F n l' j v M w1 hF mY ⟨rfl,hj,gF⟩ ⟨h1,h2,h3,h4,h5⟩ cF
  have e1:at' j=S.gh+((j.toNat:Nat):Int):=by
   show(if j < 0 then -1 else S.gh+j)=_
   rw[if_neg (by omega)];omega
  rw[e1]at h1
  have bB:∀k,M0 k\/M k->k < w1.heap.size:=λk hk=>by
   rcases hk with hk|hk
   ·exact Nat.lt_of_lt_of_le (hd.lt k hk) h3
   ·exact mY k hk
  have tE:=tC F n l' _ v (λk=>M0 k\/M k) w1 hF bB (pQ _ _ gF) h1 (λb o v hv=>cF b o v (hr.le b o v hv))
  obtain⟨fn,tmps,asg,bdy,mZ,fN⟩:=tE
  refine⟨fn,tmps,asg,bdy,mZ,fN.mono ?_⟩
  rintro e w2 ⟨b,rfl,oR,eZ⟩
  have kD:Sub m w2:=λb o v hv=>by
   rcases hd.new b o v hv with h6|h6
   ·exact eZ.sub b o v h6
   ·have hb:=eZ.block b (Nat.lt_of_lt_of_le (hd.lt b h6) h3) (.inl h6)
    rw[ZbA hb];exact cF b o v hv
  refine⟨b,rfl,⟨?_,h2,Nat.le_trans h3 eZ.size,λk hk=>?_,kD⟩,⟨eZ.size,λk hk hm=>eZ.block k hk (.inr hm),kD⟩⟩
  ·cases b with
   | true=>
    have e2:at' (j+1)=S.gh+((j.toNat:Nat):Int)+1:=by
     show(if j+1 < 0 then -1 else S.gh+(j+1))=_
     rw[if_neg (by omega)];omega
    simp only[if_true]at oR ⊢
    rw[e2];exact oR
   | false=>
    simp only[Bool.false_eq_true,if_false]at oR ⊢
    exact oR
  ·rw[eZ.block k (Nat.lt_of_lt_of_le (hd.lt k hk) h3) (.inl hk)];exact h4 k hk
 refine⟨il.1,(il.2 p hp w hr.sub pS tD).mono ?_⟩
 rintro e w' ⟨v,M,rfl,mY,jV⟩
 have fin:∀j,p j M w'->Rel C { S with gh:=at' j } m a w':=by
  rintro j ⟨h1,h2,h3,h4,h5⟩
  refine hr.yielded hd (C.st _ _ _ _ _ h1 (Upd.refl _ _) λk hk=>.inl (.inl hk)) ⟨h3,λk _ hk=>h4 k hk,λb o v hv=>h5 b o v (hr.le b o v hv)⟩
 have hv:go v\/stop v:=by
  rcases jV with h|h
  ·exact .inl h.1
  ·exact .inr h.1
 have hk:=Shape.all_fits _ _ bR v (eG v hv)
 rcases jV with⟨h1,h2⟩|⟨h1,h2⟩
 ·have:=fin _ h2
  have e1:at' (xs.length:Int)=S.gh+(xs.length:Int):=by
   show(if((xs.length:Nat):Int) < 0 then -1 else S.gh+((xs.length:Nat):Int))=_
   rw[if_neg (by omega)]
  rw[e1]at this
  exact⟨v,_,rfl,hk.1 h1,this⟩
 ·have:=fin _ h2
  have e1:at' (-1)=-1:=rfl
  rw[e1]at this
  exact⟨v,_,rfl,hk.2 h1,this⟩
theorem Zsf{E:Env}(hE:E.ok){F:Fence}(hF:FOk F)(hY:YOk E C){o:Oper}(hd:∀t,o.dst=some t->t < C.n)(hr:Rel C S m a w){K:St->Mem->Prop}(h:opW E S m o K){n:Nat}{next:Act->World->Prop}{Q:Exit->Act->World->Prop}
  (hK:∀S' m' a' w',K S' m'->Rel C S' m' a' w'->next a' w'):o.uponIn F n E.P a next Q ((execOp a.eval o).run E.P w):=by
 obtain⟨dst,op,type,pos,after,guard⟩:=o
 cases op with
 | move x=>exact hK _ _ _ _ h (hr.putEv' dst hd x)
 | assign x=>exact hK _ _ _ _ h (hr.putEv' dst hd x)
 | pick c x y=>
  obtain⟨v,hv,h⟩:=ZaK h
  obtain⟨h1,h2⟩:=Zag h
  have he:=hr.ev hv
  obtain⟨b,rfl⟩:∃b,v=.bool b:=⟨_,Zb3 h1⟩
  have bM:(execOp a.eval ⟨dst,.pick c x y,type,pos,after,guard⟩).run E.P w=.ok (.value (if b then a.eval x else a.eval y)) w:=by
   simp[execOp,he,asBool]
  rw[bM]
  simp only[ZcZ]at h2
  cases b
  ·exact hK _ _ _ _ h2 (hr.putEv' dst hd y)
  ·exact hK _ _ _ _ h2 (hr.putEv' dst hd x)
 | load T x=>
  have h':∃v,K (S.put dst (some (.v v))) m/\(Instr.loadAt T (a.eval x)).run E.P w=.ok v w:=by
   simp only[opW]at h
   cases mg:ZqZ E dst with
   | none=>
    simp only[mg]at h
    exact Zg7 hE hr h
   | some y=>
    simp only[mg]at h
    cases cI:E.fix with
    | some f=>simp[cI]at h
    | none=>
     simp only[cI,Option.isSome_none,cond_false]at h
     obtain⟨v,hk,bM⟩:=Zg7 hE hr h
     exact⟨v,Zuj hk,bM⟩
  obtain⟨v,hk,bM⟩:=h'
  have cZ:(execOp a.eval ⟨dst,.load T x,type,pos,after,guard⟩).run E.P w=.ok (.value v) w:=by simp[execOp,bM]
  rw[cZ]
  exact hK _ _ _ _ hk (hr.put dst hd rfl)
 | store T x y=>
  obtain⟨v,hv,h⟩:=ZaK h
  have he:=hr.ev hv
  cases jW:Zos E x with
  | none=>
   simp only[jW]at h
   obtain⟨S',w',hk,bC,bM⟩:=Znd hE hr h
   have cZ:(execOp a.eval ⟨dst,.store T x y,type,pos,after,guard⟩).run E.P w=.ok .skip w':=by simp[execOp,he,bM]
   rw[cZ]
   exact hK _ _ _ _ hk (bC.putNone dst _)
  | some key=>
   simp only[jW]at h
   cases cI:E.fix with
   | some f=>simp[cI]at h
   | none=>
    simp only[cI,Option.isSome_none,cond_false]at h
    obtain⟨m',w',hk,bC,bM⟩:=Zid hE hY hr h
    have cZ:(execOp a.eval ⟨dst,.store T x y,type,pos,after,guard⟩).run E.P w=.ok .skip w':=by simp[execOp,he,bM]
    rw[cZ]
    exact hK _ _ _ _ hk (bC.putNone dst _)
 | alloc T=>
  simp only[opW,Zsb]at h
  cases dst with
  | none=>exact h.elim
  | some d=>
   simp only at h
   cases ht:E.tt T with
   | none=>simp[ht]at h
   | some i=>
    simp only[ht]at h
    cases hL:S.L d with
    | some x=>simp[hL]at h
    | none=>
     simp only[hL]at h
     have cC:=hE T i ht
     have hz:=cC.run_zero (w:=w)
     have gR:i.zero.cells.toList.length=i.size:=by simpa using cC.zsize
     have hb:=hr.newBox (d:=d) hL (x:={ b:=w.heap.size,cs:=i.zero.cells.toList,T:=T,cap:=i.size,fz:=false,full:=true }) (m':=m) [] rfl (by simpa using gR) (λ_=>gR) (.inl ⟨rfl,rfl⟩)
     simp only[List.append_nil,Array.toArray_toList]at hb
     have bM:(execOp a.eval ⟨some d,.alloc T,type,pos,after,guard⟩).run E.P w=.ok (.value (.pointer (some ⟨w.heap.size,0,none⟩))) (w.alloc (.cells i.zero.cells T (0,0))):=by
      simp[execOp,Instr.alloc,hz,newVar,newRow]
     rw[bM]
     exact hK _ _ _ _ (h w.heap.size) (hb.put (some d) hd (by simp[St.den,St.newL]))
 | box T x=>
  obtain⟨v,hv,h⟩:=ZaK h
  have he:=hr.ev hv
  cases lq:Zg9 E dst with
  | true=>
   simp only[lq,cond_true]at h
   cases cI:E.fix with
   | some f=>simp[cI]at h
   | none=>
    simp only[cI,Option.isSome_none,cond_false,Zw9]at h
    cases dst with
    | none=>exact h.elim
    | some d=>
     simp only at h
     cases ht:E.tt T with
     | none=>simp[ht]at h
     | some i=>
      simp only[ht]at h
      cases hL:S.L d with
      | some x=>simp[hL]at h
      | none=>
       simp only[hL]at h
       obtain⟨h1,h2⟩:=Zag h
       have bW:=Nat.eq_of_beq_eq_true h1
       have gR:v.cells.toList.length=i.size:=by simpa using bW
       have bT:m.free w.heap.size:=λo=>by
        cases he:m w.heap.size o with
        | none=>rfl
        | some v=>have:=hr.sub.lt he;omega
       have hb:=hr.newBox (d:=d) hL (x:={ b:=w.heap.size,cs:=v.cells.toList,T:=T,cap:=i.size,fz:=true,full:=true }) (m':=m.add w.heap.size v.cells.toList) [] rfl (by simpa using gR) (λ_=>gR) (.inr ⟨rfl,rfl⟩)
       simp only[List.append_nil,Array.toArray_toList]at hb
       have bM:(execOp a.eval ⟨some d,.box T x,type,pos,after,guard⟩).run E.P w=.ok (.value (.pointer (some ⟨w.heap.size,0,none⟩))) (w.alloc (.cells v.cells T (0,0))):=by
        simp[execOp,he,Instr.box,newVar,newRow]
       rw[bM]
       exact hK _ _ _ _ (Zp5 (h2 w.heap.size _ (Mem.le_add bT _) (λj v hv=>by rw[Mem.add_same];simpa using hv)) bT (λb' o u hu=>by
        by_cases e:b'=w.heap.size
        ·exact .inr e
        ·rw[Mem.add_other _ e]at hu;exact .inl hu)) (hb.put (some d) hd (by simp[St.den,St.newL]))
  | false=>
  simp only[lq,cond_false]at h
  simp only[Zyw]at h
  cases dst with
  | none=>exact h.elim
  | some d=>
   simp only at h
   cases ht:E.tt T with
   | none=>simp[ht]at h
   | some i=>
    simp only[ht]at h
    cases hL:S.L d with
    | some x=>simp[hL]at h
    | none=>
     simp only[hL]at h
     obtain⟨h1,h2⟩:=Zag h
     have bW:=Nat.eq_of_beq_eq_true h1
     have gR:v.cells.toList.length=i.size:=by simpa using bW
     have hb:=hr.newBox (d:=d) hL (x:={ b:=w.heap.size,cs:=v.cells.toList,T:=T,cap:=i.size,fz:=false,full:=true }) (m':=m) [] rfl (by simpa using gR) (λ_=>gR) (.inl ⟨rfl,rfl⟩)
     simp only[List.append_nil,Array.toArray_toList]at hb
     have bM:(execOp a.eval ⟨some d,.box T x,type,pos,after,guard⟩).run E.P w=.ok (.value (.pointer (some ⟨w.heap.size,0,none⟩))) (w.alloc (.cells v.cells T (0,0))):=by
      simp[execOp,he,Instr.box,newVar,newRow]
     rw[bM]
     exact hK _ _ _ _ (h2 w.heap.size) (hb.put (some d) hd (by simp[St.den,St.newL]))
 | buildSlice T len parts=>
  simp only[opW]at h
  cases gY:Zdz E dst with
  | some ke=>
   simp only[gY]at h
   cases cI:E.fix with
   | some f=>simp[cI]at h
   | none=>
    simp only[cI,Option.isSome_none,cond_false]at h
    split at h
    ·rename_i hp
     have tF:parts=#[]:=by rw[<-Array.toArray_toList (xs:=parts),hp]
     subst tF
     obtain⟨S',v,w',hk,bC,_,hx⟩:=Zh9 hE (λm' e=>by cases e;rfl) hd hr h
     obtain⟨i,e,g1,g2,rfl,rfl⟩:=hx rfl
     have hu:=(hE T i g1).run_und (w:=w)
     rw[g2]at hu
     have bW:∃n,(Go.sizeOf e).run E.P w=.ok n w:=by
      unfold Znh at h
      cases dst with
      | none=>exact h.elim
      | some d=>
       simp only at h
       cases hs:ZaF E T with
       | none=>simp[hs]at h
       | some ej=>
        obtain⟨e',j⟩:=ej
        obtain⟨i',q1,q2,q3⟩:=ZaS hs
        rw[g1]at q1;cases q1
        rw[g2]at q2;cases q2
        exact⟨_,(hE _ j q3).run_size (w:=w)⟩
     obtain⟨n0,bW⟩:=bW
     have bM:(execOp a.eval ⟨dst,.buildSlice T 0 #[],type,pos,after,guard⟩).run E.P w=.ok (.value (.slice (some ⟨w.heap.size,0,none⟩) 0 0)) (w.alloc (.cells #[] e (0,0))):=by
      simp[execOp,Instr.buildSlice,hu,bW,newRow,Instr.fill]
      congr 2
      apply Array.ext'
      simp
     rw[bM]
     exact hK _ _ _ _ hk bC
    ·exact h.elim
  | none=>
  simp only[gY,Zfd]at h
  cases dst with
  | none=>exact h.elim
  | some d=>
   simp only at h
   cases ht:E.tt T with
   | none=>simp[ht]at h
   | some t=>
    simp only[ht]at h
    have fO:=hE T t ht
    cases pT:t.d with
    | slice e=>
     simp only[pT]at h
     cases hi:E.tt e with
     | none=>simp[hi]at h
     | some i=>
      simp only[hi]at h
      have cC:=hE e i hi
      cases hL:S.L d with
      | some x=>simp[hL]at h
      | none=>
       simp only[hL]at h
       obtain⟨h1,h2⟩:=Zag h
       simp only[Bool.and_eq_true,Nat.ble_eq]at h1
       have h3:=Zca hr h2
       obtain⟨h4,h5⟩:=Zag h3
       generalize dY:List.map a.eval (List.map (λx=>x.2) parts.toList)=vs at *
       have bS:parts.toList.length=len:=Nat.eq_of_beq_eq_true h1.2.1
       have gX:vs.length=len:=by rw[<-dY];simpa using bS
       have fL:(ZbT vs).length=len*i.size:=by rw[Zoo h4,gX]
       have bT:m.free w.heap.size:=λo=>by
        cases he:m w.heap.size o with
        | none=>rfl
        | some v=>have:=hr.sub.lt he;omega
       have hb:=hr.newBox (d:=d) hL (x:={ b:=w.heap.size,cs:=ZbT vs,T:=e,cap:=len*i.size,fz:=true,full:=true }) (m':=m.add w.heap.size (ZbT vs)) [] rfl (by simpa using fL) (λ_=>fL) (.inr ⟨rfl,rfl⟩)
       simp only[List.append_nil]at hb
       have hu:=fO.run_und (w:=w)
       rw[pT]at hu
       have bW:=cC.run_size (w:=w)
       have hz:=cC.run_zero (w:=w)
       have lr:(parts.map λx=>(x.1,a.eval x.2)).toList=(List.range' 0 vs.length).zip vs:=by
        have e1:=Zh7 h1.1
        simp only[List.length_map]at e1
        rw[bS,<-gX]at e1
        rw[<-e1,<-dY,List.map_map,List.zip_map']
        simp
       have gR:i.zero.cells.toList.length=i.size:=by simpa using cC.zsize
       have pU:∀zz:Array Value,((Array.range (len*i.size)).map (λq=>zz[q % zz.size]!)).toList.length=vs.length*i.size:=λzz=>by simp[gX]
       have kE:∀zz:Array Value,Instr.fill (λq=>some (q*i.size,i.size)) ((Array.range (len*i.size)).map (λq=>zz[q % zz.size]!)) (parts.map λx=>(x.1,a.eval x.2)).toList=some (ZbT vs).toArray:=λzz=>by
        have:=Zmi i.size vs 0 [] ((Array.range (len*i.size)).map (λq=>zz[q % zz.size]!)).toList h4 (by simp) (pU zz)
        rw[lr]
        simpa only[List.nil_append,Array.toArray_toList]using this
       have cL:¬(16777216 < len*i.size):=by omega
       have bM:(execOp a.eval ⟨some d,.buildSlice T len parts,type,pos,after,guard⟩).run E.P w=.ok (.value (.slice (some ⟨w.heap.size,0,none⟩) len len)) (w.alloc (.cells (ZbT vs).toArray e (0,0))):=by
        by_cases h0:len*i.size=0
        ·have:=kE #[]
         simp only[h0]at this
         simp[execOp,Instr.buildSlice,hu,bW,h0,newRow]
         simp at this
         simp[this]
        ·have:=kE i.zero.cells
         simp[execOp,Instr.buildSlice,hu,bW,cL,h0,hz,newRow]
         simp at this
         simp[this]
       rw[bM]
       exact hK _ _ _ _ (h5 w.heap.size bT) (hb.put (some d) hd (by simp[St.den,St.newL]))
    | _=>simp[pT]at h
 | makeSlice T l c=>
  have h':∃S' m' v w',K S' m'/\Rel C S' m' (a.put dst v) w'/\(Instr.makeSlice T (a.eval l) (a.eval c)).run E.P w=.ok v w':=by
   simp only[opW]at h
   cases gY:Zdz E dst with
   | none=>
    simp only[gY]at h
    cases kB:ZtH E dst with
    | false=>
     simp only[kB,cond_false]at h
     obtain⟨S',v,w',g⟩:=Zoq hE hd hr h
     exact⟨S',m,v,w',g⟩
    | true=>
     simp only[kB,cond_true]at h
     cases cI:E.fix with
     | some f=>simp[cI]at h
     | none=>
      simp only[cI,Option.isSome_none,cond_false]at h
      exact Zng hE hd hr h
   | some ke=>
    simp only[gY]at h
    cases cI:E.fix with
    | some f=>simp[cI]at h
    | none=>
     simp only[cI,Option.isSome_none,cond_false]at h
     obtain⟨S',v,w',g1,g2,g3,_⟩:=Zh9 hE (λm' e=>by cases e) hd hr h
     exact⟨S',m,v,w',g1,g2,g3⟩
  obtain⟨S',m',v,w',hk,bC,bM⟩:=h'
  have cZ:(execOp a.eval ⟨dst,.makeSlice T l c,type,pos,after,guard⟩).run E.P w=.ok (.value v) w':=by simp[execOp,bM]
  rw[cZ]
  exact hK _ _ _ _ hk bC
 | convert s d x=>
  simp only[opW]at h
  cases iU:Zhf E s d with
  | false=>
   simp only[iU,cond_false]at h
   cases fB:Zc2 E s d with
   | false=>
    simp only[fB,cond_false]at h
    cases na:Zc3 E s d with
    | false=>
     simp only[na,cond_false]at h
     exact Zie hE hd hr h hK
    | true=>
     simp only[na,cond_true]at h
     cases cI:E.fix with
     | some f=>simp[cI]at h
     | none=>
      simp only[cI,Option.isSome_none,cond_false]at h
      obtain⟨v,hk,bM⟩:=Zia hE na hr h
      have cZ:(execOp a.eval ⟨dst,.convert s d x,type,pos,after,guard⟩).run E.P w=.ok (.value v) w:=by simp[execOp,bM]
      rw[cZ]
      exact hK _ _ _ _ hk (hr.put dst hd rfl)
   | true=>
    simp only[fB,cond_true]at h
    cases cI:E.fix with
    | some f=>simp[cI]at h
    | none=>
     simp only[cI,Option.isSome_none,cond_false]at h
     obtain⟨S',m',v,w',hk,bC,bM⟩:=Zor hE fB hd hr h
     have cZ:(execOp a.eval ⟨dst,.convert s d x,type,pos,after,guard⟩).run E.P w=.ok (.value v) w':=by simp[execOp,bM]
     rw[cZ]
     exact hK _ _ _ _ hk bC
  | true=>
   simp only[iU,cond_true]at h
   cases he:S.ev x with
   | none=>simp[he]at h
   | some sv=>
    cases sv with
    | v u=>simp[he]at h
    | loc id off=>simp[he]at h
    | sl id n' c=>
     simp only[he]at h
     obtain⟨v,h1,h2,h3⟩:=hr.ev_val he
     simp only[St.den]at h1
     cases hL:S.L id with
     | none=>simp[hL]at h1
     | some bx=>
      simp only[hL,Option.some.injEq]at h1
      unfold Zhf at iU
      cases ht:E.tt s with
      | none=>simp[ht]at iU
      | some i=>
       simp only[ht]at iU
       cases cO:i.d with
       | slice e=>
        simp only[cO,Bool.and_eq_true]at iU
        have tG:s=d:=Nat.eq_of_beq_eq_true iU.1
        subst tG
        cases hj:E.tt e with
        | none=>simp[hj]at iU
        | some j=>
         simp only[hj]at iU
         have hu:=(hE s i ht).run_und (w:=w)
         have lj:=(hE e j hj).run_und (w:=w)
         rw[cO]at hu
         obtain⟨sp,fr,hh,hc,hf⟩:=(hr.own id bx hL).cells
         have pK:=ZdJ (P:=E.P) bx.b 0 hh
         have bC:=hr.freeze hL _ ⟨_,_,_,hh,rfl⟩
         have gP:j.d=.int .u8:=by
          cases gP:j.d with
          | int kk=>cases kk <;> simp[gP]at iU <;> rfl
          | _=>simp[gP]at iU
         rw[gP]at lj
         have bM:(execOp a.eval ⟨dst,.convert s s x,type,pos,after,guard⟩).run E.P w=.ok (.value (.slice (some ⟨bx.b,0,none⟩) n' c)) (w.freeze ⟨bx.b,(bx.cs++sp).toArray.size,none⟩ 1):=by
          simp only[execOp,h3,<-h1]
          simp only[convert,Sem.run_bind,hu,Result.andThen_ok,beq_self_eq_true,lj,pK,Sem.run_pure]
         rw[bM]
         exact hK _ _ _ _ h (bC.put dst hd (by simp[St.den,hL]))
       | _=>simp[cO]at iU
 | call c=>
  obtain⟨callee,args,argTypes⟩:=c
  cases callee with
  | value f=>
   simp only[opW]at h
   obtain⟨S,m,hr,h⟩:=Zjh hr h
   simp only[Zvy]at h
   cases he:S.ev f with
   | none=>simp[he]at h
   | some sv=>
    obtain⟨v,h1,h2,h3⟩:=hr.ev_val he
    cases sv with
    | v fv=>
     cases fv with
     | func fn first captured=>
      cases fn with
      | func g=>
       simp only[he]at h
       simp only[St.den,Option.some.injEq]at h1
       have gH:(first++Array.map a.eval args++captured)=(first.toList++List.map a.eval args.toList++captured.toList).toArray:=Array.ext' (by simp)
       cases je:Zq0 E dst with
       | true=>
        simp only[je,cond_true]at h
        cases cI:E.fix with
        | some f=>simp[cI]at h
        | none=>
         simp only[cI,Option.isSome_none,cond_false]at h
         obtain⟨S',sv,v,w',hk,bC,bM⟩:=Zp7 hd hr (Zca hr h)
         have cZ:(execOp a.eval ⟨dst,.call ⟨.value f,args,argTypes⟩,type,pos,after,guard⟩).run E.P w=.ok (.value v) w':=by
          simp only[execOp,resolve,h3,<-h1,Deferred.ofValue]
          simp only[Sem.run_bind,Sem.run_pure,Result.andThen_ok,invoke,gH]
          exact bM
         rw[cZ]
         exact hK _ _ _ _ hk bC
       | false=>
       simp only[je,cond_false]at h
       have tH:ZhM E.P g/\Calls E.P g (first.toList++List.map a.eval args.toList++captured.toList).toArray w λe w'=>∃v S' m',e=.returned v/\K (S'.put dst (some (.v v))) m'/\Rel C S' m' a w':=by
        cases il:Zfc E dst with
        | some ks=>
         simp only[il]at h
         cases cI:E.fix with
         | some f=>simp[cI]at h
         | none=>
          simp only[cI,Option.isSome_none,cond_false]at h
          have h4:=Zca hr h
          exact Znl hY hr h4
        | none=>
        simp only[il]at h
        cases mh:ZtD E dst with
        | true=>
         simp only[mh,cond_true]at h
         cases cI:E.fix with
         | some f=>simp[cI]at h
         | none=>
          simp only[cI,Option.isSome_none,cond_false]at h
          have h4:=Zca hr h
          obtain⟨h5,h6⟩:=Zp8 hY hr h4
          refine⟨h5,h6.mono ?_⟩
          rintro e w' ⟨v,gh,rfl,h7,h8⟩
          exact⟨v,_,m,rfl,h7,h8⟩
        | false=>
        simp only[mh,cond_false]at h
        cases gY:Zdz E dst with
        | none=>
         simp only[gY]at h
         have h4:=Zca hr h
         exact Zom hr h4
        | some ke=>
         simp only[gY]at h
         cases cI:E.fix with
         | some f=>simp[cI]at h
         | none=>
          simp only[cI,Option.isSome_none,cond_false]at h
          split at h
          ·have h4:=Zca hr h
           exact Znk hr h4
          ·exact h.elim
       obtain⟨ls,bZ⟩:=tH
       have bM:(execOp a.eval ⟨dst,.call ⟨.value f,args,argTypes⟩,type,pos,after,guard⟩).run E.P w=.ok (.enter g (first.toList++List.map a.eval args.toList++captured.toList).toArray) w:=by
        simp only[execOp,resolve,h3,<-h1,Deferred.ofValue]
        simp only[Sem.run_bind,Sem.run_pure,Result.andThen_ok,invoke,gH]
        exact ls _ _
       rw[bM]
       refine⟨λhs=>by rw[hF.depth]at hs;simp at hs,?_⟩
       refine hF.calls (bZ.mono ?_)
       rintro e w' ⟨v,S',m',rfl,hk,bC⟩
       exact hK _ _ _ _ hk (bC.put dst hd rfl)
      | yield l=>
       simp only[he]at h
       cases cI:E.fix with
       | some f=>simp[cI]at h
       | none=>
        simp only[cI,Option.isSome_none,cond_false]at h
        cases gG:E.yl with
        | none=>simp[gG]at h
        | some Y=>
         cases oS:first.toList with
         | cons x l=>simp[gG,oS]at h
         | nil=>
          cases pV:captured.toList with
          | cons x l=>simp[gG,oS,pV]at h
          | nil=>
           simp only[gG,oS,pV]at h
           obtain⟨hy,ip,eB⟩:=Zca hr h
           have pW:first=#[]:=by rw[<-Array.toArray_toList (xs:=first),oS]
           have pX:captured=#[]:=by rw[<-Array.toArray_toList (xs:=captured),pV]
           subst pW pX
           obtain⟨M,hd'⟩:=hr.dom
           obtain⟨fn,tmps,asg,bdy,mZ,fN⟩:=hY.y Y gG F (n - 1) l S.gh _ M w hF hd'.lt hy hd'.p (λb o v hv=>hr.sub b o v (hr.le b o v hv))
           simp only[St.den,Option.some.injEq]at h1
           have bM:(execOp a.eval ⟨dst,.call ⟨.value f,args,argTypes⟩,type,pos,after,guard⟩).run E.P w=.ok (.round l fn tmps asg bdy) w:=by
            have gH:(#[]++Array.map a.eval args)=(List.map a.eval args.toList).toArray:=Array.ext' (by simp)
            simp only[execOp,resolve,h3,<-h1,Deferred.ofValue]
            simp only[Sem.run_bind,Sem.run_pure,Result.andThen_ok,invoke,gH]
            simpa using mZ
           rw[bM]
           refine⟨λhs=>by rw[hF.depth]at hs;simp at hs,fN.mono ?_⟩
           rintro e w' ⟨b,rfl,hp,eZ⟩
           cases b with
           | true=>exact hK _ _ _ _ ip ((hr.yielded hd' hp eZ).put dst hd rfl)
           | false=>exact hK _ _ _ _ eB ((hr.yielded hd' hp eZ).put dst hd rfl)
      | _=>simp[he]at h
     | _=>simp[he]at h
    | _=>simp[he]at h
  | invoke r m=>exact Zie hE hd hr h hK
  | builtin b=>
   cases b with
   | append=>
    simp only[opW]at h
    split at h
    ·rename_i s x T xT d hA hT
     obtain⟨S,m,hr,h⟩:=Zjh hr h
     obtain⟨vs,dY,h⟩:=ZaK h
     obtain⟨vx,tI,h⟩:=ZaK h
     have ha:args=#[s,x]:=by rw[<-Array.toArray_toList (xs:=args),hA]
     have dV:argTypes=#[T,xT]:=by rw[<-Array.toArray_toList (xs:=argTypes),hT]
     subst ha dV
     obtain⟨v,tk,m',w',hk,bC,bM⟩:=Zk4 (ty:=type) hE hr h
     have cZ:(execOp a.eval ⟨some d,.call ⟨.builtin .append,#[s,x],#[T,xT]⟩,type,pos,after,guard⟩).run E.P w=.ok (.value v) w':=by
      simp[execOp,resolve,invoke,builtin,hr.ev dY,hr.ev tI,bM]
     rw[cZ]
     exact hK _ _ _ _ hk (bC.put (some d) hd rfl)
    ·exact h.elim
   | copy=>
    simp only[opW]at h
    split at h
    ·rename_i d s T xT hA hT
     cases hh:ZfO E d with
     | none=>simp[hh]at h
     | some id=>
      simp only[hh]at h
      obtain⟨vd,pM,h⟩:=ZaK h
      obtain⟨vs,dY,h⟩:=ZaK h
      have ha:args=#[d,s]:=by rw[<-Array.toArray_toList (xs:=args),hA]
      have dV:argTypes=#[T,xT]:=by rw[<-Array.toArray_toList (xs:=argTypes),hT]
      subst ha dV
      obtain⟨n,S',w',hk,bC,bM⟩:=Zot (ty:=type) (xT:=xT) hE hr h
      have cZ:(execOp a.eval ⟨dst,.call ⟨.builtin .copy,#[d,s],#[T,xT]⟩,type,pos,after,guard⟩).run E.P w=.ok (.value (.int .i64 n)) w':=by
       simp[execOp,resolve,invoke,builtin,hr.ev pM,hr.ev dY,bM]
      rw[cZ]
      exact hK _ _ _ _ hk (bC.put dst hd rfl)
    ·exact h.elim
   | _=>exact Zie hE hd hr h hK
 | _=>exact Zie hE hd hr h hK
end
mutual
def Shape.ex:Shape->(Value->Prop)->Prop
 | .any,k=>∃v,k v
 | .int ki,k=>∃n:Int,k (.int ki n)
 | .bool,k=>∃b:Bool,k (.bool b)
 | .str,k=>∃s:ByteArray,k (.string s)
 | .slice,k=>∃(a:Option Addr)(n c:Nat),k (.slice a n c)
 | .agg l,k=>Shape.exL l λvs=>k (.agg vs.toArray)
 | .tup l,k=>Shape.exL l λvs=>k (.tuple vs.toArray)
 | .fn,k=>∃(g:Nat)(fi ca:List Value),k (.func (.func g) fi.toArray ca.toArray)
 | .cells,k=>∃cs:List Value,k (.agg cs.toArray)
 | .ptr,k=>∃b o:Nat,k (.pointer (some ⟨b,o,none⟩))
def Shape.exL:List Shape->(List Value->Prop)->Prop
 | [],k=>k []
 | s::l,k=>Shape.ex s λv=>Shape.exL l λvs=>k (v::vs)
end
mutual
theorem Shape.ex_elim:∀(s:Shape)(k:Value->Prop),s.ex k->∃v,k v
 | .any,k,h=>h
 | .int ki,k,h=>by simp only[Shape.ex]at h;obtain⟨n,h⟩:=h;exact⟨_,h⟩
 | .bool,k,h=>by simp only[Shape.ex]at h;obtain⟨n,h⟩:=h;exact⟨_,h⟩
 | .str,k,h=>by simp only[Shape.ex]at h;obtain⟨n,h⟩:=h;exact⟨_,h⟩
 | .slice,k,h=>by simp only[Shape.ex]at h;obtain⟨a,n,c,h⟩:=h;exact⟨_,h⟩
 | .agg l,k,h=>by
  simp only[Shape.ex]at h
  obtain⟨vs,_,h⟩:=Shape.exL_elim l _ h
  exact⟨_,h⟩
 | .tup l,k,h=>by
  simp only[Shape.ex]at h
  obtain⟨vs,_,h⟩:=Shape.exL_elim l _ h
  exact⟨_,h⟩
 | .fn,k,h=>by simp only[Shape.ex]at h;obtain⟨_,_,_,h⟩:=h;exact⟨_,h⟩
 | .cells,k,h=>by simp only[Shape.ex]at h;obtain⟨_,h⟩:=h;exact⟨_,h⟩
 | .ptr,k,h=>by simp only[Shape.ex]at h;obtain⟨_,_,h⟩:=h;exact⟨_,h⟩
theorem Shape.exL_elim:∀(l:List Shape)(k:List Value->Prop),Shape.exL l k->∃vs,vs.length=l.length/\k vs
 | [],k,h=>⟨[],rfl,h⟩
 | s::l,k,h=>by
  simp only[Shape.exL]at h
  obtain⟨v,h⟩:=Shape.ex_elim s _ h
  obtain⟨vs,hl,h⟩:=Shape.exL_elim l _ h
  exact⟨v::vs,by simp[hl],h⟩
end
def Zet:Value->Bool
 | .tuple _=>true
 | _=>false
def opG(E:Env)(ops:Array Oper)(o:Oper)(S:St)(m:Mem)(K:St->Mem->Prop):Prop:=match o.guard with
 | none=>opW E S m o K
 | some (j,want)=>match ops.toList[j]? with
  | none=>False
  | some oj=>match oj.dst with
   | none=>False
   | some t=>match S.env t with
    | some (.v v)=>bif Zet v then K (S.put o.dst (some (.v undef))) m else chk (ZhK v) (match want with
     | true=>br (ZcZ v) (opW E S m o K) (K (S.put o.dst (some (.v undef))) m)
     | false=>br (ZcZ v) (K (S.put o.dst (some (.v undef))) m) (opW E S m o K))
    | _=>False
def ZgI(ops:Array Oper)(o:Oper):Option Nat:=match o.guard with
 | none=>none
 | some (j,_)=>match ops.toList[j]? with
  | none=>none
  | some oj=>oj.dst
def Zxr(E:Env)(ops:Array Oper)(o:Oper)(S:St)(m:Mem)(K:St->Mem->Prop):Prop:=match ZgI ops o with
 | none=>opG E ops o S m K
 | some t=>match S.env t with
  | some (.v v)=>bif Zet v then opG E ops o S m K else chk (ZhK v) (br (ZcZ v) (opG E ops o (S.put (some t) (some (.v (.bool true)))) m K) (opG E ops o (S.put (some t) (some (.v (.bool false)))) m K))
  | _=>False
def ZvM(E:Env)(ops:Array Oper):List Nat->(St->Mem->Prop)->St->Mem->Prop
 | [],K,S,m=>K S m
 | i::l,K,S,m=>match ops.toList[i]? with
  | none=>False
  | some o=>Zxr E ops o S m (ZvM E ops l K)
def ZxZ(n:Nat)(o:Oper):Bool:=match o.dst with
 | none=>true
 | some d=>Nat.blt d n
def Zmj(n:Nat):List Oper->Bool
 | []=>true
 | o::l=>ZxZ n o&&Zmj n l
def ZbC(n:Nat):Code->Bool
 | .region _ ops _=>Zmj n ops.toList
 | .seq a b=>ZbC n a&&ZbC n b
 | .cond _ a b=>ZbC n a&&ZbC n b
 | .block _ a=>ZbC n a
 | .loop a=>ZbC n a
 | .scope a=>ZbC n a
 | .rangeFunc _ ps a b=>ps.toList.all (Nat.blt · n)&&(ZbC n a&&ZbC n b)
 | _=>true
def Zav:List Oper->List Nat
 | []=>[]
 | o::l=>match o.dst with
  | none=>Zav l
  | some d=>d::Zav l
def Zjz:Code->List Nat
 | .region _ ops _=>Zav ops.toList
 | .seq a b=>Zjz a++Zjz b
 | .cond _ a b=>Zjz a++Zjz b
 | .block _ a=>Zjz a
 | .loop a=>Zjz a
 | .scope a=>Zjz a
 | .rangeFunc _ ps a b=>ps.toList++(Zjz a++Zjz b)
 | _=>[]
def ZaW:Code->Nat
 | .region id _ _=>id
 | .seq a _=>ZaW a
 | .cond _ a _=>ZaW a
 | .block _ a=>ZaW a
 | .loop a=>ZaW a
 | .scope a=>ZaW a
 | .rangeFunc _ _ a _=>ZaW a
 | _=>0
def ZhN(S:St):List (Nat×Shape)->(List Value->Prop)->Prop
 | [],k=>k []
 | (t,sh)::l,k=>wv S (.tmp t) λv=>chk (sh.fits v) (ZhN S l λvs=>k (v::vs))
def ZtI(S:St):List Nat->(List (List Value)->Prop)->Prop
 | [],k=>k []
 | id::l,k=>match S.L id with
  | none=>False
  | some x=>ZtI S l λcss=>k (x.cs::css)
def Zsg(S:St)(k:Nat):Value:=match S.tok k with
 | some t=>t.v
 | none=>.slice none 0 0
def ZgJ(S:St):List (Nat×Nat)->(List Value->Prop)->Prop
 | [],k=>k []
 | (q,esz)::l,k=>chk (Zcf (Zsg S q)&&(match S.tok q with
  | some t=>Nat.beq t.esz esz
  | none=>true)) (ZgJ S l λvs=>k (Zsg S q::vs))
def ZbY(e:Nat->Option SV):List (Nat×Shape)->List Value->(Nat->Option SV)
 | (t,_)::l,v::vs=>λi=>bif Nat.beq i t then some (.v v)else ZbY e l vs i
 | _,_=>e
def ZhZ(L:Nat->Option Box):List Nat->List (List Value)->(Nat->Option Box)
 | id::l,cs::css=>λi=>bif Nat.beq i id then(match L i with
  | some x=>some { x with cs:=cs }
  | none=>none)else ZhZ L l css i
 | _,_=>L
def Zga(tk:Nat->Option Tok):List (Nat×Nat)->List Value->(Nat->Option Tok)
 | (q,esz)::l,v::vs=>λi=>bif Nat.beq i q then some ⟨v,esz⟩ else Zga tk l vs i
 | _,_=>tk
def Zb4(S:St)(ds:List Nat)(A:LoopAnn)(g:Int)(xs:List Value)(css:List (List Value))(tvs:List Value):St:=
 {env:=ZbY (λi=>bif ds.any (Nat.beq i ·)then none else S.env i) A.slots xs
  L:=ZhZ S.L A.boxes css
  ids:=S.ids
  tok:=Zga S.tok A.toks tvs
  tkeys:=A.toks.map (·.1)++S.tkeys
  gh:=g }
def ghs(b:Bool)(g:Int)(xs:List Value):List Value:=bif b then .int .i64 g::xs else xs
def Zxb(b:Bool)(g:Int)(k:Int->Prop):Prop:=bif b then ∀y,k y else k g
def Zmk(b:Bool)(x y:Int)(p:Prop):Prop:=bif b then p else match x,y with
 | .ofNat 0,.ofNat 0=>p
 | x,y=>x=y/\p
theorem ZeZ{b:Bool}{x y:Int}{p:Prop}(h:Zmk b x y p):(b=false->x=y)/\p:=by
 cases b with
 | true=>exact⟨λh=>(by cases h),h⟩
 | false=>
  simp only[Zmk,cond_false]at h
  split at h
  ·exact⟨λ_=>rfl,h⟩
  ·exact⟨λ_=>h.1,h.2⟩
theorem Zif{b:Bool}{g:Int}{k:Int->Prop}(h:Zxb b g k){y:Int}(hy:b=false->y=g):k y:=by
 cases b with
 | true=>exact h y
 | false=>rw[hy rfl];exact h
def Zou:List Nat->(List (List Value)->Prop)->Prop
 | [],k=>k []
 | _::l,k=>∀cs,Zou l λcss=>k (cs::css)
def Zov:List (Nat×Nat)->(List Value->Prop)->Prop
 | [],k=>k []
 | _::l,k=>∀(a:Option Addr)(n c:Nat),Zov l λvs=>k (.slice a n c::vs)
def Zcb(S:St)(A:LoopAnn)(ids:List Nat):List (Option Box):=ids.map λid=>bif A.boxes.any (Nat.beq id ·)then(match S.L id with
 | some x=>some { x with cs:=[] }
 | none=>none)else S.L id
def Zbk(S:St)(A:LoopAnn)(ks:List Nat):List (Option Tok):=ks.map λk=>bif A.toks.any (λq=>Nat.beq k q.1)then none else S.tok k
def ZnT(a b:List (Option Box))(p:Prop):Prop:=match a,b with
 | [],[]=>p
 | a,b=>a=b/\p
def ZnU(a b:List (Option Tok))(p:Prop):Prop:=match a,b with
 | [],[]=>p
 | a,b=>a=b/\p
theorem Zdg{a b:List (Option Box)}{p:Prop}:ZnT a b p↔a=b/\p:=by
 unfold ZnT
 split
 ·simp
 ·exact Iff.rfl
theorem Zdh{a b:List (Option Tok)}{p:Prop}:ZnU a b p↔a=b/\p:=by
 unfold ZnU
 split
 ·simp
 ·exact Iff.rfl
abbrev KT:=Exit->St->Mem->Prop
def leT(th:Bool)(m m':Mem):Prop:=bif th then True else m.le m'
theorem leT.of{th:Bool}{m m':Mem}(h:m.le m'):leT th m m':=by
 cases th with
 | true=>trivial
 | false=>exact h
theorem leT.refl(th:Bool)(m:Mem):leT th m m:=.of (Mem.le_refl m)
theorem leT.trans{th:Bool}{a b c:Mem}(h:leT th a b)(k:leT th b c):leT th a c:=by
 cases th with
 | true=>trivial
 | false=>exact mLt h k
def Env.cold(E:Env):Env:={ E with thaw:=false }
def Zyx(th:Bool)(A:LoopAnn)(ds:List Nat)(body:KT->St->Mem->Prop)(K:KT)(S:St)(m:Mem):Prop:=
 ∃I:List Value->List (List Value)->List Value->Mem->Nat->Prop,
  (ZhN S A.slots λxs=>ZtI S A.boxes λcss=>ZgJ S A.toks λtvs=>∃n,I (ghs A.gh S.gh xs) css tvs m n)/\
  Zxb A.gh S.gh λy=>Shape.allL (A.slots.map (·.2)) λxs=>Zou A.boxes λcss=>Zov A.toks λtvs=>∀(m':Mem)(n:Nat),leT th m m'->I (ghs A.gh y xs) css tvs m' n->
   body (λe S' m''=>match e with
    | .normal=>Zmk A.gh S'.gh S.gh (ZnT (Zcb S' A S.ids) (Zcb S A S.ids) (ZnU (Zbk S' A S.tkeys) (Zbk S A S.tkeys) (ZhN S' A.slots λxs'=>ZtI S' A.boxes λcss'=>ZgJ S' A.toks λtvs'=>∃n',n' < n/\I (ghs A.gh S'.gh xs') css' tvs' m'' n')))
    | e=>K e S' m'') (Zb4 S ds A y xs css tvs) m'
def Zzm(th:Bool)(A:LoopAnn)(ds:List Nat)(x y:KT->St->Mem->Prop)(K:KT)(S:St)(m:Mem):Prop:=
 ∃J:List Value->List (List Value)->List Value->Mem->Prop,
  x (λe S' m'=>match e with
   | .normal=>Zmk A.gh S'.gh S.gh (ZnT (Zcb S' A S.ids) (Zcb S A S.ids) (ZnU (Zbk S' A S.tkeys) (Zbk S A S.tkeys) (ZhN S' A.slots λxs=>ZtI S' A.boxes λcss=>ZgJ S' A.toks λtvs=>J (ghs A.gh S'.gh xs) css tvs m')))
   | e=>K e S' m') S m/\
  Zxb A.gh S.gh λg=>Shape.allL (A.slots.map (·.2)) λxs=>Zou A.boxes λcss=>Zov A.toks λtvs=>∀m':Mem,leT th m m'->J (ghs A.gh g xs) css tvs m'->y K (Zb4 S ds A g xs css tvs) m'
def Zhg:LoopAnn:=⟨[],[],[],false⟩
def Zyy(outs:List (Nat×Shape))(ds:List Nat)(body:(St->Mem->Prop)->St->Mem->Prop)(K:St->Mem->Prop)(S:St)(m:Mem):Prop:=
 Shape.exL (outs.map (·.2)) λxs=>(body (λS' _=>Zmk false S'.gh S.gh (ZnT (Zcb S' Zhg S.ids) (Zcb S Zhg S.ids) (ZnU (Zbk S' Zhg S.tkeys) (Zbk S Zhg S.tkeys) (ZhN S' outs λxs'=>xs'=xs)))) S m)/\
  K { S with env:=ZbY (λi=>bif ds.any (Nat.beq i ·)then none else S.env i) outs xs } m
def IX(P:Program)(g:FuncId)(first captured:List Value)(m:Mem)(xs:List (List Value)):Prop:=
 ZhM P g/\∀(p:Int->(Nat->Prop)->World->Prop),ZvQ p->∀(l:Nat)(w:World),Sub m w->p 0 (λ_=>False) w->
  Zmf P m p (λl' g v=>l'=l/\0<=g/\xs[g.toNat]?=some v)->
  Calls P g (first++.func (.yield l) #[] #[]::captured).toArray w λe w'=>∃v M,e=.returned v/\(∀k,M k->k < w'.heap.size)/\(p xs.length M w'\/p (-1) M w')
def Znm:List Nat->List Nat->Bool
 | [],[]=>true
 | a::l,b::l'=>Nat.beq a b&&Znm l l'
 | _,_=>false
def Zow(K:KT)(e:Exit)(S:St)(m:Mem):Prop:=match e with
 | .ret=>K .ret S m
 | .exit id=>K (.exit id) S m
 | .goto l=>K (.goto l) S m
 | _=>False
def Zyz(th:Bool)(m:Mem)(k:Mem->Prop):Prop:=bif th then ∃mi,Mem.le mi m/\k mi else k m
def Zyn(th:Bool)(mi m:Mem)(p:Prop):Prop:=bif th then(mi.le m/\p)else p
theorem Zsh{th:Bool}{m:Mem}{k:Mem->Prop}(h:Zyz th m k):∃mi:Mem,mi.le m/\(th=false->mi=m)/\k mi:=by
 cases th with
 | true=>obtain⟨mi,h1,h2⟩:=h;exact⟨mi,h1,λe=>(by cases e),h2⟩
 | false=>exact⟨m,Mem.le_refl m,λ_=>rfl,h⟩
theorem Zsi{th:Bool}{mi m:Mem}{p:Prop}(h:Zyn th mi m p):(th=true->mi.le m)/\p:=by
 cases th with
 | true=>exact⟨λ_=>h.1,h.2⟩
 | false=>exact⟨λe=>(by cases e),h⟩
theorem Zsj{th:Bool}{m:Mem}{k k':Mem->Prop}(h:∀mi:Mem,mi.le m->(th=false->mi=m)->k mi->k' mi)(hx:Zyz th m k):Zyz th m k':=by
 cases th with
 | true=>obtain⟨mi,h1,h2⟩:=hx;exact⟨mi,h1,h mi h1 (λe=>(by cases e)) h2⟩
 | false=>exact h m (Mem.le_refl m) (λ_=>rfl) hx
theorem Zsk{th:Bool}{mi m:Mem}{p q:Prop}(h:p->q)(hx:Zyn th mi m p):Zyn th mi m q:=by
 cases th with
 | true=>exact⟨hx.1,h hx.2⟩
 | false=>exact h hx
def Zox(th:Bool)(P:Program)(A:LoopAnn)(f:Operand)(ps:List Nat)(assign body:KT->St->Mem->Prop)(K:KT)(S:St)(m:Mem):Prop:=match S.ev f with
 | some (.v (.func (.func g) first captured))=>chk (Znm ps (A.slots.map (·.1))&&Zbl ps) (Zyz th m λmi=>∃xs:List (List Value),IX P g first.toList captured.toList mi xs/\(∀x∈xs,Shape.fitsL (A.slots.map (·.2)) x=true)/\
   ∃I:List Value->List (List Value)->List Value->Mem->Nat->Prop,
    (ZtI S A.boxes λcss=>ZgJ S A.toks λtvs=>I (ghs A.gh S.gh []) css tvs m 0)/\
    (Zxb A.gh S.gh λy=>Shape.allL (A.slots.map (·.2)) λx=>Zou A.boxes λcss=>Zov A.toks λtvs=>∀(m':Mem)(n:Nat),mi.le m'->xs[n]?=some x->I (ghs A.gh y []) css tvs m' n->
     assign (λe S1 m1=>match e with
      | .normal=>body (λe S' m''=>Zyn th mi m'' (Zmk A.gh S'.gh S.gh (ZnT (Zcb S' A S.ids) (Zcb S A S.ids) (ZnU (Zbk S' A S.tkeys) (Zbk S A S.tkeys) (ZtI S' A.boxes λcss'=>ZgJ S' A.toks λtvs'=>match e with
       | .normal=>I (ghs A.gh S'.gh []) css' tvs' m'' (n+1)
       | e=>Zow K e (Zb4 S [] { A with slots:=[] } S'.gh [] css' tvs') m''))))) S1 m1
      | _=>False) (Zb4 S [] A y x css tvs) m')/\
    (Zxb A.gh S.gh λy=>Zou A.boxes λcss=>Zov A.toks λtvs=>∀m':Mem,mi.le m'->I (ghs A.gh y []) css tvs m' xs.length->K .normal (Zb4 S [] { A with slots:=[] } y [] css tvs) m'))
 | _=>False
def Mem.cutA(m:Mem)(a:Option Addr)(o:Nat):Mem:=match a with
 | some ⟨b,_,_⟩=>λb' o'=>if b'=b/\o<=o' then none else m b' o'
 | none=>m
def Mem.addA(m:Mem)(a:Option Addr)(o:Nat)(zs:List Value):Mem:=match a with
 | some ⟨b,o0,_⟩=>m.addAt b (o0+o) zs
 | none=>m
def Zy7(m m0:Mem)(esz:Nat)(a:Option Addr)(n c:Nat):Prop:=
 (a=none/\n=0/\c=0)\/∃b,a=some ⟨b,0,none⟩/\n<=c/\0 < c*esz/\(∀o,o < c*esz->∃v,m b o=some v)/\m0.free b
def ZvT(E:Env)(kz:Option (Nat×Nat))(f:(St->Mem->Prop)->St->Mem->Prop)(K:St->Mem->Prop)(S:St)(m:Mem):Prop:=match kz with
 | none=>f K S m
 | some (key,esz)=>chk (E.thaw&&E.fix.isNone) (match E.m0 with
  | none=>False
  | some m0=>∃(a:Option Addr)(n c:Nat),Zy7 m m0 esz a n c/\(∀b,(Tok.mk (.slice a n c) esz).blk=some b->nfz S b S.ids (ntk S b [key] S.tkeys))/\
    f (λS' m'=>match S'.tok key with
     | none=>False
     | some t=>chk (Zcf t.v) (∀zs:List Value,zs.length=(slC t.v - slN t.v)*t.esz->K { S' with tok:=λk=>bif Nat.beq k key then none else S'.tok k } (m'.addA (slA t.v) (slN t.v*t.esz) zs)))
     {S with tok:=λk=>bif Nat.beq k key then some ⟨.slice a n c,esz⟩ else S.tok k,tkeys:=key::S.tkeys } (m.cutA a (n*esz)))
def W(E:Env)(Zbd:Nat->Array Oper->(St->Mem->Prop)->St->Mem->Prop):Code->KT->St->Mem->Prop
 | .skip,K,S,m=>K .normal S m
 | .label _,K,S,m=>K .normal S m
 | .region id ops draw,K,S,m=>match E.joins id with
  | none=>bif draw then Zbd id ops (K .normal) S m else ZvT E (E.acq id) (ZvM E ops (List.range ops.size)) (K .normal) S m
  | some outs=>Zyy outs (Zav ops.toList) (λk S m=>bif draw then(bif E.last id then False else Zbd id ops k S m)else ZvM E.cold ops (List.range ops.size) k S m) (K .normal) S m
 | .seq x y,K,S,m=>match E.cuts (ZaW y)with
  | none=>W E Zbd x (λe S' m'=>match e with
   | .normal=>W E Zbd y K S' m'
   | e=>K e S' m') S m
  | some A=>Zzm E.thaw A (Zjz x) (W E Zbd x) (W E Zbd y) K S m
 | .cond c x y,K,S,m=>wv S c λv=>chk (ZhK v) (br (ZcZ v) (W E Zbd x K S m) (W E Zbd y K S m))
 | .block id x,K,S,m=>W E Zbd x (λe S' m'=>match e with
  | .exit id'=>bif Nat.beq id' id then K .normal S' m' else K (.exit id') S' m'
  | e=>K e S' m') S m
 | .loop x,K,S,m=>Zyx E.thaw (E.loops (ZaW x)) (Zjz x) (W E Zbd x) K S m
 | .exit id,K,S,m=>K (.exit id) S m
 | .ret,K,S,m=>K .ret S m
 | .rangeFunc f ps x y,K,S,m=>Zox E.thaw E.P (E.loops (ZaW y)) f ps.toList (W E Zbd x) (W E Zbd y) K S m
 | .scope x,K,S,m=>W E Zbd x (λe S' m'=>match e with
  | .goto _=>False
  | e=>K e S' m') S m
 | _,_,_,_=>False
section
variable {C:Ctx} {S:St} {m:Mem} {a:Act} {w:World}
theorem Zd2{E:Env}(hE:E.ok){F:Fence}(hF:FOk F)(hY:YOk E C){ops:Array Oper}{o:Oper}(hd:∀t,o.dst=some t->t < C.n)(hr:Rel C S m a w){K:St->Mem->Prop}(h:opG E ops o S m K){n:Nat}{next:Act->World->Prop}{Q:Exit->Act->World->Prop}
  (hK:∀S' m' a' w',K S' m'->Rel C S' m' a' w'->next a' w'):
  if Region.wanted o (yielded ops a.tmps)then o.wpIn F n E.P a w next Q else(∀f,o.about E.P w a.eval=some f->F.fn f)/\next (a.put o.dst undef) w:=by
 have je:opW E S m o K->o.wpIn F n E.P a w next Q:=λhh=>by
  have ir:∀c,o.op≠.defer c:=λc e=>by
   obtain⟨dst,op,type,pos,after,guard⟩:=o
   simp only at e;subst e
   simp[opW,Zc8]at hh
  refine⟨λf _=>hF.fn f,?_⟩
  rw[Oper.semAt_eq _ _ _ ir]
  exact Zsf hE hF hY hd hr hh hK
 have jW:K (S.put o.dst (some (.v undef))) m->(∀f,o.about E.P w a.eval=some f->F.fn f)/\next (a.put o.dst undef) w:=λhh=>
  ⟨λf _=>hF.fn f,hK _ _ _ _ hh (hr.put o.dst hd rfl)⟩
 unfold opG at h
 cases hg:o.guard with
 | none=>
  simp only[hg]at h
  simp only[Region.wanted,hg,if_true]
  exact je h
 | some jw=>
  obtain⟨j,want⟩:=jw
  simp only[hg]at h
  cases hj:ops.toList[j]? with
  | none=>simp[hj]at h
  | some oj=>
   simp only[hj]at h
   have hj':ops[j]?=some oj:=by simpa using hj
   cases ht:oj.dst with
   | none=>simp[ht]at h
   | some t=>
    simp only[ht]at h
    cases he:S.env t with
    | none=>simp[he]at h
    | some sv=>
     cases sv with
     | loc id off=>simp[he]at h
     | sl id n' c=>simp[he]at h
     | v v=>
      simp only[he]at h
      obtain⟨v',h1,h2⟩:=hr.env t _ he
      simp only[St.den,Option.some.injEq]at h1
      subst h1
      cases hu:Zet v with
      | true=>
       simp only[hu,cond_true]at h
       have:Region.wanted o (yielded ops a.tmps)=false:=by
        cases v <;> simp[Zet]at hu
        simp[Region.wanted,hg,yielded,hj',ht,h2]
       simp only[this,Bool.false_eq_true,if_false]
       exact jW h
      | false=>
       simp only[hu,cond_false]at h
       obtain⟨h3,h4⟩:=Zag h
       obtain⟨b,rfl⟩:∃b,v=.bool b:=⟨_,Zb3 h3⟩
       have hw:Region.wanted o (yielded ops a.tmps)=(b == want):=by
        simp[Region.wanted,hg,yielded,hj',ht,h2]
       rw[hw]
       simp only[ZcZ]at h4
       cases b <;> cases want <;> simp only[br]at h4 <;> simp <;> first
        | exact je h4
        | exact jW h4
theorem Rel.refine{t:Nat}{v:Value}(hr:Rel C S m a w)(he:S.env t=some (.v v)):Rel C (S.put (some t) (some (.v v))) m a w:=by
 have:S.put (some t) (some (.v v))=S:=by
  unfold St.put
  have:(λi=>bif Nat.beq i t then some (SV.v v)else S.env i)=S.env:=by
   funext i
   by_cases hi:i=t
   ·subst hi;simp[he]
   ·simp[Zas hi]
  simp only[this]
 rw[this];exact hr
theorem Zjk{E:Env}(hE:E.ok){F:Fence}(hF:FOk F)(hY:YOk E C){ops:Array Oper}{o:Oper}(hd:∀t,o.dst=some t->t < C.n)(hr:Rel C S m a w){K:St->Mem->Prop}(h:Zxr E ops o S m K){n:Nat}{next:Act->World->Prop}{Q:Exit->Act->World->Prop}
  (hK:∀S' m' a' w',K S' m'->Rel C S' m' a' w'->next a' w'):
  if Region.wanted o (yielded ops a.tmps)then o.wpIn F n E.P a w next Q else(∀f,o.about E.P w a.eval=some f->F.fn f)/\next (a.put o.dst undef) w:=by
 unfold Zxr at h
 split at h
 ·exact Zd2 hE hF hY hd hr h hK
 ·rename_i t _
  split at h
  ·rename_i v he
   cases hu:Zet v with
   | true=>simp only[hu,cond_true]at h;exact Zd2 hE hF hY hd hr h hK
   | false=>
    simp only[hu,cond_false]at h
    obtain⟨h1,h2⟩:=Zag h
    obtain⟨b,rfl⟩:∃b,v=.bool b:=⟨_,Zb3 h1⟩
    have eT:=hr.refine he
    cases b
    ·exact Zd2 hE hF hY hd eT h2 hK
    ·exact Zd2 hE hF hY hd eT h2 hK
  ·exact h.elim
theorem Zc4{n:Nat}:∀{l:List Oper},Zmj n l=true->∀(i:Nat) o,l[i]?=some o->∀t,o.dst=some t->t < n
 | [],_,i,o,h,_,_=>by simp at h
 | x::l,hl,i,o,h,t,ht=>by
  simp only[Zmj,Bool.and_eq_true]at hl
  cases i with
  | zero=>
   simp at h;subst h
   simp[ZxZ,ht]at hl
   exact hl.1
  | succ i=>exact Zc4 hl.2 i o (by simpa using h) t ht
theorem Zjl{E:Env}(hE:E.ok){F:Fence}(hF:FOk F)(hY:YOk E C){ops:Array Oper}(bB:Zmj C.n ops.toList=true){n:Nat}{Q:Exit->Act->World->Prop}:∀(l:List Nat){K:St->Mem->Prop}{S:St}{m:Mem}{a:Act}{w:World},Rel C S m a w->ZvM E ops l K S m->
  (∀S' m' a' w',K S' m'->Rel C S' m' a' w'->Q .normal a' w')->wpOpsIn F n E.P ops Q l a w
 | [],K,S,m,a,w,hr,h,hK=>hK _ _ _ _ h hr
 | i::l,K,S,m,a,w,hr,h,hK=>by
  simp only[ZvM]at h
  cases ho:ops.toList[i]? with
  | none=>simp[ho]at h
  | some o=>
   simp only[ho]at h
   have ho':ops[i]?=some o:=by simpa using ho
   have:=Zjk hE hF hY (Zc4 bB i o ho) hr h (n:=n) (Q:=Q) (next:=wpOpsIn F n E.P ops Q l) (λS' m' a' w' hk bC=>Zjl hE hF hY bB l bC hk hK)
   simp only[wpOpsIn,ho']
   exact this
end
def SameOut(ds:List Nat)(S S':St):Prop:=∀i,i ∉ ds->S'.env i=S.env i
theorem SameOut.refl(ds:List Nat)(S:St):SameOut ds S S:=λ_ _=>rfl
theorem SameOut.trans{ds:List Nat}{a b c:St}(h:SameOut ds a b)(k:SameOut ds b c):SameOut ds a c:=λi hi=>(k i hi).trans (h i hi)
theorem SameOut.mono{ds ds':List Nat}{a b:St}(h:SameOut ds a b)(k:∀i,i∈ds->i∈ds'):SameOut ds' a b:=λi hi=>h i (λhm=>hi (k i hm))
theorem SameOut.put{ds:List Nat}{S S':St}(h:SameOut ds S S'){d:Option Tmp}(hd:∀t,d=some t->t∈ds)(x:Option SV):SameOut ds S (S'.put d x):=by
 cases d with
 | none=>exact h
 | some d=>
  intro i hi
  have cW:i≠d:=λe=>hi (e ▸ hd d rfl)
  simp[St.put,Zas cW,h i hi]
theorem Zig{b:Bool}{p q p' q':Prop}(h:p->p')(k:q->q')(x:br b p q):br b p' q':=by
 cases b
 ·exact k x
 ·exact h x
theorem Zaj{b:Bool}{p p':Prop}(h:p->p')(x:chk b p):chk b p':=Zig h id x
theorem ZaL{S:St}{x:Operand}{k k':Value->Prop}(h:∀v,k v->k' v)(hx:wv S x k):wv S x k':=by
 unfold wv at *
 split at hx
 ·exact h _ hx
 ·exact hx
theorem Zcz{S:St}:∀{l:List Operand} {k k':List Value->Prop},(∀v,k v->k' v)->wvs S l k->wvs S l k'
 | [],k,k',h,hx=>h _ hx
 | x::l,k,k',h,hx=>ZaL (λv hv=>Zcz (λvs dY=>h _ dY) hv) hx
theorem Zih{l:List Value}{n:Nat}{k k':Value->Prop}(h:∀v,k v->k' v)(hx:Zty l n k):Zty l n k':=by
 unfold Zty at *
 split at hx
 ·exact h _ hx
 ·exact hx
theorem Zq2:∀{n:Nat} {k k':List Value->Prop},(∀v,k v->k' v)->exN n k->exN n k'
 | 0,k,k',h,hx=>h _ hx
 | n+1,k,k',h,⟨v,hx⟩=>⟨v,Zq2 (λl hl=>h _ hl) hx⟩
theorem allL_mono:∀{n:Nat} {k k':List (List Value)->Prop},(∀v,k v->k' v)->allL n k->allL n k'
 | 0,k,k',h,hx=>h _ hx
 | n+1,k,k',h,hx=>λcs=>allL_mono (λl hl=>h _ hl) (hx cs)
mutual
theorem Shape.all_mono:∀(s:Shape){k k':Value->Prop},(∀v,k v->k' v)->s.all k->s.all k'
 | .any,k,k',h,hx=>by simp only[Shape.all]at *;exact λv=>h _ (hx v)
 | .int ki,k,k',h,hx=>by simp only[Shape.all]at *;exact λv=>h _ (hx v)
 | .bool,k,k',h,hx=>by simp only[Shape.all]at *;exact λv=>h _ (hx v)
 | .str,k,k',h,hx=>by simp only[Shape.all]at *;exact λv=>h _ (hx v)
 | .slice,k,k',h,hx=>by simp only[Shape.all]at *;exact λa n c=>h _ (hx a n c)
 | .agg l,k,k',h,hx=>by simp only[Shape.all]at *;exact Shape.allL_mono l (λvs dY=>h _ dY) hx
 | .tup l,k,k',h,hx=>by simp only[Shape.all]at *;exact Shape.allL_mono l (λvs dY=>h _ dY) hx
 | .fn,k,k',h,hx=>by simp only[Shape.all]at *;exact λg fi ca=>h _ (hx g fi ca)
 | .cells,k,k',h,hx=>by simp only[Shape.all]at *;exact λcs=>h _ (hx cs)
 | .ptr,k,k',h,hx=>by simp only[Shape.all]at *;exact λb o=>h _ (hx b o)
theorem Shape.allL_mono:∀(l:List Shape){k k':List Value->Prop},(∀v,k v->k' v)->Shape.allL l k->Shape.allL l k'
 | [],k,k',h,hx=>by simp only[Shape.allL]at *;exact h _ hx
 | s::l,k,k',h,hx=>by simp only[Shape.allL]at *;exact Shape.all_mono s (λv hv=>Shape.allL_mono l (λvs dY=>h _ dY) hv) hx
end
mutual
theorem Shape.ex_mono:∀(s:Shape){k k':Value->Prop},(∀v,k v->k' v)->s.ex k->s.ex k'
 | .any,k,k',h,hx=>by simp only[Shape.ex]at *;obtain⟨v,hx⟩:=hx;exact⟨v,h _ hx⟩
 | .int ki,k,k',h,hx=>by simp only[Shape.ex]at *;obtain⟨v,hx⟩:=hx;exact⟨v,h _ hx⟩
 | .bool,k,k',h,hx=>by simp only[Shape.ex]at *;obtain⟨v,hx⟩:=hx;exact⟨v,h _ hx⟩
 | .str,k,k',h,hx=>by simp only[Shape.ex]at *;obtain⟨v,hx⟩:=hx;exact⟨v,h _ hx⟩
 | .slice,k,k',h,hx=>by simp only[Shape.ex]at *;obtain⟨a,n,c,hx⟩:=hx;exact⟨a,n,c,h _ hx⟩
 | .agg l,k,k',h,hx=>by simp only[Shape.ex]at *;exact Shape.exL_mono l (λvs dY=>h _ dY) hx
 | .tup l,k,k',h,hx=>by simp only[Shape.ex]at *;exact Shape.exL_mono l (λvs dY=>h _ dY) hx
 | .fn,k,k',h,hx=>by simp only[Shape.ex]at *;obtain⟨g,fi,ca,hx⟩:=hx;exact⟨g,fi,ca,h _ hx⟩
 | .cells,k,k',h,hx=>by simp only[Shape.ex]at *;obtain⟨cs,hx⟩:=hx;exact⟨cs,h _ hx⟩
 | .ptr,k,k',h,hx=>by simp only[Shape.ex]at *;obtain⟨b,o,hx⟩:=hx;exact⟨b,o,h _ hx⟩
theorem Shape.exL_mono:∀(l:List Shape){k k':List Value->Prop},(∀v,k v->k' v)->Shape.exL l k->Shape.exL l k'
 | [],k,k',h,hx=>by simp only[Shape.exL]at *;exact h _ hx
 | s::l,k,k',h,hx=>by simp only[Shape.exL]at *;exact Shape.ex_mono s (λv hv=>Shape.exL_mono l (λvs dY=>h _ dY) hv) hx
end
theorem Zsl{op:BinOp}{k:IntKind}{a b:Int}{r r':Value->Prop}(h:∀v,r v->r' v)(x:Zw5 op k a b r):Zw5 op k a b r':=by
 cases op <;> simp only[Zw5]at * <;> first
  | exact h _ x
  | exact⟨x.1,h _ x.2⟩
  | exact x
theorem Zoy{op:BinOp}{k:IntKind}{a b:Int}{r r':Value->Prop}(h:∀v,r v->r' v)(x:ZkX op k a b r):ZkX op k a b r':=by
 cases op <;> simp only[ZkX]at * <;> first
  | exact⟨x.1,h _ x.2⟩
  | exact x
theorem Zsm{op:BinOp}{a b:ByteArray}{r r':Value->Prop}(h:∀v,r v->r' v)(x:Zw6 op a b r):Zw6 op a b r':=by
 cases op <;> simp only[Zw6]at * <;> first
  | exact h _ x
  | exact⟨x.1,h _ x.2⟩
  | exact x
theorem Zk6{op:BinOp}{b:Bool}{r r':Value->Prop}(h:∀v,r v->r' v)(x:Ztz op b r):Ztz op b r':=by
 cases op <;> simp only[Ztz]at * <;> first
  | exact h _ x
  | exact x
theorem Zoz{E:Env}{op:BinOp}{T:TypeId}{x y:Value}{r r':Value->Prop}(h:∀v,r v->r' v)(hx:Zw1 E op T x y r):Zw1 E op T x y r':=by
 unfold Zw1 at *
 cases ht:E.tt T with
 | none=>simp[ht]at hx
 | some i=>
  simp only[ht]at *
  cases hd:i.d <;> simp only[hd]at * <;> first
   | exact hx.elim
   | exact Zaj (λy=>Zsm h y) hx
   | exact Zaj (Zk6 h) hx
   | exact Zaj (λ⟨b,hb,y⟩=>⟨b,hb,Zk6 h y⟩) hx
   | (cases hs:Zkl op <;> simp only[hs,cond_true,cond_false]at * <;> first
     | exact Zaj (Zsl h) hx
     | exact Zaj (Zoy h) hx)
theorem Zml{place:Nat->Option (Nat×Nat)}:∀{parts:List (Nat×Value)} {cs:List Value} {k k':List Value->Prop},(∀v,k v->k' v)->ZnR place cs parts k->ZnR place cs parts k'
 | [],cs,k,k',h,hx=>h _ hx
 | (i,v)::rest,cs,k,k',h,hx=>by
  simp only[ZnR]at *
  cases hp:place i with
  | none=>simp[hp]at hx
  | some os=>simp only[hp]at *;exact Zaj (Zml h) hx
theorem ZbN{x:Option Value}{d y:Nat}{r r':Nat->Prop}(h:∀v,r v->r' v)(hx:Zh4 x d y r):Zh4 x d y r':=by
 cases x with
 | none=>exact h _ hx
 | some v=>exact Zaj (λ⟨a,b⟩=>⟨a,h _ b⟩) hx
theorem Zk7{S:St}{x:Option Operand}{r r':Option Value->Prop}(h:∀v,r v->r' v)(hx:Zw8 S x r):Zw8 S x r':=by
 cases x with
 | none=>exact h _ hx
 | some v=>exact ZaL (λv hv=>h _ hv) hx
theorem Zkp{E:Env}{T:TypeId}{v:Value}{lo hi mx:Option Value}{r r':Value->Prop}(h:∀v,r v->r' v)(hx:ZjD E T v lo hi mx r):ZjD E T v lo hi mx r':=by
 unfold ZjD at *
 cases he:Zje E T with
 | some sz=>simp only[he]at *;exact Zaj (λy=>ZbN (λm y=>ZbN (λh' y=>ZbN (λl y=>Zaj (h _) y) y) y) y) hx
 | none=>
  simp only[he]at *
  cases hs:ZfN E T <;> simp only[hs,cond_true,cond_false]at *
  exact Zaj (λy=>ZbN (λh' y=>ZbN (λl y=>h _ y) y) y) hx
theorem Zmm{E:Env}{S:St}{o:Oper}{k k':SV->Prop}(h:∀v,k v->k' v)(hx:Zc8 E S o k):Zc8 E S o k':=by
 obtain⟨dst,op,type,pos,after,guard⟩:=o
 cases op <;> simp only[Zc8]at * <;> try exact hx.elim
 case unOp op T x=>
  refine ZaL (λv y=>?_) hx
  cases op <;> simp only at *
  ·split at y <;> first|exact Zaj (h _) y|exact y.elim
  ·split at y <;> first|exact Zaj (h _) y|exact y.elim
  ·exact Zaj (h _) y
 case binOp=>exact ZaL (λv y=>ZaL (λv' y=>Zoz (λr y=>h _ y) y) y) hx
 case convert=>
  refine ZaL (λv y=>?_) hx
  unfold Zr8 at *
  (repeat' split at y) <;> first|exact y.elim|exact Zaj (h _) y
 case makeFunc=>exact Zcz (λv y=>Zcz (λv' y=>h _ y) y) hx
 case fieldAddr=>
  (repeat' split at hx) <;> first|exact hx.elim|exact h _ hx|exact Zaj (h _) hx
 case indexAddr=>
  refine ZaL (λv y=>Zaj (λy=>?_) y) hx
  split at y
  ·exact y.elim
  ·refine⟨y.1,?_⟩
   have y2:=y.2
   (repeat' split at y2) <;> first|exact y2.elim|exact h _ y2|exact Zaj (h _) y2
  ·(repeat' split at y) <;> first
    | exact y.elim
    | exact⟨y.1,h _ y.2⟩
    | exact Zaj (λ⟨b,o,h1,h2,h3⟩=>⟨b,o,h1,h2,h _ h3⟩) y
 case index=>
  refine ZaL (λv y=>ZaL (λv' y=>Zaj (λy=>?_) y) y) hx
  cases hs:ZfN E _ <;> simp only[hs,cond_true,cond_false]at *
  ·split at y
   ·exact Zaj (λ⟨a,b⟩=>⟨a,Zih (λu hu=>h _ hu) b⟩) y
   ·exact y.elim
  ·exact Zaj (λ⟨a,b⟩=>⟨a,h _ b⟩) y
 case build=>
  split at hx
  ·exact hx.elim
  ·exact Zcz (λvs y=>Zml (λr y=>h _ y) y) hx
 case extract=>exact ZaL (λv y=>Zaj (λy=>Zih (λu hu=>h _ hu) y) y) hx
 case makeInterface=>exact ZaL (λv y=>Zaj (h _) y) hx
 case nilCheck=>(repeat' split at hx) <;> first|exact hx.elim|exact h _ hx|exact Zaj (h _) hx
 case slice=>exact ZaL (λv y=>Zk7 (λl y=>Zk7 (λh' y=>Zk7 (λm y=>Zkp (λr y=>h _ y) y) y) y) y) hx
 case call c=>
  split at hx
  ·split at hx
   ·refine ZaL (λv y=>?_) hx
    unfold Zxp at *
    (repeat' split at y) <;> first|exact y.elim|exact Zaj (h _) y|exact h _ y
   ·exact hx.elim
  ·split at hx
   ·refine ZaL (λv y=>ZaL (λv' y=>?_) y) hx
    split at y
    ·exact Zaj (h _) y
    ·exact y.elim
   ·exact hx.elim
  ·split at hx
   ·refine ZaL (λv y=>ZaL (λv' y=>?_) y) hx
    split at y
    ·exact Zaj (h _) y
    ·exact y.elim
   ·refine ZaL (λv y=>ZaL (λv' y=>ZaL (λv'' y=>?_) y) y) hx
    split at y
    ·exact Zaj (h _) y
    ·exact y.elim
   ·exact hx.elim
  ·exact hx.elim
def dl(d:Option Tmp):List Nat:=match d with
 | none=>[]
 | some t=>[t]
theorem Zxs{d:Option Tmp}{t:Nat}(h:d=some t):t∈dl d:=by subst h;simp[dl]
theorem ZcT(S:St)(d:Option Tmp)(x:Option SV):SameOut (dl d) S (S.put d x):=(SameOut.refl _ S).put (λt ht=>Zxs ht) x
theorem ZdK{ds:List Nat}{S S':St}(h:S'.env=S.env):SameOut ds S S':=λi _=>by rw[h]
theorem Zii{i:TI}{m:Mem}{b o:Nat}{k k':Value->Prop}(h:∀v,k v->k' v)(hx:Zdd i m b o k):Zdd i m b o k':=by
 unfold Zdd at *
 cases ha:i.agg <;> simp only[ha,cond_true,cond_false]at *
 ·obtain⟨v,h1,h2⟩:=hx;exact⟨v,h1,h _ h2⟩
 ·cases hb:Nat.ble i.size 16 <;> simp only[hb,cond_true,cond_false]at *
  ·obtain⟨vs,h1,h2,h3⟩:=hx;exact⟨vs,h1,h2,h _ h3⟩
  ·exact Zq2 (λvs ⟨a,b⟩=>⟨a,h _ b⟩) hx
theorem Zd3{i:TI}{x:Box}{off:Nat}{k k':Value->Prop}(h:∀v,k v->k' v)(hx:ZcR i x off k):ZcR i x off k':=by
 unfold ZcR at *
 cases ha:i.agg <;> simp only[ha,cond_true,cond_false]at *
 ·exact Zih h hx
 ·cases hb:(x.full&&(Nat.beq x.cap i.size&&Nat.beq off 0)) <;> simp only[hb,cond_true,cond_false]at *
  ·exact Zaj (h _) hx
  ·exact h _ hx
theorem ZgK{E:Env}{S:St}{m:Mem}{T:TypeId}{x:Operand}{k k':Value->Prop}(h:∀v,k v->k' v)(hx:ZgH E S m T x k):ZgH E S m T x k':=by
 unfold ZgH at *
 split at hx
 ·exact hx.elim
 ·split at hx
  ·split at hx
   ·exact hx.elim
   ·exact Zd3 h hx
  ·split at hx
   ·exact Zaj (Zii h) hx
   ·split at hx
    ·exact hx.elim
    ·exact Zaj (λ⟨a,b⟩=>⟨a,Zd3 h b⟩) hx
  ·exact hx.elim
theorem Zmn{E:Env}{S:St}{m:Mem}{T:TypeId}{id:Nat}{vd vs:Value}{k k':Int->St->Prop}(h:∀n S',S'.env=S.env->k n S'->k' n S')(hx:ZpV E S m T id vd vs k):ZpV E S m T id vd vs k':=by
 unfold ZpV at *
 split at hx
 ·exact hx.elim
 ·split at hx
  ·exact hx.elim
  ·exact Zaj (λg hf=>by
   obtain⟨o,xs,h1,h2,h3,h4,h5,h6⟩:=g hf
   exact⟨o,xs,h1,h2,h3,h4,h5,h _ _ rfl h6⟩) hx
theorem Zhh{E:Env}{S:St}{T:TypeId}{x:Operand}{v:Value}{k k':St->Prop}(h:∀S',S'.env=S.env->k S'->k' S')(hx:ZhL E S T x v k):ZhL E S T x v k':=by
 unfold ZhL at *
 split at hx
 ·exact hx.elim
 ·split at hx
  ·split at hx
   ·exact hx.elim
   ·refine Zaj (λy=>?_) hx
    cases hb:(_&&(Nat.beq _ _&&Nat.beq _ 0)) <;> simp only[hb,cond_true,cond_false]at *
    ·exact Zaj (h _ rfl) y
    ·exact h _ rfl y
  ·split at hx
   ·exact hx.elim
   ·split at hx
    ·exact hx.elim
    ·exact Zaj (λ⟨a,b,c⟩=>⟨a,b,h _ rfl c⟩) hx
  ·exact hx.elim
theorem ZoA(S:St)(ids:List Nat)(bxs:List Box)(css:List (List Value)):(Zc9 S ids bxs css).env=S.env:=by
 rw[Zde]
theorem ZoB{E:Env}{S:St}{m:Mem}{rt:TypeId}{g:FuncId}{args:List Value}{key esz:Nat}{K K':Value->St->Mem->Prop}(h:∀v S' m',S'.env=S.env->m.le m'->K v S' m'->K' v S' m')(hx:Zr9 E S m rt g args key esz K):Zr9 E S m rt g args key esz K':=by
 obtain⟨R,h1,h2,h3⟩:=hx
 exact⟨R,h1,h2,Shape.all_mono _ (λv y m' hm hr=>h v _ m' rfl hm (y m' hm hr)) h3⟩
theorem Zmo{E:Env}{S:St}{m:Mem}{rt:TypeId}{g:FuncId}{args:List Value}{ids:List Nat}{K K':Value->St->Mem->Prop}(h:∀v S' m',S'.env=S.env->m.le m'->K v S' m'->K' v S' m')(hx:ZnS E S m rt g args ids K):ZnS E S m rt g args ids K':=by
 unfold ZnS at *
 split at hx
 ·exact hx.elim
 ·refine Zaj (λ⟨R,h0,h1,h2,h3⟩=>⟨R,h0,h1,h2,Shape.all_mono _ (λv y m' hm=>allL_mono (λcss y hR=>h _ _ _ (ZoA _ _ _ _) hm (y hR)) (y m' hm)) h3⟩) hx
theorem Zkq{E:Env}{S:St}{m:Mem}{rt:TypeId}{g:FuncId}{args:List Value}{ids:List Nat}{ks:List (Nat×Nat)}{K K':Value->St->Mem->Prop}(h:∀v S' m',S'.env=S.env->K v S' m'->K' v S' m')(hx:ZjE E S m rt g args ids ks K):ZjE E S m rt g args ids ks K':=by
 unfold ZjE at *
 split at hx
 ·exact hx.elim
 ·split at hx
  ·exact hx.elim
  ·exact Zaj (λ⟨Y,R,h1,h2,h3,h4,h5⟩=>⟨Y,R,h1,h2,h3,h4,Shape.all_mono _ (λv y m' hm hn=>allL_mono (λcss y=>Zjj (λtvs y hR=>h _ _ _ (ZoA S _ _ _) (y hR)) y) (y m' hm hn)) h5⟩) hx
theorem ZjF{S:St}{m:Mem}{x:Operand}{k k':Value->Prop}(h:∀v,k v->k' v)(hx:Zfe S m x k):Zfe S m x k':=by
 unfold Zfe at *
 split at hx
 ·split at hx
  ·exact hx.elim
  ·obtain⟨bs,h1,h2,h3⟩:=hx
   exact⟨bs,h1,h2,h _ h3⟩
 ·exact ZaL (λv y=>Zaj (λ⟨bs,h1,h2,h3⟩=>⟨bs,h1,h2,h _ h3⟩) y) hx
theorem Zsn{E:Env}{rt:TypeId}{g:FuncId}{args:List Value}{K K':Value->Int->Prop}{S:St}{m:Mem}(h:∀v gh,K v gh->K' v gh)(hx:ZxW E rt g args K S m):ZxW E rt g args K' S m:=by
 unfold ZxW at *
 split at hx
 ·exact hx.elim
 ·obtain⟨l,xs,go,stop,h1,h2,h3,h4⟩:=hx
  exact⟨l,xs,go,stop,h1,h2,h3,Shape.all_mono _ (λv hv=>⟨λhg=>h _ _ (hv.1 hg),λhs=>h _ _ (hv.2 hs)⟩) h4⟩
theorem Zij{E:Env}{S:St}{m:Mem}{T xT:TypeId}{key:Nat}{vs vx:Value}{K K':Value->(Nat->Option Tok)->Mem->Prop}(h:∀v tk m',m.le m'->K v tk m'->K' v tk m')(hx:Zf9 E S m T xT key vs vx K):Zf9 E S m T xT key vs vx K':=by
 unfold Zf9 at *
 split at hx
 ·exact hx.elim
 ·split at hx
  ·exact hx.elim
  ·have hb:∀{j:TI},Zw2 E S m j key vs vx K->Zw2 E S m j key vs vx K':=λ⟨ht,xs,ys,a1,a2,a3,a4,a5,a6,a7,a8⟩=>⟨ht,xs,ys,a1,a2,a3,a4,a5,a6,a7,λa' c' m' h1 h2=>Zop (h _ _ _ h1) (a8 a' c' m' h1 h2)⟩
   refine Zaj (λy=>?_) hx
   cases gt:E.tails with
   | false=>rw[gt]at y;exact hb y
   | true=>rw[gt]at y;exact Zig (Zaj (h _ _ _ (Mem.le_refl m))) hb y
def ZoC(E:Env)(o:Oper):Prop:=(∀T x y,o.op=.store T x y->Zos E x=none)/\(∀f as ats,o.op=.call ⟨.value f,as,ats⟩->Zfc E o.dst=none)
theorem Zum(E:Env)(o:Oper):E.thaw=true\/ZoC E o:=by
 cases h:E.thaw with
 | true=>exact .inl rfl
 | false=>exact .inr ⟨λT x y _=>by simp[Zos,h],λ_ _ _ _=>by simp[Zfc,h]⟩
theorem Zn0{th:Bool}{E:Env}{S:St}{m:Mem}{o:Oper}(iu:th=true\/ZoC E o){K K':St->Mem->Prop}(h0:∀S' m',SameOut (dl o.dst) S S'->leT th m m'->K S' m'->K' S' m')(hx:opW E S m o K):opW E S m o K':=by
 have h:∀S' m',SameOut (dl o.dst) S S'->m.le m'->K S' m'->K' S' m':=λS' m' hs hm=>h0 S' m' hs (.of hm)
 have hp:∀x,K (S.put o.dst x) m->K' (S.put o.dst x) m:=λx=>h _ _ (ZcT S _ x) (Mem.le_refl m)
 have fJ:∀(S1:St) x m',S1.env=S.env->m.le m'->K (S1.put o.dst x) m'->K' (S1.put o.dst x) m':=λS1 x m' he hm=>h _ _ ((ZdK he).trans (ZcT S1 _ x)) hm
 obtain⟨dst,op,type,pos,after,guard⟩:=o
 simp only at hp fJ
 have eJ:∀(o:Oper),o.dst=dst->Zc8 E S o (λsv=>K (S.put dst (some sv)) m)->Zc8 E S o (λsv=>K' (S.put dst (some sv)) m):=λo ho y=>Zmm (λsv y=>hp _ y) y
 cases op with
 | move x=>exact hp _ hx
 | assign x=>exact hp _ hx
 | pick c x y=>exact ZaL (λv y=>Zaj (λy=>Zig (hp _) (hp _) y) y) hx
 | load T x=>
  simp only[opW]at hx ⊢
  cases mg:ZqZ E dst with
  | none=>simp only[mg]at hx ⊢;exact ZgK (λv y=>hp _ y) hx
  | some y=>
   simp only[mg]at hx ⊢
   cases cI:E.fix with
   | some f=>simp[cI]at hx
   | none=>
    simp only[cI,Option.isSome_none,cond_false]at hx ⊢
    exact ZgK (λv y=>Zuk (λv y=>hp _ y) y) hx
 | store T x y=>
  refine ZaL (λv y=>?_) hx
  cases jW:Zos E x with
  | none=>
   simp only[jW]at y ⊢
   exact Zhh (λS' he y=>fJ S' _ _ he (Mem.le_refl m) y) y
  | some key=>
   simp only[jW]at y ⊢
   have iu:th=true:=by
    rcases iu with h|h
    ·exact h
    ·have:=h.1 T x _ rfl;rw[jW]at this;cases this
   cases cI:E.fix with
   | some f=>simp[cI]at y
   | none=>
    simp only[cI,Option.isSome_none,cond_false]at y ⊢
    unfold Zib at *
    refine ZaL (λp y=>?_) y
    split at y
    ·exact y.elim
    ·split at y
     ·split at y
      ·exact y.elim
      ·exact Zaj (λ⟨y1,y2,y3,y4⟩=>⟨y1,y2,y3,Zk3 (h0 _ _ (ZcT S _ _) (by rw[iu];trivial)) y4⟩) y
     ·exact Zaj (λ⟨y1,y2,y3⟩=>⟨y1,y2,h0 _ _ (ZcT S _ _) (by rw[iu];trivial) y3⟩) y
 | alloc T=>
  simp only[opW,Zsb]at *
  split at hx
  ·exact hx.elim
  ·split at hx
   ·exact hx.elim
   ·split at hx
    ·exact hx.elim
    ·exact λb=>fJ _ _ _ rfl (Mem.le_refl m) (hx b)
 | box T x=>
  refine ZaL (λv y=>?_) hx
  simp only at y ⊢
  cases lq:Zg9 E dst with
  | true=>
   simp only[lq,cond_true]at y ⊢
   cases cI:E.fix with
   | some f=>simp[cI]at y
   | none=>
    simp only[cI,Option.isSome_none,cond_false,Zw9]at y ⊢
    split at y
    ·exact y.elim
    ·split at y
     ·exact y.elim
     ·split at y
      ·exact y.elim
      ·exact Zaj (λy b m' hm hb=>Zp6 (fJ _ _ _ rfl hm) (y b m' hm hb)) y
  | false=>
  simp only[lq,cond_false]at y ⊢
  simp only[Zyw]at *
  split at y
  ·exact y.elim
  ·split at y
   ·exact y.elim
   ·split at y
    ·exact y.elim
    ·exact Zaj (λy b=>fJ _ _ _ rfl (Mem.le_refl m) (y b)) y
 | buildSlice T len parts=>
  cases gY:Zdz E dst with
  | some ke=>
   simp only[opW,gY]at hx ⊢
   cases cI:E.fix with
   | some f=>simp[cI]at hx
   | none=>
    simp only[cI,Option.isSome_none,cond_false]at hx ⊢
    split at hx
    ·simp only[Znh]at hx ⊢
     split at hx
     ·exact hx.elim
     ·split at hx
      ·exact hx.elim
      ·exact ZaL (λv y=>ZaL (λv' y=>Zaj (λ⟨a,y⟩=>⟨a,λb=>Zq1 (fJ _ _ _ rfl (Mem.le_refl m)) (y b)⟩) y) y) hx
    ·exact hx.elim
  | none=>
  simp only[opW,gY,Zfd]at hx ⊢
  split at hx
  ·exact hx.elim
  ·split at hx
   ·exact hx.elim
   ·split at hx
    ·split at hx
     ·exact hx.elim
     ·split at hx
      ·exact hx.elim
      ·exact Zaj (λy=>Zcz (λvs y=>Zaj (λy b hf=>fJ _ _ _ rfl (Mem.le_add hf _) (y b hf)) y) y) hx
    ·exact hx.elim
 | makeSlice T l c=>
  simp only[opW]at hx ⊢
  cases gY:Zdz E dst with
  | none=>
   simp only[gY]at hx ⊢
   cases kB:ZtH E dst with
   | true=>
    simp only[kB,cond_true]at hx ⊢
    cases cI:E.fix with
    | some f=>simp[cI]at hx
    | none=>
     simp only[cI,Option.isSome_none,cond_false,Zsd]at hx ⊢
     split at hx
     ·exact hx.elim
     ·split at hx
      ·exact hx.elim
      ·exact ZaL (λv y=>ZaL (λv' y=>Zaj (λ⟨a,y⟩=>⟨a,λb hf=>fJ _ _ _ rfl (Mem.le_add hf _) (y b hf)⟩) y) y) hx
   | false=>
   simp only[kB,cond_false,Zvz]at hx ⊢
   split at hx
   ·exact hx.elim
   ·split at hx
    ·exact hx.elim
    ·split at hx
     ·exact hx.elim
     ·exact ZaL (λv y=>ZaL (λv' y=>Zaj (λ⟨a,y⟩=>⟨a,λb=>fJ _ _ _ rfl (Mem.le_refl m) (y b)⟩) y) y) hx
  | some ke=>
   simp only[gY]at hx ⊢
   cases cI:E.fix with
   | some f=>simp[cI]at hx
   | none=>
    simp only[cI,Option.isSome_none,cond_false,Znh]at hx ⊢
    split at hx
    ·exact hx.elim
    ·split at hx
     ·exact hx.elim
     ·exact ZaL (λv y=>ZaL (λv' y=>Zaj (λ⟨a,y⟩=>⟨a,λb=>Zq1 (fJ _ _ _ rfl (Mem.le_refl m)) (y b)⟩) y) y) hx
 | convert s d x=>
  simp only[opW]at *
  cases hb:Zhf E s d <;> simp only[hb,cond_true,cond_false]at *
  ·cases fB:Zc2 E s d <;> simp only[fB,cond_true,cond_false]at *
   ·cases na:Zc3 E s d <;> simp only[na,cond_true,cond_false]at *
    ·exact eJ _ rfl hx
    ·cases cI:E.fix with
     | some f=>simp[cI]at hx
     | none=>
      simp only[cI,Option.isSome_none,cond_false]at hx ⊢
      exact ZjF (λv y=>hp _ y) hx
   ·cases cI:E.fix with
    | some f=>simp[cI]at hx
    | none=>
     simp only[cI,Option.isSome_none,cond_false]at hx ⊢
     exact ZaL (λv y=>Zaj (λy b c hf hc=>fJ _ _ _ rfl (Mem.le_add hf _) (y b c hf hc)) y) hx
  ·split at hx
   ·exact hp _ hx
   ·exact hx.elim
 | call c=>
  obtain⟨callee,args,argTypes⟩:=c
  cases callee with
  | value f=>
   simp only[opW]at *
   refine Zk2 (λS2 m2 dF aY hx=>?_) hx
   simp only[Zvy]at hx ⊢
   split at hx
   ·cases je:Zq0 E dst with
    | true=>
     simp only[je,cond_true]at hx ⊢
     cases cI:E.fix with
     | some f=>simp[cI]at hx
     | none=>
      simp only[cI,Option.isSome_none,cond_false]at hx ⊢
      exact Zcz (λvs y=>Zsa (λS' sv he y=>fJ S' _ _ (he.trans dF) aY y) y) hx
    | false=>
    simp only[je,cond_false]at hx ⊢
    cases il:Zfc E dst with
    | some ks=>
     simp only[il]at hx ⊢
     have iu:th=true:=by
      rcases iu with h|h
      ·exact h
      ·have:=h.2 _ _ _ rfl;simp only at this;rw[il]at this;cases this
     cases cI:E.fix with
     | some f=>simp[cI]at hx
     | none=>
      simp only[cI,Option.isSome_none,cond_false]at hx ⊢
      exact Zcz (λvs y=>Zkq (λv S' m' he y=>h0 _ _ ((ZdK (he.trans dF)).trans (ZcT S' _ _)) (by rw[iu];trivial) y) y) hx
    | none=>
    simp only[il]at hx ⊢
    cases mh:ZtD E dst with
    | true=>
     simp only[mh,cond_true]at hx ⊢
     cases cI:E.fix with
     | some f=>simp[cI]at hx
     | none=>
      simp only[cI,Option.isSome_none,cond_false]at hx ⊢
      exact Zcz (λvs y=>Zsn (λv gh y=>fJ _ _ _ dF aY y) y) hx
    | false=>
    simp only[mh,cond_false]at hx ⊢
    split at hx
    ·exact Zcz (λvs y=>Zmo (λv S' m' he hm y=>fJ S' _ _ (he.trans dF) (mLt aY hm) y) y) hx
    ·cases cI:E.fix with
     | some f=>simp[cI]at hx
     | none=>
      simp only[cI,Option.isSome_none,cond_false]at hx ⊢
      split at hx
      ·exact Zcz (λvs y=>ZoB (λv S' m' he hm y=>fJ S' _ _ (he.trans dF) (mLt aY hm) y) y) hx
      ·exact hx.elim
   ·cases cI:E.fix with
    | some f=>simp[cI]at hx
    | none=>
     simp only[cI,Option.isSome_none,cond_false]at hx ⊢
     split at hx
     ·exact Zcz (λvs ⟨y1,y2,y3⟩=>⟨y1,fJ _ _ _ dF aY y2,fJ _ _ _ dF aY y3⟩) hx
     ·exact hx.elim
   ·exact hx.elim
  | invoke r mm=>
   simp only[opW]at *
   exact eJ _ rfl hx
  | builtin b=>
   cases b with
   | append=>
    simp only[opW]at *
    split at hx
    ·exact Zk2 (λS2 m2 dF aY hx=>ZaL (λv y=>ZaL (λv' y=>Zij (λv tk m' hm y=>fJ _ _ _ dF (mLt aY hm) y) y) y) hx) hx
    ·exact hx.elim
   | copy=>
    simp only[opW]at *
    split at hx
    ·split at hx
     ·exact hx.elim
     ·exact ZaL (λv y=>ZaL (λv' y=>Zmn (λn S' he y=>fJ S' _ _ he (Mem.le_refl m) y) y) y) hx
    ·exact hx.elim
   | _=>
    simp only[opW]at *
    exact eJ _ rfl hx
 | _=>
  simp only[opW]at *
  exact eJ _ rfl hx
theorem Zhi{th:Bool}{E:Env}{ops:Array Oper}{S:St}{m:Mem}{o:Oper}(iu:th=true\/ZoC E o){K K':St->Mem->Prop}(h:∀S' m',SameOut (dl o.dst) S S'->leT th m m'->K S' m'->K' S' m')(hx:opG E ops o S m K):opG E ops o S m K':=by
 unfold opG at *
 have hs:K (S.put o.dst (some (.v undef))) m->K' (S.put o.dst (some (.v undef))) m:=h _ _ (ZcT S _ _) (leT.refl _ m)
 split at hx
 ·exact Zn0 iu h hx
 ·split at hx
  ·exact hx.elim
  ·split at hx
   ·exact hx.elim
   ·split at hx
    ·rename_i v _
     cases hu:Zet v <;> simp only[hu,cond_true,cond_false]at *
     ·refine Zaj (λy=>?_) hx
      split at y
      ·exact Zig (Zn0 iu h) hs y
      ·exact Zig hs (Zn0 iu h) y
     ·exact hs hx
    ·exact hx.elim
theorem Zbb:∀{l:List Oper} {i:Nat} {o:Oper} {t:Nat},l[i]?=some o->o.dst=some t->t∈Zav l
 | [],i,o,t,h,_=>by simp at h
 | x::l,0,o,t,h,ht=>by simp at h;subst h;simp[Zav,ht]
 | x::l,i+1,o,t,h,ht=>by
  have:=Zbb (l:=l) (by simpa using h) ht
  simp only[Zav]
  cases x.dst with
  | none=>exact this
  | some d=>simp[this]
theorem Zk8{ops:Array Oper}{o:Oper}{t:Nat}(h:ZgI ops o=some t):t∈Zav ops.toList:=by
 unfold ZgI at h
 split at h
 ·cases h
 ·split at h
  ·cases h
  ·rename_i hj;exact Zbb hj h
theorem Zk9{E:Env}{ops:Array Oper}{S:St}{m:Mem}{o:Oper}(ho:∀t,o.dst=some t->t∈Zav ops.toList){K K':St->Mem->Prop}(h:∀S' m',SameOut (Zav ops.toList) S S'->leT E.thaw m m'->K S' m'->K' S' m')(hx:Zxr E ops o S m K):Zxr E ops o S m K':=by
 have hm:∀{S':St},SameOut (dl o.dst) S S'->SameOut (Zav ops.toList) S S':=λhs=>hs.mono λq hq=>by
  cases hd:o.dst with
  | none=>simp[hd,dl]at hq
  | some t=>simp[hd,dl]at hq;subst hq;exact ho _ hd
 unfold Zxr at *
 split at hx
 ·exact Zhi (Zum E o) (λS' m' hs hm' y=>h _ _ (hm hs) hm' y) hx
 ·rename_i t ht
  have lu:=Zk8 ht
  have hb:∀b:Bool,opG E ops o (S.put (some t) (some (.v (.bool b)))) m K->opG E ops o (S.put (some t) (some (.v (.bool b)))) m K':=λb=>Zhi (Zum E o) (λS' m' hs hm' y=>h _ _ (by
   have h1:SameOut (Zav ops.toList) S (S.put (some t) (some (.v (.bool b)))):=(SameOut.refl _ S).put (λt' e=>by cases e;exact lu) _
   refine h1.trans (hs.mono λq hq=>?_)
   cases hd:o.dst with
   | none=>simp[hd,dl]at hq
   | some t=>simp[hd,dl]at hq;subst hq;exact ho _ hd) hm' y)
  split at hx
  ·rename_i v _
   cases hu:Zet v with
   | true=>simp only[hu,cond_true]at hx ⊢;exact Zhi (Zum E o) (λS' m' hs hm' y=>h _ _ (hm hs) hm' y) hx
   | false=>simp only[hu,cond_false]at hx ⊢;exact Zaj (Zig (hb true) (hb false)) hx
  ·exact hx.elim
theorem Zik{E:Env}{ops:Array Oper}:∀{l:List Nat} {S:St} {m:Mem} {K K':St->Mem->Prop},(∀S' m',SameOut (Zav ops.toList) S S'->leT E.thaw m m'->K S' m'->K' S' m')->ZvM E ops l K S m->ZvM E ops l K' S m
 | [],S,m,K,K',h,hx=>h _ _ (SameOut.refl _ S) (leT.refl _ m) hx
 | i::l,S,m,K,K',h,hx=>by
  simp only[ZvM]at *
  cases ho:ops.toList[i]? with
  | none=>simp[ho]at hx
  | some o=>
   simp only[ho]at hx ⊢
   exact Zk9 (λt ht=>Zbb ho ht) (λS' m' hs hm y=>Zik (λS'' m'' hs' hm' y=>h _ _ (SameOut.trans hs hs') (leT.trans hm hm') y) y) hx
theorem ZoD{S:St}:∀{l:List Nat} {k k':List (List Value)->Prop},(∀v,k v->k' v)->ZtI S l k->ZtI S l k'
 | [],k,k',h,hx=>h _ hx
 | id::l,k,k',h,hx=>by
  simp only[ZtI]at *
  split at hx
  ·exact hx.elim
  ·exact ZoD (λvs dY=>h _ dY) hx
theorem Zkr{S:St}:∀{l:List (Nat×Nat)} {k k':List Value->Prop},(∀v,k v->k' v)->ZgJ S l k->ZgJ S l k'
 | [],k,k',h,hx=>h _ hx
 | (q,e)::l,k,k',h,hx=>Zaj (λy=>Zkr (λvs dY=>h _ dY) y) hx
theorem Ze0:∀{l:List Nat} {k k':List (List Value)->Prop},(∀v,k v->k' v)->Zou l k->Zou l k'
 | [],k,k',h,hx=>h _ hx
 | _::l,k,k',h,hx=>λcs=>Ze0 (λvs dY=>h _ dY) (hx cs)
theorem Ze1:∀{l:List (Nat×Nat)} {k k':List Value->Prop},(∀v,k v->k' v)->Zov l k->Zov l k'
 | [],k,k',h,hx=>h _ hx
 | _::l,k,k',h,hx=>λa n c=>Ze1 (λvs dY=>h _ dY) (hx a n c)
theorem Zks:∀{A:List (Nat×Shape)} {xs:List Value} {e:Nat->Option SV} {i:Nat},(∀q∈A,q.1≠i)->ZbY e A xs i=e i
 | [],xs,e,i,h=>by simp[ZbY]
 | (t,s)::A,[],e,i,h=>by simp[ZbY]
 | (t,s)::A,v::xs,e,i,h=>by
  have h1:i≠t:=λe=>h (t,s) (by simp) e.symm
  simp only[ZbY,Zas h1,cond_false]
  exact Zks (λq hq=>h q (by simp[hq]))
theorem Zgb{ds:List Nat}{i:Nat}:ds.any (Nat.beq i ·)=true↔i∈ds:=by
 rw[List.any_eq_true]
 constructor
 ·rintro⟨x,hx,he⟩;rw[Nat.eq_of_beq_eq_true he];exact hx
 ·intro h;exact⟨i,h,Nat.beq_refl i⟩
theorem Zhj{ds:List Nat}{i:Nat}(h:i ∉ ds):ds.any (Nat.beq i ·)=false:=by
 cases hh:ds.any (Nat.beq i ·)with
 | false=>rfl
 | true=>exact absurd (Zgb.1 hh) h
def ZvA(ds:List Nat)(A:List (Nat×Shape)):Bool:=A.all λq=>ds.any (Nat.beq q.1 ·)
theorem Zd4{ds:List Nat}{A:List (Nat×Shape)}(hA:ZvA ds A=true){S S':St}{xs:List Value}(h:S'.env=ZbY (λi=>bif ds.any (Nat.beq i ·)then none else S.env i) A xs):SameOut ds S S':=by
 intro i hi
 rw[h,Zks]
 ·simp[Zhj hi]
 ·intro q hq e
  simp only[ZvA,List.all_eq_true]at hA
  exact hi (e ▸ Zgb.1 (hA q hq))
def ZaD(E:Env):Code->Bool
 | .region id ops draw=>(match E.joins id with
  | none=>true
  | some outs=>ZvA (Zav ops.toList) outs)
 | .seq a b=>ZaD E a&&ZaD E b&&(match E.cuts (ZaW b)with
  | none=>true
  | some A=>ZvA (Zjz a) A.slots)
 | .cond _ a b=>ZaD E a&&ZaD E b
 | .block _ a=>ZaD E a
 | .loop a=>ZaD E a&&ZvA (Zjz a) (E.loops (ZaW a)).slots
 | .rangeFunc _ _ a b=>ZaD E a&&ZaD E b
 | .scope a=>ZaD E a
 | _=>true
def leD(E:Env)(id:Nat)(m m':Mem):Prop:=match E.last id with
 | true=>leT E.thaw m m'
 | false=>m.le m'
theorem leD.leT{E:Env}{id:Nat}{m m':Mem}(h:leD E id m m'):leT E.thaw m m':=by
 unfold leD at h
 cases hl:E.last id with
 | true=>rw[hl]at h;exact h
 | false=>rw[hl]at h;exact .of h
theorem leD.le{E:Env}{id:Nat}{m m':Mem}(hl:E.last id=false)(h:leD E id m m'):m.le m':=by
 unfold leD at h;rw[hl]at h;exact h
def ZeX(E:Env)(Zbd:Nat->Array Oper->(St->Mem->Prop)->St->Mem->Prop):Prop:=
 ∀(id:Nat)(ops:Array Oper)(K K':St->Mem->Prop)(S:St)(m:Mem),(∀S' m',SameOut (Zav ops.toList) S S'->leD E id m m'->K S' m'->K' S' m')->Zbd id ops K S m->Zbd id ops K' S m
theorem Zil{b:Bool}{g:Int}{k k':Int->Prop}(h:∀y,k y->k' y)(hx:Zxb b g k):Zxb b g k':=by
 cases b with
 | true=>exact λy=>h y (hx y)
 | false=>exact h g hx
theorem Zp9{b:Bool}{x y:Int}{p q:Prop}(h:p->q)(hx:Zmk b x y p):Zmk b x y q:=by
 cases b with
 | true=>exact h hx
 | false=>
  simp only[Zmk,cond_false]at *
  split at hx
  ·exact h hx
  ·exact⟨hx.1,h hx.2⟩
theorem Zqa{a b:List (Option Box)}{p q:Prop}(h:p->q)(hx:ZnT a b p):ZnT a b q:=Zdg.2 ⟨(Zdg.1 hx).1,h (Zdg.1 hx).2⟩
theorem Zqb{a b:List (Option Tok)}{p q:Prop}(h:p->q)(hx:ZnU a b p):ZnU a b q:=Zdh.2 ⟨(Zdh.1 hx).1,h (Zdh.1 hx).2⟩
theorem Znn{K K':KT}{e:Exit}{S:St}{m:Mem}(h:∀e,K e S m->K' e S m)(hx:Zow K e S m):Zow K' e S m:=by
 cases e with
 | ret=>exact h _ hx
 | exit id=>exact h _ hx
 | goto l=>exact h _ hx
 | _=>exact hx
theorem leT.up{th:Bool}{mi m m':Mem}(hc:th=false->mi=m)(h:mi.le m'):leT th m m':=by
 cases th with
 | true=>trivial
 | false=>rw[hc rfl]at h;exact h
theorem ZoE{th:Bool}{P:Program}{A:LoopAnn}{f:Operand}{ps:List Nat}{assign body:KT->St->Mem->Prop}{ds:List Nat}
  (ha:∀{S:St} {m:Mem} {K K':KT},(∀e S' m',leT th m m'->K e S' m'->K' e S' m')->assign K S m->assign K' S m)
  (hb:∀{S:St} {m:Mem} {K K':KT},(∀e S' m',leT th m m'->K e S' m'->K' e S' m')->body K S m->body K' S m)
  {S:St} {m:Mem} {K K':KT} (h:∀e S' m',SameOut ds S S'->leT th m m'->K e S' m'->K' e S' m') (hx:Zox th P A f ps assign body K S m):Zox th P A f ps assign body K' S m:=by
 unfold Zox at *
 split at hx
 ·refine Zaj (Zsj λmi mj kF ⟨xs,h1,h2,I,h3,h4,h5⟩=>⟨xs,h1,h2,I,h3,?_,?_⟩) hx
  all_goals have up:∀{m':Mem},mi.le m'->leT th m m':=λhm=>leT.up kF hm
  ·refine Zil (λy z=>Shape.allL_mono _ (λx z=>Ze0 (λcss z=>Ze1 (λtvs z m' n hm hn hI=>?_) z) z) z) h4
   refine ha (λe S1 m1 aW k=>?_) (z m' n hm hn hI)
   cases e with
   | normal=>
    refine hb (λe S' m'' aY k=>Zsk (Zp9 (Zqa (Zqb (ZoD λcss' k=>?_ )))) k) k
    refine Zkr (λtvs' k=>?_) k
    cases e with
    | normal=>exact k
    | _=>exact Znn (λe=>h e _ _ (SameOut.refl _ _) (leT.trans (up hm) (leT.trans aW aY))) k
   | _=>exact k
  ·exact Zil (λy z=>Ze0 (λcss z=>Ze1 (λtvs z m' hm hI=>h _ _ _ (SameOut.refl _ _) (up hm) (z m' hm hI)) z) z) h5
 ·exact hx.elim
theorem Zso{E:Env}{kz:Option (Nat×Nat)}{ops:Array Oper}{l:List Nat}{S:St}{m:Mem}{K K':St->Mem->Prop}(h:∀S' m',SameOut (Zav ops.toList) S S'->leT E.thaw m m'->K S' m'->K' S' m')
  (y:ZvT E kz (ZvM E ops l) K S m):ZvT E kz (ZvM E ops l) K' S m:=by
 unfold ZvT at *
 split at y
 ·exact Zik h y
 ·obtain⟨y1,y2⟩:=Zag y
  refine Zaa y1 ?_
  simp only[Bool.and_eq_true]at y1
  split at y2
  ·exact y2
  ·obtain⟨a,n,c,z1,z2,z3⟩:=y2
   refine⟨a,n,c,z1,z2,Zik (λS' m' hs _ z=>?_) z3⟩
   split at z
   ·exact z
   ·exact Zaj (λz zs hz=>h _ _ (λt ht=>hs t ht) (by rw[y1.1];trivial) (z zs hz)) z
theorem ZeF{E:Env}{Zbd:Nat->Array Oper->(St->Mem->Prop)->St->Mem->Prop}(hD:ZeX E Zbd):∀(c:Code),ZaD E c=true->∀{S:St} {m:Mem} {K K':KT},(∀e S' m',SameOut (Zjz c) S S'->leT E.thaw m m'->K e S' m'->K' e S' m')->W E Zbd c K S m->W E Zbd c K' S m
 | .skip,_,S,m,K,K',h,hx=>h _ _ _ (SameOut.refl _ S) (leT.refl _ m) hx
 | .label _,_,S,m,K,K',h,hx=>h _ _ _ (SameOut.refl _ S) (leT.refl _ m) hx
 | .exit _,_,S,m,K,K',h,hx=>h _ _ _ (SameOut.refl _ S) (leT.refl _ m) hx
 | .ret,_,S,m,K,K',h,hx=>h _ _ _ (SameOut.refl _ S) (leT.refl _ m) hx
 | .region id ops draw,hc,S,m,K,K',h,hx=>by
  simp only[W]at *
  cases hj:E.joins id with
  | none=>
   simp only[hj]at hx ⊢
   cases draw with
   | true=>simp only[cond_true]at *;exact hD _ _ _ _ _ _ (λS' m' hs hm y=>h _ _ _ hs (leD.leT hm) y) hx
   | false=>
    simp only[cond_false]at *
    exact Zso (λS' m' hs hm y=>h _ _ _ hs hm y) hx
  | some outs=>
   simp only[hj]at hx ⊢
   refine Shape.exL_mono _ (λxs ⟨h1,h2⟩=>⟨h1,h _ _ _ ?_ (leT.refl _ m) h2⟩) hx
   simp only[ZaD,hj]at hc
   exact Zd4 hc rfl
 | .seq x y,hc,S,m,K,K',h,hx=>by
  simp only[ZaD,Bool.and_eq_true]at hc
  simp only[W,Zjz]at *
  cases fP:E.cuts (ZaW y)with
  | none=>
   simp only[fP]at hx ⊢
   refine ZeF hD x hc.1.1 (λe S' m' hs hm hy=>?_) hx
   have hs':SameOut (Zjz x++Zjz y) S S':=hs.mono (λi hi=>by simp[hi])
   cases e with
   | normal=>exact ZeF hD y hc.1.2 (λe S'' m'' jX aY hy=>h _ _ _ (hs'.trans (jX.mono (λi hi=>by simp[hi]))) (leT.trans hm aY) hy) hy
   | _=>exact h _ _ _ hs' hm hy
  | some A=>
   simp only[fP]at hx ⊢ hc
   obtain⟨J,h1,h2⟩:=hx
   refine⟨J,ZeF hD x hc.1.1 (λe S' m' hs hm hy=>?_) h1,Zil (λg z=>Shape.allL_mono _ (λxs z=>Ze0 (λcss z=>Ze1 (λtvs z m' hm hJ=>?_) z) z) z) h2⟩
   ·cases e with
    | normal=>exact hy
    | _=>exact h _ _ _ (hs.mono (λi hi=>by simp[hi])) hm hy
   ·refine ZeF hD y hc.1.2 (λe S' m'' hs aY hy=>h _ _ _ ?_ (leT.trans hm aY) hy) (z m' hm hJ)
    have h3:SameOut (Zjz x) S (Zb4 S (Zjz x) A g xs css tvs):=Zd4 (S':=Zb4 S (Zjz x) A g xs css tvs) hc.2 rfl
    exact(h3.mono (λi hi=>by simp[hi])).trans (hs.mono (λi hi=>by simp[hi]))
 | .cond c x y,hc,S,m,K,K',h,hx=>by
  simp only[ZaD,Bool.and_eq_true]at hc
  simp only[W,Zjz]at *
  exact ZaL (λv hy=>Zaj (λhy=>Zig (ZeF hD x hc.1 (λe S' m' hs hm hy=>h _ _ _ (hs.mono (λi hi=>by simp[hi])) hm hy)) (ZeF hD y hc.2 (λe S' m' hs hm hy=>h _ _ _ (hs.mono (λi hi=>by simp[hi])) hm hy)) hy) hy) hx
 | .block id x,hc,S,m,K,K',h,hx=>by
  simp only[ZaD]at hc
  simp only[W,Zjz]at *
  refine ZeF hD x hc (λe S' m' hs hm hy=>?_) hx
  cases e with
  | exit id'=>
   simp only at *
   cases hb:Nat.beq id' id <;> simp only[hb,cond_true,cond_false]at *
   ·exact h _ _ _ hs hm hy
   ·exact h _ _ _ hs hm hy
  | _=>exact h _ _ _ hs hm hy
 | .loop x,hc,S,m,K,K',h,hx=>by
  simp only[ZaD,Bool.and_eq_true]at hc
  simp only[W,Zjz]at *
  obtain⟨I,h1,h2⟩:=hx
  refine⟨I,h1,Zil (λg y=>Shape.allL_mono _ (λxs y=>Ze0 (λcss y=>Ze1 (λtvs y m' n hm hI=>?_) y) y) y) h2⟩
  refine ZeF hD x hc.1 (λe S' m'' hs aY hy=>?_) (y m' n hm hI)
  have hs':SameOut (Zjz x) S S':=(Zd4 (S':=Zb4 S (Zjz x) (E.loops (ZaW x)) g xs css tvs) hc.2 rfl).trans hs
  cases e with
  | normal=>exact hy
  | _=>exact h _ _ _ hs' (leT.trans hm aY) hy
 | .goto _,_,S,m,K,K',h,hx=>by simp[W]at hx
 | .scope x,hc,S,m,K,K',h,hx=>by
  simp only[ZaD]at hc
  simp only[W,Zjz]at *
  refine ZeF hD x hc (λe S' m' hs hm hy=>?_) hx
  cases e with
  | goto l=>exact hy
  | _=>exact h _ _ _ hs hm hy
 | .rangeFunc f ps x y,hc,S,m,K,K',h,hx=>by
  simp only[ZaD,Bool.and_eq_true]at hc
  simp only[W]at *
  exact ZoE (assign:=W E Zbd x) (body:=W E Zbd y) (λh'=>ZeF hD x hc.1 λe S' m' _ hm hy=>h' e S' m' hm hy) (λh'=>ZeF hD y hc.2 λe S' m' _ hm hy=>h' e S' m' hm hy) (λe S' m' hs hm=>h e S' m' hs hm) hx
 | .refuse _,_,S,m,K,K',h,hx=>by simp[W]at hx
section
variable {C:Ctx} {m:Mem} {a:Act} {w:World}
theorem Rel.restrict{S S2:St}(h:Rel C S m a w)(hg:S2.gh=S.gh)(hL:∀id x,S2.L id=some x->S.L id=some x)(hT:∀k t,S2.tok k=some t->S.tok k=some t\/t.v=.slice none 0 0)
  (dF:∀i sv,S2.env i=some sv->∃v,S2.den sv=some v/\a.tmps[i]?=some v) (dP:∀id x,S2.L id=some x->id∈S2.ids) (nb:∀k t,S2.tok k=some t->k∈S2.tkeys):Rel C S2 m a w:=by
 refine⟨h.defers,h.size,dF,λid x hx=>h.own id x (hL id x hx),λid id' x x' hx hx'=>h.apart id id' x x' (hL _ _ hx) (hL _ _ hx'),dP,?_,nb,?_,h.sub,h.le,h.dom.imp λM d=>d.cut hg (λid x hx=>⟨id,x,hL id x hx,rfl⟩) (λk t b ht hb=>?_) rfl (λ_ _ _ hv=>hv)⟩
 ·intro k t ht
  rcases hT k t ht with h1|h1
  ·obtain⟨h2,h3⟩:=h.toks k t h1
   exact⟨h2,λb hb=>⟨λid x hx=>(h3 b hb).1 id x (hL _ _ hx),(h3 b hb).2⟩⟩
  ·exact⟨.inl h1,λb hb=>by simp[Tok.blk,h1]at hb⟩
 ·intro k k' t t' b ht ht' hb hb'
  rcases hT k t ht with h1|h1
  ·rcases hT k' t' ht' with h2|h2
   ·exact h.tapart k k' t t' b h1 h2 hb hb'
   ·simp[Tok.blk,h2]at hb'
  ·simp[Tok.blk,h1]at hb
 ·rcases hT k t ht with h1|h1
  ·exact⟨k,t,h1,hb⟩
  ·simp[Tok.blk,h1]at hb
theorem Rel.forget{S:St}{m':Mem}(h:Rel C S m' a w)(hm:m.le m')(h0:C.m0.le m)(hz:∀id x,S.L id=some x->x.fz=true->m.reads x.b 0 x.cs):Rel C S m a w:=by
 have hn:∀b o,m' b o=none->m b o=none:=λb o ho=>by
  cases he:m b o with
  | none=>rfl
  | some v=>rw[hm _ _ _ he]at ho;cases ho
 refine⟨h.defers,h.size,h.env,λid x hx=>?_,h.apart,h.ids,λk t ht=>?_,h.tkeys,h.tapart,λb o v hv=>h.sub b o v (hm _ _ _ hv),h0,h.dom.imp λM d=>d.cut rfl (λid x hx=>⟨id,x,hx,rfl⟩) (λk t b ht hb=>⟨k,t,ht,hb⟩) rfl hm⟩
 ·have h1:=h.own id x hx
  exact⟨h1.cells,λhf o=>hn _ _ (h1.free hf o),hz id x hx,h1.whole⟩
 ·obtain⟨h1,h2⟩:=h.toks k t ht
  exact⟨h1.same (λ_ _=>rfl) (λb o _ ho=>hn _ _ ho),h2⟩
theorem Zc5{S:St}(hr:Rel C S m a w):∀{l:List (Nat×Shape)} {k:List Value->Prop},ZhN S l k->∃xs,Shape.fitsL (l.map (·.2)) xs=true/\(∀(i:Nat) t sh v,l[i]?=some (t,sh)->xs[i]?=some v->a.tmps[t]?=some v)/\xs.length=l.length/\k xs
 | [],k,h=>⟨[],rfl,by simp,rfl,h⟩
 | (t,sh)::l,k,h=>by
  obtain⟨v,hv,h⟩:=ZaK h
  obtain⟨h1,h2⟩:=Zag h
  obtain⟨xs,g1,g2,g3,g4⟩:=Zc5 hr h2
  refine⟨v::xs,by simp[Shape.fitsL,h1,g1],?_,by simp[g3],g4⟩
  intro i t' sh' v' hi hx
  cases i with
  | zero=>
   simp at hi hx
   obtain⟨rfl,rfl⟩:=hi
   subst hx
   simp only[St.val,St.ev]at hv
   cases he:S.env t with
   | none=>simp[he]at hv
   | some sv=>
    simp only[he]at hv
    obtain⟨u,h3,h4⟩:=hr.env t sv he
    rw[hv]at h3;cases h3;exact h4
  | succ i=>exact g2 i t' sh' v' (by simpa using hi) (by simpa using hx)
theorem ZdL{S:St}:∀{l:List Nat} {k:List (List Value)->Prop},ZtI S l k->∃css,css.length=l.length/\(∀(i:Nat) id cs,l[i]?=some id->css[i]?=some cs->∃x,S.L id=some x/\x.cs=cs)/\k css
 | [],k,h=>⟨[],rfl,by simp,h⟩
 | id::l,k,h=>by
  simp only[ZtI]at h
  cases hx:S.L id with
  | none=>simp[hx]at h
  | some x=>
   simp only[hx]at h
   obtain⟨css,g1,g2,g3⟩:=ZdL h
   refine⟨x.cs::css,by simp[g1],?_,g3⟩
   intro i id' cs hi hc
   cases i with
   | zero=>simp at hi hc;subst hi hc;exact⟨x,hx,rfl⟩
   | succ i=>exact g2 i id' cs (by simpa using hi) (by simpa using hc)
theorem Zcs{S:St}:∀{l:List (Nat×Nat)} {k:List Value->Prop},ZgJ S l k->∃vs,vs.length=l.length/\(∀(i:Nat) q e v,l[i]?=some (q,e)->vs[i]?=some v->Zcf v=true/\(S.tok q=some ⟨v,e⟩\/v=.slice none 0 0))/\k vs
 | [],k,h=>⟨[],rfl,by simp,h⟩
 | (q,e)::l,k,h=>by
  obtain⟨h1,h2⟩:=Zag h
  simp only[Bool.and_eq_true]at h1
  obtain⟨vs,g1,g2,g3⟩:=Zcs h2
  refine⟨Zsg S q::vs,by simp[g1],?_,g3⟩
  intro i q' e' v hi hv
  cases i with
  | zero=>
   simp at hi hv
   obtain⟨rfl,rfl⟩:=hi
   subst hv
   refine⟨h1.1,?_⟩
   unfold Zsg
   cases ht:S.tok q with
   | none=>exact .inr rfl
   | some t=>
    left
    have:t.esz=e:=by have:=h1.2;simp only[ht]at this;exact Nat.eq_of_beq_eq_true this
    cases t;simp at this ⊢;exact this
  | succ i=>exact g2 i q' e' v (by simpa using hi) (by simpa using hv)
theorem Ze2:∀{l:List Nat} {k:List (List Value)->Prop},Zou l k->∀css,css.length=l.length->k css
 | [],k,h,css,hl=>by cases css <;> simp_all [Zou]
 | _::l,k,h,css,hl=>by
  cases css with
  | nil=>simp at hl
  | cons c css=>exact Ze2 (h c) css (by simpa using hl)
theorem Ze3:∀{l:List (Nat×Nat)} {k:List Value->Prop},Zov l k->∀vs,vs.length=l.length->(∀v∈vs,Zcf v=true)->k vs
 | [],k,h,vs,hl,_=>by cases vs <;> simp_all [Zov]
 | _::l,k,h,vs,hl,hs=>by
  cases vs with
  | nil=>simp at hl
  | cons v vs=>
   have:=Zb8 (hs v (by simp))
   rw[this]
   exact Ze3 (h _ _ _) vs (by simpa using hl) (λu hu=>hs u (by simp[hu]))
theorem Zmp:∀{A:List (Nat×Shape)} {xs:List Value} {e:Nat->Option SV} {i:Nat} {sv:SV},ZbY e A xs i=some sv->e i=some sv\/∃(q:Nat)(sh:Shape)(v:Value),A[q]?=some (i,sh)/\xs[q]?=some v/\sv=.v v
 | [],xs,e,i,sv,h=>.inl (by simpa[ZbY]using h)
 | (t,s)::A,[],e,i,sv,h=>.inl (by simpa[ZbY]using h)
 | (t,s)::A,v::xs,e,i,sv,h=>by
  by_cases hi:i=t
  ·subst hi
   simp[ZbY]at h
   exact .inr ⟨0,s,v,by simp,by simp,h.symm⟩
  ·simp only[ZbY,Zas hi,cond_false]at h
   rcases Zmp h with h1|⟨q,sh,u,h1,h2,h3⟩
   ·exact .inl h1
   ·exact .inr ⟨q+1,sh,u,by simpa using h1,by simpa using h2,h3⟩
theorem ZgL:∀{l:List Nat} {css:List (List Value)} {L:Nat->Option Box} {id:Nat} {y:Box},ZhZ L l css id=some y->(∃(i:Nat)(x:Box)(cs:List Value),l[i]?=some id/\css[i]?=some cs/\L id=some x/\y={ x with cs:=cs })\/((∀i,l[i]?=some id->css.length<=i)/\L id=some y)
 | [],css,L,id,y,h=>.inr ⟨by simp,by simpa[ZhZ]using h⟩
 | d::l,[],L,id,y,h=>.inr ⟨λi _=>by simp,by simpa[ZhZ]using h⟩
 | d::l,cs::css,L,id,y,h=>by
  by_cases cO:id=d
  ·subst cO
   simp only[ZhZ,Zcx,cond_true]at h
   cases hx:L id with
   | none=>simp[hx]at h
   | some x=>simp[hx]at h;exact .inl ⟨0,x,cs,by simp,by simp,rfl,h.symm⟩
  ·simp only[ZhZ,Zas cO,cond_false]at h
   rcases ZgL h with⟨i,x,c,h1,h2,h3,h4⟩|⟨h1,h2⟩
   ·exact .inl ⟨i+1,x,c,by simpa using h1,by simpa using h2,h3,h4⟩
   ·refine .inr ⟨λi hi=>?_,h2⟩
    cases i with
    | zero=>simp at hi;exact absurd hi.symm cO
    | succ i=>have:=h1 i (by simpa using hi);simp;omega
theorem Ze4:∀{l:List Nat} {css:List (List Value)} {L:Nat->Option Box} {id:Nat} {x:Box},L id=some x->∃y,ZhZ L l css id=some y/\y.b=x.b
 | [],css,L,id,x,h=>⟨x,by simpa[ZhZ]using h,rfl⟩
 | d::l,[],L,id,x,h=>⟨x,by simpa[ZhZ]using h,rfl⟩
 | d::l,cs::css,L,id,x,h=>by
  by_cases cO:id=d
  ·subst cO
   exact⟨{ x with cs:=cs },by simp[ZhZ,h],rfl⟩
  ·simp only[ZhZ,Zas cO,cond_false]
   exact Ze4 h
theorem Zd5:∀{l:List (Nat×Nat)} {vs:List Value} {tk:Nat->Option Tok} {k:Nat} {t:Tok},Zga tk l vs k=some t->(∃(i:Nat)(e:Nat)(v:Value),l[i]?=some (k,e)/\vs[i]?=some v/\t=⟨v,e⟩)\/((∀i q,l[i]?=some q->q.1=k->vs.length<=i)/\tk k=some t)
 | [],vs,tk,k,t,h=>.inr ⟨by simp,by simpa[Zga]using h⟩
 | (q,e)::l,[],tk,k,t,h=>.inr ⟨λi _ _ _=>by simp,by simpa[Zga]using h⟩
 | (q,e)::l,v::vs,tk,k,t,h=>by
  by_cases hk:k=q
  ·subst hk
   simp[Zga]at h
   exact .inl ⟨0,e,v,by simp,by simp,h.symm⟩
  ·simp only[Zga,Zas hk,cond_false]at h
   rcases Zd5 h with⟨i,e',u,h1,h2,h3⟩|⟨h1,h2⟩
   ·exact .inl ⟨i+1,e',u,by simpa using h1,by simpa using h2,h3⟩
   ·refine .inr ⟨λi p hi hp=>?_,h2⟩
    cases i with
    | zero=>simp at hi;subst hi;exact absurd hp.symm hk
    | succ i=>have:=h1 i p (by simpa using hi) hp;simp;omega
structure StOk (S:St):Prop where
 env:∀i sv,S.env i=some sv->∃v,S.den sv=some v
 ids:∀id x,S.L id=some x->id∈S.ids
 tkeys:∀k t,S.tok k=some t->k∈S.tkeys
theorem Rel.ok{S:St}(h:Rel C S m a w):StOk S:=⟨λi sv he=>(h.env i sv he).imp λv hv=>hv.1,h.ids,h.tkeys⟩
theorem Zff{S S':St}(hS:StOk S){ds:List Nat}{A:LoopAnn}(hr:Rel C S' m a w)(cX:SameOut ds S S')(kG:Zcb S' A S.ids=Zcb S A S.ids)(cA:Zbk S' A S.tkeys=Zbk S A S.tkeys)
  {xs:List Value} {css:List (List Value)} {tvs:List Value} (hx:∀(i:Nat) t sh v,A.slots[i]?=some (t,sh)->xs[i]?=some v->a.tmps[t]?=some v)
  (fL:css.length=A.boxes.length) (hc:∀(i:Nat) id cs,A.boxes[i]?=some id->css[i]?=some cs->∃x,S'.L id=some x/\x.cs=cs)
  (gt:tvs.length=A.toks.length) (ht:∀(i:Nat) q e v,A.toks[i]?=some (q,e)->tvs[i]?=some v->Zcf v=true/\(S'.tok q=some ⟨v,e⟩\/v=.slice none 0 0)):Rel C (Zb4 S ds A S'.gh xs css tvs) m a w:=by
 have hL:∀id y,ZhZ S.L A.boxes css id=some y->S'.L id=some y:=by
  intro id y hy
  have dW:∀id,id∈S.ids->(bif A.boxes.any (Nat.beq id ·)then(match S'.L id with
    | some x=>some { x with cs:=[] }
    | none=>none)else S'.L id)=(bif A.boxes.any (Nat.beq id ·)then(match S.L id with
    | some x=>some { x with cs:=[] }
    | none=>none)else S.L id):=λid cO=>by
   simp only[Zcb]at kG
   exact(List.map_inj_left.1 kG) id cO
  rcases ZgL hy with⟨i,x,cs,h1,h2,h3,h4⟩|⟨h1,h2⟩
  ·obtain⟨x',g1,g2⟩:=hc i id cs h1 h2
   have:=dW id (hS.ids id x h3)
   have hm:A.boxes.any (Nat.beq id ·)=true:=Zgb.2 (List.mem_of_getElem? h1)
   simp only[hm,cond_true,g1,h3,Option.some.injEq,Box.mk.injEq,true_and]at this
   rw[g1,h4]
   obtain⟨e1,e2,e3,e4,e5⟩:=this
   cases x;cases x'
   simp_all
  ·have hm:A.boxes.any (Nat.beq id ·)=false:=Zhj (λcD=>by
    obtain⟨i,hi⟩:=List.getElem?_of_mem cD
    have h3:=h1 i hi
    have h4:=(List.getElem?_eq_some_iff.1 hi).1
    omega)
   have:=dW id (hS.ids id y h2)
   simp only[hm,cond_false]at this
   rw[this,h2]
 have lp:∀k t,Zga S.tok A.toks tvs k=some t->S'.tok k=some t\/t.v=.slice none 0 0:=by
  intro k t hk
  have dW:∀k,k∈S.tkeys->(bif A.toks.any (λq=>Nat.beq k q.1)then none else S'.tok k)=(bif A.toks.any (λq=>Nat.beq k q.1)then none else S.tok k):=λk hk=>by
   simp only[Zbk]at cA
   exact(List.map_inj_left.1 cA) k hk
  rcases Zd5 hk with⟨i,e,v,h1,h2,h3⟩|⟨h1,h2⟩
  ·obtain⟨g1,g2⟩:=ht i k e v h1 h2
   subst h3
   exact g2.imp id id
  ·left
   have hm:A.toks.any (λq=>Nat.beq k q.1)=false:=by
    cases hh:A.toks.any (λq=>Nat.beq k q.1)with
    | false=>rfl
    | true=>
     obtain⟨q,hq,he⟩:=List.any_eq_true.1 hh
     obtain⟨i,hi⟩:=List.getElem?_of_mem hq
     have h3:=h1 i q hi (Nat.eq_of_beq_eq_true he).symm
     have h4:=(List.getElem?_eq_some_iff.1 hi).1
     omega
   have:=dW k (hS.tkeys k t h2)
   simp only[hm,cond_false]at this
   rw[this,h2]
 refine hr.restrict rfl hL lp ?_ ?_ ?_
 ·intro i sv he
  simp only[Zb4]at he
  rcases Zmp he with h1|⟨q,sh,v,h1,h2,h3⟩
  ·cases hi:ds.any (Nat.beq i ·)with
   | true=>simp[hi]at h1
   | false=>
    simp only[hi,cond_false]at h1
    have tJ:i ∉ ds:=λhm=>by rw[Zgb.2 hm]at hi;cases hi
    have h2:S'.env i=some sv:=by rw[cX i tJ,h1]
    obtain⟨v,h3,h4⟩:=hr.env i sv h2
    refine⟨v,?_,h4⟩
    cases sv with
    | v u=>exact h3
    | loc id off=>
     obtain⟨v0,h5⟩:=hS.env i _ h1
     simp only[St.den]at h5
     cases hx:S.L id with
     | none=>simp[hx]at h5
     | some x=>
      obtain⟨y,hy,_⟩:=Ze4 (l:=A.boxes) (css:=css) hx
      have:=hL id y hy
      simp only[St.den,this]at h3
      simp only[St.den,Zb4,hy];exact h3
    | sl id n c=>
     obtain⟨v0,h5⟩:=hS.env i _ h1
     simp only[St.den]at h5
     cases hx:S.L id with
     | none=>simp[hx]at h5
     | some x=>
      obtain⟨y,hy,_⟩:=Ze4 (l:=A.boxes) (css:=css) hx
      have:=hL id y hy
      simp only[St.den,this]at h3
      simp only[St.den,Zb4,hy];exact h3
  ·subst h3
   exact⟨v,rfl,hx q i sh v h1 h2⟩
 ·intro id y hy
  simp only[Zb4]at hy ⊢
  rcases ZgL hy with⟨i,x,cs,h1,h2,h3,h4⟩|⟨h1,h2⟩
  ·exact hS.ids id x h3
  ·exact hS.ids id y h2
 ·intro k t hk
  simp only[Zb4]at hk ⊢
  rcases Zd5 hk with⟨i,e,v,h1,h2,h3⟩|⟨h1,h2⟩
  ·exact List.mem_append_left _ (List.mem_map.2 ⟨(k,e),List.mem_of_getElem? h1,rfl⟩)
  ·exact List.mem_append_right _ (hS.tkeys k t h2)
end
theorem Rel.lessMem{C:Ctx}{S:St}{m m1:Mem}{a:Act}{w:World}(h:Rel C S m a w)(hm:m1.le m)(h0:C.m0.le m1)(hk:∀id x,S.L id=some x->x.fz=true->∀o,m1 x.b o=m x.b o):Rel C S m1 a w:=by
 have dH:∀b o,m b o=none->m1 b o=none:=λb o hn=>by
  cases he:m1 b o with
  | none=>rfl
  | some v=>have:=hm _ _ _ he;rw[hn]at this;cases this
 refine⟨h.defers,h.size,h.env,λid x hx=>?_,h.apart,h.ids,λk t ht=>?_,h.tkeys,h.tapart,λb o v hv=>h.sub b o v (hm _ _ _ hv),h0,?_⟩
 ·obtain⟨g1,g2,g3,g4⟩:=h.own id x hx
  exact⟨g1,λhz o=>dH _ _ (g2 hz o),λhz j u hu=>by rw[hk id x hx hz];exact g3 hz j u hu,g4⟩
 ·obtain⟨g1,g2⟩:=h.toks k t ht
  exact⟨g1.same (λb _=>rfl) (λb o _=>dH b o),g2⟩
 ·obtain⟨M,hd⟩:=h.dom
  exact⟨M,hd.p,hd.lt,hd.own,hd.tok,hd.mks,λb o v hv=>hd.new b o v (hm _ _ _ hv)⟩
theorem Rel.acq{E:Env}{C:Ctx}(hY:YOk E C){mm:Mem}(eI:E.m0=some mm){S:St}{m:Mem}{a:Act}{w:World}(hr:Rel C S m a w){key esz:Nat}{p:Option Addr}{n c:Nat}(h1:Zy7 m mm esz p n c)
  (h2:∀b,(Tok.mk (.slice p n c) esz).blk=some b->nfz S b S.ids (ntk S b [key] S.tkeys)):
  Rel C { S with tok:=λk=>bif Nat.beq k key then some ⟨.slice p n c,esz⟩ else S.tok k,tkeys:=key::S.tkeys } (m.cutA p (n*esz)) a w:=by
 obtain⟨jS,hW⟩:=hY.m0 mm eI
 rcases h1 with⟨rfl,rfl,rfl⟩|⟨b,rfl,gQ,fC,jF,eZ⟩
 ·exact hr.tokNil key _ rfl
 ·obtain⟨q1,q2⟩:=Zhc (h2 b rfl)
  have cL:(m.cutA (some ⟨b,0,none⟩) (n*esz)).le m:=λb' o v hv=>by
   simp only[Mem.cutA]at hv
   split at hv
   ·cases hv
   ·exact hv
  have gw:∀b',b'≠b->∀o,m.cutA (some ⟨b,0,none⟩) (n*esz) b' o=m b' o:=λb' hb o=>by simp[Mem.cutA,hb]
  have iY:∀id x,S.L id=some x->x.b≠b:=λid x hx e=>by
   have ho:=hr.own id x hx
   cases hz:x.fz with
   | true=>exact q2 id x (hr.ids id x hx) hx hz e
   | false=>
    obtain⟨v,hv⟩:=jF 0 fC
    have:=ho.free hz 0
    rw[e,hv]at this;cases this
  have dU:Rel C S (m.cutA (some ⟨b,0,none⟩) (n*esz)) a w:=hr.lessMem cL (λb' o v hv=>by
   by_cases hb:b'=b
   ·subst hb;rw[jS]at hv;rw[eZ o]at hv;cases hv
   ·rw[gw b' hb];exact hr.le _ _ _ hv) (λid x hx _ o=>gw _ (iY id x hx) o)
  obtain⟨v0,tK⟩:=jF 0 fC
  have hM:∀M,Dom C S m a w M->M b:=λM hd=>(hd.new b 0 v0 tK).resolve_left λh=>by rw[jS,eZ 0]at h;cases h
  have cS:∀o,o < c*esz->∃v,w.cell? ⟨b,o,none⟩=some v:=λo ho=>by
   obtain⟨v,hv⟩:=jF o ho
   exact⟨v,hr.sub _ _ _ hv⟩
  obtain⟨cur,T,fr,hh⟩:∃cur T fr,w.heap[b]?=some (.cells cur T fr):=by
   obtain⟨v,hv⟩:=cS 0 fC
   unfold World.cell? at hv
   cases hh:w.heap[b]? with
   | none=>simp[hh]at hv
   | some ob=>
    cases ob <;> simp[hh]at hv
    exact⟨_,_,_,rfl⟩
  have bW:c*esz<=cur.size:=by
   obtain⟨v,hv⟩:=cS (c*esz - 1) (by omega)
   simp only[World.cell?,hh]at hv
   simp at hv
   have:=(Array.getElem?_eq_some_iff.1 hv).1
   omega
  obtain⟨M,hd⟩:=hr.dom
  have gL:Wr w b:=hW _ _ _ hd.p b (hM M hd)
  refine dU.tokUpd key _ (.inr ⟨b,0,n,c,cur,T,fr,rfl,gQ,hh,by rw[Nat.zero_add];exact bW,gL cur T fr hh,λo ho _=>by rw[Nat.zero_add]at ho;simp[Mem.cutA,ho]⟩) (λb' hb'=>?_) ?_
  ·have:b'=b:=by simp[Tok.blk]at hb';exact hb'.symm
   subst this
   exact⟨⟨iY,by rw[jS];exact eZ⟩,λk' t' cW ht'=>Zji q1 k' t' (hr.tkeys k' t' ht') ht' (by simpa using cW)⟩
  ·obtain⟨M1,jG⟩:=dU.dom
   refine⟨M,⟨hd.p,hd.lt,hd.own,hd.tok,hd.mks,λb o v hv=>hd.new b o v (cL _ _ _ hv)⟩,λb' hb'=>?_⟩
   have:b'=b:=by simp[Tok.blk]at hb';exact hb'.symm
   subst this
   exact hM M hd
theorem Rel.unacq{C:Ctx}{S:St}{m:Mem}{a:Act}{w:World}(hr:Rel C S m a w){key:Nat}{t:Tok}(ht:S.tok key=some t):
  ∃zs:List Value,zs.length=(slC t.v - slN t.v)*t.esz/\Rel C { S with tok:=λk=>bif Nat.beq k key then none else S.tok k } (m.addA (slA t.v) (slN t.v*t.esz) zs) a w:=by
 have dU:Rel C { S with tok:=λk=>bif Nat.beq k key then none else S.tok k } m a w:=by
  refine hr.restrict rfl (λ_ _ hx=>hx) (λk t' hk=>?_) (λi sv he=>?_) hr.ids (λk t' hk=>?_)
  ·by_cases e:k=key
   ·subst e;simp at hk
   ·simp[Zas e]at hk;exact .inl hk
  ·obtain⟨v,h1,h2⟩:=hr.env i sv he
   exact⟨v,by cases sv <;> exact h1,h2⟩
  ·by_cases e:k=key
   ·subst e;simp at hk
   ·simp[Zas e]at hk;exact hr.tkeys k t' hk
 obtain⟨g1,g2⟩:=hr.toks key t ht
 rcases g1 with g1|⟨b,o0,n,c,cur,T,fr,hv,gQ,hh,bW,eC,cP⟩
 ·rw[g1]
  exact⟨[],by simp[slC,slN],dU⟩
 ·have dK:t.blk=some b:=by simp[Tok.blk,hv]
  rw[hv]
  simp only[slC,slN,slA]
  have tL:c*t.esz=n*t.esz+(c - n)*t.esz:=by rw[<-Nat.add_mul];congr 1;omega
  obtain⟨P0,mR⟩:∃P0,P0=o0+n*t.esz:=⟨_,rfl⟩
  refine⟨(cur.toList.drop P0).take ((c - n)*t.esz),by simp;omega,?_⟩
  simp only[Mem.addA]
  rw[<-mR]at cP ⊢
  obtain⟨zs,ml⟩:∃zs,zs=(cur.toList.drop (P0)).take ((c - n)*t.esz):=⟨_,rfl⟩
  rw[<-ml]
  have pY:∀q v,zs[q]?=some v->cur[P0+q]?=some v:=λq v hq=>by
   rw[ml,List.getElem?_take]at hq
   split at hq
   ·rw[List.getElem?_drop]at hq;simpa using hq
   ·cases hq
  have cL:m.le (m.addAt b (P0) zs):=λb' o v hv'=>by
   simp only[Mem.addAt]
   split
   ·rename_i hc
    obtain⟨rfl,ho⟩:=hc
    cases hz:zs[o - P0]? with
    | none=>simp only[hz];exact hv'
    | some u=>
     have hq:=(List.getElem?_eq_some_iff.1 hz).1
     rw[ml,List.length_take]at hq
     rw[cP o ho (by omega)]at hv';cases hv'
   ·exact hv'
  have gw:∀b',b'≠b->∀o,m.addAt b (P0) zs b' o=m b' o:=λb' hb o=>by simp[Mem.addAt,hb]
  have py:∀id x,S.L id=some x->x.b≠b:=(g2 b dK).1
  refine⟨dU.defers,dU.size,dU.env,λid x hx=>?_,dU.apart,dU.ids,λk t' hk=>?_,dU.tkeys,dU.tapart,λb' o v hv'=>?_,mLt dU.le cL,?_⟩
  ·obtain⟨q1,q2,q3,q4⟩:=hr.own id x hx
   exact⟨q1,λhz o=>by rw[gw _ (py id x hx)];exact q2 hz o,λhz j u hu=>cL _ _ _ (q3 hz j u hu),q4⟩
  ·obtain⟨q1,q2⟩:=dU.toks k t' hk
   refine⟨q1.same (λb' _=>rfl) (λb' o hb' hn=>?_),q2⟩
   have cW:b'≠b:=λe=>by
    subst e
    by_cases e:k=key
    ·subst e;simp at hk
    ·simp[Zas e]at hk
     exact e (hr.tapart k key t' t _ hk ht hb' dK)
   rw[gw b' cW];exact hn
  ·by_cases hb:b'=b
   ·subst hb
    simp only[Mem.addAt]at hv'
    by_cases ho:P0<=o
    ·simp only[ho,and_self,if_true]at hv'
     cases hz:zs[o - P0]? with
     | none=>simp only[hz]at hv';exact hr.sub _ _ _ hv'
     | some u=>
      simp only[hz]at hv';cases hv'
      have:=pY _ _ hz
      rw[show P0+(o - P0)=o by omega]at this
      simp only[World.cell?,hh]
      simpa using this
    ·simp only[ho,and_false,if_false]at hv';exact hr.sub _ _ _ hv'
   ·rw[gw b' hb]at hv';exact hr.sub _ _ _ hv'
  ·obtain⟨M,hd⟩:=hr.dom
   refine⟨M,hd.p,hd.lt,hd.own,λk t' b' hk hb'=>?_,hd.mks,λb' o v hv'=>?_⟩
   ·by_cases e:k=key
    ·subst e;simp at hk
    ·simp[Zas e]at hk;exact hd.tok k t' b' hk hb'
   ·by_cases hb:b'=b
    ·subst hb;exact .inr (hd.tok key t _ ht dK)
    ·rw[gw b' hb]at hv';exact hd.new b' o v hv'
theorem ZvU{E:Env}{C:Ctx}(hY:YOk E C){kz:Option (Nat×Nat)}{f:(St->Mem->Prop)->St->Mem->Prop}{K:St->Mem->Prop}{S:St}{m:Mem}{a:Act}{w:World}{p:Prop}(hr:Rel C S m a w)(h:ZvT E kz f K S m)
  (hf:∀(K':St->Mem->Prop) S' m',Rel C S' m' a w->f K' S' m'->(∀S2 m2 a2 w2,K' S2 m2->Rel C S2 m2 a2 w2->∃S3 m3,K S3 m3/\Rel C S3 m3 a2 w2)->p):p:=by
 unfold ZvT at h
 split at h
 ·exact hf _ _ _ hr h λS2 m2 a2 w2 hk bC=>⟨S2,m2,hk,bC⟩
 ·rename_i key esz
  obtain⟨h3,h4⟩:=Zag h
  cases eI:E.m0 with
  | none=>simp[eI]at h4
  | some mm=>
   simp only[eI]at h4
   obtain⟨q,n',c,z1,z2,z3⟩:=h4
   refine hf _ _ _ (hr.acq hY eI z1 z2) z3 λS2 m2 a2 w2 hk bC=>?_
   split at hk
   ·exact hk.elim
   ·rename_i t ht
    obtain⟨ip,eB⟩:=Zag hk
    obtain⟨zs,pZ,p6⟩:=bC.unacq ht
    exact⟨_,_,eB zs pZ,p6⟩
theorem Zkt:∀{A:List (Nat×Shape)} {xs:List Value} {e:Nat->Option SV} {i:Nat} {sv:SV},xs.length=A.length->ZbY e A xs i=some sv->(e i=some sv/\i ∉ A.map (·.1))\/∃(q:Nat)(sh:Shape)(v:Value),A[q]?=some (i,sh)/\xs[q]?=some v/\sv=.v v
 | [],xs,e,i,sv,_,h=>.inl ⟨by simpa[ZbY]using h,by simp⟩
 | (t,s)::A,[],e,i,sv,hl,h=>by simp at hl
 | (t,s)::A,v::xs,e,i,sv,hl,h=>by
  by_cases hi:i=t
  ·subst hi
   simp[ZbY]at h
   exact .inr ⟨0,s,v,by simp,by simp,h.symm⟩
  ·simp only[ZbY,Zas hi,cond_false]at h
   rcases Zkt (by simpa using hl) h with⟨h1,h2⟩|⟨q,sh,u,h1,h2,h3⟩
   ·exact .inl ⟨h1,by simp only[List.map_cons,List.mem_cons,not_or];exact⟨hi,h2⟩⟩
   ·exact .inr ⟨q+1,sh,u,by simpa using h1,by simpa using h2,h3⟩
theorem Zku:∀(ps:List Nat)(vs:List Value)(t:Array Value),vs.length=ps.length->ps.Nodup->
  ((ps.zip vs).foldl (λ(t:Array Value)(x:Nat×Value)=>t.setIfInBounds x.1 x.2) t).size=t.size/\
  (∀i,i ∉ ps->((ps.zip vs).foldl (λ(t:Array Value)(x:Nat×Value)=>t.setIfInBounds x.1 x.2) t)[i]?=t[i]?)/\
  (∀(q i:Nat)(v:Value),ps[q]?=some i->vs[q]?=some v->i < t.size->((ps.zip vs).foldl (λ(t:Array Value)(x:Nat×Value)=>t.setIfInBounds x.1 x.2) t)[i]?=some v)
 | [],vs,t,_,_=>⟨rfl,λ_ _=>rfl,λq i v h=>by simp at h⟩
 | p::ps,[],t,h,_=>by simp at h
 | p::ps,v::vs,t,h,hn=>by
  obtain⟨hp,hn⟩:=List.nodup_cons.1 hn
  obtain⟨h1,h2,h3⟩:=Zku ps vs (t.setIfInBounds p v) (by simpa using h) hn
  simp only[List.zip_cons_cons,List.foldl_cons]
  refine⟨by simpa using h1,λi hi=>?_,λq i u hq hu bB=>?_⟩
  ·simp only[List.mem_cons,not_or]at hi
   rw[h2 i hi.2,Array.getElem?_setIfInBounds_ne (Ne.symm hi.1)]
  ·cases q with
   | zero=>
    simp at hq hu
    subst hq hu
    rw[h2 p hp]
    simp[bB]
   | succ q=>exact h3 q i u (by simpa using hq) (by simpa using hu) (by simpa using bB)
theorem Zkv:∀{a b:List Nat},Znm a b=true->a=b
 | [],[],_=>rfl
 | [],_::_,h=>by simp[Znm]at h
 | _::_,[],h=>by simp[Znm]at h
 | x::a,y::b,h=>by
  simp only[Znm,Bool.and_eq_true]at h
  rw[Nat.eq_of_beq_eq_true h.1,Zkv h.2]
theorem ZfQ:∀{l:List Shape} {x:List Value},Shape.fitsL l x=true->x.length=l.length
 | [],[],_=>rfl
 | [],_::_,h=>by simp[Shape.fitsL]at h
 | _::_,[],h=>by simp[Shape.fitsL]at h
 | _::l,_::x,h=>by
  simp only[Shape.fitsL,Bool.and_eq_true]at h
  simp[ZfQ h.2]
section
variable {C:Ctx} {S:St} {m:Mem} {a:Act} {w w':World} {M M':Nat->Prop}
structure Apart (M':Nat->Prop)(S:St)(m:Mem)(a:Act):Prop where
 box:∀id x,S.L id=some x->¬M' x.b
 tok:∀k t b,S.tok k=some t->t.blk=some b->¬M' b
 mks:∀D,Zkk D∈a.defers->¬M' D
 mem:∀b o v,m b o=some v->¬M' b
theorem Rel.markAt(h:Rel C S m a w){D:Nat}(hD:Zkk D∈a.defers):w.heap[D]?=some (.deferred (some [])):=by
 obtain⟨ms,h1,h2,h3⟩:=h.defers
 rw[h1]at hD
 obtain⟨D',h4,h5⟩:=List.mem_map.1 hD
 have:D'=D:=by simpa[Zkk]using h5
 exact this ▸ h3 D' h4
theorem Rel.foreign(h:Rel C S m a w)(hd:Dom C S m a w M)(hM:∀k,M' k->M k)(gq:Apart M' S m a)(hu:Upd M' w w'):Rel C S m a w'/\Dom C S m a w' (Zw0 M w w'):=by
 have hd':Dom C S m a w' (Zw0 M w w'):=hd.step ⟨hu.os,hu.tape,hu.output,hu.size,λk hk hn=>hu.block k hk (λhm=>hn (hM k hm)),hu.wr⟩ (λb o v hv=>.inl hv)
 refine⟨⟨?_,h.size,h.env,λid x hx=>?_,h.apart,h.ids,λk t ht=>?_,h.tkeys,h.tapart,λb o v hv=>?_,h.le,⟨_,hd'⟩⟩,hd'⟩
 ·obtain⟨ms,h1,h2,h3⟩:=h.defers
  refine⟨ms,h1,h2,λD hD=>?_⟩
  rw[hu.block D (Array.getElem?_eq_some_iff.1 (h3 D hD)).1 (gq.mks D (by rw[h1];exact List.mem_map.2 ⟨D,hD,rfl⟩))];exact h3 D hD
 ·exact(h.own id x hx).same (hu.block _ (h.own id x hx).lt (gq.box id x hx)) (Mem.le_refl m) (h.own id x hx).free
 ·obtain⟨h1,h2⟩:=h.toks k t ht
  exact⟨h1.same (λb hb=>hu.block b (h1.lt hb) (gq.tok k t b ht hb)) (λ_ _ _ hn=>hn),h2⟩
 ·rw[ZbA (hu.block b (h.sub.lt hv) (gq.mem b o v hv))];exact h.sub b o v hv
theorem Rel.swap{C2:Ctx}{S2:St}{a2:Act}(h:Rel C S m a w)(hn:C2.n=C.n)(hm:C2.m0.le m)(hL:S2.L=S.L)(dP:S2.ids=S.ids)(cA:S2.tok=S.tok)(fO:S2.tkeys=S.tkeys)
  (dF:∀i sv,S2.env i=some sv->∃v,S2.den sv=some v/\a2.tmps[i]?=some v) (bW:a2.tmps.size=C2.n)
  (ir:∃ms:List Nat,a2.defers=ms.map Zkk/\ms.Nodup/\∀D∈ms,w'.heap[D]?=some (.deferred (some [])))
  (fQ:∀(k:Nat) c T fr,w.heap[k]?=some (Obj.cells c T fr)->w'.heap[k]?=w.heap[k]?) (bT:∀k t b,S.tok k=some t->t.blk=some b->C2.m0.free b) (hd:∃M,Dom C2 S2 m a2 w' M):Rel C2 S2 m a2 w':=by
 refine⟨ir,bW,dF,λid x hx=>?_,λid id' x x' hx hx'=>?_,λid x hx=>?_,λk t ht=>?_,λk t ht=>?_,λk k' t t' b ht ht'=>?_,λb o v hv=>?_,hm,hd⟩
 ·rw[hL]at hx
  have ho:=h.own id x hx
  obtain⟨sp,fr,hc,_⟩:=ho.cells
  exact ho.same (fQ _ _ _ _ hc) (Mem.le_refl m) ho.free
 ·rw[hL]at hx hx';exact h.apart id id' x x' hx hx'
 ·rw[hL]at hx;rw[dP];exact h.ids id x hx
 ·rw[cA]at ht
  obtain⟨h1,h2⟩:=h.toks k t ht
  refine⟨h1.same (λb hb=>?_) (λ_ _ _ hn=>hn),λb hb=>⟨λid x hx=>?_,?_⟩⟩
  ·rcases h1 with h1|⟨b',o0,n,c,cur,T,fr,hv,_,hh,_⟩
   ·simp[Tok.blk,h1]at hb
   ·simp[Tok.blk,hv]at hb;subst hb;exact fQ _ _ _ _ hh
  ·rw[hL]at hx;exact(h2 b hb).1 id x hx
  ·exact bT k t b ht hb
 ·rw[cA]at ht;rw[fO];exact h.tkeys k t ht
 ·rw[cA]at ht ht';exact h.tapart k k' t t' b ht ht'
 ·have h1:=h.sub b o v hv
  have:∃c T fr,w.heap[b]?=some (Obj.cells c T fr):=by
   unfold World.cell? at h1
   split at h1
   ·rename_i c T fr hc;exact⟨c,T,fr,hc⟩
   ·cases h1
  obtain⟨c,T,fr,hc⟩:=this
  rw[ZbA (fQ _ _ _ _ hc)];exact h1
end
def Zxc(C:Ctx)(X:Nat->Prop)(h:Nat->Option Obj)(B:Nat):Ctx where
 n:=C.n
 m0:=C.m0
 p:=λg Mr w=>∃M,C.p g M w/\(∀k,M k->k < w.heap.size)/\(∀k,Mr k->M k)/\(∀k,X k->M k/\¬Mr k/\w.heap[k]?=h k)/\B<=w.heap.size
 st:=by
  rintro g Mr M2 w w' ⟨M,h1,h2,h3,h4,h5⟩ hu hg
  refine⟨Zw0 M w w',C.st g M _ w w' h1 ⟨hu.os,hu.tape,hu.output,hu.size,λk hk hn=>hu.block k hk (λhm=>hn (h3 k hm)),hu.wr⟩ (λ_ hk=>hk),?_,?_,?_,Nat.le_trans h5 hu.size⟩
  ·rintro k (hk|hk)
   ·exact Nat.lt_of_lt_of_le (h2 k hk) hu.size
   ·exact hk.2
  ·intro k hk
   exact(hg k hk).imp_left (h3 k)
  ·intro k hk
   obtain⟨g1,g2,g3⟩:=h4 k hk
   have bB:=h2 k g1
   refine⟨.inl g1,λhm=>?_,?_⟩
   ·rcases hg k hm with h|h
    ·exact g2 h
    ·omega
   ·rw[hu.block k bB g2];exact g3
theorem Zq3{E:Env}{C:Ctx}{X:Nat->Prop}{h:Nat->Option Obj}{B:Nat}(hY:YOk E C):YOk E (Zxc C X h B):=by
 refine⟨?_,λmm fE=>⟨(hY.m0 mm fE).1,λg Mr w ⟨M,h1,h2,h3,h4,h5⟩ k hk=>(hY.m0 mm fE).2 g M w h1 k (h3 k hk)⟩⟩
 rintro Y tM F n l g v Mr w hF bB hy ⟨M,h1,h2,h3,h4,h5⟩ hs
 obtain⟨fn,tmps,asg,bdy,mZ,fN⟩:=hY.y Y tM F n l g v M w hF h2 hy h1 hs
 refine⟨fn,tmps,asg,bdy,mZ,fN.mono ?_⟩
 rintro e w' ⟨b,rfl,hp,hf⟩
 refine⟨b,rfl,⟨M,hp,λk hk=>Nat.lt_of_lt_of_le (h2 k hk) hf.size,h3,λk hk=>?_,Nat.le_trans h5 hf.size⟩,hf.size,λk hk hm=>hf.block k hk (h3 k hm),hf.sub⟩
 obtain⟨g1,g2,g3⟩:=h4 k hk
 exact⟨g1,g2,by rw[hf.block k (h2 k g1) g1];exact g3⟩
def ROk(F:Fence)(C:Ctx):Prop:=∀l,F.round=some l->∀g M w,C.p g M w->∃r,w.heap[l]?=some (.loop r)
def Zla:Obj->Bool
 | .cells _ _ _=>false
 | _=>true
theorem ZoF{o:Obj}(h:Zla o=true):ZvO o:=λc T fr e=>by subst e;simp[Zla]at h
theorem ZgM{M:Nat->Prop}{w:World}{l:Nat}{o:Obj}(ho:Zla o=true)(hl:M l):Upd M w (w.putObj l o):=
 ⟨rfl,rfl,rfl,by simp[World.putObj],λk hk hn=>World.putObj_heap_other (λe=>hn (e ▸ hl)),λk hk c T fr hh i hi=>by
  by_cases e:k=l
  ·subst e
   by_cases bB:k < w.heap.size
   ·rw[World.putObj_heap_same bB]at hh
    exact ZoF ho c T fr (Option.some.inj hh) i hi
   ·have h1:=(Array.getElem?_eq_some_iff.1 hh).1
    have h2:(w.putObj k o).heap.size=w.heap.size:=by simp[World.putObj]
    omega
  ·rw[World.putObj_heap_other e]at hh;exact hk c T fr hh i hi⟩
theorem ZdM(w:World)(l:Nat)(o:Obj):(w.putObj l o).heap.size=w.heap.size:=by simp[World.putObj]
theorem FOk.inRound{F:Fence}(h:FOk F)(l:Nat):FOk (F.inRound l):=by
 rcases h with rfl|⟨l',rfl⟩
 ·exact .inr ⟨l,rfl⟩
 ·exact .inr ⟨l,rfl⟩
section
variable {C:Ctx} {S:St} {m:Mem} {a:Act} {w w':World} {M M':Nat->Prop}
theorem Rel.alloc(h:Rel C S m a w)(hd:Dom C S m a w M){o:Obj}(ho:Zla o=true):Rel C S m a (w.alloc o)/\Dom C S m a (w.alloc o) (Zw0 M w (w.alloc o)):=by
 have hk:Keep w.heap.size [] w (w.alloc o):=Keep.alloc (Nat.le_refl _) (ZoF ho)
 refine⟨h.world hk (λb o' v hv=>?_) (Mem.le_refl m) (λ_ _ _ hv=>.inl hv),hd.step (hk.upd (by simp)) (λb o v hv=>.inl hv)⟩
 rw[ZbA (Below.heap_alloc w _ b (h.sub.lt hv))];exact h.sub _ _ _ hv
theorem ZgN(M:Nat->Prop)(w:World)(o:Obj):Zw0 M w (w.alloc o) w.heap.size:=.inr ⟨Nat.le_refl _,by simp⟩
theorem Rel.enter{P:Program}(hr:Rel C S m a w){F:Fence}(hR:ROk F C)(fn:FuncId)(ps:Array Tmp)(asg bdy:Code):
  ∃l mk w1 D,(Instr.enterLoop fn a.tmps ps asg bdy F.round).run P w=.ok (l,mk) w1/\Rel C S m { a with defers:=mk++a.defers } w1/\(∃M,Dom C S m { a with defers:=mk++a.defers } w1 M/\M l)/\
   w1.heap[l]?=some (.loop { state:=.ready,pending:=none,fn,tmps:=a.tmps,params:=ps,assign:=asg,body:=bdy,defers:=D }):=by
 obtain⟨M,hd⟩:=hr.dom
 cases p7:F.round with
 | none=>
  obtain⟨h1,d1⟩:=hr.alloc hd (o:=.deferred (some [])) rfl
  obtain⟨h2,d2⟩:=h1.alloc d1 (o:=.loop { state:=.ready,pending:=none,fn,tmps:=a.tmps,params:=ps,assign:=asg,body:=bdy,defers:=w.heap.size }) rfl
  have e1:(w.alloc (.deferred (some []))).heap.size=w.heap.size+1:=by simp
  have g1:((w.alloc (.deferred (some []))).alloc (.loop { state:=.ready,pending:=none,fn,tmps:=a.tmps,params:=ps,assign:=asg,body:=bdy,defers:=w.heap.size })).heap[w.heap.size]?=some (.deferred (some [])):=by
   rw[Below.heap_alloc _ _ _ (by simp)];exact heap_alloc_new w _
  refine⟨_,_,_,w.heap.size,run_enterLoop_outer _ _ _ _ _,?_,?_,?_⟩
  ·obtain⟨ms,k1,k2,k3⟩:=h2.defers
   have hD:∃M,Dom C S m { a with defers:=[Zkk w.heap.size]++a.defers } ((w.alloc (.deferred (some []))).alloc (.loop { state:=.ready,pending:=none,fn,tmps:=a.tmps,params:=ps,assign:=asg,body:=bdy,defers:=w.heap.size })) M:=
    ⟨_,d2.p,d2.lt,d2.own,d2.tok,λD hD=>by
     simp only[List.singleton_append,List.mem_cons]at hD
     rcases hD with hD|hD
     ·have:D=w.heap.size:=by simpa[Zkk]using hD
      subst this
      exact .inl (ZgN _ _ _)
     ·exact d2.mks D hD,d2.new⟩
   refine⟨⟨w.heap.size::ms,by simp[k1,Zkk],?_,?_⟩,h2.size,h2.env,h2.own,h2.apart,h2.ids,h2.toks,h2.tkeys,h2.tapart,h2.sub,h2.le,hD⟩
   ·refine List.nodup_cons.2 ⟨λhm=>?_,k2⟩
    obtain⟨ms',q1,q2,q3⟩:=hr.defers
    have:w.heap.size∈ms':=by
     have e:Zkk w.heap.size∈a.defers:=by
      have:a.defers=ms.map Zkk:=k1
      rw[this];exact List.mem_map.2 ⟨_,hm,rfl⟩
     rw[q1]at e
     obtain⟨D',r1,r2⟩:=List.mem_map.1 e
     have:D'=w.heap.size:=by simpa[Zkk]using r2
     exact this ▸ r1
    have:=(Array.getElem?_eq_some_iff.1 (q3 _ this)).1
    omega
   ·intro D hD
    rcases List.mem_cons.1 hD with rfl|hD
    ·exact g1
    ·exact k3 D hD
  ·refine⟨_,⟨d2.p,d2.lt,d2.own,d2.tok,λD hD=>?_,d2.new⟩,by rw[<-e1];exact ZgN _ _ _⟩
   simp only[List.singleton_append,List.mem_cons]at hD
   rcases hD with hD|hD
   ·have:D=w.heap.size:=by simpa[Zkk]using hD
    subst this
    exact .inl (ZgN _ _ _)
   ·exact d2.mks D hD
  ·rw[<-e1];exact heap_alloc_new _ _
 | some l0=>
  obtain⟨r0,h0⟩:=hR l0 p7 _ _ _ hd.p
  obtain⟨h1,d1⟩:=hr.alloc hd (o:=.loop { state:=.ready,pending:=none,fn,tmps:=a.tmps,params:=ps,assign:=asg,body:=bdy,defers:=r0.defers }) rfl
  exact⟨_,_,_,r0.defers,run_enterLoop_inner h0 _ _ _ _ _,h1,⟨_,d1,ZgN _ _ _⟩,heap_alloc_new _ _⟩
theorem ZoG{S:St}{ds:List Nat}{A:LoopAnn}{g:Int}{xs:List Value}{css:List (List Value)}{tvs:List Value}{sv:SV}{v:Value}(h:S.den sv=some v):(Zb4 S ds A g xs css tvs).den sv=some v:=by
 cases sv with
 | v u=>exact h
 | loc id off=>
  simp only[St.den]at h ⊢
  cases hx:S.L id with
  | none=>simp[hx]at h
  | some x=>
   obtain⟨y,hy,hb⟩:=Ze4 (l:=A.boxes) (css:=css) hx
   simp only[hx]at h
   simp only[Zb4,hy,hb];exact h
 | sl id n c=>
  simp only[St.den]at h ⊢
  cases hx:S.L id with
  | none=>simp[hx]at h
  | some x=>
   obtain⟨y,hy,hb⟩:=Ze4 (l:=A.boxes) (css:=css) hx
   simp only[hx]at h
   simp only[Zb4,hy,hb];exact h
end
def Zsp(E:Env)(T:KT->St->Mem->Prop)(c:Code):Prop:=
 ∀{F:Fence} (_:FOk F) {C:Ctx} (_:YOk E C) (_:ROk F C) (n:Nat),ZbC C.n c=true->∀{S:St} {m:Mem} {a:Act} {w:World} {K:KT} {Q:Exit->Act->World->Prop},Rel C S m a w->T K S m->
  (∀e S' m' a' w',K e S' m'->Rel C S' m' a' w'->Q e a' w')->c.wpIn F n E.P Q a w
def Zq4(tvs:List Value):Prop:=∀v∈tvs,Zcf v=true
def ZvV(K:KT)(c:Code)(S:St)(m:Mem):Prop:=match c with
 | .ret=>K .ret S m
 | .exit id=>K (.exit id) S m
 | .goto l=>K (.goto l) S m
 | _=>False
section
variable {C:Ctx} {S:St} {m:Mem} {a:Act} {w w':World} {M M':Nat->Prop}
def Zh0(fn:FuncId)(tmps:Array Value)(ps:Array Tmp)(x y:Code)(D:Nat)(st:LoopState)(pe:Option Code):Loop:=
 {state:=st,pending:=pe,fn,tmps,params:=ps,assign:=x,body:=y,defers:=D }
def Zsq(C:Ctx)(S:St)(m:Mem)(A:LoopAnn)(I:List Value->List (List Value)->List Value->Mem->Nat->Prop)(K:KT)(a1:Act)(l:Nat)(rec:LoopState->Option Code->Loop)(k:Int)(M':Nat->Prop)(W:World):Prop:=
 ∃(g:Int) (css:List (List Value)) (tvs:List Value) (m':Mem),css.length=A.boxes.length/\tvs.length=A.toks.length/\Zq4 tvs/\(A.gh=false->g=S.gh)/\m.le m'/\
  Rel C (Zb4 S [] { A with slots:=[] } g [] css tvs) m' a1 W/\
  (∃M,Dom C (Zb4 S [] { A with slots:=[] } g [] css tvs) m' a1 W M/\M l/\¬M' l/\(∀k,M' k->M k)/\Apart M' (Zb4 S [] { A with slots:=[] } g [] css tvs) m' a1)/\
  ((0<=k/\I (ghs A.gh g []) css tvs m' k.toNat/\W.heap[l]?=some (.loop (rec .ready none)))\/
   (k=-1/\∃c,W.heap[l]?=some (.loop (rec .done (some c)))/\ZvV K c (Zb4 S [] { A with slots:=[] } g [] css tvs) m'))
theorem Zno{A:LoopAnn}{I:List Value->List (List Value)->List Value->Mem->Nat->Prop}{K:KT}{a1:Act}{l:Nat}{rec:LoopState->Option Code->Loop}:ZvQ (Zsq C S m A I K a1 l rec):=by
 rintro k M' M2 W W' ⟨g,css,tvs,m',h1,h2,h3,h4,h5,hr,⟨M,hd,hl,hl',hM,gq⟩,hc⟩ hu hg
 obtain⟨eT,p8⟩:=hr.foreign hd hM gq hu
 have gT:=hd.lt l hl
 have tN:W'.heap[l]?=W.heap[l]?:=hu.block l gT hl'
 have key:∀k,k < W.heap.size->¬M' k->¬M2 k:=λk hk hn h=>by
  rcases hg k h with h|h
  ·exact hn h
  ·omega
 refine⟨g,css,tvs,m',h1,h2,h3,h4,h5,eT,⟨_,p8,.inl hl,key l gT hl',λk hk=>?_,?_⟩,?_⟩
 ·rcases hg k hk with h|h
  ·exact .inl (hM k h)
  ·exact .inr h
 ·refine⟨λid x hx=>key _ (hr.own id x hx).lt (gq.box id x hx),λk t b ht hb=>key _ ((hr.toks k t ht).1.lt hb) (gq.tok k t b ht hb),λD hD=>key _ (hd.lt D (hd.mks D hD)) (gq.mks D hD),λb o v hv=>key _ (hr.sub.lt hv) (gq.mem b o v hv)⟩
 ·rw[tN];exact hc
end
section
variable {C:Ctx} {S:St} {m:Mem} {a:Act} {w w':World} {M M':Nat->Prop}
theorem ZvW{a b:Nat}(h:Nat.blt a b=true):a < b:=by simpa[Nat.blt_eq]using h
theorem ZcA{w:World}{k l:Nat}{c T fr}{r:Loop}(h:w.heap[k]?=some (.cells c T fr))(hl:w.heap[l]?=some (.loop r)):k≠l:=λe=>by subst e;rw[h]at hl;cases hl
theorem Zim{w:World}{k l:Nat}{c T fr d}(h:w.heap[k]?=some (.cells c T fr))(hl:w.heap[l]?=some (.deferred d)):k≠l:=λe=>by subst e;rw[h]at hl;cases hl
theorem Own.isCells{m:Mem}{w:World}{x:Box}(h:Own m w x):∃c T fr,w.heap[x.b]?=some (.cells c T fr):=by
 obtain⟨sp,fr,hh,_⟩:=h.cells
 exact⟨_,_,_,hh⟩
theorem TokOk.isCells{m:Mem}{w:World}{t:Tok}(h:TokOk m w t){b:Nat}(hb:t.blk=some b):∃c T fr,w.heap[b]?=some (.cells c T fr):=by
 rcases h with h|⟨b',o0,n,c,cur,T,fr,hv,_,hh,_⟩
 ·simp[Tok.blk,h]at hb
 ·simp[Tok.blk,hv]at hb;subst hb;exact⟨_,_,_,hh⟩
theorem Sub.isCells{m:Mem}{w:World}(h:Sub m w){b o:Nat}{v:Value}(hv:m b o=some v):∃c T fr,w.heap[b]?=some (.cells c T fr):=by
 have h1:=h b o v hv
 unfold World.cell? at h1
 split at h1
 ·rename_i c T fr hc;exact⟨c,T,fr,hc⟩
 ·cases h1
theorem Rel.intoRound{S0 S1:St}{a1:Act}{l:Nat}{r:Loop}{tm:Array Value}(hr:Rel C S0 m a1 w)(hd:Dom C S0 m a1 w M)(hl:M l)(hl':¬M' l)(hM:∀k,M' k->M k)(gq:Apart M' S0 m a1)(dQ:w.heap[l]?=some (.loop r))
  (hL:S1.L=S0.L) (dP:S1.ids=S0.ids) (cA:S1.tok=S0.tok) (fO:S1.tkeys=S0.tkeys) (hg:S1.gh=S0.gh) (bW:tm.size=C.n) (dF:∀i sv,S1.env i=some sv->∃v,S1.den sv=some v/\tm[i]?=some v):
  Rel (Zxc C (λk=>M' k\/k=l\/Zkk k∈a1.defers) (λk=>w.heap[k]?) w.heap.size) S1 m { tmps:=tm,defers:=[] } w:=by
 have hX:∀k,(∃c T fr,w.heap[k]?=some (.cells c T fr))->¬M' k->¬(M' k\/k=l\/Zkk k∈a1.defers):=by
  rintro k ⟨c,T,fr,hk⟩ hn (h|h|h)
  ·exact hn h
  ·exact ZcA hk dQ h
  ·exact Zim hk (hr.markAt h) rfl
 refine hr.swap rfl hr.le hL dP cA fO dF bW ⟨[],rfl,List.nodup_nil,by simp⟩ (λ_ _ _ _ _=>rfl) (λk t b ht hb=>((hr.toks k t ht).2 b hb).2) ⟨λk=>M k/\¬(M' k\/k=l\/Zkk k∈a1.defers),?_,λk hk=>hd.lt k hk.1,λid x hx=>?_,λk t b ht hb=>?_,by simp,λb o v hv=>?_⟩
 ·rw[hg]
  refine⟨M,hd.p,hd.lt,λk hk=>hk.1,λk hk=>⟨?_,λh=>h.2 hk,rfl⟩,Nat.le_refl _⟩
  rcases hk with h|h|h
  ·exact hM k h
  ·exact h ▸ hl
  ·exact hd.mks k h
 ·rw[hL]at hx
  exact⟨hd.own id x hx,hX _ (hr.own id x hx).isCells (gq.box id x hx)⟩
 ·rw[cA]at ht
  exact⟨hd.tok k t b ht hb,hX _ ((hr.toks k t ht).1.isCells hb) (gq.tok k t b ht hb)⟩
 ·exact(hd.new b o v hv).imp_right λh=>⟨h,hX _ (hr.sub.isCells hv) (gq.mem b o v hv)⟩
theorem Rel.beginRound{X:Nat->Prop}{h1:Nat->Option Obj}{B:Nat}{S1:St}{ar:Act}{l:Nat}{r r':Loop}(hr:Rel (Zxc C X h1 B) S1 m ar w)(hl:X l)(dQ:w.heap[l]?=some (.loop r)):
  Rel (Zxc C X (λk=>(w.putObj l (.loop r')).heap[k]?) B) S1 m ar (w.putObj l (.loop r')):=by
 have cW:∀(k:Nat) c T fr,w.heap[k]?=some (Obj.cells c T fr)->(w.putObj l (.loop r')).heap[k]?=w.heap[k]?:=λk c T fr hk=>World.putObj_heap_other (ZcA hk dQ)
 obtain⟨ms,q1,q2,q3⟩:=hr.defers
 refine hr.swap rfl hr.le rfl rfl rfl rfl hr.env hr.size ⟨ms,q1,q2,λD hD=>?_⟩ cW (λk t b ht hb=>((hr.toks k t ht).2 b hb).2) ?_
 ·rw[World.putObj_heap_other (λe=>by have:=q3 D hD;rw[e,dQ]at this;cases this)];exact q3 D hD
 ·obtain⟨Mr,hd⟩:=hr.dom
  obtain⟨M,p1,p2,p3,p4,p5⟩:=hd.p
  refine⟨Mr,⟨M,C.st _ M M _ _ p1 (ZgM rfl (p4 l hl).1) (λk hk=>.inl hk),λk hk=>by rw[ZdM];exact p2 k hk,p3,λk hk=>⟨(p4 k hk).1,(p4 k hk).2.1,rfl⟩,by rw[ZdM];exact p5⟩,λk hk=>by rw[ZdM];exact hd.lt k hk,hd.own,hd.tok,hd.mks,hd.new⟩
theorem Rel.outOfRound{X:Nat->Prop}{h1:Nat->Option Obj}{B:Nat}{S' S2:St}{a3 a1:Act}{l:Nat}{r r':Loop}(hr:Rel (Zxc C X h1 B) S' m a3 w)(hl:X l)(dQ:w.heap[l]?=some (.loop r))
  (eI:∀b o v,C.m0 b o=some v->¬X b) (tO:∀D,Zkk D∈a1.defers->X D) (hX':∀k,M' k->X k) (tP:∀D,Zkk D∈a1.defers->¬M' D)
  (hL:S2.L=S'.L) (dP:S2.ids=S'.ids) (cA:S2.tok=S'.tok) (fO:S2.tkeys=S'.tkeys) (hg:S2.gh=S'.gh) (bW:a1.tmps.size=C.n) (dF:∀i sv,S2.env i=some sv->∃v,S2.den sv=some v/\a1.tmps[i]?=some v)
  (ir:∃ms:List Nat,a1.defers=ms.map Zkk/\ms.Nodup/\∀D∈ms,w.heap[D]?=some (.deferred (some []))):
  Rel C S2 m a1 (w.putObj l (.loop r'))/\∃M,Dom C S2 m a1 (w.putObj l (.loop r')) M/\M l/\(∀k,M' k->M k)/\Apart M' S2 m a1:=by
 have cW:∀(k:Nat) c T fr,w.heap[k]?=some (Obj.cells c T fr)->(w.putObj l (.loop r')).heap[k]?=w.heap[k]?:=λk c T fr hk=>World.putObj_heap_other (ZcA hk dQ)
 obtain⟨ms,q1,q2,q3⟩:=ir
 obtain⟨Mr,hd⟩:=hr.dom
 obtain⟨M,p1,p2,p3,p4,p5⟩:=hd.p
 have hD:Dom C S2 m a1 (w.putObj l (.loop r')) M:=by
  refine⟨hg ▸ C.st _ M M _ _ p1 (ZgM rfl (p4 l hl).1) (λk hk=>.inl hk),λk hk=>by rw[ZdM];exact p2 k hk,λid x hx=>p3 _ (hd.own id x (hL ▸ hx)),λk t b ht hb=>p3 _ (hd.tok k t b (cA ▸ ht) hb),λD hD=>(p4 D (tO D hD)).1,λb o v hv=>(hd.new b o v hv).imp_right (p3 b)⟩
 refine⟨hr.swap rfl hr.le hL dP cA fO dF bW ⟨ms,q1,q2,λD hD=>?_⟩ cW (λk t b ht hb=>((hr.toks k t ht).2 b hb).2) ⟨M,hD⟩,?_⟩
 ·rw[World.putObj_heap_other (λe=>by have:=q3 D hD;rw[e,dQ]at this;cases this)];exact q3 D hD
 ·refine⟨M,hD,(p4 l hl).1,λk hk=>(p4 k (hX' k hk)).1,?_⟩
  refine⟨λid x hx h=>(p4 _ (hX' _ h)).2.1 (hd.own id x (hL ▸ hx)),λk t b ht hb h=>(p4 _ (hX' _ h)).2.1 (hd.tok k t b (cA ▸ ht) hb),tP,λb o v hv h=>?_⟩
  rcases hd.new b o v hv with h2|h2
  ·exact eI b o v h2 (hX' b h)
  ·exact(p4 b (hX' b h)).2.1 h2
theorem Rel.atX{X:Nat->Prop}{h1:Nat->Option Obj}{B:Nat}{S':St}{a3:Act}(hr:Rel (Zxc C X h1 B) S' m a3 w):B<=w.heap.size/\∀k,X k->w.heap[k]?=h1 k:=by
 obtain⟨Mr,hd⟩:=hr.dom
 obtain⟨M,p1,p2,p3,p4,p5⟩:=hd.p
 exact⟨p5,λk hk=>(p4 k hk).2.2⟩
theorem Znp{th:Bool}{E:Env}{A:LoopAnn}{I:List Value->List (List Value)->List Value->Mem->Nat->Prop}{K:KT}{a1:Act}{l:Nat}{fn:FuncId}{ps:Array Tmp}{x y:Code}{D:Nat}{Tx Ty:KT->St->Mem->Prop}{xs:List (List Value)}
  (p9:Zsp E Tx x) (qa:Zsp E Ty y) (qb:∀{K:KT} {S:St} {m:Mem},Tx K S m->Tx (λe S' m'=>K e S' m'/\leT th m m') S m) (qc:∀{K:KT} {S:St} {m:Mem},Ty K S m->Ty (λe S' m'=>K e S' m'/\leT th m m') S m) (oT:YOk E C) (qd:ZbC C.n x=true) (qf:ZbC C.n y=true) (qg:ps.toList.all (Nat.blt · C.n)=true) (hS:StOk S) (bW:a1.tmps.size=C.n) (dF:∀i sv,S.env i=some sv->∃v,S.den sv=some v/\a1.tmps[i]?=some v)
  (tQ:Znm ps.toList (A.slots.map (·.1))=true) (mo:Zbl ps.toList=true) (eG:∀v∈xs,Shape.fitsL (A.slots.map (·.2)) v=true)
  (hb:Zxb A.gh S.gh λy=>Shape.allL (A.slots.map (·.2)) λx=>Zou A.boxes λcss=>Zov A.toks λtvs=>∀(m':Mem)(n:Nat),m.le m'->xs[n]?=some x->I (ghs A.gh y []) css tvs m' n->
     Tx (λe S1 m1=>match e with
      | .normal=>Ty (λe S' m''=>Zyn th m m'' (Zmk A.gh S'.gh S.gh (ZnT (Zcb S' A S.ids) (Zcb S A S.ids) (ZnU (Zbk S' A S.tkeys) (Zbk S A S.tkeys) (ZtI S' A.boxes λcss'=>ZgJ S' A.toks λtvs'=>match e with
       | .normal=>I (ghs A.gh S'.gh []) css' tvs' m'' (n+1)
       | e=>Zow K e (Zb4 S [] { A with slots:=[] } S'.gh [] css' tvs') m''))))) S1 m1
      | _=>False) (Zb4 S [] A y x css tvs) m'):
  Zmf E.P m (Zsq C S m A I K a1 l (Zh0 fn a1.tmps ps x y D)) (λl' g v=>l'=l/\0<=g/\xs[g.toNat]?=some v):=by
 rintro F n l' k v M' w hF bB ⟨rfl,v6,sj⟩ ⟨g,css,tvs,m',h1,h2,h3,h4,h5,hr,⟨M,hd,hl,hl',hM,gq⟩,hc⟩ cF
 rcases hc with⟨_,hI,dQ⟩|⟨ip,_⟩
 rotate_left
 ·omega
 have jY:=Zkv tQ
 have qh:=eG v (List.mem_of_getElem? sj)
 have gX:v.length=ps.toList.length:=by rw[jY,ZfQ qh];simp
 have dT:=ZaN mo
 have hy:=run_yield (P:=E.P) (args:=v.toArray) dQ (by simpa[Zh0]using gX)
 simp only[Zh0]at hy
 refine⟨_,_,_,_,hy,roundIn_of_wpIn (hF.fn _) ?_⟩
 have nf:((ps.zip v.toArray).foldl (λtmps (x:Tmp×Value)=>tmps.setIfInBounds x.1 x.2) a1.tmps)=((ps.toList.zip v).foldl (λ(t:Array Value)(x:Nat×Value)=>t.setIfInBounds x.1 x.2) a1.tmps):=by
  rw[<-Array.foldl_toList,Array.toList_zip]
 obtain⟨f1,f2,f3⟩:=Zku ps.toList v a1.tmps gX dT
 have sk:=hF.inRound l'
 have dU:=hr.intoRound (S1:=Zb4 S [] A g v css tvs) (tm:=(ps.toList.zip v).foldl (λ(t:Array Value)(x:Nat×Value)=>t.setIfInBounds x.1 x.2) a1.tmps) hd hl hl' hM gq dQ rfl rfl rfl rfl rfl (by rw[f1];exact bW) (by
  intro i sv he
  simp only[Zb4]at he
  rcases Zkt (by rw[ZfQ qh];simp) he with⟨g1,g2⟩|⟨q,sh,u,g1,g2,g3⟩
  ·simp only[List.any_nil,cond_false]at g1
   obtain⟨u,g3,g4⟩:=dF i sv g1
   exact⟨u,ZoG g3,by rw[f2 i (by rw[jY];exact g2)];exact g4⟩
  ·subst g3
   refine⟨u,rfl,f3 q i u ?_ g2 ?_⟩
   ·rw[jY,List.getElem?_map,g1];rfl
   ·have:i∈ps.toList:=by rw[jY];exact List.mem_map.2 ⟨_,List.mem_of_getElem? g1,rfl⟩
    have:=List.all_eq_true.1 qg i this
    rw[bW];exact ZvW this)
 rw[nf]
 have tR:∀b o v,C.m0 b o=some v->¬(M' b\/b=l'\/Zkk b∈a1.defers):=by
  intro b o v hv
  have hv':m' b o=some v:=hr.le b o v hv
  obtain⟨c,T,fr,hc⟩:=hr.sub.isCells hv'
  rintro(h|h|h)
  ·exact gq.mem b o v hv' h
  ·exact ZcA hc dQ h
  ·exact Zim hc (hr.markAt h) rfl
 have eS:=Ze3 (Ze2 (Shape.allL_fits _ _ (Zif hb h4) v qh) css h1) tvs h2 h3 m' k.toNat h5 sj hI
 refine p9 sk (Zq3 oT) ?_ n qd dU (qb eS) ?_
 ·intro l2 gp g2 Mr w2 hp
  have:l2=l':=by simpa using gp.symm
  subst this
  obtain⟨M2,_,_,_,p4,_⟩:=hp
  exact⟨_,by rw[(p4 l2 (.inr (.inl rfl))).2.2];exact dQ⟩
 rintro e S1 m1 a2 w1 ⟨hk,qi⟩ eT
 cases e with
 | normal=>
  obtain⟨z1,z2⟩:=eT.atX
  have jf:w1.heap[l']?=some (.loop (Zh0 fn a1.tmps ps x y D .ready none)):=by rw[z2 l' (.inr (.inl rfl))];exact dQ
  refine⟨_,run_beginRound jf rfl,?_⟩
  have qj:=eT.beginRound (r':={ Zh0 fn a1.tmps ps x y D .ready none with state:=.busy }) (.inr (.inl rfl)) jf
  have kH:l' < w1.heap.size:=(Array.getElem?_eq_some_iff.1 jf).1
  have gS:(w1.putObj l' (.loop { Zh0 fn a1.tmps ps x y D .ready none with state:=.busy })).heap[l']?=some (.loop { Zh0 fn a1.tmps ps x y D .ready none with state:=.busy }):=World.putObj_heap_same kH
  refine qa sk (Zq3 oT) ?_ n qf qj (qc hk) ?_
  ·intro l2 gp g2 Mr w2 hp
   have:l2=l':=by simpa using gp.symm
   subst this
   obtain⟨M2,_,_,_,p4,_⟩:=hp
   exact⟨_,by rw[(p4 l2 (.inr (.inl rfl))).2.2];exact gS⟩
  rintro e S' m'' a3 w3 ⟨hk,qk⟩ mq
  obtain⟨q0,hk⟩:=Zsi hk
  obtain⟨q1,hk⟩:=ZeZ hk
  obtain⟨q2,hk⟩:=Zdg.1 hk
  obtain⟨q3,hk⟩:=Zdh.1 hk
  obtain⟨css',g1,g2,hk⟩:=ZdL hk
  obtain⟨tvs',k1,k2,hk⟩:=Zcs hk
  obtain⟨y1,y2⟩:=mq.atX
  have iE:w3.heap[l']?=some (.loop { Zh0 fn a1.tmps ps x y D .ready none with state:=.busy }):=by rw[y2 l' (.inr (.inl rfl))];exact gS
  have mj:m.le m'':=by
   cases th with
   | true=>exact q0 rfl
   | false=>exact mLt h5 (mLt qi qk)
  have hx:Rel (Zxc C (λk=>M' k\/k=l'\/Zkk k∈a1.defers) (λk=>(w1.putObj l' (.loop { Zh0 fn a1.tmps ps x y D .ready none with state:=.busy })).heap[k]?) w.heap.size) (Zb4 { S with env:=λ_=>none } [] { A with slots:=[] } S'.gh [] css' tvs') m'' a3 w3:=by
   have hh:Rel (Zxc C (λk=>M' k\/k=l'\/Zkk k∈a1.defers) (λk=>(w1.putObj l' (.loop { Zh0 fn a1.tmps ps x y D .ready none with state:=.busy })).heap[k]?) w.heap.size) { S' with env:=λ_=>none } m'' a3 w3:=
    mq.restrict rfl (λ_ _ h=>h) (λ_ _ h=>.inl h) (λi sv h=>(by cases h)) mq.ids mq.tkeys
   exact Zff (S:={ S with env:=λ_=>none }) (S':={ S' with env:=λ_=>none }) (A:={ A with slots:=[] }) ⟨λi sv h=>(by cases h),hS.ids,hS.tkeys⟩ hh (λ_ _=>rfl) q2 q3 (by simp) g1 g2 k1 k2
  have ir:∃ms:List Nat,a1.defers=ms.map Zkk/\ms.Nodup/\∀D∈ms,w3.heap[D]?=some (.deferred (some [])):=by
   obtain⟨ms,r1,r2,r3⟩:=hr.defers
   refine⟨ms,r1,r2,λD' hD'=>?_⟩
   have hm:Zkk D'∈a1.defers:=by rw[r1];exact List.mem_map.2 ⟨_,hD',rfl⟩
   rw[y2 D' (.inr (.inr hm)),World.putObj_heap_other (λe=>by have:=r3 D' hD';rw[e,dQ]at this;cases this),z2 D' (.inr (.inr hm))];exact r3 D' hD'
  have cX:=λ(r':Loop)=>hx.outOfRound (S2:=Zb4 S [] { A with slots:=[] } S'.gh [] css' tvs') (a1:=a1) (M':=M') (r':=r') (.inr (.inl rfl)) iE tR (λD' hD'=>.inr (.inr hD')) (λk hk=>.inl hk) gq.mks rfl rfl rfl rfl rfl bW (by
   intro i sv he
   simp only[Zb4,ZbY,List.any_nil,cond_false]at he
   obtain⟨u,g3,g4⟩:=dF i sv he
   exact⟨u,ZoG g3,g4⟩) ir
  have jH:l' < w3.heap.size:=(Array.getElem?_eq_some_iff.1 iE).1
  have ng:∀r',Frn m M' w (w3.putObj l' (.loop r')):=λr'=>by
   refine⟨by rw[ZdM];exact y1,λk hk ql=>?_,λb o v hv=>?_⟩
   ·have cW:k≠l':=λe=>hl' (e ▸ ql)
    rw[World.putObj_heap_other cW,y2 k (.inl ql),World.putObj_heap_other cW,z2 k (.inl ql)]
   ·have:=(cX r').1.sub b o v (mj b o v hv)
    exact this
  have fD:Zq4 tvs':=by
   intro u hu
   obtain⟨i,hi⟩:=List.getElem?_of_mem hu
   have bB:=(List.getElem?_eq_some_iff.1 hi).1
   obtain⟨qe,jg⟩:∃qe,A.toks[i]?=some qe:=⟨_,List.getElem?_eq_getElem (by omega)⟩
   exact(k2 i qe.1 qe.2 u jg hi).1
  have fin:∀(c:Code) ,ZvV K c (Zb4 S [] { A with slots:=[] } S'.gh [] css' tvs') m''->∃v w',(Instr.endRound l' (some c)).run E.P w3=.ok v w'/\∃b,Ending.returned v=Ending.returned (.bool b)/\Zsq C S m A I K a1 l' (Zh0 fn a1.tmps ps x y D) (if b then k+1 else -1) M' w'/\Frn m M' w w':=by
   intro c hc
   refine⟨_,_,run_endRound (some c) iE,false,rfl,?_,ng _⟩
   obtain⟨o1,M3,o2,o3,o4,o5⟩:=cX (Zh0 fn a1.tmps ps x y D .done (some c))
   exact⟨S'.gh,css',tvs',m'',g1,k1,fD,q1,mj,o1,⟨M3,o2,o3,hl',o4,o5⟩,.inr ⟨rfl,c,World.putObj_heap_same jH,hc⟩⟩
  cases e with
  | normal=>
   refine⟨_,_,run_endRound none iE,true,rfl,?_,ng _⟩
   obtain⟨o1,M3,o2,o3,o4,o5⟩:=cX (Zh0 fn a1.tmps ps x y D .ready none)
   refine⟨S'.gh,css',tvs',m'',g1,k1,fD,q1,mj,o1,⟨M3,o2,o3,hl',o4,o5⟩,.inl ⟨by simp;omega,?_,World.putObj_heap_same jH⟩⟩
   have:(k+1).toNat=k.toNat+1:=by omega
   simp only[if_true,this]
   exact hk
  | ret=>exact fin _ hk
  | exit id=>exact fin _ hk
  | goto t=>exact fin _ hk
  | panic ch=>exact hk.elim
  | outgrown=>exact hk.elim
 | exit id=>exact hk.elim
 | goto t=>exact hk.elim
 | ret=>exact hk.elim
 | panic ch=>exact hk.elim
 | outgrown=>exact hk.elim
end
section
variable {C:Ctx} {S:St} {m:Mem} {a:Act} {w w':World}
theorem Rel.afterRange{S2:St}{a1:Act}{l:Nat}{r r':Loop}{M:Nat->Prop}(hr:Rel C S2 m a1 w)(hd:Dom C S2 m a1 w M)(hl:M l)(dQ:w.heap[l]?=some (.loop r)):Rel C S2 m a1 (w.putObj l (.loop r')):=by
 obtain⟨ms,q1,q2,q3⟩:=hr.defers
 refine hr.swap rfl hr.le rfl rfl rfl rfl hr.env hr.size ⟨ms,q1,q2,λD hD=>?_⟩ (λk c T fr hk=>World.putObj_heap_other (ZcA hk dQ)) (λk t b ht hb=>((hr.toks k t ht).2 b hb).2) ⟨_,hd.step (ZgM rfl hl) (λb o v hv=>.inl hv)⟩
 rw[World.putObj_heap_other (λe=>by have:=q3 D hD;rw[e,dQ]at this;cases this)];exact q3 D hD
theorem ZoH{th:Bool}{E:Env}{F:Fence}(hF:FOk F)(oT:YOk E C)(hR:ROk F C)(n:Nat){A:LoopAnn}{f:Operand}{ps:Array Tmp}{x y:Code}{Tx Ty:KT->St->Mem->Prop}
  (p9:Zsp E Tx x) (qa:Zsp E Ty y) (qb:∀{K:KT} {S:St} {m:Mem},Tx K S m->Tx (λe S' m'=>K e S' m'/\leT th m m') S m) (qc:∀{K:KT} {S:St} {m:Mem},Ty K S m->Ty (λe S' m'=>K e S' m'/\leT th m m') S m)
  (qd:ZbC C.n x=true) (qf:ZbC C.n y=true) (qg:ps.toList.all (Nat.blt · C.n)=true)
  {K:KT} {Q:Exit->Act->World->Prop} (hr:Rel C S m a w) (h:Zox th E.P A f ps.toList Tx Ty K S m) (hK:∀e S' m' a' w',K e S' m'->Rel C S' m' a' w'->Q e a' w'):(Code.rangeFunc f ps x y).wpIn F n E.P Q a w:=by
 unfold Zox at h
 split at h
 rotate_left
 ·exact h.elim
 rename_i g first captured iZ
 obtain⟨hc,mj⟩:=Zag h
 obtain⟨mi,jh,kF,xs,sm,eG,I,h0,hb,ji⟩:=Zsh mj
 simp only[Bool.and_eq_true]at hc
 obtain⟨v,e1,_,e2⟩:=hr.ev_val iZ
 simp only[St.den,Option.some.injEq]at e1
 refine wpIn_rangeFunc λfn lq=>?_
 obtain⟨l,mk,w1,D,ls,dU,⟨M1,jG,kH⟩,dQ⟩:=hr.enter (P:=E.P) hR fn ps x y
 obtain⟨a1,lw⟩:∃a1,a1=({ a with defers:=mk++a.defers }:Act):=⟨_,rfl⟩
 rw[<-lw]at dU jG
 have dV:a1.tmps=a.tmps:=by rw[lw]
 have nh:w1.heap[l]?=some (.loop (Zh0 fn a1.tmps ps x y D .ready none)):=by rw[dV];exact dQ
 refine⟨l,mk,w1,{ target:=.fn (.func g) captured,args:=first++#[.func (.yield l) #[] #[]] },w1,g,(first.toList++.func (.yield l) #[] #[]::captured.toList).toArray,w1,ls,?_,λf' _=>hF.fn f',?_,λhs=>by rw[hF.depth]at hs;simp at hs,?_⟩
 ·simp only[resolve,e2,<-e1,Deferred.ofValue]
  simp[go_sem]
 ·have gH:first++#[Value.func (.yield l) #[] #[]]++captured=(first.toList++Value.func (.yield l) #[] #[]::captured.toList).toArray:=Array.ext' (by simp)
  simp only[invoke,gH]
  exact sm.1 _ _
 ·obtain⟨css,g1,g2,h0⟩:=ZdL h0
  obtain⟨tvs,k1,k2,hI⟩:=Zcs h0
  have fD:Zq4 tvs:=by
   intro u hu
   obtain⟨i,hi⟩:=List.getElem?_of_mem hu
   have bB:=(List.getElem?_eq_some_iff.1 hi).1
   obtain⟨qe,jg⟩:∃qe,A.toks[i]?=some qe:=⟨_,List.getElem?_eq_getElem (by omega)⟩
   exact(k2 i qe.1 qe.2 u jg hi).1
  have qm:Rel C (Zb4 S [] { A with slots:=[] } S.gh [] css tvs) m a1 w1:=Zff dU.ok dU (SameOut.refl _ _) rfl rfl (by simp) g1 g2 k1 k2
  have qn:Zsq C S mi A I K a1 l (Zh0 fn a1.tmps ps x y D) 0 (λ_=>False) w1:=by
   refine⟨S.gh,css,tvs,m,g1,k1,fD,λ_=>rfl,jh,qm,?_,.inl ⟨Int.le_refl _,hI,nh⟩⟩
   have p8:Dom C (Zb4 S [] { A with slots:=[] } S.gh [] css tvs) m a1 w1 M1:=by
    refine⟨jG.p,jG.lt,λid y hy=>?_,λk t b ht hb=>?_,jG.mks,jG.new⟩
    ·simp only[Zb4]at hy
     rcases ZgL hy with⟨i,x',cs,q1,q2,q3,q4⟩|⟨q1,q2⟩
     ·rw[q4];exact jG.own id x' q3
     ·exact jG.own id y q2
    ·simp only[Zb4]at ht
     rcases Zd5 ht with⟨i,e,u,q1,q2,q3⟩|⟨q1,q2⟩
     ·obtain⟨_,q5⟩:=k2 i k e u q1 q2
      subst q3
      rcases q5 with q5|q5
      ·exact jG.tok k _ b q5 hb
      ·simp[Tok.blk,q5]at hb
     ·exact jG.tok k t b q2 hb
   exact⟨M1,p8,kH,λh=>h,λ_ h=>h.elim,⟨λ_ _ _ h=>h,λ_ _ _ _ _ h=>h,λ_ _ h=>h,λ_ _ _ _ h=>h⟩⟩
  have dF:∀i sv,S.env i=some sv->∃v,S.den sv=some v/\a1.tmps[i]?=some v:=λi sv he=>dU.env i sv he
  have lx:=Znp (th:=th) (E:=E) (S:=S) (m:=mi) (K:=K) (l:=l) (fn:=fn) (D:=D) p9 qa qb qc oT qd qf qg hr.ok dU.size dF hc.1 hc.2 eG hb
  refine hF.calls ((sm.2 _ Zno l w1 (λb o v hv=>dU.sub b o v (jh b o v hv)) qn lx).mono ?_)
  rintro e w2 ⟨v,M2,rfl,bB,fL⟩
  rw[<-lw]
  rcases fL with fL|fL
  all_goals obtain⟨gg,css2,tvs2,m2,y1,y2,y3,y4,y5,y6,⟨M3,y7,y8,y9,y10,y11⟩,y12⟩:=fL
  ·rcases y12 with⟨_,tS,gZ⟩|⟨hk,_⟩
   ·refine⟨none,_,run_endLoop gZ (by simp[Zh0]),?_⟩
    have:=Ze3 (Ze2 (Zif ji y4) css2 y1) tvs2 y2 y3 m2 y5 (by simpa using tS)
    exact hK _ _ _ _ _ this (y6.afterRange y7 y8 gZ)
   ·omega
  ·rcases y12 with⟨hk,_⟩|⟨_,c,gZ,iF⟩
   ·omega
   ·refine⟨some c,_,run_endLoop gZ (by simp[Zh0]),?_⟩
    have hR:=λr'=>y6.afterRange (r':=r') y7 y8 gZ
    cases c with
    | ret=>exact wpIn_ret (hK _ _ _ _ _ iF (hR _))
    | exit id=>exact wpIn_exit (hK _ _ _ _ _ iF (hR _))
    | goto t=>exact wpIn_goto (hK _ _ _ _ _ iF (hR _))
    | _=>exact iF.elim
end
end Go.Eng