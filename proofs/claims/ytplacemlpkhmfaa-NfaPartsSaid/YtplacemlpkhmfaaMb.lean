/- The engine: a reckoner over the code of a program in Lean, with its soundness; it names no program. No condition. -/
import Derived.Test.YtplacemlpkhmfaaMa
import Derived.RangeFuncNested
import Derived.RangeFuncLeaves
set_option linter.unusedVariables false
set_option linter.unusedSimpArgs false
set_option linter.unusedSectionVars false
namespace Go.Eng
open Go Go.RowKit
theorem Zb7{n:Int}(h0 : -9223372036854775808<=n)(h1:n<=9223372036854775807):IntKind.i64.wrap n=n:=by
 simp only[IntKind.wrap,IntKind.bits,IntKind.signed,Bool.true_and]
 split
 ·rename_i h;simp at h;omega
 ·rename_i h;simp at h;omega
def ZrL(E:Env)(S:St)(T:TypeId)(l c:Operand)(d:Option Tmp)(K:St->Prop):Prop:=match d with
 | none=>False
 | some d=>match Zav E T with
  | none=>False
  | some (e,j)=>match S.L d with
   | some _=>False
   | none=>wv S l λvl=>wv S c λvc=>chk (Za9 vl&&Za9 vc) ((0<=RowKit.intOf vl/\RowKit.intOf vl<=RowKit.intOf vc/\RowKit.intOf vc*j.bytes<=281474976710656/\RowKit.intOf vc<=9223372036854775807)/\
     ∀b,K ((S.newL d { b:=b,cs:=(List.replicate (RowKit.intOf vc).toNat j.zero.cells.toList).flatten,T:=e,cap:=(RowKit.intOf vc).toNat*j.size,fz:=false,full:=true }).put (some d) (some (.sl d (RowKit.intOf vl).toNat (RowKit.intOf vc).toNat))))
def ZoP(E:Env)(S:St)(m:Mem)(T:TypeId)(l c:Operand)(d:Option Tmp)(K:St->Mem->Prop):Prop:=match d with
 | none=>False
 | some d=>match Zav E T with
  | none=>False
  | some (e,j)=>wv S l λvl=>wv S c λvc=>chk (Za9 vl&&Za9 vc) ((0<=RowKit.intOf vl/\RowKit.intOf vl<=RowKit.intOf vc/\RowKit.intOf vc*j.bytes<=281474976710656/\RowKit.intOf vc<=9223372036854775807)/\
     ∀b,m.free b->K (S.put (some d) (some (.v (.slice (some ⟨b,0,none⟩) (RowKit.intOf vl).toNat (RowKit.intOf vc).toNat)))) (m.add b (List.replicate (RowKit.intOf vc).toNat j.zero.cells.toList).flatten))
def Zqd(E:Env)(d:Option Tmp):Bool:=match d with
 | none=>false
 | some d=>E.mkM d
theorem Zih(zs:List Value):∀(c:Nat),(List.range (c*zs.length)).map (λi=>zs.toArray[i % zs.toArray.size]!)=(List.replicate c zs).flatten
 | 0=>by simp
 | c+1=>by
  rw[Nat.add_mul,Nat.one_mul,List.replicate_succ',List.flatten_append,<-Zih zs c,List.range_add,List.map_append]
  congr 1
  simp only[List.flatten_cons,List.flatten_nil,List.append_nil,List.map_map]
  refine List.ext_getElem (by simp) λi h1 h2=>?_
  simp only[List.length_map,List.length_range]at h1
  simp only[List.getElem_map,List.getElem_range,Function.comp,List.size_toArray]
  rw[Nat.mul_comm,Nat.mul_add_mod,Nat.mod_eq_of_lt h1]
  simp[h1]
section
variable {C:Ctx} {S:St} {m:Mem} {a:Act} {w:World}
theorem ZkV{E:Env}(hE:E.ok){T:TypeId}{l c:Operand}{d:Option Tmp}{K:St->Prop}(hd:∀t,d=some t->t < C.n)(hr:Rel C S m a w)(h:ZrL E S T l c d K):
  ∃S' v w',K S'/\Rel C S' m (a.put d v) w'/\(Instr.makeSlice T (a.eval l) (a.eval c)).run E.P w=.ok v w':=by
 unfold ZrL at h
 cases d with
 | none=>exact h.elim
 | some d=>
  simp only at h
  cases hs:Zav E T with
  | none=>simp[hs]at h
  | some ej=>
   obtain⟨e,j⟩:=ej
   simp only[hs]at h
   cases hL:S.L d with
   | some x=>simp[hL]at h
   | none=>
    simp only[hL]at h
    obtain⟨vl,jf,h⟩:=Zay h
    obtain⟨vc,lL,h⟩:=Zay h
    obtain⟨h1,⟨h2,h3,h4,h5⟩,hk⟩:=Zad h
    simp only[zA7]at h1
    obtain⟨kl,mW⟩:=ZaM h1.1
    obtain⟨kc,mV⟩:=ZaM h1.2
    generalize tU:RowKit.intOf vl=nl at *
    generalize gi:RowKit.intOf vc=nc at *
    obtain⟨i,gQ,gS,js⟩:=ZaE hs
    have cT:=hE e j js
    have hu:=(hE T i gQ).run_und (w:=w)
    rw[gS]at hu
    have bU:=cT.run_size (w:=w)
    have hz:=cT.run_zero (w:=w)
    obtain⟨x,g1,_,_,g4⟩:=cT.run_info (w:=w)
    have gw:j.zero.cells.toList.length=j.size:=by simpa using cT.zsize
    have bG:((List.replicate nc.toNat j.zero.cells.toList).flatten).length=nc.toNat*j.size:=by simp[cT.zsize]
    have hb:=hr.newBox (d:=d) hL (x:={ b:=w.heap.size,cs:=(List.replicate nc.toNat j.zero.cells.toList).flatten,T:=e,cap:=nc.toNat*j.size,fz:=false,full:=true }) (m':=m) [] rfl (by simpa using bG) (λ_=>bG) (.inl ⟨rfl,rfl⟩)
    simp only[List.append_nil]at hb
    refine⟨_,.slice (some ⟨w.heap.size,0,none⟩) nl.toNat nc.toNat,_,hk w.heap.size,hb.put (some d) hd (by simp[St.den,St.newL]),?_⟩
    rw[hr.ev jf,hr.ev lL,mW,mV]
    have w1:IntKind.i64.wrap nl=nl:=Zb7 (by omega) (by omega)
    have w2:IntKind.i64.wrap nc=nc:=Zb7 (by omega) (by omega)
    have qU:0<=nc:=by omega
    have c1:¬(nc < 0):=by omega
    have c2:¬(nl < 0):=by omega
    have c3:¬(nc < nl):=by omega
    have c4:¬(281474976710656 < (x.bytes:Int)*nc):=by rw[g4,Int.mul_comm];omega
    have cU:(Array.map (λi=>(if nc.toNat*j.size=0 then(#[]:Array Value)else j.zero.cells)[i % (if nc.toNat*j.size=0 then(#[]:Array Value)else j.zero.cells).size]!) (Array.range (nc.toNat*j.size)))=(List.replicate nc.toNat j.zero.cells.toList).flatten.toArray:=by
     have:=Zih j.zero.cells.toList nc.toNat
     rw[gw]at this
     apply Array.ext'
     by_cases h0:nc.toNat*j.size=0
     ·have fE:(List.replicate nc.toNat j.zero.cells.toList).flatten=[]:=List.eq_nil_of_length_eq_zero (by rw[bG,h0])
      simp[h0,fE]
     ·simp only[h0,if_false,Array.toList_map,Array.toList_range]
      rw[<-this]
    by_cases h0:nc.toNat*j.size=0
    ·simp only[h0,if_true]at cU
     simp[Instr.makeSlice,hu,asInt,asIntOf,g1,w1,w2,c1,c2,c3,c4,bU,h0,newRow,<-cU]
    ·simp only[h0,if_false]at cU
     simp[Instr.makeSlice,hu,asInt,asIntOf,g1,w1,w2,c1,c2,c3,c4,bU,h0,hz,newRow,<-cU]
theorem ZjT{E:Env}(hE:E.ok){T:TypeId}{l c:Operand}{d:Option Tmp}{K:St->Mem->Prop}(hd:∀t,d=some t->t < C.n)(hr:Rel C S m a w)(h:ZoP E S m T l c d K):
  ∃S' m' v w',K S' m'/\Rel C S' m' (a.put d v) w'/\(Instr.makeSlice T (a.eval l) (a.eval c)).run E.P w=.ok v w':=by
 unfold ZoP at h
 cases d with
 | none=>exact h.elim
 | some d=>
  simp only at h
  cases hs:Zav E T with
  | none=>simp[hs]at h
  | some ej=>
   obtain⟨e,j⟩:=ej
   simp only[hs]at h
   obtain⟨vl,jf,h⟩:=Zay h
   obtain⟨vc,lL,h⟩:=Zay h
   obtain⟨h1,⟨h2,h3,h4,h5⟩,hk⟩:=Zad h
   simp only[zA7]at h1
   obtain⟨kl,mW⟩:=ZaM h1.1
   obtain⟨kc,mV⟩:=ZaM h1.2
   generalize tU:RowKit.intOf vl=nl at *
   generalize gi:RowKit.intOf vc=nc at *
   obtain⟨i,gQ,gS,js⟩:=ZaE hs
   have cT:=hE e j js
   have hu:=(hE T i gQ).run_und (w:=w)
   rw[gS]at hu
   have bU:=cT.run_size (w:=w)
   have hz:=cT.run_zero (w:=w)
   obtain⟨x,g1,_,_,g4⟩:=cT.run_info (w:=w)
   have gw:j.zero.cells.toList.length=j.size:=by simpa using cT.zsize
   have bG:((List.replicate nc.toNat j.zero.cells.toList).flatten).length=nc.toNat*j.size:=by simp[cT.zsize]
   have dA:∀o,m w.heap.size o=none:=λo=>by
    cases he:m w.heap.size o with
    | none=>rfl
    | some u=>have:=hr.sub.lt he;omega
   have cW:Sub (m.add w.heap.size (List.replicate nc.toNat j.zero.cells.toList).flatten) (w.alloc (.cells ((List.replicate nc.toNat j.zero.cells.toList).flatten).toArray e (0,0))):=λb o v hv=>by
    by_cases hb:b=w.heap.size
    ·subst hb
     rw[Mem.add_same]at hv
     have:(w.alloc (.cells ((List.replicate nc.toNat j.zero.cells.toList).flatten).toArray e (0,0))).heap[w.heap.size]?=some (.cells ((List.replicate nc.toNat j.zero.cells.toList).flatten).toArray e (0,0)):=by show(w.heap.push _)[w.heap.size]?=_;simp
     simp only[World.cell?,this]
     simpa using hv
    ·rw[Mem.add_other _ hb]at hv
     rw[ZaY (w:=w) (Below.heap_alloc w _ b (hr.sub.lt hv))];exact hr.sub _ _ _ hv
   have lK:=hr.world (m':=m.add w.heap.size (List.replicate nc.toNat j.zero.cells.toList).flatten) (Keep.alloc (Nat.le_refl _) (ZdJ _ _)) cW (Mem.le_add dA _) (λb o v hv=>by
    by_cases hb:b=w.heap.size
    ·exact .inr ⟨by omega,by rw[hb];exact Wr.new (ZdJ _ _)⟩
    ·rw[Mem.add_other _ hb]at hv;exact .inl hv)
   refine⟨_,_,.slice (some ⟨w.heap.size,0,none⟩) nl.toNat nc.toNat,_,hk w.heap.size dA,lK.put (some d) hd rfl,?_⟩
   rw[hr.ev jf,hr.ev lL,mW,mV]
   have w1:IntKind.i64.wrap nl=nl:=Zb7 (by omega) (by omega)
   have w2:IntKind.i64.wrap nc=nc:=Zb7 (by omega) (by omega)
   have qU:0<=nc:=by omega
   have c1:¬(nc < 0):=by omega
   have c2:¬(nl < 0):=by omega
   have c3:¬(nc < nl):=by omega
   have c4:¬(281474976710656 < (x.bytes:Int)*nc):=by rw[g4,Int.mul_comm];omega
   have cU:(Array.map (λi=>(if nc.toNat*j.size=0 then(#[]:Array Value)else j.zero.cells)[i % (if nc.toNat*j.size=0 then(#[]:Array Value)else j.zero.cells).size]!) (Array.range (nc.toNat*j.size)))=(List.replicate nc.toNat j.zero.cells.toList).flatten.toArray:=by
    have:=Zih j.zero.cells.toList nc.toNat
    rw[gw]at this
    apply Array.ext'
    by_cases h0:nc.toNat*j.size=0
    ·have fE:(List.replicate nc.toNat j.zero.cells.toList).flatten=[]:=List.eq_nil_of_length_eq_zero (by rw[bG,h0])
     simp[h0,fE]
    ·simp only[h0,if_false,Array.toList_map,Array.toList_range]
     rw[<-this]
   by_cases h0:nc.toNat*j.size=0
   ·simp only[h0,if_true]at cU
    simp[Instr.makeSlice,hu,asInt,asIntOf,g1,w1,w2,c1,c2,c3,c4,bU,h0,newRow,<-cU]
   ·simp only[h0,if_false]at cU
    simp[Instr.makeSlice,hu,asInt,asIntOf,g1,w1,w2,c1,c2,c3,c4,bU,h0,hz,newRow,<-cU]
def frW(fr:Option Mem)(b:Nat)(p:Prop):Prop:=match fr with
 | none=>p
 | some m=>m.free b->p
theorem ZqZ{fr:Option Mem}{m:Mem}{b:Nat}{p:Prop}(eZ:∀m',fr=some m'->m'=m)(hf:m.free b)(h:frW fr b p):p:=by
 cases fr with
 | none=>exact h
 | some m'=>exact h (by rw[eZ m' rfl];exact hf)
theorem ZnN{fr:Option Mem}{b:Nat}{p q:Prop}(h:p->q)(hx:frW fr b p):frW fr b q:=by
 cases fr with
 | none=>exact h hx
 | some m=>exact λhf=>h (hx hf)
def ZjU(E:Env)(S:St)(fr:Option Mem)(T:TypeId)(l c:Operand)(d:Option Tmp)(key:Nat)(K:St->Prop):Prop:=match d with
 | none=>False
 | some d=>match Zav E T with
  | none=>False
  | some (e,j)=>wv S l λvl=>wv S c λvc=>chk (Za9 vl&&Za9 vc) ((RowKit.intOf vl=0/\0<=RowKit.intOf vc/\RowKit.intOf vc*j.bytes<=281474976710656/\RowKit.intOf vc<=9223372036854775807)/\
     ∀b,frW fr b (K (({ S with tok:=λk=>bif Nat.beq k key then some ⟨.slice (some ⟨b,0,none⟩) 0 (RowKit.intOf vc).toNat,j.size⟩ else S.tok k,tkeys:=key::S.tkeys }:St).put (some d) (some (.v (.slice (some ⟨b,0,none⟩) 0 (RowKit.intOf vc).toNat))))))
theorem ZfZ{E:Env}(hE:E.ok){T:TypeId}{l c:Operand}{d:Option Tmp}{key:Nat}{K:St->Prop}{fr:Option Mem}(eZ:∀m',fr=some m'->m'=m)(hd:∀t,d=some t->t < C.n)(hr:Rel C S m a w)(h:ZjU E S fr T l c d key K):
  ∃S' v w',K S'/\Rel C S' m (a.put d v) w'/\(Instr.makeSlice T (a.eval l) (a.eval c)).run E.P w=.ok v w'/\
   (c=.const (.int .i64 0)->∃i e,E.tt T=some i/\i.d=.slice e/\v=.slice (some ⟨w.heap.size,0,none⟩) 0 0/\w'=w.alloc (.cells #[] e (0,0))):=by
 unfold ZjU at h
 cases d with
 | none=>exact h.elim
 | some d=>
  simp only at h
  cases hs:Zav E T with
  | none=>simp[hs]at h
  | some ej=>
   obtain⟨e,j⟩:=ej
   simp only[hs]at h
   obtain⟨vl,jf,h⟩:=Zay h
   obtain⟨vc,lL,h⟩:=Zay h
   obtain⟨h1,⟨h2,h3,h4,h5⟩,hk⟩:=Zad h
   simp only[zA7]at h1
   obtain⟨kl,mW⟩:=ZaM h1.1
   obtain⟨kc,mV⟩:=ZaM h1.2
   generalize tU:RowKit.intOf vl=nl at *
   generalize gi:RowKit.intOf vc=nc at *
   subst h2
   obtain⟨i,gQ,gS,js⟩:=ZaE hs
   have cT:=hE e j js
   have hu:=(hE T i gQ).run_und (w:=w)
   rw[gS]at hu
   have bU:=cT.run_size (w:=w)
   have hz:=cT.run_zero (w:=w)
   obtain⟨x,g1,_,_,g4⟩:=cT.run_info (w:=w)
   have gw:j.zero.cells.toList.length=j.size:=by simpa using cT.zsize
   have bG:((List.replicate nc.toNat j.zero.cells.toList).flatten).length=nc.toNat*j.size:=by simp[cT.zsize]
   have cW:Sub m (w.alloc (.cells ((List.replicate nc.toNat j.zero.cells.toList).flatten).toArray e (0,0))):=λb o v hv=>by
    rw[ZaY (w:=w) (Below.heap_alloc w _ b (hr.sub.lt hv))];exact hr.sub _ _ _ hv
   have lK:Rel C S m a (w.alloc (.cells ((List.replicate nc.toNat j.zero.cells.toList).flatten).toArray e (0,0))):=hr.world (Keep.alloc (Nat.le_refl _) (ZdJ _ _)) cW (Mem.le_refl m) (λb o v hv=>.inl hv)
   have dA:∀o,m w.heap.size o=none:=λo=>by
    cases he:m w.heap.size o with
    | none=>rfl
    | some u=>have:=hr.sub.lt he;omega
   have bP:TokOk m (w.alloc (.cells ((List.replicate nc.toNat j.zero.cells.toList).flatten).toArray e (0,0))) ⟨.slice (some ⟨w.heap.size,0,none⟩) 0 nc.toNat,j.size⟩:=
    .inr ⟨w.heap.size,0,0,nc.toNat,((List.replicate nc.toNat j.zero.cells.toList).flatten).toArray,e,(0,0),rfl,Nat.zero_le _,by show(w.heap.push _)[w.heap.size]?=_;simp,by show 0+nc.toNat*j.size<=((List.replicate nc.toNat j.zero.cells.toList).flatten).length;rw[bG,Nat.zero_add];exact Nat.le_refl _,λo _ ho=>by simp at ho,λo _ _=>dA o⟩
   have fS:∀b,(Tok.mk (.slice (some ⟨w.heap.size,0,none⟩) 0 nc.toNat) j.size).blk=some b->b=w.heap.size:=λb hb=>by simp[Tok.blk]at hb;exact hb.symm
   have fD:=lK.tokUpd key _ bP (λb hb=>by
    have:=fS b hb
    subst this
    refine⟨⟨λid x hx e=>?_,λo=>?_⟩,λk' t' _ hk' hb'=>?_⟩
    ·have:=(hr.own id x hx).lt;omega
    ·cases he:C.m0 w.heap.size o with
     | none=>rfl
     | some u=>have:=hr.sub.lt (hr.le _ _ _ he);omega
    ·have:=(hr.toks k' t' hk').1.lt hb';omega) (by
    obtain⟨M,hd'⟩:=hr.dom
    refine⟨_,hd'.step (m':=m) ((Keep.alloc (Nat.le_refl _) (ZdJ _ _):Keep w.heap.size [] w _).upd (by simp)) (λb o u hu=>.inl hu),λb hb=>?_⟩
    have:=fS b hb
    subst this
    exact .inr ⟨Nat.le_refl _,by show w.heap.size < (w.heap.push _).size;simp,Wr.new (ZdJ _ _)⟩)
   have dG:=hk w.heap.size
   have fT:=ZqZ eZ dA dG
   refine⟨_,.slice (some ⟨w.heap.size,0,none⟩) 0 nc.toNat,_,fT,fD.put (some d) hd rfl,?_,λhc=>⟨i,e,gQ,gS,?_,?_⟩⟩
   rotate_left
   ·subst hc
    have:vc=.int .i64 0:=by simpa[St.val,St.ev,St.den]using lL.symm
    subst this
    simp only[RowKit.intOf]at gi;subst gi;rfl
   ·subst hc
    have:vc=.int .i64 0:=by simpa[St.val,St.ev,St.den]using lL.symm
    subst this
    simp only[RowKit.intOf]at gi;subst gi;rfl
   rw[hr.ev jf,hr.ev lL,mW,mV]
   have w1:IntKind.i64.wrap 0=0:=Zb7 (by omega) (by omega)
   have w2:IntKind.i64.wrap nc=nc:=Zb7 (by omega) (by omega)
   have c1:¬(nc < 0):=by omega
   have c2:¬((0:Int) < 0):=by omega
   have c4:¬(281474976710656 < (x.bytes:Int)*nc):=by rw[g4,Int.mul_comm];omega
   have cU:(Array.map (λi=>(if nc.toNat*j.size=0 then(#[]:Array Value)else j.zero.cells)[i % (if nc.toNat*j.size=0 then(#[]:Array Value)else j.zero.cells).size]!) (Array.range (nc.toNat*j.size)))=((List.replicate nc.toNat j.zero.cells.toList).flatten).toArray:=by
    have:=Zih j.zero.cells.toList nc.toNat
    rw[gw]at this
    apply Array.ext'
    by_cases h0:nc.toNat*j.size=0
    ·have fE:(List.replicate nc.toNat j.zero.cells.toList).flatten=[]:=List.eq_nil_of_length_eq_zero (by rw[bG,h0])
     simp[h0,fE]
    ·simp only[h0,if_false,Array.toList_map,Array.toList_range]
     rw[<-this]
   by_cases h0:nc.toNat*j.size=0
   ·simp only[h0,if_true]at cU
    simp[Instr.makeSlice,hu,asInt,asIntOf,g1,w1,w2,c1,c2,c4,bU,h0,newRow,<-cU]
   ·simp only[h0,if_false]at cU
    simp[Instr.makeSlice,hu,asInt,asIntOf,g1,w1,w2,c1,c2,c4,bU,h0,hz,newRow,<-cU]
theorem Rel.freeze(h:Rel C S m a w){id:Nat}{x:Box}(hx:S.L id=some x)(n:Nat)(hn:∃cells T fr,w.heap[x.b]?=some (.cells cells T fr)/\cells.size=n):Rel C S m a (w.freeze ⟨x.b,n,none⟩ 1):=by
 obtain⟨sp,fr,hh,hc,hf⟩:=(h.own id x hx).cells
 obtain⟨cells,T,fr',hh',tV⟩:=hn
 rw[hh]at hh'
 simp only[Option.some.injEq,Obj.cells.injEq]at hh'
 obtain⟨e1,_,_⟩:=hh'
 have cS:n=x.cap:=by rw[<-tV,<-e1];simpa using hc
 have bT:∀k,k≠x.b->(w.freeze ⟨x.b,n,none⟩ 1).heap[k]?=w.heap[k]?:=λk hk=>by
  simp only[World.freeze,Nat.one_ne_zero,if_false,Array.getElem?_modify]
  rw[if_neg (by simpa using Ne.symm hk)]
 have cQ:∃fr',(w.freeze ⟨x.b,n,none⟩ 1).heap[x.b]?=some (.cells (x.cs++sp).toArray x.T fr')/\(fr'.1=fr'.2\/x.cap<=fr'.1):=by
  obtain⟨lo,hi⟩:=fr
  refine⟨if lo == hi then(n,n+1)else(min lo n,max hi (n+1)),?_,?_⟩
  ·simp only[World.freeze,Nat.one_ne_zero,if_false,Array.getElem?_modify,if_true,hh,Option.map_some]
  ·split
   ·right;simp only;omega
   ·rename_i cE
    simp only at hf
    rcases hf with hf|hf
    ·simp[hf]at cE
    ·right;simp only;omega
 obtain⟨fr2,cQ,qV⟩:=cQ
 have cH:∀(b o:Nat),(w.freeze ⟨x.b,n,none⟩ 1).cell? ⟨b,o,none⟩=w.cell? ⟨b,o,none⟩:=λb o=>by
  by_cases hb:b=x.b
  ·subst hb;simp only[World.cell?,cQ,hh]
  ·exact ZaY (bT b hb) o
 have nA:(w.freeze ⟨x.b,n,none⟩ 1).os=w.os/\(w.freeze ⟨x.b,n,none⟩ 1).tape=w.tape/\(w.freeze ⟨x.b,n,none⟩ 1).output=w.output/\(w.freeze ⟨x.b,n,none⟩ 1).heap.size=w.heap.size:=by
  simp[World.freeze]
 have:=h.upd (w':=w.freeze ⟨x.b,n,none⟩ 1) (m':=m) (L':=S.L) [x.b] ⟨nA.1,nA.2.1,nA.2.2.1,by omega,λk _ hk=>bT k (by simpa using hk),λk _ hk=>by
  by_cases gD:k=x.b
  ·subst gD
   intro c1 T1 fr1 lN i hi kU
   rw[cQ]at lN
   simp only[Option.some.injEq,Obj.cells.injEq]at lN
   obtain⟨rfl,rfl,rfl⟩:=lN
   have:i < x.cap:=by rw[<-hc];simpa using hi
   omega
  ·exact hk.of_eq (bT k gD)⟩ (λb o v hv=>by rw[cH];exact h.sub b o v hv) (Mem.le_refl m) (λ_ _ _ hv=>.inl hv) (λ_=>rfl)
  (λi y hy=>by
   by_cases hi:i=id
   ·subst hi
    rw[hx]at hy;cases hy
    have ho:=(h.own _ x hx)
    exact .inr ⟨⟨sp,fr2,cQ,hc,qV⟩,ho.free,ho.known,ho.whole⟩
   ·refine .inl ⟨hy,?_⟩
    simp only[List.mem_singleton]
    exact λe=>hi (h.apart i id y x hy hx e))
  (λb hb=>⟨id,x,hx,by simp at hb;exact hb.symm⟩)
 exact this
theorem ZcL{P:Program}{w:World}(b o:Nat){cells:Array Value}{T:TypeId}{fr:Nat×Nat}(h:w.heap[b]?=some (.cells cells T fr)):
  (markStringish ⟨b,o,none⟩).run P w=.ok () (w.freeze ⟨b,cells.size,none⟩ 1):=by
 simp[markStringish,World.shape?,h]
end
def Zba(s:ByteArray):List Value:=s.data.toList.map λb=>.int .u8 b.toNat
def Zcj(E:Env)(s d:TypeId):Bool:=Zef E s&&(match Zav E d with
 | none=>false
 | some (_,j)=>match j.d with
  | .int .u8=>true
  | _=>false)
def Ztb(S:St)(m:Mem)(x:Operand)(d:Option Tmp)(K:St->Mem->Prop):Prop:=
 wv S x λv=>chk (Zmz v) (∀(b c:Nat),m.free b->(ZcF v).size<=c->K (S.put d (some (.v (.slice (some ⟨b,0,none⟩) (ZcF v).size c)))) (m.add b (Zba (ZcF v))))
section
variable {C:Ctx} {S:St} {m:Mem} {a:Act} {w:World}
theorem ZkW{E:Env}(hE:E.ok){s d:TypeId}(fF:Zcj E s d=true){x:Operand}{t:Option Tmp}{K:St->Mem->Prop}(hd:∀t',t=some t'->t' < C.n)(hr:Rel C S m a w)(h:Ztb S m x t K):
  ∃S' m' v w',K S' m'/\Rel C S' m' (a.put t v) w'/\(convert s d (a.eval x)).run E.P w=.ok v w':=by
 unfold Ztb at h
 obtain⟨v,hv,h⟩:=Zay h
 obtain⟨h1,hk⟩:=Zad h
 have he:=hr.ev hv
 have dV:=Zch h1
 generalize ZcF v=bs at *
 subst dV
 unfold Zcj at fF
 rw[zA7]at fF
 obtain⟨i,hi,cI⟩:=Zff fF.1
 have fF:=fF.2
 cases hs:Zav E d with
 | none=>simp[hs]at fF
 | some ej=>
  obtain⟨e,j⟩:=ej
  simp only[hs]at fF
  obtain⟨k,gK,eK,qW⟩:=ZaE hs
  have gI:j.d=.int .u8:=by
   cases gI:j.d with
   | int kk=>cases kk <;> simp[gI]at fF <;> rfl
   | _=>simp[gI]at fF
  have nH:=(hE s i hi).run_und (w:=w)
  rw[cI]at nH
  have qa:=(hE d k gK).run_und (w:=w)
  rw[eK]at qa
  have lO:=(hE e j qW).run_und (w:=w)
  rw[gI]at lO
  generalize cS:grownCap w bs.size 0 e=cap
  have cL:bs.size<=cap:=by rw[<-cS];exact grownCap_ge w bs.size 0 e
  have bO:m.free w.heap.size:=λo=>by
   cases he:m w.heap.size o with
   | none=>rfl
   | some v=>have:=hr.sub.lt he;omega
  obtain⟨cells,jv⟩:∃cells,cells=(Zba bs++List.replicate (cap - bs.size) (Value.int .u8 0)).toArray:=⟨_,rfl⟩
  obtain⟨w1,dR⟩:∃w1,w1=w.drew.alloc (.cells cells e (0,0)):=⟨_,rfl⟩
  have iZ:w1.heap[w.heap.size]?=some (.cells cells e (0,0)):=by rw[dR];exact heap_alloc_new w.drew _
  obtain⟨w2,dT⟩:∃w2,w2=w1.freeze ⟨w.heap.size,cells.size,none⟩ 1:=⟨_,rfl⟩
  have bT:∀k,k≠w.heap.size->w2.heap[k]?=w1.heap[k]?:=λk hk=>by
   rw[dT]
   simp only[World.freeze,Nat.one_ne_zero,if_false,Array.getElem?_modify]
   rw[if_neg (by simpa using Ne.symm hk)]
  have cQ:∃fr',w2.heap[w.heap.size]?=some (.cells cells e fr'):=by
   rw[dT]
   simp only[World.freeze,Nat.one_ne_zero,if_false,Array.getElem?_modify,if_true,iZ,Option.map_some]
   exact⟨_,rfl⟩
  obtain⟨fr',cQ⟩:=cQ
  have nI:Wr w2 w.heap.size:=by
   intro c1 T1 fr1 hh i hi
   rw[dT]at hh
   simp[World.freeze,Array.getElem?_modify,iZ]at hh
   obtain⟨rfl,rfl,rfl⟩:=hh
   simp only;omega
  have lP:Keep w.heap.size [] w w1:=(Keep.drew w).trans (by rw[dR];exact Keep.alloc (B:=w.heap.size) (w:=w.drew) (show w.heap.size<=w.drew.heap.size from Nat.le_refl _) (ZdJ _ _))
  have lQ:Keep w.heap.size [] w1 w2:=by
   refine⟨by rw[dT];simp[World.freeze],by rw[dT];simp[World.freeze],by rw[dT];simp[World.freeze],by rw[dT];simp[World.freeze],λk hk _=>bT k (by omega),λk _ hk=>?_⟩
   by_cases gD:k=w.heap.size
   ·subst gD;exact nI
   ·exact hk.of_eq (bT k gD)
  have eC:=lP.trans lQ
  have eX:Sub (m.add w.heap.size (Zba bs)) w2:=by
   intro b' o v hv
   by_cases fC:b'=w.heap.size
   ·subst fC
    rw[Mem.add_same]at hv
    have aH:=(zA0 hv).1
    simp only[World.cell?,cQ,Option.isSome_none,Bool.false_eq_true,if_false,jv,List.getElem?_toArray]
    rw[zA5 aH,hv]
   ·rw[Mem.add_other _ fC]at hv
    have aH:=hr.sub.lt hv
    rw[ZaY (w:=w) (eC.block b' aH (by simp))];exact hr.sub _ _ _ hv
  have aG:Rel C S (m.add w.heap.size (Zba bs)) a w2:=hr.world eC eX (Mem.le_add bO _) (λb' o v hv=>by
   by_cases fC:b'=w.heap.size
   ·exact .inr ⟨by omega,by rw[fC];exact nI⟩
   ·rw[Mem.add_other _ fC]at hv;exact .inl hv)
  refine⟨_,_,.slice (some ⟨w.heap.size,0,none⟩) bs.size cap,w2,hk w.heap.size cap bO cL,aG.put t hd rfl,?_⟩
  have qX:=ZcL (P:=E.P) (w:=w1) w.heap.size 0 iZ
  have cU:(Array.map (λb:UInt8=>Value.int .u8 (b.toNat:Int)) bs.data++Array.replicate (cap - bs.size) (Value.int .u8 0))=cells:=by
   rw[jv]
   apply Array.ext'
   simp[Zba]
  have uO:(newRow e cells).run E.P w.drew=.ok ⟨w.heap.size,0,none⟩ w1:=by
   rw[dR];simp[newRow]
  rw[he]
  simp only[convert,Sem.run_bind,nH,Result.andThen_ok,qa,lO,Conv.stringToBytes]
  simp[Question.forced]
  rw[show(Question.appendCap bs.size 0 e).cut (w.tape w.drawn (Question.appendCap bs.size 0 e))=cap from cS,cU,uO]
  simp only[Result.andThen_ok,qX,<-dT]
end
def Zck(E:Env)(s d:TypeId):Bool:=Zef E d&&(match Zav E s with
 | none=>false
 | some (_,j)=>match j.d with
  | .int .u8=>true
  | _=>false)
def ZdR(S:St)(m:Mem)(x:Operand)(K:Value->Prop):Prop:=match S.ev x with
 | some (.sl id n c)=>match S.L id with
  | none=>False
  | some bx=>∃bs:ByteArray,Nat.beq bs.size n=true/\Zba bs=bx.cs.take n/\K (.string bs)
 | _=>wv S x λv=>chk (ZdK v) (∃bs:ByteArray,bs.size=slN v/\rowRd m (slA v) (Zba bs)/\K (.string bs))
theorem Zc0(s:ByteArray):(Zba s).length=s.size:=by
 unfold Zba ByteArray.size
 rw[List.length_map,Array.length_toList]
theorem ZoQ(ns:List UInt8):∀s:ByteArray,(ns.map λb:UInt8=>(b.toNat:Int)).foldl (λ(r:ByteArray)(n:Int)=>r.push (UInt8.ofNat n.toNat)) s=⟨s.data++ns.toArray⟩:=by
 induction ns with
 | nil=>intro s;simp
 | cons b l ih=>
  intro s
  rw[List.map_cons,List.foldl_cons,ih]
  congr 1
  apply Array.ext'
  simp[ByteArray.push]
theorem ZjV{P:Program}{w:World}{s d e:TypeId}{a:Option Addr}{c:Nat}{bs:ByteArray}(hs:P.underlying s=some (.slice e))(he:P.underlying e=some (.int .u8))(hd:P.underlying d=some .string)
  (cM:∀j v,(Zba bs)[j]?=some v->∃b o,a=some ⟨b,o,none⟩/\w.cell? ⟨b,o+j,none⟩=some v):(convert s d (.slice a bs.size c)).run P w=.ok (.string bs) w:=by
 rw[run_convert_bytes_string w s d e a bs.size c hs he hd]
 cases a with
 | none=>
  have h0:Zba bs=[]:=by
   cases h:Zba bs with
   | nil=>rfl
   | cons v l=>obtain⟨_,_,h1,_⟩:=cM 0 v (by rw[h];rfl);cases h1
  have hb:bs.size=0:=by rw[<-Zc0,h0];rfl
  have:bs=ByteArray.empty:=by
   cases bs with
   | mk data=>
    have:data=#[]:=Array.eq_empty_of_size_eq_zero hb
    subst this;rfl
  subst this
  simp[Conv.bytesToString]
 | some a=>
  have hl:(loadCells a bs.size).run P w=.ok (((bs.data.toList.map λb:UInt8=>(b.toNat:Int))).map (Value.int .u8)).toArray w:=by
   have jx:(bs.data.toList.map λb:UInt8=>(b.toNat:Int)).map (Value.int .u8)=Zba bs:=by simp[Zba]
   rw[jx]
   by_cases h0:bs.size=0
   ·have:Zba bs=[]:=List.eq_nil_of_length_eq_zero (by rw[Zc0,h0])
    rw[this,h0];rfl
   ·obtain⟨v,hv⟩:∃v,(Zba bs)[0]?=some v:=⟨_,zA3 (by rw[Zc0];omega)⟩
    obtain⟨b,o,ha,_⟩:=cM 0 v hv
    cases ha
    rw[<-Zc0]
    exact Zdd b o _ (λj u hu=>by obtain⟨_,_,h1,h2⟩:=cM j u hu;cases h1;exact h2)
  have fD:(⟨ByteArray.empty.data++bs.data.toList.toArray⟩:ByteArray)=bs:=by
   cases bs with
   | mk data=>
    congr 1
    apply Array.ext'
    show((#[]:Array UInt8)++data.toList.toArray).toList=data.toList
    simp
  rw[run_bytesToString w a bs.size c _ hl,ZoQ,fD]
section
variable {C:Ctx} {S:St} {m:Mem} {a:Act} {w:World}
theorem Zf0{E:Env}(hE:E.ok){s d:TypeId}(fF:Zck E s d=true){x:Operand}{K:Value->Prop}(hr:Rel C S m a w)(h:ZdR S m x K):
  ∃v,K v/\(convert s d (a.eval x)).run E.P w=.ok v w:=by
 unfold Zck at fF
 rw[zA7]at fF
 obtain⟨i,hi,cI⟩:=Zff fF.1
 have fF:=fF.2
 cases hs:Zav E s with
 | none=>simp[hs]at fF
 | some ej=>
  obtain⟨e,j⟩:=ej
  simp only[hs]at fF
  obtain⟨k,gK,eK,qW⟩:=ZaE hs
  have gI:j.d=.int .u8:=by
   cases gI:j.d with
   | int kk=>cases kk <;> simp[gI]at fF <;> rfl
   | _=>simp[gI]at fF
  have qa:E.P.underlying d=some .string:=by rw[(hE d i hi).und,cI]
  have nH:E.P.underlying s=some (.slice e):=by rw[(hE s k gK).und,eK]
  have lO:E.P.underlying e=some (.int .u8):=by rw[(hE e j qW).und,gI]
  have gen:∀{v:Value},S.val x=some v->(∃bs,ZdK v=true/\bs.size=slN v/\(∀j u,(Zba bs)[j]?=some u->∃b o,slA v=some ⟨b,o,none⟩/\w.cell? ⟨b,o+j,none⟩=some u)/\K (.string bs))->∃v,K v/\(convert s d (a.eval x)).run E.P w=.ok v w:=by
   rintro v hv ⟨bs,h1,h2,h3,h4⟩
   obtain⟨ba,n,c,rfl⟩:∃ba n c,v=.slice ba n c:=⟨_,_,_,ZbD h1⟩
   simp only[slN,slA]at h2 h3
   subst h2
   exact⟨_,h4,by rw[hr.ev hv];exact ZjV nH lO qa h3⟩
  unfold ZdR at h
  split at h
  ·rename_i id n c he
   cases hL:S.L id with
   | none=>simp[hL]at h
   | some bx=>
    simp only[hL]at h
    obtain⟨bs,h1,h2,h3⟩:=h
    have h1:=Nat.eq_of_beq_eq_true h1
    refine gen (v:=.slice (some ⟨bx.b,0,none⟩) n c) (by simp[St.val,he,St.den,hL]) ⟨bs,rfl,h1,λj u hu=>⟨bx.b,0,rfl,?_⟩,h3⟩
    rw[Nat.zero_add]
    refine(hr.own id bx hL).cell ?_
    rw[h2]at hu
    rw[List.getElem?_take]at hu
    split at hu
    ·exact hu
    ·cases hu
  ·obtain⟨v,hv,h⟩:=Zay h
   obtain⟨h1,bs,h2,h3,h4⟩:=Zad h
   refine gen hv ⟨bs,h1,h2,λj u hu=>?_,h4⟩
   rcases h3 with h3|⟨b,o,h5,h6⟩
   ·rw[h3]at hu;simp at hu
   ·exact⟨b,o,h5,hr.sub _ _ _ (h6 j u hu)⟩
end
def Mem.upd(m:Mem)(b o:Nat)(vs:List Value):Mem:=λb' o'=>if b'=b/\o<=o'/\o' < o+vs.length then vs[o' - o]? else m b' o'
theorem Mem.upd_other(m:Mem){b b':Nat}(h:b'≠b)(o:Nat)(vs:List Value)(o':Nat):m.upd b o vs b' o'=m b' o':=by
 simp only[Mem.upd];rw[if_neg (λhc=>h hc.1)]
theorem Mem.le_upd{m0 m:Mem}(h:m0.le m){b:Nat}(hb:m0.free b)(o:Nat)(vs:List Value):m0.le (m.upd b o vs):=λb' o' v hv=>by
 by_cases e:b'=b
 ·subst e;rw[hb o']at hv;cases hv
 ·rw[Mem.upd_other m e];exact h _ _ _ hv
def ZkX(E:Env)(x:Operand):Option Nat:=bif E.thaw then(match x with
 | .tmp t=>E.stAt t
 | _=>none)else none
def Zf1(E:Env)(S:St)(m:Mem)(T:TypeId)(key:Nat)(x:Operand)(v:Value)(K:Mem->Prop):Prop:=wv S x λp=>match E.tt T with
 | none=>False
 | some i=>match S.tok key with
  | none=>match E.m0 with
   | none=>False
   | some m0=>chk (Zds p&&(Nat.beq v.cells.size i.size&&Zcr v.cells.toList)) ((∃vs:List Value,vs.length=i.size/\m.reads (ZkL p) (Zkz p) vs)/\Mem.free m0 (ZkL p)/\Nat.blt 0 i.size=true/\nfz S (ZkL p) S.ids (K (m.upd (ZkL p) (Zkz p) v.cells.toList)))
  | some t=>chk (Zds p&&(Nat.beq v.cells.size i.size&&Zcr v.cells.toList)) (t.v=.slice (some ⟨ZkL p,0,none⟩) (slN t.v) (slC t.v)/\Zkz p+i.size<=slN t.v*t.esz/\K (m.upd (ZkL p) (Zkz p) v.cells.toList))
section
variable {C:Ctx} {S:St} {m:Mem} {a:Act} {w:World}
theorem Rel.storeOwn(hr:Rel C S m a w){b o:Nat}{vs:List Value}{cur:Array Value}{TT:TypeId}{fr:Nat×Nat}{w':World}(cC:w.heap[b]?=some (.cells cur TT fr))(gL:Wr w b)(bU:o+vs.length<=cur.size)
  (hw':w'=w.setRow b (Zaw cur.toList o vs).toArray) (hM:∀M,Dom C S m a w M->M b) (h0:C.m0.free b) (qY:∀id x,S.L id=some x->x.b≠b)
  (bP:∀k t o0 n c,S.tok k=some t->t.v=.slice (some ⟨b,o0,none⟩) n c->∀q,o<=q->q < o+vs.length->o0+n*t.esz<=q->q < o0+c*t.esz->False):Rel C S (m.upd b o vs) a w':=by
 have bT:∀k,k≠b->w'.heap[k]?=w.heap[k]?:=λk hk=>by rw[hw'];exact setRow_other w b k _ hk
 have cQ:w'.heap[b]?=some (.cells (Zaw cur.toList o vs).toArray TT fr):=by rw[hw'];exact setRow_heap w b cur _ TT fr cC
 have eQ:(Zaw cur.toList o vs).length=cur.size:=by
  rw[ZbQ (by rw[Array.length_toList];omega),Array.length_toList]
 have eI:∀o,o < cur.size->¬(fr.1<=o/\o < fr.2):=gL cur TT fr cC
 have eX:Sub (m.upd b o vs) w':=by
  intro b1 o1 u hu
  by_cases hb:b1=b
  ·subst hb
   simp only[Mem.upd,true_and]at hu
   simp only[World.cell?,cQ,Option.isSome_none,Bool.false_eq_true,if_false,List.getElem?_toArray]
   have lR:o+vs.length<=cur.toList.length:=by simp;omega
   have et:(List.take o cur.toList).length=o:=by simp;simp at lR;omega
   by_cases eW:o<=o1/\o1 < o+vs.length
   ·rw[if_pos eW]at hu
    simp only[Zaw]
    rw[List.append_assoc,zA4 (by omega),et,zA5 (by omega)]
    exact hu
   ·rw[if_neg eW]at hu
    have i4:=hr.sub _ _ _ hu
    simp only[World.cell?,cC,Option.isSome_none,Bool.false_eq_true,if_false]at i4
    rw[<-Array.getElem?_toList]at i4
    simp only[Zaw]
    by_cases tW:o1 < o
    ·rw[List.append_assoc,zA5 (by omega),List.getElem?_take,if_pos tW];exact i4
    ·rw[zA4 (by simp at eW et ⊢;omega),List.getElem?_drop]
     have:o+vs.length+(o1 - (List.take o cur.toList++vs).length)=o1:=by
      rw[zA1,et];omega
     rw[this];exact i4
  ·rw[Mem.upd_other m hb]at hu
   rw[ZaY (bT b1 hb)];exact hr.sub _ _ _ hu
 refine⟨?_,hr.size,hr.env,λid y hy=>?_,hr.apart,hr.ids,λk t' ht'=>?_,hr.tkeys,hr.tapart,eX,Mem.le_upd hr.le h0 _ _,?_⟩
 ·obtain⟨ms,d1,d2,d3⟩:=hr.defers
  refine⟨ms,d1,d2,λD hD=>?_⟩
  rw[bT D (λe=>by have:=d3 D hD;rw[e,cC]at this;cases this)];exact d3 D hD
 ·have ho:=hr.own id y hy
  have cE:=qY id y hy
  exact⟨by rw[bT _ cE];exact ho.cells,λhz o1=>by rw[Mem.upd_other m cE];exact ho.free hz o1,λhz j u hu=>by rw[Mem.upd_other m cE];exact ho.known hz j u hu,ho.whole⟩
 ·obtain⟨q1,q2⟩:=hr.toks k t' ht'
  refine⟨?_,q2⟩
  by_cases dG:t'.blk=some b
  ·rcases q1 with q1|⟨b',o0,n,c,cur',TT',fr',hv,gi,hh,gU,uP,bO⟩
   ·exact .inl q1
   obtain rfl:b'=b:=by simpa[Tok.blk,hv]using dG
   rw[cC]at hh
   simp only[Option.some.injEq,Obj.cells.injEq]at hh
   obtain⟨rfl,rfl,rfl⟩:=hh
   have cA:=bP k t' o0 n c ht' hv
   refine .inr ⟨b',o0,n,c,_,TT,fr,hv,gi,cQ,by simp only[List.size_toArray,eQ];exact gU,λo1 jr=>eI o1 (by simpa only[List.size_toArray,eQ]using jr),λo1 jr fw=>?_⟩
   simp only[Mem.upd]
   rw[if_neg (λhc=>cA o1 hc.2.1 hc.2.2 jr fw)];exact bO o1 jr fw
  ·have cE:∀b1,t'.blk=some b1->b1≠b:=λb1 dE e=>by subst e;exact dG dE
   exact q1.same (λb1 dE=>bT _ (cE b1 dE)) (λb1 o1 dE hn=>by rw[Mem.upd_other m (cE b1 dE)];exact hn)
 ·obtain⟨M,hd⟩:=hr.dom
  have hu:Upd M w w':=⟨by rw[hw'];rfl,by rw[hw'];rfl,by rw[hw'];rfl,by rw[hw'];simp,λk hk hn=>bT k (λe=>hn (e ▸ hM M hd)),λk _ hk=>by
   by_cases gD:k=b
   ·subst gD
    intro c1 T1 fr1 hh i hi
    rw[cQ]at hh
    simp only[Option.some.injEq,Obj.cells.injEq]at hh
    obtain⟨rfl,rfl,rfl⟩:=hh
    exact eI i (by simpa only[List.size_toArray,eQ]using hi)
   ·exact hk.of_eq (bT k gD)⟩
  exact⟨_,hd.step hu (λb1 o1 u fR=>by
   by_cases hb:b1=b
   ·exact .inr (.inl (hb ▸ hM M hd))
   ·rw[Mem.upd_other m hb]at fR;exact .inl fR)⟩
theorem Zf2{E:Env}{T:TypeId}{i:TI}(bX:TOk E.P T i){w:World}{b o:Nat}{v:Value}{cur:Array Value}{TT:TypeId}{fr:Nat×Nat}(cC:w.heap[b]?=some (.cells cur TT fr))(gL:Wr w b)(bU:o+v.cells.toList.length<=cur.size)
  (h1:v.cells.size=i.size) (dH:v.cells.all Value.oneCell'=true):(Instr.storeAt T (ptr b o) v).run E.P w=.ok () (w.setRow b (Zaw cur.toList o v.cells.toList).toArray):=by
 have nJ:=Zbp (P:=E.P) b o TT fr v.cells.toList 0 cur w cC (λo ho=>gL cur TT fr cC o ho) (by omega) (λu hu=>by
  rw[Array.all_eq_true_iff_forall_mem]at dH;exact dH u (by simpa using hu))
 have bH:(storeVar T ⟨b,o,none⟩ v).run E.P w=.ok () (w.setRow b (Zaw cur.toList o v.cells.toList).toArray):=by
  have hz:=bX.run_size (w:=w)
  simp only[storeVar,Sem.run_bind,hz,Result.andThen_ok,h1,ne_eq,not_true_eq_false,if_false]
  rw[nJ]
  simp[Zaw]
 simp[Instr.storeAt,Instr.sureAddr,ptr,bH]
theorem Zf3{E:Env}(hE:E.ok)(hY:YOk E C){T:TypeId}{key:Nat}{x:Operand}{v:Value}{K:Mem->Prop}(hr:Rel C S m a w)(h:Zf1 E S m T key x v K):
  ∃m' w',K m'/\Rel C S m' a w'/\(Instr.storeAt T (a.eval x) v).run E.P w=.ok () w':=by
 unfold Zf1 at h
 obtain⟨p,hp,h⟩:=Zay h
 have he:=hr.ev hp
 cases ht:E.tt T with
 | none=>simp[ht]at h
 | some i=>
  simp only[ht]at h
  have bX:=hE T i ht
  cases hk:S.tok key with
  | none=>
   simp only[hk]at h
   cases eH:E.m0 with
   | none=>simp[eH]at h
   | some mm=>
    simp only[eH]at h
    obtain⟨kh,hW⟩:=hY.m0 mm eH
    obtain⟨h1,⟨us,nH,cM⟩,h3,h5,h4⟩:=Zad h
    simp only[zA7]at h1
    have nK:=ZbP h1.1
    generalize ZkL p=b at *
    generalize Zkz p=o at *
    have bU:=Nat.eq_of_beq_eq_true h1.2.1
    have dH:=ZeO h1.2.2
    have bG:v.cells.toList.length=i.size:=by simpa using bU
    have fU:0 < i.size:=by simpa[Nat.blt_eq]using h5
    obtain⟨uQ,uR⟩:=Zfm h4
    obtain⟨u,hu⟩:∃u,us[i.size - 1]?=some u:=⟨_,zA3 (by omega)⟩
    have cH:=hr.sub _ _ _ (cM _ _ hu)
    obtain⟨cur,TT,fr,cC⟩:∃c T fr,w.heap[b]?=some (.cells c T fr):=by
     unfold World.cell? at cH
     split at cH
     ·rename_i c T fr hc;exact⟨c,T,fr,hc⟩
     ·cases cH
    have dB:o+(i.size - 1) < cur.size:=by
     simp only[World.cell?,cC,Option.isSome_none,Bool.false_eq_true,if_false]at cH
     exact(Array.getElem?_eq_some_iff.1 cH).1
    have kM:∀M,Dom C S m a w M->M b:=λM hd=>by
     rcases hd.new _ _ _ (cM _ _ hu)with h6|h6
     ·rw[kh,h3]at h6;cases h6
     ·exact h6
    have gL:Wr w b:=by
     obtain⟨M,hd⟩:=hr.dom
     exact hW _ _ _ hd.p b (kM M hd)
    refine⟨_,_,uQ,hr.storeOwn cC gL (by omega) rfl kM (kh ▸ h3) (λid y hy e=>?_) (λk t o0 n c jg hv q iw nL qZ nM=>?_),?_⟩
    ·have ho:=hr.own id y hy
     cases hz:y.fz with
     | true=>exact uR id y (hr.ids id y hy) hy hz e
     | false=>
      have:=ho.free hz (o+(i.size - 1))
      rw[e,cM _ _ hu]at this;cases this
    ·rcases(hr.toks k t jg).1 with q0|⟨b',o',n',c',_,_,_,hv',_,_,_,_,bO⟩
     ·rw[hv]at q0;cases q0
     ·rw[hv]at hv'
      simp only[Value.slice.injEq,Option.some.injEq,Addr.mk.injEq,and_true]at hv'
      obtain⟨⟨rfl,rfl⟩,rfl,rfl⟩:=hv'
      have h7:=bO _ qZ nM
      obtain⟨u7,uS⟩:∃u7,us[q - o]?=some u7:=⟨us[q - o]'(by omega),zA3 _⟩
      have h8:=cM _ _ uS
      rw[show o+(q - o)=q by omega,h7]at h8;cases h8
    ·rw[he,nK];exact Zf2 bX cC gL (by omega) bU dH
  | some t=>
   simp only[hk]at h
   obtain⟨h1,h2,h3,h4⟩:=Zad h
   simp only[zA7]at h1
   have nK:=ZbP h1.1
   generalize ZkL p=b at *
   generalize Zkz p=o at *
   have bU:=Nat.eq_of_beq_eq_true h1.2.1
   have dH:=ZeO h1.2.2
   have bG:v.cells.toList.length=i.size:=by simpa using bU
   obtain⟨g1,g2⟩:=hr.toks key t hk
   have fS:t.blk=some b:=by unfold Tok.blk;rw[h2]
   obtain⟨g2,g3⟩:=g2 b fS
   rcases g1 with g1|⟨b',o0,n,c,cur,TT,fr,hv,gi,cC,gU,eI,bO⟩
   ·rw[g1]at h2;cases h2
   rw[hv]at h2
   simp only[Value.slice.injEq,Option.some.injEq,Addr.mk.injEq,and_true]at h2
   obtain⟨⟨rfl,rfl⟩,_,_⟩:=h2
   rw[hv]at h3
   simp only[slN]at h3
   have cA:n*t.esz<=c*t.esz:=Nat.mul_le_mul_right _ gi
   have gL:Wr w b':=λc1 T1 fr1 hh o ho=>by
    rw[cC]at hh
    simp only[Option.some.injEq,Obj.cells.injEq]at hh
    obtain⟨rfl,rfl,rfl⟩:=hh
    exact eI o ho
   refine⟨_,_,h4,hr.storeOwn cC gL (by omega) rfl (λM hd=>hd.tok key t b' hk fS) g3 g2 (λk t' o' n' c' jg hv' q iw nL qZ nM=>?_),?_⟩
   ·have:k=key:=hr.tapart k key t' t b' jg hk (by simp[Tok.blk,hv']) fS
    subst this
    rw[hk]at jg;cases jg
    rw[hv]at hv'
    simp only[Value.slice.injEq,Option.some.injEq,Addr.mk.injEq,and_true,true_and]at hv'
    obtain⟨rfl,rfl,rfl⟩:=hv'
    omega
   ·rw[he,nK];exact Zf2 bX cC gL (by omega) bU dH
end
def ZmB(E:Env)(S:St)(m:Mem)(T:TypeId)(id:Nat)(vd vs:Value)(K:Int->St->Prop):Prop:=match Zav E T with
 | none=>False
 | some (e,j)=>match S.L id with
  | none=>False
  | some bx=>chk (ZdK vd&&(ZdK vs&&!bx.fz)) (m.free bx.b->∃(o:Nat)(xs:List Value),slA vd=some ⟨bx.b,o,none⟩/\xs.length=min (slN vs) (slN vd)*j.size/\o+xs.length<=bx.cs.length/\(∀u∈xs,u.oneCell'=true)/\
    (rowRd m (slA vs) xs\/∃o',slA vs=some ⟨bx.b,o',none⟩/\∀i u,xs[i]?=some u->bx.cs[o'+i]?=some u)/\K ((min (slN vs) (slN vd):Nat):Int) (S.setL id (some { bx with cs:=Zaw bx.cs o xs })))
theorem ZjW{P:Program}{w:World}{m:Mem}{x:Box}(hx:Own m w x)(o:Nat)(xs:List Value)(h1:∀u∈xs,u.oneCell'=true)(hb:o+xs.length<=x.cs.length):
  ∃w',(storeCells ⟨x.b,o,none⟩ xs 0).run P w=.ok () w'/\w'.os=w.os/\w'.tape=w.tape/\w'.output=w.output/\w'.heap.size=w.heap.size/\(∀k,k≠x.b->w'.heap[k]?=w.heap[k]?)/\
   (x.fz=false->Own m w' { x with cs:=Zaw x.cs o xs }):=by
 obtain⟨sp,fr,hh,hc,hf⟩:=hx.cells
 have h3:=Zbp (P:=P) x.b o x.T fr xs 0 _ w hh (λo ho=>by have ho':o < x.cap:=(by simpa[hc]using ho);omega) (by simp at hc ⊢;omega) h1
 have h4:(storeCells ⟨x.b,o,none⟩ xs 0).run P w=.ok () (w.setRow x.b (Zaw (x.cs++sp) o xs).toArray):=by
  rw[h3]
  simp[Zaw]
 refine⟨_,h4,rfl,rfl,rfl,by simp,λk hk=>setRow_other w x.b k _ hk,λhz=>?_⟩
 refine⟨⟨sp,fr,?_,?_,hf⟩,λ_=>hx.free hz,λhz'=>by simp[hz]at hz',λgO=>?_⟩
 ·rw[setRow_heap w x.b _ _ x.T fr hh,Zfe (by omega)]
 ·have:=ZbQ (cs:=x.cs) (o:=o) (vs:=xs) (by omega)
  simp only[zA1]at hc ⊢
  omega
 ·have:=hx.whole gO
  show(Zaw x.cs o xs).length=x.cap
  rw[ZbQ (by omega)];exact this
section
variable {C:Ctx} {S:St} {m:Mem} {a:Act} {w:World}
theorem ZkY{E:Env}(hE:E.ok){T xT ty:TypeId}{id:Nat}{vd vs:Value}{K:Int->St->Prop}(hr:Rel C S m a w)(h:ZmB E S m T id vd vs K):
  ∃n S' w',K n S'/\Rel C S' m a w'/\(Builtin.copy_ #[T,xT] ty #[vd,vs]).run E.P w=.ok (.int .i64 n) w':=by
 unfold ZmB at h
 cases hs:Zav E T with
 | none=>simp[hs]at h
 | some ej=>
  obtain⟨e,j⟩:=ej
  simp only[hs]at h
  cases hL:S.L id with
  | none=>simp[hL]at h
  | some bx=>
   simp only[hL]at h
   obtain⟨h1,hq⟩:=Zad h
   simp only[zA7,Bool.not_eq_true']at h1
   obtain⟨o,xs,h2,h3,h4,h5,h6,hk⟩:=hq ((hr.own id bx hL).free h1.2.2)
   clear hq h
   have q7:=ZbD h1.1
   have dV:=ZbD h1.2.1
   generalize slA vd=ad at *
   generalize slN vd=nd at *
   generalize slC vd=cd at *
   generalize slA vs=as at *
   generalize slN vs=ns at *
   generalize slC vs=cs at *
   subst q7 dV h2
   obtain⟨i,gQ,gS,js⟩:=ZaE hs
   have cT:=hE e j js
   have hu:=(hE T i gQ).run_und (w:=w)
   rw[gS]at hu
   have bU:=cT.run_size (w:=w)
   have lD:=hr.own id bx hL
   have kO:(Builtin.firstCells j.size (min ns nd) (.slice as ns cs)).run E.P w=.ok xs.toArray w:=by
    rcases h6 with h6|⟨o',h6,h7⟩
    ·exact Za0 hr.sub h6 _ _ _ _ h3
    ·subst h6
     refine run_firstCells_some w j.size _ _ ns cs xs h3 (λi u hu=>?_)
     rw[Zbz]
     obtain⟨sp,fr,hh,_⟩:=lD.cells
     have h8:=h7 i u hu
     have h9:=(zA0 h8).1
     simp only[World.cell?,hh,Option.isSome_none,Bool.false_eq_true,if_false,List.getElem?_toArray]
     rw[zA5 h9];exact h8
   obtain⟨w',bH,e1,e2,e3,e4,e5,e6⟩:=ZjW (P:=E.P) lD o xs h5 h4
   refine⟨_,_,w',hk,hr.store hL h1.2.2 rfl e1 e2 e3 e4 e5 (e6 h1.2.2),?_⟩
   have kj:Nat.min ns nd=min ns nd:=rfl
   simp[Builtin.copy_,hu,Builtin.lenOf,bU,kj,kO,bH,goInt]
end
def Zfp(E:Env)(s d:TypeId):Bool:=match E.tt s with
 | none=>false
 | some i=>match i.d with
  | .slice e=>Nat.beq s d&&(match E.tt e with
   | none=>false
   | some j=>match j.d with
    | .int .u8=>true
    | _=>false)
  | _=>false
def opW(E:Env)(S:St)(m:Mem)(o:Oper)(K:St->Mem->Prop):Prop:=match o.op with
 | .move x=>K (S.put o.dst (S.ev x)) m
 | .assign x=>K (S.put o.dst (S.ev x)) m
 | .pick c x y=>wv S c λv=>chk (ZeN v) (br (Zb2 v) (K (S.put o.dst (S.ev x)) m) (K (S.put o.dst (S.ev y)) m))
 | .load T x=>match ZnL E o.dst with
  | none=>ZeP E S m T x λv=>K (S.put o.dst (some (.v v))) m
  | some y=>bif E.fix.isSome then False else ZeP E S m T x λv=>ldW y v λv=>K (S.put o.dst (some (.v v))) m
 | .store T x y=>wv S y λv=>match ZkX E x with
  | none=>ZfF E S T x v λS'=>K (S'.put o.dst none) m
  | some key=>bif E.fix.isSome then False else Zf1 E S m T key x v λm'=>K (S.put o.dst none) m'
 | .alloc T=>ZoN E S T o.dst λS'=>K S' m
 | .box T x=>wv S x λv=>bif Zfj E o.dst then(bif E.fix.isSome then False else Zta E S m T v o.dst K)else Zuj E S T v o.dst λS'=>K S' m
 | .buildSlice T len parts=>match ZcH E o.dst with
  | none=>ZdQ E S m T len parts.toList o.dst K
  | some ke=>bif E.fix.isSome then False else match len,parts.toList with
   | 0,[]=>ZjU E S (some m) T (.const (.int .i64 0)) (.const (.int .i64 0)) o.dst ke.1 λS'=>K S' m
   | _,_=>False
 | .makeSlice T l c=>match ZcH E o.dst with
  | none=>bif Zqd E o.dst then(bif E.fix.isSome then False else ZoP E S m T l c o.dst K)else ZrL E S T l c o.dst λS'=>K S' m
  | some ke=>bif E.fix.isSome then False else ZjU E S none T l c o.dst ke.1 λS'=>K S' m
 | .convert s d x=>bif Zfp E s d then(match S.ev x with
   | some (.sl id n c)=>K (S.put o.dst (some (.sl id n c))) m
   | _=>False)
  else bif Zcj E s d then(bif E.fix.isSome then False else Ztb S m x o.dst K)
  else bif Zck E s d then(bif E.fix.isSome then False else ZdR S m x λv=>K (S.put o.dst (some (.v v))) m)
  else Zco E S o λsv=>K (S.put o.dst (some sv)) m
 | .call c=>match c.callee with
  | .value f=>ZrW E o.dst S m (ZrK E o.type o.dst f c.args.toList K)
  | .builtin .append=>match c.args.toList,c.argTypes.toList,o.dst with
   | [s,x],[T,xT],some d=>ZrW E (some d) S m λS m=>wv S s λvs=>wv S x λvx=>ZeG E S m T xT (E.tokOf d) vs vx λv tk m'=>K ({ S with tok:=tk,tkeys:=E.tokOf d::S.tkeys }.put (some d) (some (.v v))) m'
   | _,_,_=>False
  | .builtin .copy=>match c.args.toList,c.argTypes.toList with
   | [d,s],[T,xT]=>(match Zeg E d with
    | none=>False
    | some id=>wv S d λvd=>wv S s λvs=>ZmB E S m T id vd vs λn S'=>K (S'.put o.dst (some (.v (.int .i64 n)))) m)
   | _,_=>False
  | _=>Zco E S o λsv=>K (S.put o.dst (some sv)) m
 | _=>Zco E S o λsv=>K (S.put o.dst (some sv)) m
section
variable {C:Ctx} {S:St} {m:Mem} {a:Act} {w:World}
theorem Zf4{E:Env}(hE:E.ok){o:Oper}(hd:∀t,o.dst=some t->t < C.n)(hr:Rel C S m a w){K:St->Mem->Prop}(h:Zco E S o λsv=>K (S.put o.dst (some sv)) m){F:Fence}{n:Nat}{next:Act->World->Prop}{Q:Exit->Act->World->Prop}
  (hK:∀S' m' a' w',K S' m'->Rel C S' m' a' w'->next a' w'):o.uponIn F n E.P a next Q ((execOp a.eval o).run E.P w):=by
 obtain⟨sv,v,hk,q8,bH⟩:=ZkQ hE hr h
 rw[bH]
 exact hK _ _ _ _ hk (hr.put o.dst hd q8)
theorem ZmN{C:Ctx}{S:St}{m:Mem}{a:Act}{w:World}{E:Env}{g:FuncId}{args:List Value}{d:Option Tmp}{K:St->SV->Prop}(hd:∀t,d=some t->t < C.n)(hr:Rel C S m a w)(h:ZtN E S g args d K):
  ∃S' sv v w',K S' sv/\Rel C (S'.put d (some sv)) m (a.put d v) w'/\(callFunc g args.toArray).run E.P w=.ok (.value v) w':=by
 unfold ZtN at h
 split at h
 ·rename_i d v
  cases hL:S.L d with
  | some x=>simp only[hL]at h
  | none=>
   simp only[hL]at h
   obtain⟨n,e,rfl,hn,j5,hk⟩:=h
   obtain⟨cs,bH,cA⟩:=j5 n w hn
   have hb:=hr.drew.drew.newBox (d:=d) hL (x:={ b:=w.heap.size,cs:=cs.toList,T:=e,cap:=cs.toList.length,fz:=false,full:=true }) (m':=m) [] rfl (by simp) (λ_=>rfl) (.inl ⟨rfl,rfl⟩)
   simp only[List.append_nil,Array.toArray_toList]at hb
   exact⟨_,_,.slice (some ⟨w.heap.size,0,none⟩) n cs.size,_,hk w.heap.size cs.toList (by simpa using cA),hb.put (some d) hd (by simp[St.den,St.newL]),by simpa using bH⟩
 ·exact h.elim
theorem ZjX{C:Ctx}{S:St}{m:Mem}{a:Act}{w:World}{E:Env}{rt:TypeId}{g:FuncId}{args:List Value}{key esz:Nat}{K:Value->St->Mem->Prop}(hr:Rel C S m a w)(h:ZoL E S m rt g args key esz K):
  Zeh E.P g/\Calls E.P g args.toArray w λe w'=>∃v S' m',e=.returned v/\K v S' m'/\Rel C S' m' a w':=by
 obtain⟨R,gJ,dF,bR⟩:=h
 refine⟨gJ.1,(gJ.2 w hr.sub).mono ?_⟩
 rintro e w' ⟨v,m',rfl,cA,cW,cF,eC,bP,fS,hR⟩
 have hk:=Shape.all_fits _ _ bR v (dF _ _ _ hR) m' cA hR
 have lK:=hr.world eC cW cA cF
 refine⟨v,_,m',rfl,hk,lK.tokUpd key ⟨v,esz⟩ bP (λb hb=>?_) ?_⟩
 ·have cL:=fS b hb
  refine⟨⟨λid x hx e=>?_,λo=>?_⟩,λk' t' _ hk' hb'=>?_⟩
  ·have:=(hr.own id x hx).lt;omega
  ·cases he:C.m0 b o with
   | none=>rfl
   | some u=>have:=hr.sub.lt (hr.le _ _ _ he);omega
  ·have:=(hr.toks k' t' hk').1.lt hb';omega
 ·obtain⟨M,hd⟩:=hr.dom
  refine⟨_,hd.step (m':=m') (eC.upd (by simp)) (λb o u hu=>(cF b o u hu).imp_right λh=>.inr ⟨h.1,cW.lt hu,h.2⟩),λb hb=>?_⟩
  exact .inr ⟨fS b hb,bP.lt hb,bP.wr hb⟩
theorem ZjY{C:Ctx}{S:St}{m:Mem}{a:Act}{w:World}{E:Env}{rt:TypeId}{g:FuncId}{args:List Value}{ids:List Nat}{ks:List (Nat×Nat)}{K:Value->St->Mem->Prop}(hY:YOk E C)(hr:Rel C S m a w)(h:Zhe E S m rt g args ids ks K):
  Zeh E.P g/\Calls E.P g args.toArray w λe w'=>∃v S' m',e=.returned v/\K v S' m'/\Rel C S' m' a w':=by
 unfold Zhe at h
 cases hb:Za2 S ids with
 | none=>simp[hb]at h
 | some bxs=>
 simp only[hb]at h
 cases eH:E.m0 with
 | none=>simp[eH]at h
 | some mm=>
 simp only[eH]at h
 obtain⟨h1,Y,R,gJ,c1,c2,dF,bR⟩:=Zad h
 simp only[zA7,List.all_eq_true]at h1
 obtain⟨kh,hW⟩:=hY.m0 mm eH
 obtain⟨bG,cD⟩:=ZbL hb
 obtain⟨tlen,tmem⟩:=ZhD (S:=S) (ks:=ks)
 generalize Zdg S ks=tks at *
 have tlen:tks.length=(ks.map (·.1)).length:=by rw[List.length_map];exact tlen
 have mW:(ks.map (·.1)).length=ks.length:=List.length_map _
 generalize km:ks.map (·.1)=kl at *
 have dQ:=ZaC h1.2.1
 have tX:=ZaC h1.2.2
 have tk_of:∀t∈tks,∀b,t.blk=some b->∃k∈kl,S.tok k=some t:=λt ht b hb=>by
  obtain⟨i,hi⟩:=List.getElem?_of_mem ht
  obtain⟨k,q1,q2⟩:=tmem i t hi
  rcases q2 with q2|q2
  ·exact⟨k,zA2 q1,q2⟩
  ·simp[Tok.blk,q2]at hb
 have i5:∀b,Y b->b < w.heap.size/\(∀D,w.heap[b]?≠some (.deferred D))/\C.m0.free b/\(∀M,Dom C S m a w M->M b)/\(∀id x,S.L id=some x->x.b≠b)/\(∀k t,S.tok k=some t->t.blk=some b->k∈kl):=λb qb=>by
  rcases c2 b qb with⟨t,ht,cZ⟩|⟨q1,⟨o,v,q2⟩,q3⟩
  ·obtain⟨k,hk,jg⟩:=tk_of t ht b cZ
   obtain⟨g1,g2⟩:=hr.toks k t jg
   refine⟨g1.lt cZ,λD e=>?_,(g2 b cZ).2,λM hd=>hd.tok k t b jg cZ,(g2 b cZ).1,λk' t' hk' hb'=>?_⟩
   ·rcases g1 with g1|⟨b',o0,n,c,cur,T,fr,hv,_,hh,_⟩
    ·simp[Tok.blk,g1]at cZ
    ·simp[Tok.blk,hv]at cZ;subst cZ;rw[hh]at e;cases e
   ·rw[hr.tapart k' k t' t b hk' jg hb' cZ];exact hk
  ·obtain⟨q4,q5⟩:=Zfm q3
   have hs:=hr.sub b o v q2
   refine⟨hr.sub.lt q2,λD e=>?_,by rw[kh];exact q1,λM hd=>?_,λid x hx e=>?_,λk t jg cZ=>?_⟩
   ·unfold World.cell? at hs
    rw[e]at hs
    simp at hs
   ·rcases hd.new b o v q2 with h6|h6
    ·rw[kh,q1]at h6;cases h6
    ·exact h6
   ·have ho:=hr.own id x hx
    cases hz:x.fz with
    | true=>exact q5 id x (hr.ids id x hx) hx hz e
    | false=>
     have:=ho.free hz o
     rw[e,q2]at this;cases this
   ·exact Classical.byContradiction λhn=>ZgP q4 k t (hr.tkeys k t jg) jg hn cZ
 have eS:∀x∈bxs,Own m w x/\x.fz=false/\¬Y x.b:=λx hx=>by
  obtain⟨i,hi⟩:=List.getElem?_of_mem hx
  obtain⟨id,_,hL⟩:=cD i x hi
  exact⟨hr.own id x hL,by simpa using h1.1 x hx,λhy=>(i5 _ hy).2.2.2.2.1 id x hL rfl⟩
 have lF:(bxs.map (·.b)).Nodup:=Zfi hr.apart hb dQ
 have j6:ZrJ tks:=λi j t t' b hi hj dE gj=>by
  obtain⟨k,q1,q2⟩:=tmem i t hi
  obtain⟨k',q3,q4⟩:=tmem j t' hj
  have q2:S.tok k=some t:=q2.resolve_right λe=>by simp[Tok.blk,e]at dE
  have q4:S.tok k'=some t':=q4.resolve_right λe=>by simp[Tok.blk,e]at gj
  have:=hr.tapart k k' t t' b q2 q4 dE gj
  subst this
  have hi':=(zA0 q1).1
  exact(List.getElem?_inj (l:=kl) (i:=i) (j:=j) hi' tX).1 (by rw[q1,q3])
 refine⟨gJ.1,(gJ.2 w hr.sub eS lF (λt ht=>?_) j6 (λb qb=>⟨(i5 b qb).1,?_⟩)).mono ?_⟩
 ·refine⟨?_,c1 t ht⟩
  obtain⟨i,hi⟩:=List.getElem?_of_mem ht
  obtain⟨k,_,q2⟩:=tmem i t hi
  rcases q2 with q2|q2
  ·exact(hr.toks k t q2).1
  ·exact .inl q2
 ·obtain⟨M,hd⟩:=hr.dom
  exact hW _ _ _ hd.p b ((i5 b qb).2.2.2.1 M hd)
 rintro e w' ⟨v,m',css,tvs,rfl,cA,cW,cF,hu,eQ,bZ,fA,ko,q9,hR⟩
 have dM:∀u∈tvs,ZdK u=true:=λu hu=>by
  obtain⟨i,hi⟩:=List.getElem?_of_mem hu
  have aH:=(zA0 hi).1
  exact(ko i (tks[i]'(by omega)) u (zA3 (by omega)) hi).1
 have hk:=Zi8 (ZfW (Shape.all_fits _ _ bR v (dF _ _ _ _ hR) m' cA (λb o u hu=>(cF b o u hu).imp_right λh=>h.imp_right λh o=>by
  cases he:m b o with
  | none=>rfl
  | some u=>have:=hr.sub.lt he;omega)) css (by omega)) tvs (by omega) dM hR
 refine⟨v,_,m',rfl,hk,?_⟩
 have nN:∀b,b < w.heap.size->¬Y b->∀o,m b o=none->m' b o=none:=λb aH hn o ho=>by
  cases he:m' b o with
  | none=>rfl
  | some u=>
   rcases cF b o u he with h|h|h
   ·rw[ho]at h;cases h
   ·exact absurd h hn
   ·omega
 have eC:∀b,¬Y b->∀o u,m b o=some u->m' b o=some u:=λb hn o u h=>cA b o u (by rw[Mem.off_at hn];exact h)
 have mX:∀id y,(Zcp S ids bxs css).L id=some y->∃x,S.L id=some x/\x.b=y.b:=λid y hy=>by
  rcases ZdO (S:=S) dQ bG (by omega:css.length=ids.length) id with⟨_,h4⟩|⟨i,x,cs,h3,h4,h5,h6⟩
  ·exact⟨y,by rw[<-h4];exact hy,rfl⟩
  ·obtain⟨id',g1,g2⟩:=cD i x h4
   rw[h3]at g1;cases g1
   rw[h6]at hy;cases hy
   exact⟨x,g2,rfl⟩
 have tY:∀id x,S.L id=some x->∃y,(Zcp S ids bxs css).L id=some y/\y.b=x.b:=λid x hx=>by
  rcases ZdO (S:=S) dQ bG (by omega:css.length=ids.length) id with⟨_,h4⟩|⟨i,x',cs,h3,h4,h5,h6⟩
  ·exact⟨x,by rw[h4];exact hx,rfl⟩
  ·obtain⟨id',g1,g2⟩:=cD i x' h4
   rw[h3]at g1;cases g1
   rw[hx]at g2;cases g2
   exact⟨_,h6,rfl⟩
 have uT:∀M,Dom C S m a w M->∀b,b∈bxs.map (·.b)->M b:=λM hd b hb=>by
  obtain⟨z,hz,rfl⟩:=List.mem_map.1 hb
  obtain⟨i,hi⟩:=List.getElem?_of_mem hz
  obtain⟨id',_,g2⟩:=cD i z hi
  exact hd.own id' z g2
 have tZ:∀b,b∈bxs.map (·.b)->∃id x,S.L id=some x/\x.b=b:=λb hb=>by
  obtain⟨z,hz,rfl⟩:=List.mem_map.1 hb
  obtain⟨i,hi⟩:=List.getElem?_of_mem hz
  obtain⟨id',_,g2⟩:=cD i z hi
  exact⟨id',z,g2,rfl⟩
 have jy:(Zcp S ids bxs css).env=S.env/\(Zcp S ids bxs css).ids=S.ids/\(Zcp S ids bxs css).tkeys=S.tkeys/\(Zcp S ids bxs css).gh=S.gh:=by rw[Zcu];exact⟨rfl,rfl,rfl,rfl⟩
 have lS:∀k t,ZmA S.tok kl tks tvs k=some t->(k ∉ kl/\S.tok k=some t)\/∃(q:Nat)(t0:Tok)(tv:Value),kl[q]?=some k/\tks[q]?=some t0/\tvs[q]?=some tv/\t=⟨tv,t0.esz⟩:=λk t ht=>by
  rcases Zi9 (tok:=S.tok) tX tlen (by omega:tvs.length=kl.length) k with⟨q1,q2⟩|⟨q,t0,tv,q1,q2,q3,q4⟩
  ·exact .inl ⟨q1,by rw[<-q2];exact ht⟩
  ·rw[ht]at q4;cases q4
   exact .inr ⟨q,t0,tv,q1,q2,q3,rfl⟩
 refine⟨?_,hr.size,λi sv he=>?_,λid y hy=>?_,λid id' y y' hy hy' e=>?_,λid y hy=>?_,λk t ht=>?_,λk t ht=>?_,λk k' t t' b ht ht' dE gj=>?_,cW,λb o u ra=>?_,?_⟩
 ·obtain⟨ms,q1,q2,q3⟩:=hr.defers
  refine⟨ms,q1,q2,λD hD=>?_⟩
  rw[hu.block D (Array.getElem?_eq_some_iff.1 (q3 D hD)).1 (λhm=>?_)]
  ·exact q3 D hD
  ·rcases hm with hm|hm
   ·obtain⟨id,x,g1,g2⟩:=tZ D hm
    obtain⟨sp,fr,g3,_⟩:=(hr.own id x g1).cells
    have:=q3 D hD
    rw[<-g2,g3]at this;cases this
   ·exact(i5 D hm).2.1 _ (q3 D hD)
 ·simp only[jy.1]at he
  obtain⟨u,q1,q2⟩:=hr.env i sv he
  refine⟨u,?_,q2⟩
  cases sv with
  | v x=>exact q1
  | loc id off=>
   simp only[St.den]at q1 ⊢
   cases hx:S.L id with
   | none=>simp[hx]at q1
   | some x=>
    obtain⟨y,g1,g2⟩:=tY id x hx
    simp only[hx]at q1
    simp only[g1,g2];exact q1
  | sl id n c=>
   simp only[St.den]at q1 ⊢
   cases hx:S.L id with
   | none=>simp[hx]at q1
   | some x=>
    obtain⟨y,g1,g2⟩:=tY id x hx
    simp only[hx]at q1
    simp only[g1,g2];exact q1
 ·rcases ZdO (S:=S) dQ bG (by omega:css.length=ids.length) id with⟨h3,h4⟩|⟨i,x,cs,h3,h4,h5,h6⟩
  ·have hy':S.L id=some y:=by rw[<-h4];exact hy
   have ho:=hr.own id y hy'
   have hn:¬Y y.b:=λhh=>(i5 _ hh).2.2.2.2.1 id y hy' rfl
   have cC:w'.heap[y.b]?=w.heap[y.b]?:=hu.block _ ho.lt (λhm=>by
    rcases hm with hm|hm
    ·obtain⟨z,hz,qO⟩:=List.mem_map.1 hm
     obtain⟨i,hi⟩:=List.getElem?_of_mem hz
     obtain⟨id',g1,g2⟩:=cD i z hi
     have:=hr.apart _ _ _ _ g2 hy' qO
     subst this
     exact h3 (zA2 g1)
    ·exact hn hm)
   exact⟨by rw[cC];exact ho.cells,λhz o=>nN _ ho.lt hn o (ho.free hz o),λhz j u hu=>eC _ hn _ _ (ho.known hz j u hu),ho.whole⟩
  ·simp only[h6,Option.some.injEq]at hy
   subst hy
   exact bZ i x cs h4 h5
 ·obtain⟨x,g1,g2⟩:=mX id y hy
  obtain⟨x',g3,g4⟩:=mX id' y' hy'
  exact hr.apart _ _ _ _ g1 g3 (by rw[g2,g4,e])
 ·obtain⟨x,g1,g2⟩:=mX id y hy
  simp only[jy.2.1];exact hr.ids id x g1
 ·rcases lS k t ht with⟨q1,q2⟩|⟨q,t0,tv,q1,q2,q3,rfl⟩
  ·obtain⟨g1,g2⟩:=hr.toks k t q2
   have hn:∀b,t.blk=some b->¬Y b:=λb hb hh=>q1 ((i5 b hh).2.2.2.2.2 k t q2 hb)
   refine⟨g1.same (λb hb=>hu.block b (g1.lt hb) (λhm=>?_)) (λb o hb=>nN b (g1.lt hb) (hn b hb) o),λb hb=>⟨λid y hy=>?_,(g2 b hb).2⟩⟩
   ·rcases hm with hm|hm
    ·obtain⟨id,x,g3,g4⟩:=tZ b hm
     exact(g2 b hb).1 id x g3 g4
    ·exact hn b hb hm
   ·obtain⟨x,g3,g4⟩:=mX id y hy
    rw[<-g4];exact(g2 b hb).1 id x g3
  ·obtain⟨g1,g2,g3⟩:=ko q t0 tv q2 q3
   refine⟨g2,λb hb=>⟨λid y hy=>?_,?_⟩⟩
   ·obtain⟨x,g4,g5⟩:=mX id y hy
    rw[<-g5]
    rcases(g3 b hb).1 with h|h
    ·exact(i5 b h).2.2.2.2.1 id x g4
    ·have:=(hr.own id x g4).lt;omega
   ·rcases(g3 b hb).1 with h|h
    ·exact(i5 b h).2.2.1
    ·intro o
     cases he:C.m0 b o with
     | none=>rfl
     | some u=>have:=hr.sub.lt (hr.le _ _ _ he);omega
 ·rcases lS k t ht with⟨q1,q2⟩|⟨q,t0,tv,q1,q2,q3,rfl⟩
  ·exact List.mem_append_right _ (hr.tkeys k t q2)
  ·exact List.mem_append_left _ (zA2 q1)
 ·have cross:∀(k k':Nat)(t t':Tok),(k ∉ kl/\S.tok k=some t)->(∃(q:Nat)(t0:Tok)(tv:Value),kl[q]?=some k'/\tks[q]?=some t0/\tvs[q]?=some tv/\t'=⟨tv,t0.esz⟩)->t.blk=some b->t'.blk=some b->False:=by
   rintro k k' t t' ⟨q1,q2⟩ ⟨q,t0,tv,q3,q4,q5,rfl⟩ e1 e2
   rcases((ko q t0 tv q4 q5).2.2 b e2).1 with h|h
   ·exact q1 ((i5 b h).2.2.2.2.2 k t q2 e1)
   ·have:=(hr.toks k t q2).1.lt e1;omega
  rcases lS k t ht with h3|h3 <;> rcases lS k' t' ht' with h4|h4
  ·exact hr.tapart k k' t t' b h3.2 h4.2 dE gj
  ·exact(cross k k' t t' h3 h4 dE gj).elim
  ·exact(cross k' k t' t h4 h3 gj dE).elim
  ·obtain⟨q,t0,tv,q1,q2,q3,rfl⟩:=h3
   obtain⟨q',t0',tv',q1',q2',q3',rfl⟩:=h4
   have hz:∀(q:Nat)(t0:Tok)(tv:Value),tks[q]?=some t0->tvs[q]?=some tv->((tks.zip tvs).map λq=>(⟨q.2,q.1.esz⟩:Tok))[q]?=some ⟨tv,t0.esz⟩:=λq t0 tv h5 h6=>by
    rw[List.getElem?_map,(List.getElem?_zip_eq_some (z:=(t0,tv))).2 ⟨h5,h6⟩];rfl
   have:=q9 q q' _ _ b (hz q t0 tv q2 q3) (hz q' t0' tv' q2' q3') dE gj
   subst this
   rw[q1]at q1';cases q1';rfl
 ·refine eC b (λhh=>?_) o u (hr.le b o u ra)
  rw[(i5 b hh).2.2.1 o]at ra;cases ra
 ·obtain⟨M,hd⟩:=hr.dom
  have hu':Upd M w w':=⟨hu.os,hu.tape,hu.output,hu.size,λk hk hn=>hu.block k hk (λhm=>hn (by
   rcases hm with hm|hm
   ·exact uT M hd k hm
   ·exact(i5 k hm).2.2.2.1 M hd)),hu.wr⟩
  have bV:=hd.step (m':=m') hu' (λb o u h=>by
   rcases cF b o u h with h|h|h
   ·exact .inl h
   ·exact .inr (.inl ((i5 b h).2.2.2.1 M hd))
   ·exact .inr (.inr ⟨h.1,cW.lt (by assumption),h.2⟩))
  refine⟨_,by simpa only[jy.2.2.2]using bV.p,bV.lt,λid y hy=>?_,λk t b ht hb=>?_,bV.mks,bV.new⟩
  ·obtain⟨x,g1,g2⟩:=mX id y hy
   rw[<-g2];exact bV.own id x g1
  ·rcases lS k t ht with⟨q1,q2⟩|⟨q,t0,tv,q1,q2,q3,rfl⟩
   ·exact bV.tok k t b q2 hb
   ·obtain⟨g1,g2,g3⟩:=ko q t0 tv q2 q3
    rcases(g3 b hb).1 with h|h
    ·exact .inl ((i5 b h).2.2.2.1 M hd)
    ·exact .inr ⟨h,g2.lt hb,g2.wr hb⟩
theorem ZmO{C:Ctx}{S:St}{m:Mem}{a:Act}{w:World}{E:Env}{rt:TypeId}{g:FuncId}{args:List Value}{K:Value->Int->Prop}(hY:YOk E C)(hr:Rel C S m a w)(h:ZtL E rt g args K S m):
  Zeh E.P g/\Calls E.P g args.toArray w λe w'=>∃v gh,e=.returned v/\K v gh/\Rel C { S with gh:=gh } m a w':=by
 unfold ZtL at h
 split at h
 ·exact h.elim
 rename_i Y dL
 obtain⟨l,xs,go,stop,hP,rb,dF,bR⟩:=h
 have uU:=hY.y Y dL
 obtain⟨M0,hd⟩:=hr.dom
 let at':Int->Int:=λj=>if j < 0 then -1 else S.gh+j
 let p:Int->(Nat->Prop)->World->Prop:=λj M w1=>C.p (at' j) (λk=>M0 k\/M k) w1/\(∀k,M k->w.heap.size<=k)/\w.heap.size<=w1.heap.size/\(∀k,M0 k->w1.heap[k]?=w.heap[k]?)/\Sub m w1
 have rc:∀b o v,m b o=some v->b < w.heap.size:=λb o v hv=>hr.sub.lt hv
 have hp:Zr0 p:=by
  rintro j M M' w1 w2 ⟨h1,h2,h3,h4,h5⟩ hu hM'
  have dW:∀k,M' k->w.heap.size<=k:=λk hk=>by
   rcases hM' k hk with hk|hk
   ·exact h2 k hk
   ·exact Nat.le_trans h3 hk.1
  have bV:∀k,k < w.heap.size->w2.heap[k]?=w1.heap[k]?:=λk hk=>hu.block k (Nat.lt_of_lt_of_le hk h3) λhm=>by have:=h2 k hm;omega
  refine⟨C.st _ _ _ _ _ h1 ⟨hu.os,hu.tape,hu.output,hu.size,λk hk hn=>hu.block k hk λhm=>hn (.inr hm),hu.wr⟩ (λk hk=>?_),dW,Nat.le_trans h3 hu.size,λk hk=>by rw[bV k (hd.lt k hk)];exact h4 k hk,λb o v hv=>?_⟩
  ·rcases hk with hk|hk
   ·exact .inl (.inl hk)
   ·rcases hM' k hk with hk|hk
    ·exact .inl (.inr hk)
    ·exact .inr hk
  ·rw[ZaY (bV b (rc b o v hv))];exact h5 b o v hv
 have rd:p 0 (λ_=>False) w:=by
  refine⟨?_,λ_ h=>h.elim,Nat.le_refl _,λ_ _=>rfl,hr.sub⟩
  have e1:at' 0=S.gh:=by simp[at']
  have e2:(λk=>M0 k\/False)=M0:=by funext k;simp
  rw[e1]
  show C.p S.gh (λk=>M0 k\/False) w
  rw[e2];exact hd.p
 have uV:Zi7 E.P m p (λl' g v=>l'=l/\0<=g/\xs[g.toNat]?=some v):=by
  rintro F n l' j v M w1 hF nO ⟨rfl,hj,eJ⟩ ⟨h1,h2,h3,h4,h5⟩ cW
  have e1:at' j=S.gh+((j.toNat:Nat):Int):=by
   show(if j < 0 then -1 else S.gh+j)=_
   rw[if_neg (by omega)];omega
  rw[e1]at h1
  have aH:∀k,M0 k\/M k->k < w1.heap.size:=λk hk=>by
   rcases hk with hk|hk
   ·exact Nat.lt_of_lt_of_le (hd.lt k hk) h3
   ·exact nO k hk
  have uW:=uU F n l' _ v (λk=>M0 k\/M k) w1 hF aH (rb _ _ eJ) h1 (λb o v hv=>cW b o v (hr.le b o v hv))
  obtain⟨fn,tmps,asg,bdy,nP,fV⟩:=uW
  refine⟨fn,tmps,asg,bdy,nP,fV.mono ?_⟩
  rintro e w2 ⟨b,rfl,mY,eZ⟩
  have kV:Sub m w2:=λb o v hv=>by
   rcases hd.new b o v hv with h6|h6
   ·exact eZ.sub b o v h6
   ·have hb:=eZ.block b (Nat.lt_of_lt_of_le (hd.lt b h6) h3) (.inl h6)
    rw[ZaY hb];exact cW b o v hv
  refine⟨b,rfl,⟨?_,h2,Nat.le_trans h3 eZ.size,λk hk=>?_,kV⟩,⟨eZ.size,λk hk hm=>eZ.block k hk (.inr hm),kV⟩⟩
  ·cases b with
   | true=>
    have e2:at' (j+1)=S.gh+((j.toNat:Nat):Int)+1:=by
     show(if j+1 < 0 then -1 else S.gh+(j+1))=_
     rw[if_neg (by omega)];omega
    simp only[if_true]at mY ⊢
    rw[e2];exact mY
   | false=>
    simp only[Bool.false_eq_true,if_false]at mY ⊢
    exact mY
  ·rw[eZ.block k (Nat.lt_of_lt_of_le (hd.lt k hk) h3) (.inl hk)];exact h4 k hk
 refine⟨hP.1,(hP.2 p hp w hr.sub rd uV).mono ?_⟩
 rintro e w' ⟨v,M,rfl,nO,kp⟩
 have fin:∀j,p j M w'->Rel C { S with gh:=at' j } m a w':=by
  rintro j ⟨h1,h2,h3,h4,h5⟩
  refine hr.yielded hd (C.st _ _ _ _ _ h1 (Upd.refl _ _) λk hk=>.inl (.inl hk)) ⟨h3,λk _ hk=>h4 k hk,λb o v hv=>h5 b o v (hr.le b o v hv)⟩
 have hv:go v\/stop v:=by
  rcases kp with h|h
  ·exact .inl h.1
  ·exact .inr h.1
 have hk:=Shape.all_fits _ _ bR v (dF v hv)
 rcases kp with⟨h1,h2⟩|⟨h1,h2⟩
 ·have:=fin _ h2
  have e1:at' (xs.length:Int)=S.gh+(xs.length:Int):=by
   show(if((xs.length:Nat):Int) < 0 then -1 else S.gh+((xs.length:Nat):Int))=_
   rw[if_neg (by omega)]
  rw[e1]at this
  exact⟨v,_,rfl,hk.1 h1,this⟩
 ·have:=fin _ h2
  have e1:at' (-1)=-1:=rfl
  rw[e1]at this
  exact⟨v,_,rfl,hk.2 h1,this⟩
theorem ZoR{E:Env}(hE:E.ok){F:Fence}(hF:FOk F)(hY:YOk E C){o:Oper}(hd:∀t,o.dst=some t->t < C.n)(hr:Rel C S m a w){K:St->Mem->Prop}(h:opW E S m o K){n:Nat}{next:Act->World->Prop}{Q:Exit->Act->World->Prop}
  (hK:∀S' m' a' w',K S' m'->Rel C S' m' a' w'->next a' w'):o.uponIn F n E.P a next Q ((execOp a.eval o).run E.P w):=by
 obtain⟨dst,op,type,pos,after,guard⟩:=o
 cases op with
 | move x=>exact hK _ _ _ _ h (hr.putEv' dst hd x)
 | assign x=>exact hK _ _ _ _ h (hr.putEv' dst hd x)
 | pick c x y=>
  obtain⟨v,hv,h⟩:=Zay h
  obtain⟨h1,h2⟩:=Zad h
  have he:=hr.ev hv
  obtain⟨b,rfl⟩:∃b,v=.bool b:=⟨_,Zby h1⟩
  have bH:(execOp a.eval ⟨dst,.pick c x y,type,pos,after,guard⟩).run E.P w=.ok (.value (if b then a.eval x else a.eval y)) w:=by
   simp[execOp,he,asBool]
  rw[bH]
  simp only[Zb2]at h2
  cases b
  ·exact hK _ _ _ _ h2 (hr.putEv' dst hd y)
  ·exact hK _ _ _ _ h2 (hr.putEv' dst hd x)
 | load T x=>
  have h':∃v,K (S.put dst (some (.v v))) m/\(Instr.loadAt T (a.eval x)).run E.P w=.ok v w:=by
   simp only[opW]at h
   cases mZ:ZnL E dst with
   | none=>
    simp only[mZ]at h
    exact Zfh hE hr h
   | some y=>
    simp only[mZ]at h
    cases bY:E.fix with
    | some f=>simp[bY]at h
    | none=>
     simp only[bY,Option.isSome_none,cond_false]at h
     obtain⟨v,hk,bH⟩:=Zfh hE hr h
     exact⟨v,ZqX hk,bH⟩
  obtain⟨v,hk,bH⟩:=h'
  have cR:(execOp a.eval ⟨dst,.load T x,type,pos,after,guard⟩).run E.P w=.ok (.value v) w:=by simp[execOp,bH]
  rw[cR]
  exact hK _ _ _ _ hk (hr.put dst hd rfl)
 | store T x y=>
  obtain⟨v,hv,h⟩:=Zay h
  have he:=hr.ev hv
  cases kq:ZkX E x with
  | none=>
   simp only[kq]at h
   obtain⟨S',w',hk,aG,bH⟩:=ZjQ hE hr h
   have cR:(execOp a.eval ⟨dst,.store T x y,type,pos,after,guard⟩).run E.P w=.ok .skip w':=by simp[execOp,he,bH]
   rw[cR]
   exact hK _ _ _ _ hk (aG.putNone dst _)
  | some key=>
   simp only[kq]at h
   cases bY:E.fix with
   | some f=>simp[bY]at h
   | none=>
    simp only[bY,Option.isSome_none,cond_false]at h
    obtain⟨m',w',hk,aG,bH⟩:=Zf3 hE hY hr h
    have cR:(execOp a.eval ⟨dst,.store T x y,type,pos,after,guard⟩).run E.P w=.ok .skip w':=by simp[execOp,he,bH]
    rw[cR]
    exact hK _ _ _ _ hk (aG.putNone dst _)
 | alloc T=>
  simp only[opW,ZoN]at h
  cases dst with
  | none=>exact h.elim
  | some d=>
   simp only at h
   cases ht:E.tt T with
   | none=>simp[ht]at h
   | some i=>
    simp only[ht]at h
    cases hL:S.L d with
    | some x=>simp[hL]at h
    | none=>
     simp only[hL]at h
     have bX:=hE T i ht
     have hz:=bX.run_zero (w:=w)
     have gw:i.zero.cells.toList.length=i.size:=by simpa using bX.zsize
     have hb:=hr.newBox (d:=d) hL (x:={ b:=w.heap.size,cs:=i.zero.cells.toList,T:=T,cap:=i.size,fz:=false,full:=true }) (m':=m) [] rfl (by simpa using gw) (λ_=>gw) (.inl ⟨rfl,rfl⟩)
     simp only[List.append_nil,Array.toArray_toList]at hb
     have bH:(execOp a.eval ⟨some d,.alloc T,type,pos,after,guard⟩).run E.P w=.ok (.value (.pointer (some ⟨w.heap.size,0,none⟩))) (w.alloc (.cells i.zero.cells T (0,0))):=by
      simp[execOp,Instr.alloc,hz,newVar,newRow]
     rw[bH]
     exact hK _ _ _ _ (h w.heap.size) (hb.put (some d) hd (by simp[St.den,St.newL]))
 | box T x=>
  obtain⟨v,hv,h⟩:=Zay h
  have he:=hr.ev hv
  cases gE:Zfj E dst with
  | true=>
   simp only[gE,cond_true]at h
   cases bY:E.fix with
   | some f=>simp[bY]at h
   | none=>
    simp only[bY,Option.isSome_none,cond_false,Zta]at h
    cases dst with
    | none=>exact h.elim
    | some d=>
     simp only at h
     cases ht:E.tt T with
     | none=>simp[ht]at h
     | some i=>
      simp only[ht]at h
      cases hL:S.L d with
      | some x=>simp[hL]at h
      | none=>
       simp only[hL]at h
       obtain⟨h1,h2⟩:=Zad h
       have bU:=Nat.eq_of_beq_eq_true h1
       have gw:v.cells.toList.length=i.size:=by simpa using bU
       have bO:m.free w.heap.size:=λo=>by
        cases he:m w.heap.size o with
        | none=>rfl
        | some v=>have:=hr.sub.lt he;omega
       have hb:=hr.newBox (d:=d) hL (x:={ b:=w.heap.size,cs:=v.cells.toList,T:=T,cap:=i.size,fz:=true,full:=true }) (m':=m.add w.heap.size v.cells.toList) [] rfl (by simpa using gw) (λ_=>gw) (.inr ⟨rfl,rfl⟩)
       simp only[List.append_nil,Array.toArray_toList]at hb
       have bH:(execOp a.eval ⟨some d,.box T x,type,pos,after,guard⟩).run E.P w=.ok (.value (.pointer (some ⟨w.heap.size,0,none⟩))) (w.alloc (.cells v.cells T (0,0))):=by
        simp[execOp,he,Instr.box,newVar,newRow]
       rw[bH]
       exact hK _ _ _ _ (ZmL (h2 w.heap.size _ (Mem.le_add bO _) (λj v hv=>by rw[Mem.add_same];simpa using hv)) bO (λb' o u hu=>by
        by_cases e:b'=w.heap.size
        ·exact .inr e
        ·rw[Mem.add_other _ e]at hu;exact .inl hu)) (hb.put (some d) hd (by simp[St.den,St.newL]))
  | false=>
  simp only[gE,cond_false]at h
  simp only[Zuj]at h
  cases dst with
  | none=>exact h.elim
  | some d=>
   simp only at h
   cases ht:E.tt T with
   | none=>simp[ht]at h
   | some i=>
    simp only[ht]at h
    cases hL:S.L d with
    | some x=>simp[hL]at h
    | none=>
     simp only[hL]at h
     obtain⟨h1,h2⟩:=Zad h
     have bU:=Nat.eq_of_beq_eq_true h1
     have gw:v.cells.toList.length=i.size:=by simpa using bU
     have hb:=hr.newBox (d:=d) hL (x:={ b:=w.heap.size,cs:=v.cells.toList,T:=T,cap:=i.size,fz:=false,full:=true }) (m':=m) [] rfl (by simpa using gw) (λ_=>gw) (.inl ⟨rfl,rfl⟩)
     simp only[List.append_nil,Array.toArray_toList]at hb
     have bH:(execOp a.eval ⟨some d,.box T x,type,pos,after,guard⟩).run E.P w=.ok (.value (.pointer (some ⟨w.heap.size,0,none⟩))) (w.alloc (.cells v.cells T (0,0))):=by
      simp[execOp,he,Instr.box,newVar,newRow]
     rw[bH]
     exact hK _ _ _ _ (h2 w.heap.size) (hb.put (some d) hd (by simp[St.den,St.newL]))
 | buildSlice T len parts=>
  simp only[opW]at h
  cases gV:ZcH E dst with
  | some ke=>
   simp only[gV]at h
   cases bY:E.fix with
   | some f=>simp[bY]at h
   | none=>
    simp only[bY,Option.isSome_none,cond_false]at h
    split at h
    ·rename_i hp
     have uX:parts=#[]:=by rw[<-Array.toArray_toList (xs:=parts),hp]
     subst uX
     obtain⟨S',v,w',hk,aG,_,hx⟩:=ZfZ hE (λm' e=>by cases e;rfl) hd hr h
     obtain⟨i,e,g1,g2,rfl,rfl⟩:=hx rfl
     have hu:=(hE T i g1).run_und (w:=w)
     rw[g2]at hu
     have bU:∃n,(Go.sizeOf e).run E.P w=.ok n w:=by
      unfold ZjU at h
      cases dst with
      | none=>exact h.elim
      | some d=>
       simp only at h
       cases hs:Zav E T with
       | none=>simp[hs]at h
       | some ej=>
        obtain⟨e',j⟩:=ej
        obtain⟨i',q1,q2,q3⟩:=ZaE hs
        rw[g1]at q1;cases q1
        rw[g2]at q2;cases q2
        exact⟨_,(hE _ j q3).run_size (w:=w)⟩
     obtain⟨n0,bU⟩:=bU
     have bH:(execOp a.eval ⟨dst,.buildSlice T 0 #[],type,pos,after,guard⟩).run E.P w=.ok (.value (.slice (some ⟨w.heap.size,0,none⟩) 0 0)) (w.alloc (.cells #[] e (0,0))):=by
      simp[execOp,Instr.buildSlice,hu,bU,newRow,Instr.fill]
      congr 2
      apply Array.ext'
      simp
     rw[bH]
     exact hK _ _ _ _ hk aG
    ·exact h.elim
  | none=>
  simp only[gV,ZdQ]at h
  cases dst with
  | none=>exact h.elim
  | some d=>
   simp only at h
   cases ht:E.tt T with
   | none=>simp[ht]at h
   | some t=>
    simp only[ht]at h
    have fW:=hE T t ht
    cases re:t.d with
    | slice e=>
     simp only[re]at h
     cases hi:E.tt e with
     | none=>simp[hi]at h
     | some i=>
      simp only[hi]at h
      have bX:=hE e i hi
      cases hL:S.L d with
      | some x=>simp[hL]at h
      | none=>
       simp only[hL]at h
       obtain⟨h1,h2⟩:=Zad h
       simp only[zA7,Nat.ble_eq]at h1
       have h3:=ZbF hr h2
       obtain⟨h4,h5⟩:=Zad h3
       generalize dV:List.map a.eval (List.map (λx=>x.2) parts.toList)=vs at *
       have bG:parts.toList.length=len:=Nat.eq_of_beq_eq_true h1.2.1
       have jf:vs.length=len:=by rw[<-dV];simpa using bG
       have eQ:(Zbn vs).length=len*i.size:=by rw[ZkT h4,jf]
       have bO:m.free w.heap.size:=λo=>by
        cases he:m w.heap.size o with
        | none=>rfl
        | some v=>have:=hr.sub.lt he;omega
       have hb:=hr.newBox (d:=d) hL (x:={ b:=w.heap.size,cs:=Zbn vs,T:=e,cap:=len*i.size,fz:=true,full:=true }) (m':=m.add w.heap.size (Zbn vs)) [] rfl (by simpa using eQ) (λ_=>eQ) (.inr ⟨rfl,rfl⟩)
       simp only[List.append_nil]at hb
       have hu:=fW.run_und (w:=w)
       rw[re]at hu
       have bU:=bX.run_size (w:=w)
       have hz:=bX.run_zero (w:=w)
       have lT:(parts.map λx=>(x.1,a.eval x.2)).toList=(List.range' 0 vs.length).zip vs:=by
        have e1:=ZfX h1.1
        simp only[List.length_map]at e1
        rw[bG,<-jf]at e1
        rw[<-e1,<-dV,List.map_map,List.zip_map']
        simp
       have gw:i.zero.cells.toList.length=i.size:=by simpa using bX.zsize
       have rh:∀zz:Array Value,((Array.range (len*i.size)).map (λq=>zz[q % zz.size]!)).toList.length=vs.length*i.size:=λzz=>by simp[jf]
       have kW:∀zz:Array Value,Instr.fill (λq=>some (q*i.size,i.size)) ((Array.range (len*i.size)).map (λq=>zz[q % zz.size]!)) (parts.map λx=>(x.1,a.eval x.2)).toList=some (Zbn vs).toArray:=λzz=>by
        have:=Zja i.size vs 0 [] ((Array.range (len*i.size)).map (λq=>zz[q % zz.size]!)).toList h4 (by simp) (rh zz)
        rw[lT]
        simpa only[List.nil_append,Array.toArray_toList]using this
       have cA:¬(16777216 < len*i.size):=by omega
       have bH:(execOp a.eval ⟨some d,.buildSlice T len parts,type,pos,after,guard⟩).run E.P w=.ok (.value (.slice (some ⟨w.heap.size,0,none⟩) len len)) (w.alloc (.cells (Zbn vs).toArray e (0,0))):=by
        by_cases h0:len*i.size=0
        ·have:=kW #[]
         simp only[h0]at this
         simp[execOp,Instr.buildSlice,hu,bU,h0,newRow]
         simp at this
         simp[this]
        ·have:=kW i.zero.cells
         simp[execOp,Instr.buildSlice,hu,bU,cA,h0,hz,newRow]
         simp at this
         simp[this]
       rw[bH]
       exact hK _ _ _ _ (h5 w.heap.size bO) (hb.put (some d) hd (by simp[St.den,St.newL]))
    | _=>simp[re]at h
 | makeSlice T l c=>
  have h':∃S' m' v w',K S' m'/\Rel C S' m' (a.put dst v) w'/\(Instr.makeSlice T (a.eval l) (a.eval c)).run E.P w=.ok v w':=by
   simp only[opW]at h
   cases gV:ZcH E dst with
   | none=>
    simp only[gV]at h
    cases j5:Zqd E dst with
    | false=>
     simp only[j5,cond_false]at h
     obtain⟨S',v,w',g⟩:=ZkV hE hd hr h
     exact⟨S',m,v,w',g⟩
    | true=>
     simp only[j5,cond_true]at h
     cases bY:E.fix with
     | some f=>simp[bY]at h
     | none=>
      simp only[bY,Option.isSome_none,cond_false]at h
      exact ZjT hE hd hr h
   | some ke=>
    simp only[gV]at h
    cases bY:E.fix with
    | some f=>simp[bY]at h
    | none=>
     simp only[bY,Option.isSome_none,cond_false]at h
     obtain⟨S',v,w',g1,g2,g3,_⟩:=ZfZ hE (λm' e=>by cases e) hd hr h
     exact⟨S',m,v,w',g1,g2,g3⟩
  obtain⟨S',m',v,w',hk,aG,bH⟩:=h'
  have cR:(execOp a.eval ⟨dst,.makeSlice T l c,type,pos,after,guard⟩).run E.P w=.ok (.value v) w':=by simp[execOp,bH]
  rw[cR]
  exact hK _ _ _ _ hk aG
 | convert s d x=>
  simp only[opW]at h
  cases jh:Zfp E s d with
  | false=>
   simp only[jh,cond_false]at h
   cases fF:Zcj E s d with
   | false=>
    simp only[fF,cond_false]at h
    cases nQ:Zck E s d with
    | false=>
     simp only[nQ,cond_false]at h
     exact Zf4 hE hd hr h hK
    | true=>
     simp only[nQ,cond_true]at h
     cases bY:E.fix with
     | some f=>simp[bY]at h
     | none=>
      simp only[bY,Option.isSome_none,cond_false]at h
      obtain⟨v,hk,bH⟩:=Zf0 hE nQ hr h
      have cR:(execOp a.eval ⟨dst,.convert s d x,type,pos,after,guard⟩).run E.P w=.ok (.value v) w:=by simp[execOp,bH]
      rw[cR]
      exact hK _ _ _ _ hk (hr.put dst hd rfl)
   | true=>
    simp only[fF,cond_true]at h
    cases bY:E.fix with
    | some f=>simp[bY]at h
    | none=>
     simp only[bY,Option.isSome_none,cond_false]at h
     obtain⟨S',m',v,w',hk,aG,bH⟩:=ZkW hE fF hd hr h
     have cR:(execOp a.eval ⟨dst,.convert s d x,type,pos,after,guard⟩).run E.P w=.ok (.value v) w':=by simp[execOp,bH]
     rw[cR]
     exact hK _ _ _ _ hk aG
  | true=>
   simp only[jh,cond_true]at h
   cases he:S.ev x with
   | none=>simp[he]at h
   | some sv=>
    cases sv with
    | v u=>simp[he]at h
    | loc id off=>simp[he]at h
    | sl id n' c=>
     simp only[he]at h
     obtain⟨v,h1,h2,h3⟩:=hr.ev_val he
     simp only[St.den]at h1
     cases hL:S.L id with
     | none=>simp[hL]at h1
     | some bx=>
      simp only[hL,Option.some.injEq]at h1
      unfold Zfp at jh
      cases ht:E.tt s with
      | none=>simp[ht]at jh
      | some i=>
       simp only[ht]at jh
       cases cI:i.d with
       | slice e=>
        simp only[cI,zA7]at jh
        have uY:s=d:=Nat.eq_of_beq_eq_true jh.1
        subst uY
        cases hj:E.tt e with
        | none=>simp[hj]at jh
        | some j=>
         simp only[hj]at jh
         have hu:=(hE s i ht).run_und (w:=w)
         have lO:=(hE e j hj).run_und (w:=w)
         rw[cI]at hu
         obtain⟨sp,fr,hh,hc,hf⟩:=(hr.own id bx hL).cells
         have qX:=ZcL (P:=E.P) bx.b 0 hh
         have aG:=hr.freeze hL _ ⟨_,_,_,hh,rfl⟩
         have gI:j.d=.int .u8:=by
          cases gI:j.d with
          | int kk=>cases kk <;> simp[gI]at jh <;> rfl
          | _=>simp[gI]at jh
         rw[gI]at lO
         have bH:(execOp a.eval ⟨dst,.convert s s x,type,pos,after,guard⟩).run E.P w=.ok (.value (.slice (some ⟨bx.b,0,none⟩) n' c)) (w.freeze ⟨bx.b,(bx.cs++sp).toArray.size,none⟩ 1):=by
          simp only[execOp,h3,<-h1]
          simp only[convert,Sem.run_bind,hu,Result.andThen_ok,beq_self_eq_true,lO,qX,Sem.run_pure]
         rw[bH]
         exact hK _ _ _ _ h (aG.put dst hd (by simp[St.den,hL]))
       | _=>simp[cI]at jh
 | call c=>
  obtain⟨callee,args,argTypes⟩:=c
  cases callee with
  | value f=>
   simp only[opW]at h
   obtain⟨S,m,hr,h⟩:=ZgO hr h
   simp only[ZrK]at h
   cases he:S.ev f with
   | none=>simp[he]at h
   | some sv=>
    obtain⟨v,h1,h2,h3⟩:=hr.ev_val he
    cases sv with
    | v fv=>
     cases fv with
     | func fn first captured=>
      cases fn with
      | func g=>
       simp only[he]at h
       simp only[St.den,Option.some.injEq]at h1
       have gx:(first++Array.map a.eval args++captured)=(first.toList++List.map a.eval args.toList++captured.toList).toArray:=Array.ext' (by simp)
       cases jz:ZnM E dst with
       | true=>
        simp only[jz,cond_true]at h
        cases bY:E.fix with
        | some f=>simp[bY]at h
        | none=>
         simp only[bY,Option.isSome_none,cond_false]at h
         obtain⟨S',sv,v,w',hk,aG,bH⟩:=ZmN hd hr (ZbF hr h)
         have cR:(execOp a.eval ⟨dst,.call ⟨.value f,args,argTypes⟩,type,pos,after,guard⟩).run E.P w=.ok (.value v) w':=by
          simp only[execOp,resolve,h3,<-h1,Deferred.ofValue]
          simp only[Sem.run_bind,Sem.run_pure,Result.andThen_ok,invoke,gx]
          exact bH
         rw[cR]
         exact hK _ _ _ _ hk aG
       | false=>
       simp only[jz,cond_false]at h
       have uZ:Zeh E.P g/\Calls E.P g (first.toList++List.map a.eval args.toList++captured.toList).toArray w λe w'=>∃v S' m',e=.returned v/\K (S'.put dst (some (.v v))) m'/\Rel C S' m' a w':=by
        cases hP:ZdP E dst with
        | some ks=>
         simp only[hP]at h
         cases bY:E.fix with
         | some f=>simp[bY]at h
         | none=>
          simp only[bY,Option.isSome_none,cond_false]at h
          have h4:=ZbF hr h
          exact ZjY hY hr h4
        | none=>
        simp only[hP]at h
        cases ni:Zp9 E dst with
        | true=>
         simp only[ni,cond_true]at h
         cases bY:E.fix with
         | some f=>simp[bY]at h
         | none=>
          simp only[bY,Option.isSome_none,cond_false]at h
          have h4:=ZbF hr h
          obtain⟨h5,h6⟩:=ZmO hY hr h4
          refine⟨h5,h6.mono ?_⟩
          rintro e w' ⟨v,gh,rfl,h7,h8⟩
          exact⟨v,_,m,rfl,h7,h8⟩
        | false=>
        simp only[ni,cond_false]at h
        cases gV:ZcH E dst with
        | none=>
         simp only[gV]at h
         have h4:=ZbF hr h
         exact ZkR hr h4
        | some ke=>
         simp only[gV]at h
         cases bY:E.fix with
         | some f=>simp[bY]at h
         | none=>
          simp only[bY,Option.isSome_none,cond_false]at h
          split at h
          ·have h4:=ZbF hr h
           exact ZjX hr h4
          ·exact h.elim
       obtain⟨jA,cV⟩:=uZ
       have bH:(execOp a.eval ⟨dst,.call ⟨.value f,args,argTypes⟩,type,pos,after,guard⟩).run E.P w=.ok (.enter g (first.toList++List.map a.eval args.toList++captured.toList).toArray) w:=by
        simp only[execOp,resolve,h3,<-h1,Deferred.ofValue]
        simp only[Sem.run_bind,Sem.run_pure,Result.andThen_ok,invoke,gx]
        exact jA _ _
       rw[bH]
       refine⟨λhs=>by rw[hF.depth]at hs;simp at hs,?_⟩
       refine hF.calls (cV.mono ?_)
       rintro e w' ⟨v,S',m',rfl,hk,aG⟩
       exact hK _ _ _ _ hk (aG.put dst hd rfl)
      | yield l=>
       simp only[he]at h
       cases bY:E.fix with
       | some f=>simp[bY]at h
       | none=>
        simp only[bY,Option.isSome_none,cond_false]at h
        cases dL:E.yl with
        | none=>simp[dL]at h
        | some Y=>
         cases qc:first.toList with
         | cons x l=>simp[dL,qc]at h
         | nil=>
          cases ri:captured.toList with
          | cons x l=>simp[dL,qc,ri]at h
          | nil=>
           simp only[dL,qc,ri]at h
           obtain⟨hy,gK,eK⟩:=ZbF hr h
           have rj:first=#[]:=by rw[<-Array.toArray_toList (xs:=first),qc]
           have rk:captured=#[]:=by rw[<-Array.toArray_toList (xs:=captured),ri]
           subst rj rk
           obtain⟨M,hd'⟩:=hr.dom
           obtain⟨fn,tmps,asg,bdy,nP,fV⟩:=hY.y Y dL F (n - 1) l S.gh _ M w hF hd'.lt hy hd'.p (λb o v hv=>hr.sub b o v (hr.le b o v hv))
           simp only[St.den,Option.some.injEq]at h1
           have bH:(execOp a.eval ⟨dst,.call ⟨.value f,args,argTypes⟩,type,pos,after,guard⟩).run E.P w=.ok (.round l fn tmps asg bdy) w:=by
            have gx:(#[]++Array.map a.eval args)=(List.map a.eval args.toList).toArray:=Array.ext' (by simp)
            simp only[execOp,resolve,h3,<-h1,Deferred.ofValue]
            simp only[Sem.run_bind,Sem.run_pure,Result.andThen_ok,invoke,gx]
            simpa using nP
           rw[bH]
           refine⟨λhs=>by rw[hF.depth]at hs;simp at hs,fV.mono ?_⟩
           rintro e w' ⟨b,rfl,hp,eZ⟩
           cases b with
           | true=>exact hK _ _ _ _ gK ((hr.yielded hd' hp eZ).put dst hd rfl)
           | false=>exact hK _ _ _ _ eK ((hr.yielded hd' hp eZ).put dst hd rfl)
      | _=>simp[he]at h
     | _=>simp[he]at h
    | _=>simp[he]at h
  | invoke r m=>exact Zf4 hE hd hr h hK
  | builtin b=>
   cases b with
   | append=>
    simp only[opW]at h
    split at h
    ·rename_i s x T xT d hA hT
     obtain⟨S,m,hr,h⟩:=ZgO hr h
     obtain⟨vs,dV,h⟩:=Zay h
     obtain⟨vx,qd,h⟩:=Zay h
     have ha:args=#[s,x]:=by rw[<-Array.toArray_toList (xs:=args),hA]
     have eP:argTypes=#[T,xT]:=by rw[<-Array.toArray_toList (xs:=argTypes),hT]
     subst ha eP
     obtain⟨v,tk,m',w',hk,aG,bH⟩:=Zig (ty:=type) hE hr h
     have cR:(execOp a.eval ⟨some d,.call ⟨.builtin .append,#[s,x],#[T,xT]⟩,type,pos,after,guard⟩).run E.P w=.ok (.value v) w':=by
      simp[execOp,resolve,invoke,builtin,hr.ev dV,hr.ev qd,bH]
     rw[cR]
     exact hK _ _ _ _ hk (aG.put (some d) hd rfl)
    ·exact h.elim
   | copy=>
    simp only[opW]at h
    split at h
    ·rename_i d s T xT hA hT
     cases hh:Zeg E d with
     | none=>simp[hh]at h
     | some id=>
      simp only[hh]at h
      obtain⟨vd,q7,h⟩:=Zay h
      obtain⟨vs,dV,h⟩:=Zay h
      have ha:args=#[d,s]:=by rw[<-Array.toArray_toList (xs:=args),hA]
      have eP:argTypes=#[T,xT]:=by rw[<-Array.toArray_toList (xs:=argTypes),hT]
      subst ha eP
      obtain⟨n,S',w',hk,aG,bH⟩:=ZkY (ty:=type) (xT:=xT) hE hr h
      have cR:(execOp a.eval ⟨dst,.call ⟨.builtin .copy,#[d,s],#[T,xT]⟩,type,pos,after,guard⟩).run E.P w=.ok (.value (.int .i64 n)) w':=by
       simp[execOp,resolve,invoke,builtin,hr.ev q7,hr.ev dV,bH]
      rw[cR]
      exact hK _ _ _ _ hk (aG.put dst hd rfl)
    ·exact h.elim
   | _=>exact Zf4 hE hd hr h hK
 | _=>exact Zf4 hE hd hr h hK
end
mutual
def Shape.ex:Shape->(Value->Prop)->Prop
 | .any,k=>∃v,k v
 | .int ki,k=>∃n:Int,k (.int ki n)
 | .bool,k=>∃b:Bool,k (.bool b)
 | .str,k=>∃s:ByteArray,k (.string s)
 | .slice,k=>∃(a:Option Addr)(n c:Nat),k (.slice a n c)
 | .agg l,k=>Shape.exL l λvs=>k (.agg vs.toArray)
 | .tup l,k=>Shape.exL l λvs=>k (.tuple vs.toArray)
 | .fn,k=>∃(g:Nat)(fi ca:List Value),k (.func (.func g) fi.toArray ca.toArray)
 | .cells,k=>∃cs:List Value,k (.agg cs.toArray)
 | .ptr,k=>∃b o:Nat,k (.pointer (some ⟨b,o,none⟩))
def Shape.exL:List Shape->(List Value->Prop)->Prop
 | [],k=>k []
 | s::l,k=>Shape.ex s λv=>Shape.exL l λvs=>k (v::vs)
end
mutual
theorem Shape.ex_elim:∀(s:Shape)(k:Value->Prop),s.ex k->∃v,k v
 | .any,k,h=>h
 | .int ki,k,h=>by simp only[Shape.ex]at h;obtain⟨n,h⟩:=h;exact⟨_,h⟩
 | .bool,k,h=>by simp only[Shape.ex]at h;obtain⟨n,h⟩:=h;exact⟨_,h⟩
 | .str,k,h=>by simp only[Shape.ex]at h;obtain⟨n,h⟩:=h;exact⟨_,h⟩
 | .slice,k,h=>by simp only[Shape.ex]at h;obtain⟨a,n,c,h⟩:=h;exact⟨_,h⟩
 | .agg l,k,h=>by
  simp only[Shape.ex]at h
  obtain⟨vs,_,h⟩:=Shape.exL_elim l _ h
  exact⟨_,h⟩
 | .tup l,k,h=>by
  simp only[Shape.ex]at h
  obtain⟨vs,_,h⟩:=Shape.exL_elim l _ h
  exact⟨_,h⟩
 | .fn,k,h=>by simp only[Shape.ex]at h;obtain⟨_,_,_,h⟩:=h;exact⟨_,h⟩
 | .cells,k,h=>by simp only[Shape.ex]at h;obtain⟨_,h⟩:=h;exact⟨_,h⟩
 | .ptr,k,h=>by simp only[Shape.ex]at h;obtain⟨_,_,h⟩:=h;exact⟨_,h⟩
theorem Shape.exL_elim:∀(l:List Shape)(k:List Value->Prop),Shape.exL l k->∃vs,vs.length=l.length/\k vs
 | [],k,h=>⟨[],rfl,h⟩
 | s::l,k,h=>by
  simp only[Shape.exL]at h
  obtain⟨v,h⟩:=Shape.ex_elim s _ h
  obtain⟨vs,hl,h⟩:=Shape.exL_elim l _ h
  exact⟨v::vs,by simp[hl],h⟩
end
def Zcw:Value->Bool
 | .tuple _=>true
 | _=>false
def opG(E:Env)(ops:Array Oper)(o:Oper)(S:St)(m:Mem)(K:St->Mem->Prop):Prop:=match o.guard with
 | none=>opW E S m o K
 | some (j,want)=>match ops.toList[j]? with
  | none=>False
  | some oj=>match oj.dst with
   | none=>False
   | some t=>match S.env t with
    | some (.v v)=>bif Zcw v then K (S.put o.dst (some (.v undef))) m else chk (ZeN v) (match want with
     | true=>br (Zb2 v) (opW E S m o K) (K (S.put o.dst (some (.v undef))) m)
     | false=>br (Zb2 v) (K (S.put o.dst (some (.v undef))) m) (opW E S m o K))
    | _=>False
def ZeQ(ops:Array Oper)(o:Oper):Option Nat:=match o.guard with
 | none=>none
 | some (j,_)=>match ops.toList[j]? with
  | none=>none
  | some oj=>oj.dst
def Zts(E:Env)(ops:Array Oper)(o:Oper)(S:St)(m:Mem)(K:St->Mem->Prop):Prop:=match ZeQ ops o with
 | none=>opG E ops o S m K
 | some t=>match S.env t with
  | some (.v v)=>bif Zcw v then opG E ops o S m K else chk (ZeN v) (br (Zb2 v) (opG E ops o (S.put (some t) (some (.v (.bool true)))) m K) (opG E ops o (S.put (some t) (some (.v (.bool false)))) m K))
  | _=>False
def ZrX(E:Env)(ops:Array Oper):List Nat->(St->Mem->Prop)->St->Mem->Prop
 | [],K,S,m=>K S m
 | i::l,K,S,m=>match ops.toList[i]? with
  | none=>False
  | some o=>Zts E ops o S m (ZrX E ops l K)
def ZtO(n:Nat)(o:Oper):Bool:=match o.dst with
 | none=>true
 | some d=>Nat.blt d n
def Zjb(n:Nat):List Oper->Bool
 | []=>true
 | o::l=>ZtO n o&&Zjb n l
def Zbf(n:Nat):Code->Bool
 | .region _ ops _=>Zjb n ops.toList
 | .seq a b=>Zbf n a&&Zbf n b
 | .cond _ a b=>Zbf n a&&Zbf n b
 | .block _ a=>Zbf n a
 | .loop a=>Zbf n a
 | .scope a=>Zbf n a
 | .rangeFunc _ ps a b=>ps.toList.all (Nat.blt · n)&&(Zbf n a&&Zbf n b)
 | _=>true
def Zao:List Oper->List Nat
 | []=>[]
 | o::l=>match o.dst with
  | none=>Zao l
  | some d=>d::Zao l
def Zg9:Code->List Nat
 | .region _ ops _=>Zao ops.toList
 | .seq a b=>Zg9 a++Zg9 b
 | .cond _ a b=>Zg9 a++Zg9 b
 | .block _ a=>Zg9 a
 | .loop a=>Zg9 a
 | .scope a=>Zg9 a
 | .rangeFunc _ ps a b=>ps.toList++(Zg9 a++Zg9 b)
 | _=>[]
def ZaJ:Code->Nat
 | .region id _ _=>id
 | .seq a _=>ZaJ a
 | .cond _ a _=>ZaJ a
 | .block _ a=>ZaJ a
 | .loop a=>ZaJ a
 | .scope a=>ZaJ a
 | .rangeFunc _ _ a _=>ZaJ a
 | _=>0
def ZfG(S:St):List (Nat×Shape)->(List Value->Prop)->Prop
 | [],k=>k []
 | (t,sh)::l,k=>wv S (.tmp t) λv=>chk (sh.fits v) (ZfG S l λvs=>k (v::vs))
def Zqe(S:St):List Nat->(List (List Value)->Prop)->Prop
 | [],k=>k []
 | id::l,k=>match S.L id with
  | none=>False
  | some x=>Zqe S l λcss=>k (x.cs::css)
def ZoS(S:St)(k:Nat):Value:=match S.tok k with
 | some t=>t.v
 | none=>.slice none 0 0
def ZeR(S:St):List (Nat×Nat)->(List Value->Prop)->Prop
 | [],k=>k []
 | (q,esz)::l,k=>chk (ZdK (ZoS S q)&&(match S.tok q with
  | some t=>Nat.beq t.esz esz
  | none=>true)) (ZeR S l λvs=>k (ZoS S q::vs))
def Zbr(e:Nat->Option SV):List (Nat×Shape)->List Value->(Nat->Option SV)
 | (t,_)::l,v::vs=>λi=>bif Nat.beq i t then some (.v v)else Zbr e l vs i
 | _,_=>e
def Zbs(L:Nat->Option Box):List Nat->List (List Value)->(Nat->Option Box)
 | id::l,cs::css=>λi=>bif Nat.beq i id then(match L i with
  | some x=>some { x with cs:=cs }
  | none=>none)else Zbs L l css i
 | _,_=>L
def ZeH(tk:Nat->Option Tok):List (Nat×Nat)->List Value->(Nat->Option Tok)
 | (q,esz)::l,v::vs=>λi=>bif Nat.beq i q then some ⟨v,esz⟩ else ZeH tk l vs i
 | _,_=>tk
def ZbA(S:St)(ds:List Nat)(A:LoopAnn)(g:Int)(xs:List Value)(css:List (List Value))(tvs:List Value):St:=
 {env:=Zbr (λi=>bif ds.any (Nat.beq i ·)then none else S.env i) A.slots xs
  L:=Zbs S.L A.boxes css
  ids:=S.ids
  tok:=ZeH S.tok A.toks tvs
  tkeys:=A.toks.map (·.1)++S.tkeys
  gh:=g }
def ghs(b:Bool)(g:Int)(xs:List Value):List Value:=bif b then .int .i64 g::xs else xs
def Ztc(b:Bool)(g:Int)(k:Int->Prop):Prop:=bif b then ∀y,k y else k g
def Zjc(b:Bool)(x y:Int)(p:Prop):Prop:=bif b then p else match x,y with
 | .ofNat 0,.ofNat 0=>p
 | x,y=>x=y/\p
theorem Zdy{b:Bool}{x y:Int}{p:Prop}(h:Zjc b x y p):(b=false->x=y)/\p:=by
 cases b with
 | true=>exact⟨λh=>(by cases h),h⟩
 | false=>
  simp only[Zjc,cond_false]at h
  split at h
  ·exact⟨λ_=>rfl,h⟩
  ·exact⟨λ_=>h.1,h.2⟩
theorem Zf5{b:Bool}{g:Int}{k:Int->Prop}(h:Ztc b g k){y:Int}(hy:b=false->y=g):k y:=by
 cases b with
 | true=>exact h y
 | false=>rw[hy rfl];exact h
def ZkZ:List Nat->(List (List Value)->Prop)->Prop
 | [],k=>k []
 | _::l,k=>∀cs,ZkZ l λcss=>k (cs::css)
def Zk0:List (Nat×Nat)->(List Value->Prop)->Prop
 | [],k=>k []
 | _::l,k=>∀(a:Option Addr)(n c:Nat),Zk0 l λvs=>k (.slice a n c::vs)
def ZbG(S:St)(A:LoopAnn)(ids:List Nat):List (Option Box):=ids.map λid=>bif A.boxes.any (Nat.beq id ·)then(match S.L id with
 | some x=>some { x with cs:=[] }
 | none=>none)else S.L id
def ZaS(S:St)(A:LoopAnn)(ks:List Nat):List (Option Tok):=ks.map λk=>bif A.toks.any (λq=>Nat.beq k q.1)then none else S.tok k
def Zkw(a b:List (Option Box))(p:Prop):Prop:=match a,b with
 | [],[]=>p
 | a,b=>a=b/\p
def Zkx(a b:List (Option Tok))(p:Prop):Prop:=match a,b with
 | [],[]=>p
 | a,b=>a=b/\p
theorem Zcx{a b:List (Option Box)}{p:Prop}:Zkw a b p↔a=b/\p:=by
 unfold Zkw
 split
 ·simp
 ·exact Iff.rfl
theorem Zcy{a b:List (Option Tok)}{p:Prop}:Zkx a b p↔a=b/\p:=by
 unfold Zkx
 split
 ·simp
 ·exact Iff.rfl
abbrev KT:=Exit->St->Mem->Prop
def leT(th:Bool)(m m':Mem):Prop:=bif th then True else m.le m'
theorem leT.of{th:Bool}{m m':Mem}(h:m.le m'):leT th m m':=by
 cases th with
 | true=>trivial
 | false=>exact h
theorem leT.refl(th:Bool)(m:Mem):leT th m m:=.of (Mem.le_refl m)
theorem leT.trans{th:Bool}{a b c:Mem}(h:leT th a b)(k:leT th b c):leT th a c:=by
 cases th with
 | true=>trivial
 | false=>exact mLt h k
def Env.cold(E:Env):Env:={ E with thaw:=false }
def Zuk(th:Bool)(A:LoopAnn)(ds:List Nat)(body:KT->St->Mem->Prop)(K:KT)(S:St)(m:Mem):Prop:=
 ∃I:List Value->List (List Value)->List Value->Mem->Nat->Prop,
  (ZfG S A.slots λxs=>Zqe S A.boxes λcss=>ZeR S A.toks λtvs=>∃n,I (ghs A.gh S.gh xs) css tvs m n)/\
  Ztc A.gh S.gh λy=>Shape.allL (A.slots.map (·.2)) λxs=>ZkZ A.boxes λcss=>Zk0 A.toks λtvs=>∀(m':Mem)(n:Nat),leT th m m'->I (ghs A.gh y xs) css tvs m' n->
   body (λe S' m''=>match e with
    | .normal=>Zjc A.gh S'.gh S.gh (Zkw (ZbG S' A S.ids) (ZbG S A S.ids) (Zkx (ZaS S' A S.tkeys) (ZaS S A S.tkeys) (ZfG S' A.slots λxs'=>Zqe S' A.boxes λcss'=>ZeR S' A.toks λtvs'=>∃n',n' < n/\I (ghs A.gh S'.gh xs') css' tvs' m'' n')))
    | e=>K e S' m'') (ZbA S ds A y xs css tvs) m'
def ZuT(th:Bool)(A:LoopAnn)(ds:List Nat)(x y:KT->St->Mem->Prop)(K:KT)(S:St)(m:Mem):Prop:=
 ∃J:List Value->List (List Value)->List Value->Mem->Prop,
  x (λe S' m'=>match e with
   | .normal=>Zjc A.gh S'.gh S.gh (Zkw (ZbG S' A S.ids) (ZbG S A S.ids) (Zkx (ZaS S' A S.tkeys) (ZaS S A S.tkeys) (ZfG S' A.slots λxs=>Zqe S' A.boxes λcss=>ZeR S' A.toks λtvs=>J (ghs A.gh S'.gh xs) css tvs m')))
   | e=>K e S' m') S m/\
  Ztc A.gh S.gh λg=>Shape.allL (A.slots.map (·.2)) λxs=>ZkZ A.boxes λcss=>Zk0 A.toks λtvs=>∀m':Mem,leT th m m'->J (ghs A.gh g xs) css tvs m'->y K (ZbA S ds A g xs css tvs) m'
def Zfq:LoopAnn:=⟨[],[],[],false⟩
def Zul(outs:List (Nat×Shape))(ds:List Nat)(body:(St->Mem->Prop)->St->Mem->Prop)(K:St->Mem->Prop)(S:St)(m:Mem):Prop:=
 Shape.exL (outs.map (·.2)) λxs=>(body (λS' _=>Zjc false S'.gh S.gh (Zkw (ZbG S' Zfq S.ids) (ZbG S Zfq S.ids) (Zkx (ZaS S' Zfq S.tkeys) (ZaS S Zfq S.tkeys) (ZfG S' outs λxs'=>xs'=xs)))) S m)/\
  K { S with env:=Zbr (λi=>bif ds.any (Nat.beq i ·)then none else S.env i) outs xs } m
def IX(P:Program)(g:FuncId)(first captured:List Value)(m:Mem)(xs:List (List Value)):Prop:=
 Zeh P g/\∀(p:Int->(Nat->Prop)->World->Prop),Zr0 p->∀(l:Nat)(w:World),Sub m w->p 0 (λ_=>False) w->
  Zi7 P m p (λl' g v=>l'=l/\0<=g/\xs[g.toNat]?=some v)->
  Calls P g (first++.func (.yield l) #[] #[]::captured).toArray w λe w'=>∃v M,e=.returned v/\(∀k,M k->k < w'.heap.size)/\(p xs.length M w'\/p (-1) M w')
def ZjZ:List Nat->List Nat->Bool
 | [],[]=>true
 | a::l,b::l'=>Nat.beq a b&&ZjZ l l'
 | _,_=>false
def Zk1(K:KT)(e:Exit)(S:St)(m:Mem):Prop:=match e with
 | .ret=>K .ret S m
 | .exit id=>K (.exit id) S m
 | .goto l=>K (.goto l) S m
 | _=>False
def Zum(th:Bool)(m:Mem)(k:Mem->Prop):Prop:=bif th then ∃mi,Mem.le mi m/\k mi else k m
def Zuc(th:Bool)(mi m:Mem)(p:Prop):Prop:=bif th then(mi.le m/\p)else p
theorem ZoT{th:Bool}{m:Mem}{k:Mem->Prop}(h:Zum th m k):∃mi:Mem,mi.le m/\(th=false->mi=m)/\k mi:=by
 cases th with
 | true=>obtain⟨mi,h1,h2⟩:=h;exact⟨mi,h1,λe=>(by cases e),h2⟩
 | false=>exact⟨m,Mem.le_refl m,λ_=>rfl,h⟩
theorem ZoU{th:Bool}{mi m:Mem}{p:Prop}(h:Zuc th mi m p):(th=true->mi.le m)/\p:=by
 cases th with
 | true=>exact⟨λ_=>h.1,h.2⟩
 | false=>exact⟨λe=>(by cases e),h⟩
theorem ZoV{th:Bool}{m:Mem}{k k':Mem->Prop}(h:∀mi:Mem,mi.le m->(th=false->mi=m)->k mi->k' mi)(hx:Zum th m k):Zum th m k':=by
 cases th with
 | true=>obtain⟨mi,h1,h2⟩:=hx;exact⟨mi,h1,h mi h1 (λe=>(by cases e)) h2⟩
 | false=>exact h m (Mem.le_refl m) (λ_=>rfl) hx
theorem ZoW{th:Bool}{mi m:Mem}{p q:Prop}(h:p->q)(hx:Zuc th mi m p):Zuc th mi m q:=by
 cases th with
 | true=>exact⟨hx.1,h hx.2⟩
 | false=>exact h hx
def Zk2(th:Bool)(P:Program)(A:LoopAnn)(f:Operand)(ps:List Nat)(assign body:KT->St->Mem->Prop)(K:KT)(S:St)(m:Mem):Prop:=match S.ev f with
 | some (.v (.func (.func g) first captured))=>chk (ZjZ ps (A.slots.map (·.1))&&ZaU ps) (Zum th m λmi=>∃xs:List (List Value),IX P g first.toList captured.toList mi xs/\(∀x∈xs,Shape.fitsL (A.slots.map (·.2)) x=true)/\
   ∃I:List Value->List (List Value)->List Value->Mem->Nat->Prop,
    (Zqe S A.boxes λcss=>ZeR S A.toks λtvs=>I (ghs A.gh S.gh []) css tvs m 0)/\
    (Ztc A.gh S.gh λy=>Shape.allL (A.slots.map (·.2)) λx=>ZkZ A.boxes λcss=>Zk0 A.toks λtvs=>∀(m':Mem)(n:Nat),mi.le m'->xs[n]?=some x->I (ghs A.gh y []) css tvs m' n->
     assign (λe S1 m1=>match e with
      | .normal=>body (λe S' m''=>Zuc th mi m'' (Zjc A.gh S'.gh S.gh (Zkw (ZbG S' A S.ids) (ZbG S A S.ids) (Zkx (ZaS S' A S.tkeys) (ZaS S A S.tkeys) (Zqe S' A.boxes λcss'=>ZeR S' A.toks λtvs'=>match e with
       | .normal=>I (ghs A.gh S'.gh []) css' tvs' m'' (n+1)
       | e=>Zk1 K e (ZbA S [] { A with slots:=[] } S'.gh [] css' tvs') m''))))) S1 m1
      | _=>False) (ZbA S [] A y x css tvs) m')/\
    (Ztc A.gh S.gh λy=>ZkZ A.boxes λcss=>Zk0 A.toks λtvs=>∀m':Mem,mi.le m'->I (ghs A.gh y []) css tvs m' xs.length->K .normal (ZbA S [] { A with slots:=[] } y [] css tvs) m'))
 | _=>False
def Mem.cutA(m:Mem)(a:Option Addr)(o:Nat):Mem:=match a with
 | some ⟨b,_,_⟩=>λb' o'=>if b'=b/\o<=o' then none else m b' o'
 | none=>m
def Mem.addA(m:Mem)(a:Option Addr)(o:Nat)(zs:List Value):Mem:=match a with
 | some ⟨b,o0,_⟩=>m.addAt b (o0+o) zs
 | none=>m
def Zun(m m0:Mem)(esz:Nat)(a:Option Addr)(n c:Nat):Prop:=
 (a=none/\n=0/\c=0)\/∃b,a=some ⟨b,0,none⟩/\n<=c/\0 < c*esz/\(∀o,o < c*esz->∃v,m b o=some v)/\m0.free b
def Zr3(E:Env)(kz:Option (Nat×Nat))(f:(St->Mem->Prop)->St->Mem->Prop)(K:St->Mem->Prop)(S:St)(m:Mem):Prop:=match kz with
 | none=>f K S m
 | some (key,esz)=>chk (E.thaw&&E.fix.isNone) (match E.m0 with
  | none=>False
  | some m0=>∃(a:Option Addr)(n c:Nat),Zun m m0 esz a n c/\(∀b,(Tok.mk (.slice a n c) esz).blk=some b->nfz S b S.ids (ntk S b [key] S.tkeys))/\
    f (λS' m'=>match S'.tok key with
     | none=>False
     | some t=>chk (ZdK t.v) (∀zs:List Value,zs.length=(slC t.v - slN t.v)*t.esz->K { S' with tok:=λk=>bif Nat.beq k key then none else S'.tok k } (m'.addA (slA t.v) (slN t.v*t.esz) zs)))
     {S with tok:=λk=>bif Nat.beq k key then some ⟨.slice a n c,esz⟩ else S.tok k,tkeys:=key::S.tkeys } (m.cutA a (n*esz)))
def W(E:Env)(ZaP:Nat->Array Oper->(St->Mem->Prop)->St->Mem->Prop):Code->KT->St->Mem->Prop
 | .skip,K,S,m=>K .normal S m
 | .label _,K,S,m=>K .normal S m
 | .region id ops draw,K,S,m=>match E.joins id with
  | none=>bif draw then ZaP id ops (K .normal) S m else Zr3 E (E.acq id) (ZrX E ops (List.range ops.size)) (K .normal) S m
  | some outs=>Zul outs (Zao ops.toList) (λk S m=>bif draw then(bif E.last id then False else ZaP id ops k S m)else ZrX E.cold ops (List.range ops.size) k S m) (K .normal) S m
 | .seq x y,K,S,m=>match E.cuts (ZaJ y)with
  | none=>W E ZaP x (λe S' m'=>match e with
   | .normal=>W E ZaP y K S' m'
   | e=>K e S' m') S m
  | some A=>ZuT E.thaw A (Zg9 x) (W E ZaP x) (W E ZaP y) K S m
 | .cond c x y,K,S,m=>wv S c λv=>chk (ZeN v) (br (Zb2 v) (W E ZaP x K S m) (W E ZaP y K S m))
 | .block id x,K,S,m=>W E ZaP x (λe S' m'=>match e with
  | .exit id'=>bif Nat.beq id' id then K .normal S' m' else K (.exit id') S' m'
  | e=>K e S' m') S m
 | .loop x,K,S,m=>Zuk E.thaw (E.loops (ZaJ x)) (Zg9 x) (W E ZaP x) K S m
 | .exit id,K,S,m=>K (.exit id) S m
 | .ret,K,S,m=>K .ret S m
 | .rangeFunc f ps x y,K,S,m=>Zk2 E.thaw E.P (E.loops (ZaJ y)) f ps.toList (W E ZaP x) (W E ZaP y) K S m
 | .scope x,K,S,m=>W E ZaP x (λe S' m'=>match e with
  | .goto _=>False
  | e=>K e S' m') S m
 | _,_,_,_=>False
section
variable {C:Ctx} {S:St} {m:Mem} {a:Act} {w:World}
theorem Zc1{E:Env}(hE:E.ok){F:Fence}(hF:FOk F)(hY:YOk E C){ops:Array Oper}{o:Oper}(hd:∀t,o.dst=some t->t < C.n)(hr:Rel C S m a w){K:St->Mem->Prop}(h:opG E ops o S m K){n:Nat}{next:Act->World->Prop}{Q:Exit->Act->World->Prop}
  (hK:∀S' m' a' w',K S' m'->Rel C S' m' a' w'->next a' w'):
  if Region.wanted o (yielded ops a.tmps)then o.wpIn F n E.P a w next Q else(∀f,o.about E.P w a.eval=some f->F.fn f)/\next (a.put o.dst undef) w:=by
 have jz:opW E S m o K->o.wpIn F n E.P a w next Q:=λhh=>by
  have ic:∀c,o.op≠.defer c:=λc e=>by
   obtain⟨dst,op,type,pos,after,guard⟩:=o
   simp only at e;subst e
   simp[opW,Zco]at hh
  refine⟨λf _=>hF.fn f,?_⟩
  rw[Oper.semAt_eq _ _ _ ic]
  exact ZoR hE hF hY hd hr hh hK
 have kq:K (S.put o.dst (some (.v undef))) m->(∀f,o.about E.P w a.eval=some f->F.fn f)/\next (a.put o.dst undef) w:=λhh=>
  ⟨λf _=>hF.fn f,hK _ _ _ _ hh (hr.put o.dst hd rfl)⟩
 unfold opG at h
 cases hg:o.guard with
 | none=>
  simp only[hg]at h
  simp only[Region.wanted,hg,if_true]
  exact jz h
 | some jw=>
  obtain⟨j,want⟩:=jw
  simp only[hg]at h
  cases hj:ops.toList[j]? with
  | none=>simp[hj]at h
  | some oj=>
   simp only[hj]at h
   have hj':ops[j]?=some oj:=by simpa using hj
   cases ht:oj.dst with
   | none=>simp[ht]at h
   | some t=>
    simp only[ht]at h
    cases he:S.env t with
    | none=>simp[he]at h
    | some sv=>
     cases sv with
     | loc id off=>simp[he]at h
     | sl id n' c=>simp[he]at h
     | v v=>
      simp only[he]at h
      obtain⟨v',h1,h2⟩:=hr.env t _ he
      simp only[St.den,Option.some.injEq]at h1
      subst h1
      cases hu:Zcw v with
      | true=>
       simp only[hu,cond_true]at h
       have:Region.wanted o (yielded ops a.tmps)=false:=by
        cases v <;> simp[Zcw]at hu
        simp[Region.wanted,hg,yielded,hj',ht,h2]
       simp only[this,Bool.false_eq_true,if_false]
       exact kq h
      | false=>
       simp only[hu,cond_false]at h
       obtain⟨h3,h4⟩:=Zad h
       obtain⟨b,rfl⟩:∃b,v=.bool b:=⟨_,Zby h3⟩
       have hw:Region.wanted o (yielded ops a.tmps)=(b == want):=by
        simp[Region.wanted,hg,yielded,hj',ht,h2]
       rw[hw]
       simp only[Zb2]at h4
       cases b <;> cases want <;> simp only[br]at h4 <;> simp <;> first
        | exact jz h4
        | exact kq h4
theorem Rel.refine{t:Nat}{v:Value}(hr:Rel C S m a w)(he:S.env t=some (.v v)):Rel C (S.put (some t) (some (.v v))) m a w:=by
 have:S.put (some t) (some (.v v))=S:=by
  unfold St.put
  have:(λi=>bif Nat.beq i t then some (SV.v v)else S.env i)=S.env:=by
   funext i
   by_cases hi:i=t
   ·subst hi;simp[he]
   ·simp[Zam hi]
  simp only[this]
 rw[this];exact hr
theorem ZgR{E:Env}(hE:E.ok){F:Fence}(hF:FOk F)(hY:YOk E C){ops:Array Oper}{o:Oper}(hd:∀t,o.dst=some t->t < C.n)(hr:Rel C S m a w){K:St->Mem->Prop}(h:Zts E ops o S m K){n:Nat}{next:Act->World->Prop}{Q:Exit->Act->World->Prop}
  (hK:∀S' m' a' w',K S' m'->Rel C S' m' a' w'->next a' w'):
  if Region.wanted o (yielded ops a.tmps)then o.wpIn F n E.P a w next Q else(∀f,o.about E.P w a.eval=some f->F.fn f)/\next (a.put o.dst undef) w:=by
 unfold Zts at h
 split at h
 ·exact Zc1 hE hF hY hd hr h hK
 ·rename_i t _
  split at h
  ·rename_i v he
   cases hu:Zcw v with
   | true=>simp only[hu,cond_true]at h;exact Zc1 hE hF hY hd hr h hK
   | false=>
    simp only[hu,cond_false]at h
    obtain⟨h1,h2⟩:=Zad h
    obtain⟨b,rfl⟩:∃b,v=.bool b:=⟨_,Zby h1⟩
    have ge:=hr.refine he
    cases b
    ·exact Zc1 hE hF hY hd ge h2 hK
    ·exact Zc1 hE hF hY hd ge h2 hK
  ·exact h.elim
theorem Zcl{n:Nat}:∀{l:List Oper},Zjb n l=true->∀(i:Nat) o,l[i]?=some o->∀t,o.dst=some t->t < n
 | [],_,i,o,h,_,_=>by simp at h
 | x::l,hl,i,o,h,t,ht=>by
  simp only[Zjb,zA7]at hl
  cases i with
  | zero=>
   simp at h;subst h
   simp[ZtO,ht]at hl
   exact hl.1
  | succ i=>exact Zcl hl.2 i o (by simpa using h) t ht
theorem ZgS{E:Env}(hE:E.ok){F:Fence}(hF:FOk F)(hY:YOk E C){ops:Array Oper}(aH:Zjb C.n ops.toList=true){n:Nat}{Q:Exit->Act->World->Prop}:∀(l:List Nat){K:St->Mem->Prop}{S:St}{m:Mem}{a:Act}{w:World},Rel C S m a w->ZrX E ops l K S m->
  (∀S' m' a' w',K S' m'->Rel C S' m' a' w'->Q .normal a' w')->wpOpsIn F n E.P ops Q l a w
 | [],K,S,m,a,w,hr,h,hK=>hK _ _ _ _ h hr
 | i::l,K,S,m,a,w,hr,h,hK=>by
  simp only[ZrX]at h
  cases ho:ops.toList[i]? with
  | none=>simp[ho]at h
  | some o=>
   simp only[ho]at h
   have ho':ops[i]?=some o:=by simpa using ho
   have:=ZgR hE hF hY (Zcl aH i o ho) hr h (n:=n) (Q:=Q) (next:=wpOpsIn F n E.P ops Q l) (λS' m' a' w' hk aG=>ZgS hE hF hY aH l aG hk hK)
   simp only[wpOpsIn,ho']
   exact this
end
def SameOut(ds:List Nat)(S S':St):Prop:=∀i,i ∉ ds->S'.env i=S.env i
theorem SameOut.refl(ds:List Nat)(S:St):SameOut ds S S:=λ_ _=>rfl
theorem SameOut.trans{ds:List Nat}{a b c:St}(h:SameOut ds a b)(k:SameOut ds b c):SameOut ds a c:=λi hi=>(k i hi).trans (h i hi)
theorem SameOut.mono{ds ds':List Nat}{a b:St}(h:SameOut ds a b)(k:∀i,i∈ds->i∈ds'):SameOut ds' a b:=λi hi=>h i (λhm=>hi (k i hm))
theorem SameOut.put{ds:List Nat}{S S':St}(h:SameOut ds S S'){d:Option Tmp}(hd:∀t,d=some t->t∈ds)(x:Option SV):SameOut ds S (S'.put d x):=by
 cases d with
 | none=>exact h
 | some d=>
  intro i hi
  have cE:i≠d:=λe=>hi (e ▸ hd d rfl)
  simp[St.put,Zam cE,h i hi]
theorem Zf6{b:Bool}{p q p' q':Prop}(h:p->p')(k:q->q')(x:br b p q):br b p' q':=by
 cases b
 ·exact k x
 ·exact h x
theorem Zae{b:Bool}{p p':Prop}(h:p->p')(x:chk b p):chk b p':=Zf6 h id x
theorem ZaA{S:St}{x:Operand}{k k':Value->Prop}(h:∀v,k v->k' v)(hx:wv S x k):wv S x k':=by
 unfold wv at *
 split at hx
 ·exact h _ hx
 ·exact hx
theorem ZbR{S:St}:∀{l:List Operand} {k k':List Value->Prop},(∀v,k v->k' v)->wvs S l k->wvs S l k'
 | [],k,k',h,hx=>h _ hx
 | x::l,k,k',h,hx=>ZaA (λv hv=>ZbR (λvs dV=>h _ dV) hv) hx
theorem Zf7{l:List Value}{n:Nat}{k k':Value->Prop}(h:∀v,k v->k' v)(hx:Zp3 l n k):Zp3 l n k':=by
 unfold Zp3 at *
 split at hx
 ·exact h _ hx
 ·exact hx
theorem ZnO:∀{n:Nat} {k k':List Value->Prop},(∀v,k v->k' v)->exN n k->exN n k'
 | 0,k,k',h,hx=>h _ hx
 | n+1,k,k',h,⟨v,hx⟩=>⟨v,ZnO (λl hl=>h _ hl) hx⟩
theorem allL_mono:∀{n:Nat} {k k':List (List Value)->Prop},(∀v,k v->k' v)->allL n k->allL n k'
 | 0,k,k',h,hx=>h _ hx
 | n+1,k,k',h,hx=>λcs=>allL_mono (λl hl=>h _ hl) (hx cs)
mutual
theorem Shape.all_mono:∀(s:Shape){k k':Value->Prop},(∀v,k v->k' v)->s.all k->s.all k'
 | .any,k,k',h,hx=>by simp only[Shape.all]at *;exact λv=>h _ (hx v)
 | .int ki,k,k',h,hx=>by simp only[Shape.all]at *;exact λv=>h _ (hx v)
 | .bool,k,k',h,hx=>by simp only[Shape.all]at *;exact λv=>h _ (hx v)
 | .str,k,k',h,hx=>by simp only[Shape.all]at *;exact λv=>h _ (hx v)
 | .slice,k,k',h,hx=>by simp only[Shape.all]at *;exact λa n c=>h _ (hx a n c)
 | .agg l,k,k',h,hx=>by simp only[Shape.all]at *;exact Shape.allL_mono l (λvs dV=>h _ dV) hx
 | .tup l,k,k',h,hx=>by simp only[Shape.all]at *;exact Shape.allL_mono l (λvs dV=>h _ dV) hx
 | .fn,k,k',h,hx=>by simp only[Shape.all]at *;exact λg fi ca=>h _ (hx g fi ca)
 | .cells,k,k',h,hx=>by simp only[Shape.all]at *;exact λcs=>h _ (hx cs)
 | .ptr,k,k',h,hx=>by simp only[Shape.all]at *;exact λb o=>h _ (hx b o)
theorem Shape.allL_mono:∀(l:List Shape){k k':List Value->Prop},(∀v,k v->k' v)->Shape.allL l k->Shape.allL l k'
 | [],k,k',h,hx=>by simp only[Shape.allL]at *;exact h _ hx
 | s::l,k,k',h,hx=>by simp only[Shape.allL]at *;exact Shape.all_mono s (λv hv=>Shape.allL_mono l (λvs dV=>h _ dV) hv) hx
end
mutual
theorem Shape.ex_mono:∀(s:Shape){k k':Value->Prop},(∀v,k v->k' v)->s.ex k->s.ex k'
 | .any,k,k',h,hx=>by simp only[Shape.ex]at *;obtain⟨v,hx⟩:=hx;exact⟨v,h _ hx⟩
 | .int ki,k,k',h,hx=>by simp only[Shape.ex]at *;obtain⟨v,hx⟩:=hx;exact⟨v,h _ hx⟩
 | .bool,k,k',h,hx=>by simp only[Shape.ex]at *;obtain⟨v,hx⟩:=hx;exact⟨v,h _ hx⟩
 | .str,k,k',h,hx=>by simp only[Shape.ex]at *;obtain⟨v,hx⟩:=hx;exact⟨v,h _ hx⟩
 | .slice,k,k',h,hx=>by simp only[Shape.ex]at *;obtain⟨a,n,c,hx⟩:=hx;exact⟨a,n,c,h _ hx⟩
 | .agg l,k,k',h,hx=>by simp only[Shape.ex]at *;exact Shape.exL_mono l (λvs dV=>h _ dV) hx
 | .tup l,k,k',h,hx=>by simp only[Shape.ex]at *;exact Shape.exL_mono l (λvs dV=>h _ dV) hx
 | .fn,k,k',h,hx=>by simp only[Shape.ex]at *;obtain⟨g,fi,ca,hx⟩:=hx;exact⟨g,fi,ca,h _ hx⟩
 | .cells,k,k',h,hx=>by simp only[Shape.ex]at *;obtain⟨cs,hx⟩:=hx;exact⟨cs,h _ hx⟩
 | .ptr,k,k',h,hx=>by simp only[Shape.ex]at *;obtain⟨b,o,hx⟩:=hx;exact⟨b,o,h _ hx⟩
theorem Shape.exL_mono:∀(l:List Shape){k k':List Value->Prop},(∀v,k v->k' v)->Shape.exL l k->Shape.exL l k'
 | [],k,k',h,hx=>by simp only[Shape.exL]at *;exact h _ hx
 | s::l,k,k',h,hx=>by simp only[Shape.exL]at *;exact Shape.ex_mono s (λv hv=>Shape.exL_mono l (λvs dV=>h _ dV) hv) hx
end
theorem ZoX{op:BinOp}{k:IntKind}{a b:Int}{r r':Value->Prop}(h:∀v,r v->r' v)(x:Zs6 op k a b r):Zs6 op k a b r':=by
 cases op <;> simp only[Zs6]at * <;> first
  | exact h _ x
  | exact⟨x.1,h _ x.2⟩
  | exact x
theorem Zk3{op:BinOp}{k:IntKind}{a b:Int}{r r':Value->Prop}(h:∀v,r v->r' v)(x:Zh9 op k a b r):Zh9 op k a b r':=by
 cases op <;> simp only[Zh9]at * <;> first
  | exact⟨x.1,h _ x.2⟩
  | exact x
theorem ZoY{op:BinOp}{a b:ByteArray}{r r':Value->Prop}(h:∀v,r v->r' v)(x:Zs7 op a b r):Zs7 op a b r':=by
 cases op <;> simp only[Zs7]at * <;> first
  | exact h _ x
  | exact⟨x.1,h _ x.2⟩
  | exact x
theorem Zii{op:BinOp}{b:Bool}{r r':Value->Prop}(h:∀v,r v->r' v)(x:Zp4 op b r):Zp4 op b r':=by
 cases op <;> simp only[Zp4]at * <;> first
  | exact h _ x
  | exact x
theorem Zk4{E:Env}{op:BinOp}{T:TypeId}{x y:Value}{r r':Value->Prop}(h:∀v,r v->r' v)(hx:Zs3 E op T x y r):Zs3 E op T x y r':=by
 unfold Zs3 at *
 cases ht:E.tt T with
 | none=>simp[ht]at hx
 | some i=>
  simp only[ht]at *
  cases hd:i.d <;> simp only[hd]at * <;> first
   | exact hx.elim
   | exact Zae (λy=>ZoY h y) hx
   | exact Zae (Zii h) hx
   | exact Zae (λ⟨b,hb,y⟩=>⟨b,hb,Zii h y⟩) hx
   | (cases hs:ZhA op <;> simp only[hs,cond_true,cond_false]at * <;> first
     | exact Zae (ZoX h) hx
     | exact Zae (Zk3 h) hx)
theorem Zjd{place:Nat->Option (Nat×Nat)}:∀{parts:List (Nat×Value)} {cs:List Value} {k k':List Value->Prop},(∀v,k v->k' v)->Zku place cs parts k->Zku place cs parts k'
 | [],cs,k,k',h,hx=>h _ hx
 | (i,v)::rest,cs,k,k',h,hx=>by
  simp only[Zku]at *
  cases hp:place i with
  | none=>simp[hp]at hx
  | some os=>simp only[hp]at *;exact Zae (Zjd h) hx
theorem Zbi{x:Option Value}{d y:Nat}{r r':Nat->Prop}(h:∀v,r v->r' v)(hx:ZfU x d y r):ZfU x d y r':=by
 cases x with
 | none=>exact h _ hx
 | some v=>exact Zae (λ⟨a,b⟩=>⟨a,h _ b⟩) hx
theorem Zij{S:St}{x:Option Operand}{r r':Option Value->Prop}(h:∀v,r v->r' v)(hx:Zs9 S x r):Zs9 S x r':=by
 cases x with
 | none=>exact h _ hx
 | some v=>exact ZaA (λv hv=>h _ hv) hx
theorem ZhE{E:Env}{T:TypeId}{v:Value}{lo hi mx:Option Value}{r r':Value->Prop}(h:∀v,r v->r' v)(hx:Zhd E T v lo hi mx r):Zhd E T v lo hi mx r':=by
 unfold Zhd at *
 cases he:ZgL E T with
 | some sz=>simp only[he]at *;exact Zae (λy=>Zbi (λm y=>Zbi (λh' y=>Zbi (λl y=>Zae (h _) y) y) y) y) hx
 | none=>
  simp only[he]at *
  cases hs:Zef E T <;> simp only[hs,cond_true,cond_false]at *
  exact Zae (λy=>Zbi (λh' y=>Zbi (λl y=>h _ y) y) y) hx
theorem Zje{E:Env}{S:St}{o:Oper}{k k':SV->Prop}(h:∀v,k v->k' v)(hx:Zco E S o k):Zco E S o k':=by
 obtain⟨dst,op,type,pos,after,guard⟩:=o
 cases op <;> simp only[Zco]at * <;> try exact hx.elim
 case unOp op T x=>
  refine ZaA (λv y=>?_) hx
  cases op <;> simp only at *
  ·split at y <;> first|exact Zae (h _) y|exact y.elim
  ·split at y <;> first|exact Zae (h _) y|exact y.elim
  ·exact Zae (h _) y
 case binOp=>exact ZaA (λv y=>ZaA (λv' y=>Zk4 (λr y=>h _ y) y) y) hx
 case convert=>
  refine ZaA (λv y=>?_) hx
  unfold ZoK at *
  (repeat' split at y) <;> first|exact y.elim|exact Zae (h _) y
 case makeFunc=>exact ZbR (λv y=>ZbR (λv' y=>h _ y) y) hx
 case fieldAddr=>
  (repeat' split at hx) <;> first|exact hx.elim|exact h _ hx|exact Zae (h _) hx
 case indexAddr=>
  refine ZaA (λv y=>Zae (λy=>?_) y) hx
  split at y
  ·exact y.elim
  ·refine⟨y.1,?_⟩
   have y2:=y.2
   (repeat' split at y2) <;> first|exact y2.elim|exact h _ y2|exact Zae (h _) y2
  ·(repeat' split at y) <;> first
    | exact y.elim
    | exact⟨y.1,h _ y.2⟩
    | exact Zae (λ⟨b,o,h1,h2,h3⟩=>⟨b,o,h1,h2,h _ h3⟩) y
 case index=>
  refine ZaA (λv y=>ZaA (λv' y=>Zae (λy=>?_) y) y) hx
  cases hs:Zef E _ <;> simp only[hs,cond_true,cond_false]at *
  ·split at y
   ·exact Zae (λ⟨a,b⟩=>⟨a,Zf7 (λu hu=>h _ hu) b⟩) y
   ·exact y.elim
  ·exact Zae (λ⟨a,b⟩=>⟨a,h _ b⟩) y
 case build=>
  split at hx
  ·exact hx.elim
  ·exact ZbR (λvs y=>Zjd (λr y=>h _ y) y) hx
 case extract=>exact ZaA (λv y=>Zae (λy=>Zf7 (λu hu=>h _ hu) y) y) hx
 case makeInterface=>exact ZaA (λv y=>Zae (h _) y) hx
 case nilCheck=>(repeat' split at hx) <;> first|exact hx.elim|exact h _ hx|exact Zae (h _) hx
 case slice=>exact ZaA (λv y=>Zij (λl y=>Zij (λh' y=>Zij (λm y=>ZhE (λr y=>h _ y) y) y) y) y) hx
 case call c=>
  split at hx
  ·split at hx
   ·refine ZaA (λv y=>?_) hx
    unfold Ztq at *
    (repeat' split at y) <;> first|exact y.elim|exact Zae (h _) y|exact h _ y
   ·exact hx.elim
  ·split at hx
   ·refine ZaA (λv y=>ZaA (λv' y=>?_) y) hx
    split at y
    ·exact Zae (h _) y
    ·exact y.elim
   ·exact hx.elim
  ·split at hx
   ·refine ZaA (λv y=>ZaA (λv' y=>?_) y) hx
    split at y
    ·exact Zae (h _) y
    ·exact y.elim
   ·refine ZaA (λv y=>ZaA (λv' y=>ZaA (λv'' y=>?_) y) y) hx
    split at y
    ·exact Zae (h _) y
    ·exact y.elim
   ·exact hx.elim
  ·exact hx.elim
def dl(d:Option Tmp):List Nat:=match d with
 | none=>[]
 | some t=>[t]
theorem Ztt{d:Option Tmp}{t:Nat}(h:d=some t):t∈dl d:=by subst h;simp[dl]
theorem Zb8(S:St)(d:Option Tmp)(x:Option SV):SameOut (dl d) S (S.put d x):=(SameOut.refl _ S).put (λt ht=>Ztt ht) x
theorem ZcM{ds:List Nat}{S S':St}(h:S'.env=S.env):SameOut ds S S':=λi _=>by rw[h]
theorem Zf8{i:TI}{m:Mem}{b o:Nat}{k k':Value->Prop}(h:∀v,k v->k' v)(hx:Zct i m b o k):Zct i m b o k':=by
 unfold Zct at *
 cases ha:i.agg <;> simp only[ha,cond_true,cond_false]at *
 ·obtain⟨v,h1,h2⟩:=hx;exact⟨v,h1,h _ h2⟩
 ·cases hb:Nat.ble i.size 16 <;> simp only[hb,cond_true,cond_false]at *
  ·obtain⟨vs,h1,h2,h3⟩:=hx;exact⟨vs,h1,h2,h _ h3⟩
  ·exact ZnO (λvs ⟨a,b⟩=>⟨a,h _ b⟩) hx
theorem Zc2{i:TI}{x:Box}{off:Nat}{k k':Value->Prop}(h:∀v,k v->k' v)(hx:Zb6 i x off k):Zb6 i x off k':=by
 unfold Zb6 at *
 cases ha:i.agg <;> simp only[ha,cond_true,cond_false]at *
 ·exact Zf7 h hx
 ·cases hb:(x.full&&(Nat.beq x.cap i.size&&Nat.beq off 0)) <;> simp only[hb,cond_true,cond_false]at *
  ·exact Zae (h _) hx
  ·exact h _ hx
theorem ZeS{E:Env}{S:St}{m:Mem}{T:TypeId}{x:Operand}{k k':Value->Prop}(h:∀v,k v->k' v)(hx:ZeP E S m T x k):ZeP E S m T x k':=by
 unfold ZeP at *
 split at hx
 ·exact hx.elim
 ·split at hx
  ·split at hx
   ·exact hx.elim
   ·exact Zc2 h hx
  ·split at hx
   ·exact Zae (Zf8 h) hx
   ·split at hx
    ·exact hx.elim
    ·exact Zae (λ⟨a,b⟩=>⟨a,Zc2 h b⟩) hx
  ·exact hx.elim
theorem Zjf{E:Env}{S:St}{m:Mem}{T:TypeId}{id:Nat}{vd vs:Value}{k k':Int->St->Prop}(h:∀n S',S'.env=S.env->k n S'->k' n S')(hx:ZmB E S m T id vd vs k):ZmB E S m T id vd vs k':=by
 unfold ZmB at *
 split at hx
 ·exact hx.elim
 ·split at hx
  ·exact hx.elim
  ·exact Zae (λg hf=>by
   obtain⟨o,xs,h1,h2,h3,h4,h5,h6⟩:=g hf
   exact⟨o,xs,h1,h2,h3,h4,h5,h _ _ rfl h6⟩) hx
theorem Zfr{E:Env}{S:St}{T:TypeId}{x:Operand}{v:Value}{k k':St->Prop}(h:∀S',S'.env=S.env->k S'->k' S')(hx:ZfF E S T x v k):ZfF E S T x v k':=by
 unfold ZfF at *
 split at hx
 ·exact hx.elim
 ·split at hx
  ·split at hx
   ·exact hx.elim
   ·refine Zae (λy=>?_) hx
    cases hb:(_&&(Nat.beq _ _&&Nat.beq _ 0)) <;> simp only[hb,cond_true,cond_false]at *
    ·exact Zae (h _ rfl) y
    ·exact h _ rfl y
  ·split at hx
   ·exact hx.elim
   ·split at hx
    ·exact hx.elim
    ·exact Zae (λ⟨a,b,c⟩=>⟨a,b,h _ rfl c⟩) hx
  ·exact hx.elim
theorem Zk5(S:St)(ids:List Nat)(bxs:List Box)(css:List (List Value)):(Zcp S ids bxs css).env=S.env:=by
 rw[Zcu]
theorem Zk6{E:Env}{S:St}{m:Mem}{rt:TypeId}{g:FuncId}{args:List Value}{key esz:Nat}{K K':Value->St->Mem->Prop}(h:∀v S' m',S'.env=S.env->m.le m'->K v S' m'->K' v S' m')(hx:ZoL E S m rt g args key esz K):ZoL E S m rt g args key esz K':=by
 obtain⟨R,h1,h2,h3⟩:=hx
 exact⟨R,h1,h2,Shape.all_mono _ (λv y m' hm hr=>h v _ m' rfl hm (y m' hm hr)) h3⟩
theorem Zjg{E:Env}{S:St}{m:Mem}{rt:TypeId}{g:FuncId}{args:List Value}{ids:List Nat}{K K':Value->St->Mem->Prop}(h:∀v S' m',S'.env=S.env->m.le m'->K v S' m'->K' v S' m')(hx:Zkv E S m rt g args ids K):Zkv E S m rt g args ids K':=by
 unfold Zkv at *
 split at hx
 ·exact hx.elim
 ·refine Zae (λ⟨R,h0,h1,h2,h3⟩=>⟨R,h0,h1,h2,Shape.all_mono _ (λv y m' hm=>allL_mono (λcss y hR=>h _ _ _ (Zk5 _ _ _ _) hm (y hR)) (y m' hm)) h3⟩) hx
theorem ZhF{E:Env}{S:St}{m:Mem}{rt:TypeId}{g:FuncId}{args:List Value}{ids:List Nat}{ks:List (Nat×Nat)}{K K':Value->St->Mem->Prop}(h:∀v S' m',S'.env=S.env->K v S' m'->K' v S' m')(hx:Zhe E S m rt g args ids ks K):Zhe E S m rt g args ids ks K':=by
 unfold Zhe at *
 split at hx
 ·exact hx.elim
 ·split at hx
  ·exact hx.elim
  ·exact Zae (λ⟨Y,R,h1,h2,h3,h4,h5⟩=>⟨Y,R,h1,h2,h3,h4,Shape.all_mono _ (λv y m' hm hn=>allL_mono (λcss y=>ZgQ (λtvs y hR=>h _ _ _ (Zk5 S _ _ _) (y hR)) y) (y m' hm hn)) h5⟩) hx
theorem Zhf{S:St}{m:Mem}{x:Operand}{k k':Value->Prop}(h:∀v,k v->k' v)(hx:ZdR S m x k):ZdR S m x k':=by
 unfold ZdR at *
 split at hx
 ·split at hx
  ·exact hx.elim
  ·obtain⟨bs,h1,h2,h3⟩:=hx
   exact⟨bs,h1,h2,h _ h3⟩
 ·exact ZaA (λv y=>Zae (λ⟨bs,h1,h2,h3⟩=>⟨bs,h1,h2,h _ h3⟩) y) hx
theorem ZoZ{E:Env}{rt:TypeId}{g:FuncId}{args:List Value}{K K':Value->Int->Prop}{S:St}{m:Mem}(h:∀v gh,K v gh->K' v gh)(hx:ZtL E rt g args K S m):ZtL E rt g args K' S m:=by
 unfold ZtL at *
 split at hx
 ·exact hx.elim
 ·obtain⟨l,xs,go,stop,h1,h2,h3,h4⟩:=hx
  exact⟨l,xs,go,stop,h1,h2,h3,Shape.all_mono _ (λv hv=>⟨λhg=>h _ _ (hv.1 hg),λhs=>h _ _ (hv.2 hs)⟩) h4⟩
theorem Zf9{E:Env}{S:St}{m:Mem}{T xT:TypeId}{key:Nat}{vs vx:Value}{K K':Value->(Nat->Option Tok)->Mem->Prop}(h:∀v tk m',m.le m'->K v tk m'->K' v tk m')(hx:ZeG E S m T xT key vs vx K):ZeG E S m T xT key vs vx K':=by
 unfold ZeG at *
 split at hx
 ·exact hx.elim
 ·split at hx
  ·exact hx.elim
  ·have hb:∀{j:TI},Zs4 E S m j key vs vx K->Zs4 E S m j key vs vx K':=λ⟨ht,xs,ys,a1,a2,a3,a4,a5,a6,a7,a8⟩=>⟨ht,xs,ys,a1,a2,a3,a4,a5,a6,a7,λa' c' m' h1 h2=>ZkU (h _ _ _ h1) (a8 a' c' m' h1 h2)⟩
   refine Zae (λy=>?_) hx
   cases fA:E.tails with
   | false=>rw[fA]at y;exact hb y
   | true=>rw[fA]at y;exact Zf6 (Zae (h _ _ _ (Mem.le_refl m))) hb y
def Zk7(E:Env)(o:Oper):Prop:=(∀T x y,o.op=.store T x y->ZkX E x=none)/\(∀f as ats,o.op=.call ⟨.value f,as,ats⟩->ZdP E o.dst=none)
theorem Zq0(E:Env)(o:Oper):E.thaw=true\/Zk7 E o:=by
 cases h:E.thaw with
 | true=>exact .inl rfl
 | false=>exact .inr ⟨λT x y _=>by simp[ZkX,h],λ_ _ _ _=>by simp[ZdP,h]⟩
theorem ZkD{th:Bool}{E:Env}{S:St}{m:Mem}{o:Oper}(ie:th=true\/Zk7 E o){K K':St->Mem->Prop}(h0:∀S' m',SameOut (dl o.dst) S S'->leT th m m'->K S' m'->K' S' m')(hx:opW E S m o K):opW E S m o K':=by
 have h:∀S' m',SameOut (dl o.dst) S S'->m.le m'->K S' m'->K' S' m':=λS' m' hs hm=>h0 S' m' hs (.of hm)
 have hp:∀x,K (S.put o.dst x) m->K' (S.put o.dst x) m:=λx=>h _ _ (Zb8 S _ x) (Mem.le_refl m)
 have dZ:∀(S1:St) x m',S1.env=S.env->m.le m'->K (S1.put o.dst x) m'->K' (S1.put o.dst x) m':=λS1 x m' he hm=>h _ _ ((ZcM he).trans (Zb8 S1 _ x)) hm
 obtain⟨dst,op,type,pos,after,guard⟩:=o
 simp only at hp dZ
 have eL:∀(o:Oper),o.dst=dst->Zco E S o (λsv=>K (S.put dst (some sv)) m)->Zco E S o (λsv=>K' (S.put dst (some sv)) m):=λo ho y=>Zje (λsv y=>hp _ y) y
 cases op with
 | move x=>exact hp _ hx
 | assign x=>exact hp _ hx
 | pick c x y=>exact ZaA (λv y=>Zae (λy=>Zf6 (hp _) (hp _) y) y) hx
 | load T x=>
  simp only[opW]at hx ⊢
  cases mZ:ZnL E dst with
  | none=>simp only[mZ]at hx ⊢;exact ZeS (λv y=>hp _ y) hx
  | some y=>
   simp only[mZ]at hx ⊢
   cases bY:E.fix with
   | some f=>simp[bY]at hx
   | none=>
    simp only[bY,Option.isSome_none,cond_false]at hx ⊢
    exact ZeS (λv y=>ZqY (λv y=>hp _ y) y) hx
 | store T x y=>
  refine ZaA (λv y=>?_) hx
  cases kq:ZkX E x with
  | none=>
   simp only[kq]at y ⊢
   exact Zfr (λS' he y=>dZ S' _ _ he (Mem.le_refl m) y) y
  | some key=>
   simp only[kq]at y ⊢
   have ie:th=true:=by
    rcases ie with h|h
    ·exact h
    ·have:=h.1 T x _ rfl;rw[kq]at this;cases this
   cases bY:E.fix with
   | some f=>simp[bY]at y
   | none=>
    simp only[bY,Option.isSome_none,cond_false]at y ⊢
    unfold Zf1 at *
    refine ZaA (λp y=>?_) y
    split at y
    ·exact y.elim
    ·split at y
     ·split at y
      ·exact y.elim
      ·exact Zae (λ⟨y1,y2,y3,y4⟩=>⟨y1,y2,y3,Zif (h0 _ _ (Zb8 S _ _) (by rw[ie];trivial)) y4⟩) y
     ·exact Zae (λ⟨y1,y2,y3⟩=>⟨y1,y2,h0 _ _ (Zb8 S _ _) (by rw[ie];trivial) y3⟩) y
 | alloc T=>
  simp only[opW,ZoN]at *
  split at hx
  ·exact hx.elim
  ·split at hx
   ·exact hx.elim
   ·split at hx
    ·exact hx.elim
    ·exact λb=>dZ _ _ _ rfl (Mem.le_refl m) (hx b)
 | box T x=>
  refine ZaA (λv y=>?_) hx
  simp only at y ⊢
  cases gE:Zfj E dst with
  | true=>
   simp only[gE,cond_true]at y ⊢
   cases bY:E.fix with
   | some f=>simp[bY]at y
   | none=>
    simp only[bY,Option.isSome_none,cond_false,Zta]at y ⊢
    split at y
    ·exact y.elim
    ·split at y
     ·exact y.elim
     ·split at y
      ·exact y.elim
      ·exact Zae (λy b m' hm hb=>ZmM (dZ _ _ _ rfl hm) (y b m' hm hb)) y
  | false=>
  simp only[gE,cond_false]at y ⊢
  simp only[Zuj]at *
  split at y
  ·exact y.elim
  ·split at y
   ·exact y.elim
   ·split at y
    ·exact y.elim
    ·exact Zae (λy b=>dZ _ _ _ rfl (Mem.le_refl m) (y b)) y
 | buildSlice T len parts=>
  cases gV:ZcH E dst with
  | some ke=>
   simp only[opW,gV]at hx ⊢
   cases bY:E.fix with
   | some f=>simp[bY]at hx
   | none=>
    simp only[bY,Option.isSome_none,cond_false]at hx ⊢
    split at hx
    ·simp only[ZjU]at hx ⊢
     split at hx
     ·exact hx.elim
     ·split at hx
      ·exact hx.elim
      ·exact ZaA (λv y=>ZaA (λv' y=>Zae (λ⟨a,y⟩=>⟨a,λb=>ZnN (dZ _ _ _ rfl (Mem.le_refl m)) (y b)⟩) y) y) hx
    ·exact hx.elim
  | none=>
  simp only[opW,gV,ZdQ]at hx ⊢
  split at hx
  ·exact hx.elim
  ·split at hx
   ·exact hx.elim
   ·split at hx
    ·split at hx
     ·exact hx.elim
     ·split at hx
      ·exact hx.elim
      ·exact Zae (λy=>ZbR (λvs y=>Zae (λy b hf=>dZ _ _ _ rfl (Mem.le_add hf _) (y b hf)) y) y) hx
    ·exact hx.elim
 | makeSlice T l c=>
  simp only[opW]at hx ⊢
  cases gV:ZcH E dst with
  | none=>
   simp only[gV]at hx ⊢
   cases j5:Zqd E dst with
   | true=>
    simp only[j5,cond_true]at hx ⊢
    cases bY:E.fix with
    | some f=>simp[bY]at hx
    | none=>
     simp only[bY,Option.isSome_none,cond_false,ZoP]at hx ⊢
     split at hx
     ·exact hx.elim
     ·split at hx
      ·exact hx.elim
      ·exact ZaA (λv y=>ZaA (λv' y=>Zae (λ⟨a,y⟩=>⟨a,λb hf=>dZ _ _ _ rfl (Mem.le_add hf _) (y b hf)⟩) y) y) hx
   | false=>
   simp only[j5,cond_false,ZrL]at hx ⊢
   split at hx
   ·exact hx.elim
   ·split at hx
    ·exact hx.elim
    ·split at hx
     ·exact hx.elim
     ·exact ZaA (λv y=>ZaA (λv' y=>Zae (λ⟨a,y⟩=>⟨a,λb=>dZ _ _ _ rfl (Mem.le_refl m) (y b)⟩) y) y) hx
  | some ke=>
   simp only[gV]at hx ⊢
   cases bY:E.fix with
   | some f=>simp[bY]at hx
   | none=>
    simp only[bY,Option.isSome_none,cond_false,ZjU]at hx ⊢
    split at hx
    ·exact hx.elim
    ·split at hx
     ·exact hx.elim
     ·exact ZaA (λv y=>ZaA (λv' y=>Zae (λ⟨a,y⟩=>⟨a,λb=>ZnN (dZ _ _ _ rfl (Mem.le_refl m)) (y b)⟩) y) y) hx
 | convert s d x=>
  simp only[opW]at *
  cases hb:Zfp E s d <;> simp only[hb,cond_true,cond_false]at *
  ·cases fF:Zcj E s d <;> simp only[fF,cond_true,cond_false]at *
   ·cases nQ:Zck E s d <;> simp only[nQ,cond_true,cond_false]at *
    ·exact eL _ rfl hx
    ·cases bY:E.fix with
     | some f=>simp[bY]at hx
     | none=>
      simp only[bY,Option.isSome_none,cond_false]at hx ⊢
      exact Zhf (λv y=>hp _ y) hx
   ·cases bY:E.fix with
    | some f=>simp[bY]at hx
    | none=>
     simp only[bY,Option.isSome_none,cond_false]at hx ⊢
     exact ZaA (λv y=>Zae (λy b c hf hc=>dZ _ _ _ rfl (Mem.le_add hf _) (y b c hf hc)) y) hx
  ·split at hx
   ·exact hp _ hx
   ·exact hx.elim
 | call c=>
  obtain⟨callee,args,argTypes⟩:=c
  cases callee with
  | value f=>
   simp only[opW]at *
   refine Zie (λS2 m2 cX bN hx=>?_) hx
   simp only[ZrK]at hx ⊢
   split at hx
   ·cases jz:ZnM E dst with
    | true=>
     simp only[jz,cond_true]at hx ⊢
     cases bY:E.fix with
     | some f=>simp[bY]at hx
     | none=>
      simp only[bY,Option.isSome_none,cond_false]at hx ⊢
      exact ZbR (λvs y=>ZoM (λS' sv he y=>dZ S' _ _ (he.trans cX) bN y) y) hx
    | false=>
    simp only[jz,cond_false]at hx ⊢
    cases hP:ZdP E dst with
    | some ks=>
     simp only[hP]at hx ⊢
     have ie:th=true:=by
      rcases ie with h|h
      ·exact h
      ·have:=h.2 _ _ _ rfl;simp only at this;rw[hP]at this;cases this
     cases bY:E.fix with
     | some f=>simp[bY]at hx
     | none=>
      simp only[bY,Option.isSome_none,cond_false]at hx ⊢
      exact ZbR (λvs y=>ZhF (λv S' m' he y=>h0 _ _ ((ZcM (he.trans cX)).trans (Zb8 S' _ _)) (by rw[ie];trivial) y) y) hx
    | none=>
    simp only[hP]at hx ⊢
    cases ni:Zp9 E dst with
    | true=>
     simp only[ni,cond_true]at hx ⊢
     cases bY:E.fix with
     | some f=>simp[bY]at hx
     | none=>
      simp only[bY,Option.isSome_none,cond_false]at hx ⊢
      exact ZbR (λvs y=>ZoZ (λv gh y=>dZ _ _ _ cX bN y) y) hx
    | false=>
    simp only[ni,cond_false]at hx ⊢
    split at hx
    ·exact ZbR (λvs y=>Zjg (λv S' m' he hm y=>dZ S' _ _ (he.trans cX) (mLt bN hm) y) y) hx
    ·cases bY:E.fix with
     | some f=>simp[bY]at hx
     | none=>
      simp only[bY,Option.isSome_none,cond_false]at hx ⊢
      split at hx
      ·exact ZbR (λvs y=>Zk6 (λv S' m' he hm y=>dZ S' _ _ (he.trans cX) (mLt bN hm) y) y) hx
      ·exact hx.elim
   ·cases bY:E.fix with
    | some f=>simp[bY]at hx
    | none=>
     simp only[bY,Option.isSome_none,cond_false]at hx ⊢
     split at hx
     ·exact ZbR (λvs ⟨y1,y2,y3⟩=>⟨y1,dZ _ _ _ cX bN y2,dZ _ _ _ cX bN y3⟩) hx
     ·exact hx.elim
   ·exact hx.elim
  | invoke r mm=>
   simp only[opW]at *
   exact eL _ rfl hx
  | builtin b=>
   cases b with
   | append=>
    simp only[opW]at *
    split at hx
    ·exact Zie (λS2 m2 cX bN hx=>ZaA (λv y=>ZaA (λv' y=>Zf9 (λv tk m' hm y=>dZ _ _ _ cX (mLt bN hm) y) y) y) hx) hx
    ·exact hx.elim
   | copy=>
    simp only[opW]at *
    split at hx
    ·split at hx
     ·exact hx.elim
     ·exact ZaA (λv y=>ZaA (λv' y=>Zjf (λn S' he y=>dZ S' _ _ he (Mem.le_refl m) y) y) y) hx
    ·exact hx.elim
   | _=>
    simp only[opW]at *
    exact eL _ rfl hx
 | _=>
  simp only[opW]at *
  exact eL _ rfl hx
theorem Zfs{th:Bool}{E:Env}{ops:Array Oper}{S:St}{m:Mem}{o:Oper}(ie:th=true\/Zk7 E o){K K':St->Mem->Prop}(h:∀S' m',SameOut (dl o.dst) S S'->leT th m m'->K S' m'->K' S' m')(hx:opG E ops o S m K):opG E ops o S m K':=by
 unfold opG at *
 have hs:K (S.put o.dst (some (.v undef))) m->K' (S.put o.dst (some (.v undef))) m:=h _ _ (Zb8 S _ _) (leT.refl _ m)
 split at hx
 ·exact ZkD ie h hx
 ·split at hx
  ·exact hx.elim
  ·split at hx
   ·exact hx.elim
   ·split at hx
    ·rename_i v _
     cases hu:Zcw v <;> simp only[hu,cond_true,cond_false]at *
     ·refine Zae (λy=>?_) hx
      split at y
      ·exact Zf6 (ZkD ie h) hs y
      ·exact Zf6 hs (ZkD ie h) y
     ·exact hs hx
    ·exact hx.elim
theorem ZaO:∀{l:List Oper} {i:Nat} {o:Oper} {t:Nat},l[i]?=some o->o.dst=some t->t∈Zao l
 | [],i,o,t,h,_=>by simp at h
 | x::l,0,o,t,h,ht=>by simp at h;subst h;simp[Zao,ht]
 | x::l,i+1,o,t,h,ht=>by
  have:=ZaO (l:=l) (by simpa using h) ht
  simp only[Zao]
  cases x.dst with
  | none=>exact this
  | some d=>simp[this]
theorem Zik{ops:Array Oper}{o:Oper}{t:Nat}(h:ZeQ ops o=some t):t∈Zao ops.toList:=by
 unfold ZeQ at h
 split at h
 ·cases h
 ·split at h
  ·cases h
  ·rename_i hj;exact ZaO hj h
theorem Zil{E:Env}{ops:Array Oper}{S:St}{m:Mem}{o:Oper}(ho:∀t,o.dst=some t->t∈Zao ops.toList){K K':St->Mem->Prop}(h:∀S' m',SameOut (Zao ops.toList) S S'->leT E.thaw m m'->K S' m'->K' S' m')(hx:Zts E ops o S m K):Zts E ops o S m K':=by
 have hm:∀{S':St},SameOut (dl o.dst) S S'->SameOut (Zao ops.toList) S S':=λhs=>hs.mono λq hq=>by
  cases hd:o.dst with
  | none=>simp[hd,dl]at hq
  | some t=>simp[hd,dl]at hq;subst hq;exact ho _ hd
 unfold Zts at *
 split at hx
 ·exact Zfs (Zq0 E o) (λS' m' hs hm' y=>h _ _ (hm hs) hm' y) hx
 ·rename_i t ht
  have qg:=Zik ht
  have hb:∀b:Bool,opG E ops o (S.put (some t) (some (.v (.bool b)))) m K->opG E ops o (S.put (some t) (some (.v (.bool b)))) m K':=λb=>Zfs (Zq0 E o) (λS' m' hs hm' y=>h _ _ (by
   have h1:SameOut (Zao ops.toList) S (S.put (some t) (some (.v (.bool b)))):=(SameOut.refl _ S).put (λt' e=>by cases e;exact qg) _
   refine h1.trans (hs.mono λq hq=>?_)
   cases hd:o.dst with
   | none=>simp[hd,dl]at hq
   | some t=>simp[hd,dl]at hq;subst hq;exact ho _ hd) hm' y)
  split at hx
  ·rename_i v _
   cases hu:Zcw v with
   | true=>simp only[hu,cond_true]at hx ⊢;exact Zfs (Zq0 E o) (λS' m' hs hm' y=>h _ _ (hm hs) hm' y) hx
   | false=>simp only[hu,cond_false]at hx ⊢;exact Zae (Zf6 (hb true) (hb false)) hx
  ·exact hx.elim
theorem Zga{E:Env}{ops:Array Oper}:∀{l:List Nat} {S:St} {m:Mem} {K K':St->Mem->Prop},(∀S' m',SameOut (Zao ops.toList) S S'->leT E.thaw m m'->K S' m'->K' S' m')->ZrX E ops l K S m->ZrX E ops l K' S m
 | [],S,m,K,K',h,hx=>h _ _ (SameOut.refl _ S) (leT.refl _ m) hx
 | i::l,S,m,K,K',h,hx=>by
  simp only[ZrX]at *
  cases ho:ops.toList[i]? with
  | none=>simp[ho]at hx
  | some o=>
   simp only[ho]at hx ⊢
   exact Zil (λt ht=>ZaO ho ht) (λS' m' hs hm y=>Zga (λS'' m'' hs' hm' y=>h _ _ (SameOut.trans hs hs') (leT.trans hm hm') y) y) hx
theorem Zk8{S:St}:∀{l:List Nat} {k k':List (List Value)->Prop},(∀v,k v->k' v)->Zqe S l k->Zqe S l k'
 | [],k,k',h,hx=>h _ hx
 | id::l,k,k',h,hx=>by
  simp only[Zqe]at *
  split at hx
  ·exact hx.elim
  ·exact Zk8 (λvs dV=>h _ dV) hx
theorem ZhG{S:St}:∀{l:List (Nat×Nat)} {k k':List Value->Prop},(∀v,k v->k' v)->ZeR S l k->ZeR S l k'
 | [],k,k',h,hx=>h _ hx
 | (q,e)::l,k,k',h,hx=>Zae (λy=>ZhG (λvs dV=>h _ dV) y) hx
theorem Zdz:∀{l:List Nat} {k k':List (List Value)->Prop},(∀v,k v->k' v)->ZkZ l k->ZkZ l k'
 | [],k,k',h,hx=>h _ hx
 | _::l,k,k',h,hx=>λcs=>Zdz (λvs dV=>h _ dV) (hx cs)
theorem ZdA:∀{l:List (Nat×Nat)} {k k':List Value->Prop},(∀v,k v->k' v)->Zk0 l k->Zk0 l k'
 | [],k,k',h,hx=>h _ hx
 | _::l,k,k',h,hx=>λa n c=>ZdA (λvs dV=>h _ dV) (hx a n c)
theorem ZhH:∀{A:List (Nat×Shape)} {xs:List Value} {e:Nat->Option SV} {i:Nat},(∀q∈A,q.1≠i)->Zbr e A xs i=e i
 | [],xs,e,i,h=>by simp[Zbr]
 | (t,s)::A,[],e,i,h=>by simp[Zbr]
 | (t,s)::A,v::xs,e,i,h=>by
  have h1:i≠t:=λe=>h (t,s) (by simp) e.symm
  simp only[Zbr,Zam h1,cond_false]
  exact ZhH (λq hq=>h q (by simp[hq]))
theorem ZeI{ds:List Nat}{i:Nat}:ds.any (Nat.beq i ·)=true↔i∈ds:=by
 rw[List.any_eq_true]
 constructor
 ·rintro⟨x,hx,he⟩;rw[Nat.eq_of_beq_eq_true he];exact hx
 ·intro h;exact⟨i,h,Nat.beq_refl i⟩
theorem Zft{ds:List Nat}{i:Nat}(h:i ∉ ds):ds.any (Nat.beq i ·)=false:=by
 cases hh:ds.any (Nat.beq i ·)with
 | false=>rfl
 | true=>exact absurd (ZeI.1 hh) h
def ZrM(ds:List Nat)(A:List (Nat×Shape)):Bool:=A.all λq=>ds.any (Nat.beq q.1 ·)
theorem Zc3{ds:List Nat}{A:List (Nat×Shape)}(hA:ZrM ds A=true){S S':St}{xs:List Value}(h:S'.env=Zbr (λi=>bif ds.any (Nat.beq i ·)then none else S.env i) A xs):SameOut ds S S':=by
 intro i hi
 rw[h,ZhH]
 ·simp[Zft hi]
 ·intro q hq e
  simp only[ZrM,List.all_eq_true]at hA
  exact hi (e ▸ ZeI.1 (hA q hq))
def Zaq(E:Env):Code->Bool
 | .region id ops draw=>(match E.joins id with
  | none=>true
  | some outs=>ZrM (Zao ops.toList) outs)
 | .seq a b=>Zaq E a&&Zaq E b&&(match E.cuts (ZaJ b)with
  | none=>true
  | some A=>ZrM (Zg9 a) A.slots)
 | .cond _ a b=>Zaq E a&&Zaq E b
 | .block _ a=>Zaq E a
 | .loop a=>Zaq E a&&ZrM (Zg9 a) (E.loops (ZaJ a)).slots
 | .rangeFunc _ _ a b=>Zaq E a&&Zaq E b
 | .scope a=>Zaq E a
 | _=>true
def leD(E:Env)(id:Nat)(m m':Mem):Prop:=match E.last id with
 | true=>leT E.thaw m m'
 | false=>m.le m'
theorem leD.leT{E:Env}{id:Nat}{m m':Mem}(h:leD E id m m'):leT E.thaw m m':=by
 unfold leD at h
 cases hl:E.last id with
 | true=>rw[hl]at h;exact h
 | false=>rw[hl]at h;exact .of h
theorem leD.le{E:Env}{id:Nat}{m m':Mem}(hl:E.last id=false)(h:leD E id m m'):m.le m':=by
 unfold leD at h;rw[hl]at h;exact h
def Zdt(E:Env)(ZaP:Nat->Array Oper->(St->Mem->Prop)->St->Mem->Prop):Prop:=
 ∀(id:Nat)(ops:Array Oper)(K K':St->Mem->Prop)(S:St)(m:Mem),(∀S' m',SameOut (Zao ops.toList) S S'->leD E id m m'->K S' m'->K' S' m')->ZaP id ops K S m->ZaP id ops K' S m
theorem Zgb{b:Bool}{g:Int}{k k':Int->Prop}(h:∀y,k y->k' y)(hx:Ztc b g k):Ztc b g k':=by
 cases b with
 | true=>exact λy=>h y (hx y)
 | false=>exact h g hx
theorem ZmP{b:Bool}{x y:Int}{p q:Prop}(h:p->q)(hx:Zjc b x y p):Zjc b x y q:=by
 cases b with
 | true=>exact h hx
 | false=>
  simp only[Zjc,cond_false]at *
  split at hx
  ·exact h hx
  ·exact⟨hx.1,h hx.2⟩
theorem ZmQ{a b:List (Option Box)}{p q:Prop}(h:p->q)(hx:Zkw a b p):Zkw a b q:=Zcx.2 ⟨(Zcx.1 hx).1,h (Zcx.1 hx).2⟩
theorem ZmR{a b:List (Option Tok)}{p q:Prop}(h:p->q)(hx:Zkx a b p):Zkx a b q:=Zcy.2 ⟨(Zcy.1 hx).1,h (Zcy.1 hx).2⟩
theorem Zj0{K K':KT}{e:Exit}{S:St}{m:Mem}(h:∀e,K e S m->K' e S m)(hx:Zk1 K e S m):Zk1 K' e S m:=by
 cases e with
 | ret=>exact h _ hx
 | exit id=>exact h _ hx
 | goto l=>exact h _ hx
 | _=>exact hx
theorem leT.up{th:Bool}{mi m m':Mem}(hc:th=false->mi=m)(h:mi.le m'):leT th m m':=by
 cases th with
 | true=>trivial
 | false=>rw[hc rfl]at h;exact h
theorem Zk9{th:Bool}{P:Program}{A:LoopAnn}{f:Operand}{ps:List Nat}{assign body:KT->St->Mem->Prop}{ds:List Nat}
  (ha:∀{S:St} {m:Mem} {K K':KT},(∀e S' m',leT th m m'->K e S' m'->K' e S' m')->assign K S m->assign K' S m)
  (hb:∀{S:St} {m:Mem} {K K':KT},(∀e S' m',leT th m m'->K e S' m'->K' e S' m')->body K S m->body K' S m)
  {S:St} {m:Mem} {K K':KT} (h:∀e S' m',SameOut ds S S'->leT th m m'->K e S' m'->K' e S' m') (hx:Zk2 th P A f ps assign body K S m):Zk2 th P A f ps assign body K' S m:=by
 unfold Zk2 at *
 split at hx
 ·refine Zae (ZoV λmi nj kX ⟨xs,h1,h2,I,h3,h4,h5⟩=>⟨xs,h1,h2,I,h3,?_,?_⟩) hx
  all_goals have up:∀{m':Mem},mi.le m'->leT th m m':=λhm=>leT.up kX hm
  ·refine Zgb (λy z=>Shape.allL_mono _ (λx z=>Zdz (λcss z=>ZdA (λtvs z m' n hm hn hI=>?_) z) z) z) h4
   refine ha (λe S1 m1 aD k=>?_) (z m' n hm hn hI)
   cases e with
   | normal=>
    refine hb (λe S' m'' bN k=>ZoW (ZmP (ZmQ (ZmR (Zk8 λcss' k=>?_ )))) k) k
    refine ZhG (λtvs' k=>?_) k
    cases e with
    | normal=>exact k
    | _=>exact Zj0 (λe=>h e _ _ (SameOut.refl _ _) (leT.trans (up hm) (leT.trans aD bN))) k
   | _=>exact k
  ·exact Zgb (λy z=>Zdz (λcss z=>ZdA (λtvs z m' hm hI=>h _ _ _ (SameOut.refl _ _) (up hm) (z m' hm hI)) z) z) h5
 ·exact hx.elim
theorem Zo0{E:Env}{kz:Option (Nat×Nat)}{ops:Array Oper}{l:List Nat}{S:St}{m:Mem}{K K':St->Mem->Prop}(h:∀S' m',SameOut (Zao ops.toList) S S'->leT E.thaw m m'->K S' m'->K' S' m')
  (y:Zr3 E kz (ZrX E ops l) K S m):Zr3 E kz (ZrX E ops l) K' S m:=by
 unfold Zr3 at *
 split at y
 ·exact Zga h y
 ·obtain⟨y1,y2⟩:=Zad y
  refine Zaa y1 ?_
  simp only[zA7]at y1
  split at y2
  ·exact y2
  ·obtain⟨a,n,c,z1,z2,z3⟩:=y2
   refine⟨a,n,c,z1,z2,Zga (λS' m' hs _ z=>?_) z3⟩
   split at z
   ·exact z
   ·exact Zae (λz zs hz=>h _ _ (λt ht=>hs t ht) (by rw[y1.1];trivial) (z zs hz)) z
theorem Zdh{E:Env}{ZaP:Nat->Array Oper->(St->Mem->Prop)->St->Mem->Prop}(hD:Zdt E ZaP):∀(c:Code),Zaq E c=true->∀{S:St} {m:Mem} {K K':KT},(∀e S' m',SameOut (Zg9 c) S S'->leT E.thaw m m'->K e S' m'->K' e S' m')->W E ZaP c K S m->W E ZaP c K' S m
 | .skip,_,S,m,K,K',h,hx=>h _ _ _ (SameOut.refl _ S) (leT.refl _ m) hx
 | .label _,_,S,m,K,K',h,hx=>h _ _ _ (SameOut.refl _ S) (leT.refl _ m) hx
 | .exit _,_,S,m,K,K',h,hx=>h _ _ _ (SameOut.refl _ S) (leT.refl _ m) hx
 | .ret,_,S,m,K,K',h,hx=>h _ _ _ (SameOut.refl _ S) (leT.refl _ m) hx
 | .region id ops draw,hc,S,m,K,K',h,hx=>by
  simp only[W]at *
  cases hj:E.joins id with
  | none=>
   simp only[hj]at hx ⊢
   cases draw with
   | true=>simp only[cond_true]at *;exact hD _ _ _ _ _ _ (λS' m' hs hm y=>h _ _ _ hs (leD.leT hm) y) hx
   | false=>
    simp only[cond_false]at *
    exact Zo0 (λS' m' hs hm y=>h _ _ _ hs hm y) hx
  | some outs=>
   simp only[hj]at hx ⊢
   refine Shape.exL_mono _ (λxs ⟨h1,h2⟩=>⟨h1,h _ _ _ ?_ (leT.refl _ m) h2⟩) hx
   simp only[Zaq,hj]at hc
   exact Zc3 hc rfl
 | .seq x y,hc,S,m,K,K',h,hx=>by
  simp only[Zaq,zA7]at hc
  simp only[W,Zg9]at *
  cases fX:E.cuts (ZaJ y)with
  | none=>
   simp only[fX]at hx ⊢
   refine Zdh hD x hc.1.1 (λe S' m' hs hm hy=>?_) hx
   have hs':SameOut (Zg9 x++Zg9 y) S S':=hs.mono (λi hi=>by simp[hi])
   cases e with
   | normal=>exact Zdh hD y hc.1.2 (λe S'' m'' eU bN hy=>h _ _ _ (hs'.trans (eU.mono (λi hi=>by simp[hi]))) (leT.trans hm bN) hy) hy
   | _=>exact h _ _ _ hs' hm hy
  | some A=>
   simp only[fX]at hx ⊢ hc
   obtain⟨J,h1,h2⟩:=hx
   refine⟨J,Zdh hD x hc.1.1 (λe S' m' hs hm hy=>?_) h1,Zgb (λg z=>Shape.allL_mono _ (λxs z=>Zdz (λcss z=>ZdA (λtvs z m' hm hJ=>?_) z) z) z) h2⟩
   ·cases e with
    | normal=>exact hy
    | _=>exact h _ _ _ (hs.mono (λi hi=>by simp[hi])) hm hy
   ·refine Zdh hD y hc.1.2 (λe S' m'' hs bN hy=>h _ _ _ ?_ (leT.trans hm bN) hy) (z m' hm hJ)
    have h3:SameOut (Zg9 x) S (ZbA S (Zg9 x) A g xs css tvs):=Zc3 (S':=ZbA S (Zg9 x) A g xs css tvs) hc.2 rfl
    exact(h3.mono (λi hi=>by simp[hi])).trans (hs.mono (λi hi=>by simp[hi]))
 | .cond c x y,hc,S,m,K,K',h,hx=>by
  simp only[Zaq,zA7]at hc
  simp only[W,Zg9]at *
  exact ZaA (λv hy=>Zae (λhy=>Zf6 (Zdh hD x hc.1 (λe S' m' hs hm hy=>h _ _ _ (hs.mono (λi hi=>by simp[hi])) hm hy)) (Zdh hD y hc.2 (λe S' m' hs hm hy=>h _ _ _ (hs.mono (λi hi=>by simp[hi])) hm hy)) hy) hy) hx
 | .block id x,hc,S,m,K,K',h,hx=>by
  simp only[Zaq]at hc
  simp only[W,Zg9]at *
  refine Zdh hD x hc (λe S' m' hs hm hy=>?_) hx
  cases e with
  | exit id'=>
   simp only at *
   cases hb:Nat.beq id' id <;> simp only[hb,cond_true,cond_false]at *
   ·exact h _ _ _ hs hm hy
   ·exact h _ _ _ hs hm hy
  | _=>exact h _ _ _ hs hm hy
 | .loop x,hc,S,m,K,K',h,hx=>by
  simp only[Zaq,zA7]at hc
  simp only[W,Zg9]at *
  obtain⟨I,h1,h2⟩:=hx
  refine⟨I,h1,Zgb (λg y=>Shape.allL_mono _ (λxs y=>Zdz (λcss y=>ZdA (λtvs y m' n hm hI=>?_) y) y) y) h2⟩
  refine Zdh hD x hc.1 (λe S' m'' hs bN hy=>?_) (y m' n hm hI)
  have hs':SameOut (Zg9 x) S S':=(Zc3 (S':=ZbA S (Zg9 x) (E.loops (ZaJ x)) g xs css tvs) hc.2 rfl).trans hs
  cases e with
  | normal=>exact hy
  | _=>exact h _ _ _ hs' (leT.trans hm bN) hy
 | .goto _,_,S,m,K,K',h,hx=>by simp[W]at hx
 | .scope x,hc,S,m,K,K',h,hx=>by
  simp only[Zaq]at hc
  simp only[W,Zg9]at *
  refine Zdh hD x hc (λe S' m' hs hm hy=>?_) hx
  cases e with
  | goto l=>exact hy
  | _=>exact h _ _ _ hs hm hy
 | .rangeFunc f ps x y,hc,S,m,K,K',h,hx=>by
  simp only[Zaq,zA7]at hc
  simp only[W]at *
  exact Zk9 (assign:=W E ZaP x) (body:=W E ZaP y) (λh'=>Zdh hD x hc.1 λe S' m' _ hm hy=>h' e S' m' hm hy) (λh'=>Zdh hD y hc.2 λe S' m' _ hm hy=>h' e S' m' hm hy) (λe S' m' hs hm=>h e S' m' hs hm) hx
 | .refuse _,_,S,m,K,K',h,hx=>by simp[W]at hx
section
variable {C:Ctx} {m:Mem} {a:Act} {w:World}
theorem Rel.restrict{S S2:St}(h:Rel C S m a w)(hg:S2.gh=S.gh)(hL:∀id x,S2.L id=some x->S.L id=some x)(hT:∀k t,S2.tok k=some t->S.tok k=some t\/t.v=.slice none 0 0)
  (cX:∀i sv,S2.env i=some sv->∃v,S2.den sv=some v/\a.tmps[i]?=some v) (dI:∀id x,S2.L id=some x->id∈S2.ids) (nR:∀k t,S2.tok k=some t->k∈S2.tkeys):Rel C S2 m a w:=by
 refine⟨h.defers,h.size,cX,λid x hx=>h.own id x (hL id x hx),λid id' x x' hx hx'=>h.apart id id' x x' (hL _ _ hx) (hL _ _ hx'),dI,?_,nR,?_,h.sub,h.le,h.dom.imp λM d=>d.cut hg (λid x hx=>⟨id,x,hL id x hx,rfl⟩) (λk t b ht hb=>?_) rfl (λ_ _ _ hv=>hv)⟩
 ·intro k t ht
  rcases hT k t ht with h1|h1
  ·obtain⟨h2,h3⟩:=h.toks k t h1
   exact⟨h2,λb hb=>⟨λid x hx=>(h3 b hb).1 id x (hL _ _ hx),(h3 b hb).2⟩⟩
  ·exact⟨.inl h1,λb hb=>by simp[Tok.blk,h1]at hb⟩
 ·intro k k' t t' b ht ht' hb hb'
  rcases hT k t ht with h1|h1
  ·rcases hT k' t' ht' with h2|h2
   ·exact h.tapart k k' t t' b h1 h2 hb hb'
   ·simp[Tok.blk,h2]at hb'
  ·simp[Tok.blk,h1]at hb
 ·rcases hT k t ht with h1|h1
  ·exact⟨k,t,h1,hb⟩
  ·simp[Tok.blk,h1]at hb
theorem Rel.forget{S:St}{m':Mem}(h:Rel C S m' a w)(hm:m.le m')(h0:C.m0.le m)(hz:∀id x,S.L id=some x->x.fz=true->m.reads x.b 0 x.cs):Rel C S m a w:=by
 have hn:∀b o,m' b o=none->m b o=none:=λb o ho=>by
  cases he:m b o with
  | none=>rfl
  | some v=>rw[hm _ _ _ he]at ho;cases ho
 refine⟨h.defers,h.size,h.env,λid x hx=>?_,h.apart,h.ids,λk t ht=>?_,h.tkeys,h.tapart,λb o v hv=>h.sub b o v (hm _ _ _ hv),h0,h.dom.imp λM d=>d.cut rfl (λid x hx=>⟨id,x,hx,rfl⟩) (λk t b ht hb=>⟨k,t,ht,hb⟩) rfl hm⟩
 ·have h1:=h.own id x hx
  exact⟨h1.cells,λhf o=>hn _ _ (h1.free hf o),hz id x hx,h1.whole⟩
 ·obtain⟨h1,h2⟩:=h.toks k t ht
  exact⟨h1.same (λ_ _=>rfl) (λb o _ ho=>hn _ _ ho),h2⟩
theorem Zcm{S:St}(hr:Rel C S m a w):∀{l:List (Nat×Shape)} {k:List Value->Prop},ZfG S l k->∃xs,Shape.fitsL (l.map (·.2)) xs=true/\(∀(i:Nat) t sh v,l[i]?=some (t,sh)->xs[i]?=some v->a.tmps[t]?=some v)/\xs.length=l.length/\k xs
 | [],k,h=>⟨[],rfl,by simp,rfl,h⟩
 | (t,sh)::l,k,h=>by
  obtain⟨v,hv,h⟩:=Zay h
  obtain⟨h1,h2⟩:=Zad h
  obtain⟨xs,g1,g2,g3,g4⟩:=Zcm hr h2
  refine⟨v::xs,by simp[Shape.fitsL,h1,g1],?_,by simp[g3],g4⟩
  intro i t' sh' v' hi hx
  cases i with
  | zero=>
   simp at hi hx
   obtain⟨rfl,rfl⟩:=hi
   subst hx
   simp only[St.val,St.ev]at hv
   cases he:S.env t with
   | none=>simp[he]at hv
   | some sv=>
    simp only[he]at hv
    obtain⟨u,h3,h4⟩:=hr.env t sv he
    rw[hv]at h3;cases h3;exact h4
  | succ i=>exact g2 i t' sh' v' (by simpa using hi) (by simpa using hx)
theorem ZcN{S:St}:∀{l:List Nat} {k:List (List Value)->Prop},Zqe S l k->∃css,css.length=l.length/\(∀(i:Nat) id cs,l[i]?=some id->css[i]?=some cs->∃x,S.L id=some x/\x.cs=cs)/\k css
 | [],k,h=>⟨[],rfl,by simp,h⟩
 | id::l,k,h=>by
  simp only[Zqe]at h
  cases hx:S.L id with
  | none=>simp[hx]at h
  | some x=>
   simp only[hx]at h
   obtain⟨css,g1,g2,g3⟩:=ZcN h
   refine⟨x.cs::css,by simp[g1],?_,g3⟩
   intro i id' cs hi hc
   cases i with
   | zero=>simp at hi hc;subst hi hc;exact⟨x,hx,rfl⟩
   | succ i=>exact g2 i id' cs (by simpa using hi) (by simpa using hc)
theorem ZbM{S:St}:∀{l:List (Nat×Nat)} {k:List Value->Prop},ZeR S l k->∃vs,vs.length=l.length/\(∀(i:Nat) q e v,l[i]?=some (q,e)->vs[i]?=some v->ZdK v=true/\(S.tok q=some ⟨v,e⟩\/v=.slice none 0 0))/\k vs
 | [],k,h=>⟨[],rfl,by simp,h⟩
 | (q,e)::l,k,h=>by
  obtain⟨h1,h2⟩:=Zad h
  simp only[zA7]at h1
  obtain⟨vs,g1,g2,g3⟩:=ZbM h2
  refine⟨ZoS S q::vs,by simp[g1],?_,g3⟩
  intro i q' e' v hi hv
  cases i with
  | zero=>
   simp at hi hv
   obtain⟨rfl,rfl⟩:=hi
   subst hv
   refine⟨h1.1,?_⟩
   unfold ZoS
   cases ht:S.tok q with
   | none=>exact .inr rfl
   | some t=>
    left
    have:t.esz=e:=by have:=h1.2;simp only[ht]at this;exact Nat.eq_of_beq_eq_true this
    cases t;simp at this ⊢;exact this
  | succ i=>exact g2 i q' e' v (by simpa using hi) (by simpa using hv)
theorem ZdB:∀{l:List Nat} {k:List (List Value)->Prop},ZkZ l k->∀css,css.length=l.length->k css
 | [],k,h,css,hl=>by cases css <;> simp_all [ZkZ]
 | _::l,k,h,css,hl=>by
  cases css with
  | nil=>simp at hl
  | cons c css=>exact ZdB (h c) css (by simpa using hl)
theorem ZdC:∀{l:List (Nat×Nat)} {k:List Value->Prop},Zk0 l k->∀vs,vs.length=l.length->(∀v∈vs,ZdK v=true)->k vs
 | [],k,h,vs,hl,_=>by cases vs <;> simp_all [Zk0]
 | _::l,k,h,vs,hl,hs=>by
  cases vs with
  | nil=>simp at hl
  | cons v vs=>
   have:=ZbD (hs v (by simp))
   rw[this]
   exact ZdC (h _ _ _) vs (by simpa using hl) (λu hu=>hs u (by simp[hu]))
theorem Zjh:∀{A:List (Nat×Shape)} {xs:List Value} {e:Nat->Option SV} {i:Nat} {sv:SV},Zbr e A xs i=some sv->e i=some sv\/∃(q:Nat)(sh:Shape)(v:Value),A[q]?=some (i,sh)/\xs[q]?=some v/\sv=.v v
 | [],xs,e,i,sv,h=>.inl (by simpa[Zbr]using h)
 | (t,s)::A,[],e,i,sv,h=>.inl (by simpa[Zbr]using h)
 | (t,s)::A,v::xs,e,i,sv,h=>by
  by_cases hi:i=t
  ·subst hi
   simp[Zbr]at h
   exact .inr ⟨0,s,v,by simp,by simp,h.symm⟩
  ·simp only[Zbr,Zam hi,cond_false]at h
   rcases Zjh h with h1|⟨q,sh,u,h1,h2,h3⟩
   ·exact .inl h1
   ·exact .inr ⟨q+1,sh,u,by simpa using h1,by simpa using h2,h3⟩
theorem ZeT:∀{l:List Nat} {css:List (List Value)} {L:Nat->Option Box} {id:Nat} {y:Box},Zbs L l css id=some y->(∃(i:Nat)(x:Box)(cs:List Value),l[i]?=some id/\css[i]?=some cs/\L id=some x/\y={ x with cs:=cs })\/((∀i,l[i]?=some id->css.length<=i)/\L id=some y)
 | [],css,L,id,y,h=>.inr ⟨by simp,by simpa[Zbs]using h⟩
 | d::l,[],L,id,y,h=>.inr ⟨λi _=>by simp,by simpa[Zbs]using h⟩
 | d::l,cs::css,L,id,y,h=>by
  by_cases cI:id=d
  ·subst cI
   simp only[Zbs,ZbO,cond_true]at h
   cases hx:L id with
   | none=>simp[hx]at h
   | some x=>simp[hx]at h;exact .inl ⟨0,x,cs,by simp,by simp,rfl,h.symm⟩
  ·simp only[Zbs,Zam cI,cond_false]at h
   rcases ZeT h with⟨i,x,c,h1,h2,h3,h4⟩|⟨h1,h2⟩
   ·exact .inl ⟨i+1,x,c,by simpa using h1,by simpa using h2,h3,h4⟩
   ·refine .inr ⟨λi hi=>?_,h2⟩
    cases i with
    | zero=>simp at hi;exact absurd hi.symm cI
    | succ i=>have:=h1 i (by simpa using hi);simp;omega
theorem ZdD:∀{l:List Nat} {css:List (List Value)} {L:Nat->Option Box} {id:Nat} {x:Box},L id=some x->∃y,Zbs L l css id=some y/\y.b=x.b
 | [],css,L,id,x,h=>⟨x,by simpa[Zbs]using h,rfl⟩
 | d::l,[],L,id,x,h=>⟨x,by simpa[Zbs]using h,rfl⟩
 | d::l,cs::css,L,id,x,h=>by
  by_cases cI:id=d
  ·subst cI
   exact⟨{ x with cs:=cs },by simp[Zbs,h],rfl⟩
  ·simp only[Zbs,Zam cI,cond_false]
   exact ZdD h
theorem Zc4:∀{l:List (Nat×Nat)} {vs:List Value} {tk:Nat->Option Tok} {k:Nat} {t:Tok},ZeH tk l vs k=some t->(∃(i:Nat)(e:Nat)(v:Value),l[i]?=some (k,e)/\vs[i]?=some v/\t=⟨v,e⟩)\/((∀i q,l[i]?=some q->q.1=k->vs.length<=i)/\tk k=some t)
 | [],vs,tk,k,t,h=>.inr ⟨by simp,by simpa[ZeH]using h⟩
 | (q,e)::l,[],tk,k,t,h=>.inr ⟨λi _ _ _=>by simp,by simpa[ZeH]using h⟩
 | (q,e)::l,v::vs,tk,k,t,h=>by
  by_cases hk:k=q
  ·subst hk
   simp[ZeH]at h
   exact .inl ⟨0,e,v,by simp,by simp,h.symm⟩
  ·simp only[ZeH,Zam hk,cond_false]at h
   rcases Zc4 h with⟨i,e',u,h1,h2,h3⟩|⟨h1,h2⟩
   ·exact .inl ⟨i+1,e',u,by simpa using h1,by simpa using h2,h3⟩
   ·refine .inr ⟨λi p hi hp=>?_,h2⟩
    cases i with
    | zero=>simp at hi;subst hi;exact absurd hp.symm hk
    | succ i=>have:=h1 i p (by simpa using hi) hp;simp;omega
structure StOk (S:St):Prop where
 env:∀i sv,S.env i=some sv->∃v,S.den sv=some v
 ids:∀id x,S.L id=some x->id∈S.ids
 tkeys:∀k t,S.tok k=some t->k∈S.tkeys
theorem Rel.ok{S:St}(h:Rel C S m a w):StOk S:=⟨λi sv he=>(h.env i sv he).imp λv hv=>hv.1,h.ids,h.tkeys⟩
theorem ZdS{S S':St}(hS:StOk S){ds:List Nat}{A:LoopAnn}(hr:Rel C S' m a w)(eT:SameOut ds S S')(dX:ZbG S' A S.ids=ZbG S A S.ids)(bP:ZaS S' A S.tkeys=ZaS S A S.tkeys)
  {xs:List Value} {css:List (List Value)} {tvs:List Value} (hx:∀(i:Nat) t sh v,A.slots[i]?=some (t,sh)->xs[i]?=some v->a.tmps[t]?=some v)
  (eQ:css.length=A.boxes.length) (hc:∀(i:Nat) id cs,A.boxes[i]?=some id->css[i]?=some cs->∃x,S'.L id=some x/\x.cs=cs)
  (fA:tvs.length=A.toks.length) (ht:∀(i:Nat) q e v,A.toks[i]?=some (q,e)->tvs[i]?=some v->ZdK v=true/\(S'.tok q=some ⟨v,e⟩\/v=.slice none 0 0)):Rel C (ZbA S ds A S'.gh xs css tvs) m a w:=by
 have hL:∀id y,Zbs S.L A.boxes css id=some y->S'.L id=some y:=by
  intro id y hy
  have dH:∀id,id∈S.ids->(bif A.boxes.any (Nat.beq id ·)then(match S'.L id with
    | some x=>some { x with cs:=[] }
    | none=>none)else S'.L id)=(bif A.boxes.any (Nat.beq id ·)then(match S.L id with
    | some x=>some { x with cs:=[] }
    | none=>none)else S.L id):=λid cI=>by
   simp only[ZbG]at dX
   exact(List.map_inj_left.1 dX) id cI
  rcases ZeT hy with⟨i,x,cs,h1,h2,h3,h4⟩|⟨h1,h2⟩
  ·obtain⟨x',g1,g2⟩:=hc i id cs h1 h2
   have:=dH id (hS.ids id x h3)
   have hm:A.boxes.any (Nat.beq id ·)=true:=ZeI.2 (zA2 h1)
   simp only[hm,cond_true,g1,h3,Option.some.injEq,Box.mk.injEq,true_and]at this
   rw[g1,h4]
   obtain⟨e1,e2,e3,e4,e5⟩:=this
   cases x;cases x'
   simp_all
  ·have hm:A.boxes.any (Nat.beq id ·)=false:=Zft (λcD=>by
    obtain⟨i,hi⟩:=List.getElem?_of_mem cD
    have h3:=h1 i hi
    have h4:=(zA0 hi).1
    omega)
   have:=dH id (hS.ids id y h2)
   simp only[hm,cond_false]at this
   rw[this,h2]
 have lS:∀k t,ZeH S.tok A.toks tvs k=some t->S'.tok k=some t\/t.v=.slice none 0 0:=by
  intro k t hk
  have dH:∀k,k∈S.tkeys->(bif A.toks.any (λq=>Nat.beq k q.1)then none else S'.tok k)=(bif A.toks.any (λq=>Nat.beq k q.1)then none else S.tok k):=λk hk=>by
   simp only[ZaS]at bP
   exact(List.map_inj_left.1 bP) k hk
  rcases Zc4 hk with⟨i,e,v,h1,h2,h3⟩|⟨h1,h2⟩
  ·obtain⟨g1,g2⟩:=ht i k e v h1 h2
   subst h3
   exact g2.imp id id
  ·left
   have hm:A.toks.any (λq=>Nat.beq k q.1)=false:=by
    cases hh:A.toks.any (λq=>Nat.beq k q.1)with
    | false=>rfl
    | true=>
     obtain⟨q,hq,he⟩:=List.any_eq_true.1 hh
     obtain⟨i,hi⟩:=List.getElem?_of_mem hq
     have h3:=h1 i q hi (Nat.eq_of_beq_eq_true he).symm
     have h4:=(zA0 hi).1
     omega
   have:=dH k (hS.tkeys k t h2)
   simp only[hm,cond_false]at this
   rw[this,h2]
 refine hr.restrict rfl hL lS ?_ ?_ ?_
 ·intro i sv he
  simp only[ZbA]at he
  rcases Zjh he with h1|⟨q,sh,v,h1,h2,h3⟩
  ·cases hi:ds.any (Nat.beq i ·)with
   | true=>simp[hi]at h1
   | false=>
    simp only[hi,cond_false]at h1
    have rm:i ∉ ds:=λhm=>by rw[ZeI.2 hm]at hi;cases hi
    have h2:S'.env i=some sv:=by rw[eT i rm,h1]
    obtain⟨v,h3,h4⟩:=hr.env i sv h2
    refine⟨v,?_,h4⟩
    cases sv with
    | v u=>exact h3
    | loc id off=>
     obtain⟨v0,h5⟩:=hS.env i _ h1
     simp only[St.den]at h5
     cases hx:S.L id with
     | none=>simp[hx]at h5
     | some x=>
      obtain⟨y,hy,_⟩:=ZdD (l:=A.boxes) (css:=css) hx
      have:=hL id y hy
      simp only[St.den,this]at h3
      simp only[St.den,ZbA,hy];exact h3
    | sl id n c=>
     obtain⟨v0,h5⟩:=hS.env i _ h1
     simp only[St.den]at h5
     cases hx:S.L id with
     | none=>simp[hx]at h5
     | some x=>
      obtain⟨y,hy,_⟩:=ZdD (l:=A.boxes) (css:=css) hx
      have:=hL id y hy
      simp only[St.den,this]at h3
      simp only[St.den,ZbA,hy];exact h3
  ·subst h3
   exact⟨v,rfl,hx q i sh v h1 h2⟩
 ·intro id y hy
  simp only[ZbA]at hy ⊢
  rcases ZeT hy with⟨i,x,cs,h1,h2,h3,h4⟩|⟨h1,h2⟩
  ·exact hS.ids id x h3
  ·exact hS.ids id y h2
 ·intro k t hk
  simp only[ZbA]at hk ⊢
  rcases Zc4 hk with⟨i,e,v,h1,h2,h3⟩|⟨h1,h2⟩
  ·exact List.mem_append_left _ (List.mem_map.2 ⟨(k,e),zA2 h1,rfl⟩)
  ·exact List.mem_append_right _ (hS.tkeys k t h2)
end
theorem Rel.lessMem{C:Ctx}{S:St}{m m1:Mem}{a:Act}{w:World}(h:Rel C S m a w)(hm:m1.le m)(h0:C.m0.le m1)(hk:∀id x,S.L id=some x->x.fz=true->∀o,m1 x.b o=m x.b o):Rel C S m1 a w:=by
 have dA:∀b o,m b o=none->m1 b o=none:=λb o hn=>by
  cases he:m1 b o with
  | none=>rfl
  | some v=>have:=hm _ _ _ he;rw[hn]at this;cases this
 refine⟨h.defers,h.size,h.env,λid x hx=>?_,h.apart,h.ids,λk t ht=>?_,h.tkeys,h.tapart,λb o v hv=>h.sub b o v (hm _ _ _ hv),h0,?_⟩
 ·obtain⟨g1,g2,g3,g4⟩:=h.own id x hx
  exact⟨g1,λhz o=>dA _ _ (g2 hz o),λhz j u hu=>by rw[hk id x hx hz];exact g3 hz j u hu,g4⟩
 ·obtain⟨g1,g2⟩:=h.toks k t ht
  exact⟨g1.same (λb _=>rfl) (λb o _=>dA b o),g2⟩
 ·obtain⟨M,hd⟩:=h.dom
  exact⟨M,hd.p,hd.lt,hd.own,hd.tok,hd.mks,λb o v hv=>hd.new b o v (hm _ _ _ hv)⟩
theorem Rel.acq{E:Env}{C:Ctx}(hY:YOk E C){mm:Mem}(eH:E.m0=some mm){S:St}{m:Mem}{a:Act}{w:World}(hr:Rel C S m a w){key esz:Nat}{p:Option Addr}{n c:Nat}(h1:Zun m mm esz p n c)
  (h2:∀b,(Tok.mk (.slice p n c) esz).blk=some b->nfz S b S.ids (ntk S b [key] S.tkeys)):
  Rel C { S with tok:=λk=>bif Nat.beq k key then some ⟨.slice p n c,esz⟩ else S.tok k,tkeys:=key::S.tkeys } (m.cutA p (n*esz)) a w:=by
 obtain⟨kh,hW⟩:=hY.m0 mm eH
 rcases h1 with⟨rfl,rfl,rfl⟩|⟨b,rfl,gi,fU,mU,eZ⟩
 ·exact hr.tokNil key _ rfl
 ·obtain⟨q1,q2⟩:=Zfm (h2 b rfl)
  have cA:(m.cutA (some ⟨b,0,none⟩) (n*esz)).le m:=λb' o v hv=>by
   simp only[Mem.cutA]at hv
   split at hv
   ·cases hv
   ·exact hv
  have gk:∀b',b'≠b->∀o,m.cutA (some ⟨b,0,none⟩) (n*esz) b' o=m b' o:=λb' hb o=>by simp[Mem.cutA,hb]
  have jo:∀id x,S.L id=some x->x.b≠b:=λid x hx e=>by
   have ho:=hr.own id x hx
   cases hz:x.fz with
   | true=>exact q2 id x (hr.ids id x hx) hx hz e
   | false=>
    obtain⟨v,hv⟩:=mU 0 fU
    have:=ho.free hz 0
    rw[e,hv]at this;cases this
  have dD:Rel C S (m.cutA (some ⟨b,0,none⟩) (n*esz)) a w:=hr.lessMem cA (λb' o v hv=>by
   by_cases hb:b'=b
   ·subst hb;rw[kh]at hv;rw[eZ o]at hv;cases hv
   ·rw[gk b' hb];exact hr.le _ _ _ hv) (λid x hx _ o=>gk _ (jo id x hx) o)
  obtain⟨v0,qh⟩:=mU 0 fU
  have hM:∀M,Dom C S m a w M->M b:=λM hd=>(hd.new b 0 v0 qh).resolve_left λh=>by rw[kh,eZ 0]at h;cases h
  have cH:∀o,o < c*esz->∃v,w.cell? ⟨b,o,none⟩=some v:=λo ho=>by
   obtain⟨v,hv⟩:=mU o ho
   exact⟨v,hr.sub _ _ _ hv⟩
  obtain⟨cur,T,fr,hh⟩:∃cur T fr,w.heap[b]?=some (.cells cur T fr):=by
   obtain⟨v,hv⟩:=cH 0 fU
   unfold World.cell? at hv
   cases hh:w.heap[b]? with
   | none=>simp[hh]at hv
   | some ob=>
    cases ob <;> simp[hh]at hv
    exact⟨_,_,_,rfl⟩
  have bU:c*esz<=cur.size:=by
   obtain⟨v,hv⟩:=cH (c*esz - 1) (by omega)
   simp only[World.cell?,hh]at hv
   simp at hv
   have:=(Array.getElem?_eq_some_iff.1 hv).1
   omega
  obtain⟨M,hd⟩:=hr.dom
  have gL:Wr w b:=hW _ _ _ hd.p b (hM M hd)
  refine dD.tokUpd key _ (.inr ⟨b,0,n,c,cur,T,fr,rfl,gi,hh,by rw[Nat.zero_add];exact bU,gL cur T fr hh,λo ho _=>by rw[Nat.zero_add]at ho;simp[Mem.cutA,ho]⟩) (λb' hb'=>?_) ?_
  ·have:b'=b:=by simp[Tok.blk]at hb';exact hb'.symm
   subst this
   exact⟨⟨jo,by rw[kh];exact eZ⟩,λk' t' cE ht'=>ZgP q1 k' t' (hr.tkeys k' t' ht') ht' (by simpa using cE)⟩
  ·obtain⟨M1,j7⟩:=dD.dom
   refine⟨M,⟨hd.p,hd.lt,hd.own,hd.tok,hd.mks,λb o v hv=>hd.new b o v (cA _ _ _ hv)⟩,λb' hb'=>?_⟩
   have:b'=b:=by simp[Tok.blk]at hb';exact hb'.symm
   subst this
   exact hM M hd
theorem Rel.unacq{C:Ctx}{S:St}{m:Mem}{a:Act}{w:World}(hr:Rel C S m a w){key:Nat}{t:Tok}(ht:S.tok key=some t):
  ∃zs:List Value,zs.length=(slC t.v - slN t.v)*t.esz/\Rel C { S with tok:=λk=>bif Nat.beq k key then none else S.tok k } (m.addA (slA t.v) (slN t.v*t.esz) zs) a w:=by
 have dD:Rel C { S with tok:=λk=>bif Nat.beq k key then none else S.tok k } m a w:=by
  refine hr.restrict rfl (λ_ _ hx=>hx) (λk t' hk=>?_) (λi sv he=>?_) hr.ids (λk t' hk=>?_)
  ·by_cases e:k=key
   ·subst e;simp at hk
   ·simp[Zam e]at hk;exact .inl hk
  ·obtain⟨v,h1,h2⟩:=hr.env i sv he
   exact⟨v,by cases sv <;> exact h1,h2⟩
  ·by_cases e:k=key
   ·subst e;simp at hk
   ·simp[Zam e]at hk;exact hr.tkeys k t' hk
 obtain⟨g1,g2⟩:=hr.toks key t ht
 rcases g1 with g1|⟨b,o0,n,c,cur,T,fr,hv,gi,hh,bU,eI,cB⟩
 ·rw[g1]
  exact⟨[],by simp[slC,slN],dD⟩
 ·have cZ:t.blk=some b:=by simp[Tok.blk,hv]
  rw[hv]
  simp only[slC,slN,slA]
  have u0:c*t.esz=n*t.esz+(c - n)*t.esz:=by rw[<-Nat.add_mul];congr 1;omega
  obtain⟨P0,nE⟩:∃P0,P0=o0+n*t.esz:=⟨_,rfl⟩
  refine⟨(cur.toList.drop P0).take ((c - n)*t.esz),by simp;omega,?_⟩
  simp only[Mem.addA]
  rw[<-nE]at cB ⊢
  obtain⟨zs,kY⟩:∃zs,zs=(cur.toList.drop (P0)).take ((c - n)*t.esz):=⟨_,rfl⟩
  rw[<-kY]
  have ro:∀q v,zs[q]?=some v->cur[P0+q]?=some v:=λq v hq=>by
   rw[kY,List.getElem?_take]at hq
   split at hq
   ·rw[List.getElem?_drop]at hq;simpa using hq
   ·cases hq
  have cA:m.le (m.addAt b (P0) zs):=λb' o v hv'=>by
   simp only[Mem.addAt]
   split
   ·rename_i hc
    obtain⟨rfl,ho⟩:=hc
    cases hz:zs[o - P0]? with
    | none=>simp only[hz];exact hv'
    | some u=>
     have hq:=(zA0 hz).1
     rw[kY,List.length_take]at hq
     rw[cB o ho (by omega)]at hv';cases hv'
   ·exact hv'
  have gk:∀b',b'≠b->∀o,m.addAt b (P0) zs b' o=m b' o:=λb' hb o=>by simp[Mem.addAt,hb]
  have qN:∀id x,S.L id=some x->x.b≠b:=(g2 b cZ).1
  refine⟨dD.defers,dD.size,dD.env,λid x hx=>?_,dD.apart,dD.ids,λk t' hk=>?_,dD.tkeys,dD.tapart,λb' o v hv'=>?_,mLt dD.le cA,?_⟩
  ·obtain⟨q1,q2,q3,q4⟩:=hr.own id x hx
   exact⟨q1,λhz o=>by rw[gk _ (qN id x hx)];exact q2 hz o,λhz j u hu=>cA _ _ _ (q3 hz j u hu),q4⟩
  ·obtain⟨q1,q2⟩:=dD.toks k t' hk
   refine⟨q1.same (λb' _=>rfl) (λb' o hb' hn=>?_),q2⟩
   have cE:b'≠b:=λe=>by
    subst e
    by_cases e:k=key
    ·subst e;simp at hk
    ·simp[Zam e]at hk
     exact e (hr.tapart k key t' t _ hk ht hb' cZ)
   rw[gk b' cE];exact hn
  ·by_cases hb:b'=b
   ·subst hb
    simp only[Mem.addAt]at hv'
    by_cases ho:P0<=o
    ·simp only[ho,and_self,if_true]at hv'
     cases hz:zs[o - P0]? with
     | none=>simp only[hz]at hv';exact hr.sub _ _ _ hv'
     | some u=>
      simp only[hz]at hv';cases hv'
      have:=ro _ _ hz
      rw[show P0+(o - P0)=o by omega]at this
      simp only[World.cell?,hh]
      simpa using this
    ·simp only[ho,and_false,if_false]at hv';exact hr.sub _ _ _ hv'
   ·rw[gk b' hb]at hv';exact hr.sub _ _ _ hv'
  ·obtain⟨M,hd⟩:=hr.dom
   refine⟨M,hd.p,hd.lt,hd.own,λk t' b' hk hb'=>?_,hd.mks,λb' o v hv'=>?_⟩
   ·by_cases e:k=key
    ·subst e;simp at hk
    ·simp[Zam e]at hk;exact hd.tok k t' b' hk hb'
   ·by_cases hb:b'=b
    ·subst hb;exact .inr (hd.tok key t _ ht cZ)
    ·rw[gk b' hb]at hv';exact hd.new b' o v hv'
theorem Zr4{E:Env}{C:Ctx}(hY:YOk E C){kz:Option (Nat×Nat)}{f:(St->Mem->Prop)->St->Mem->Prop}{K:St->Mem->Prop}{S:St}{m:Mem}{a:Act}{w:World}{p:Prop}(hr:Rel C S m a w)(h:Zr3 E kz f K S m)
  (hf:∀(K':St->Mem->Prop) S' m',Rel C S' m' a w->f K' S' m'->(∀S2 m2 a2 w2,K' S2 m2->Rel C S2 m2 a2 w2->∃S3 m3,K S3 m3/\Rel C S3 m3 a2 w2)->p):p:=by
 unfold Zr3 at h
 split at h
 ·exact hf _ _ _ hr h λS2 m2 a2 w2 hk aG=>⟨S2,m2,hk,aG⟩
 ·rename_i key esz
  obtain⟨h3,h4⟩:=Zad h
  cases eH:E.m0 with
  | none=>simp[eH]at h4
  | some mm=>
   simp only[eH]at h4
   obtain⟨q,n',c,z1,z2,z3⟩:=h4
   refine hf _ _ _ (hr.acq hY eH z1 z2) z3 λS2 m2 a2 w2 hk aG=>?_
   split at hk
   ·exact hk.elim
   ·rename_i t ht
    obtain⟨gK,eK⟩:=Zad hk
    obtain⟨zs,lU,i6⟩:=aG.unacq ht
    exact⟨_,_,eK zs lU,i6⟩
theorem ZhI:∀{A:List (Nat×Shape)} {xs:List Value} {e:Nat->Option SV} {i:Nat} {sv:SV},xs.length=A.length->Zbr e A xs i=some sv->(e i=some sv/\i ∉ A.map (·.1))\/∃(q:Nat)(sh:Shape)(v:Value),A[q]?=some (i,sh)/\xs[q]?=some v/\sv=.v v
 | [],xs,e,i,sv,_,h=>.inl ⟨by simpa[Zbr]using h,by simp⟩
 | (t,s)::A,[],e,i,sv,hl,h=>by simp at hl
 | (t,s)::A,v::xs,e,i,sv,hl,h=>by
  by_cases hi:i=t
  ·subst hi
   simp[Zbr]at h
   exact .inr ⟨0,s,v,by simp,by simp,h.symm⟩
  ·simp only[Zbr,Zam hi,cond_false]at h
   rcases ZhI (by simpa using hl) h with⟨h1,h2⟩|⟨q,sh,u,h1,h2,h3⟩
   ·exact .inl ⟨h1,by simp only[List.map_cons,List.mem_cons,not_or];exact⟨hi,h2⟩⟩
   ·exact .inr ⟨q+1,sh,u,by simpa using h1,by simpa using h2,h3⟩
theorem ZhJ:∀(ps:List Nat)(vs:List Value)(t:Array Value),vs.length=ps.length->ps.Nodup->
  ((ps.zip vs).foldl (λ(t:Array Value)(x:Nat×Value)=>t.setIfInBounds x.1 x.2) t).size=t.size/\
  (∀i,i ∉ ps->((ps.zip vs).foldl (λ(t:Array Value)(x:Nat×Value)=>t.setIfInBounds x.1 x.2) t)[i]?=t[i]?)/\
  (∀(q i:Nat)(v:Value),ps[q]?=some i->vs[q]?=some v->i < t.size->((ps.zip vs).foldl (λ(t:Array Value)(x:Nat×Value)=>t.setIfInBounds x.1 x.2) t)[i]?=some v)
 | [],vs,t,_,_=>⟨rfl,λ_ _=>rfl,λq i v h=>by simp at h⟩
 | p::ps,[],t,h,_=>by simp at h
 | p::ps,v::vs,t,h,hn=>by
  obtain⟨hp,hn⟩:=List.nodup_cons.1 hn
  obtain⟨h1,h2,h3⟩:=ZhJ ps vs (t.setIfInBounds p v) (by simpa using h) hn
  simp only[List.zip_cons_cons,List.foldl_cons]
  refine⟨by simpa using h1,λi hi=>?_,λq i u hq hu aH=>?_⟩
  ·simp only[List.mem_cons,not_or]at hi
   rw[h2 i hi.2,Array.getElem?_setIfInBounds_ne (Ne.symm hi.1)]
  ·cases q with
   | zero=>
    simp at hq hu
    subst hq hu
    rw[h2 p hp]
    simp[aH]
   | succ q=>exact h3 q i u (by simpa using hq) (by simpa using hu) (by simpa using aH)
theorem ZhK:∀{a b:List Nat},ZjZ a b=true->a=b
 | [],[],_=>rfl
 | [],_::_,h=>by simp[ZjZ]at h
 | _::_,[],h=>by simp[ZjZ]at h
 | x::a,y::b,h=>by
  simp only[ZjZ,zA7]at h
  rw[Nat.eq_of_beq_eq_true h.1,ZhK h.2]
theorem Zej:∀{l:List Shape} {x:List Value},Shape.fitsL l x=true->x.length=l.length
 | [],[],_=>rfl
 | [],_::_,h=>by simp[Shape.fitsL]at h
 | _::_,[],h=>by simp[Shape.fitsL]at h
 | _::l,_::x,h=>by
  simp only[Shape.fitsL,zA7]at h
  simp[Zej h.2]
section
variable {C:Ctx} {S:St} {m:Mem} {a:Act} {w w':World} {M M':Nat->Prop}
structure Apart (M':Nat->Prop)(S:St)(m:Mem)(a:Act):Prop where
 box:∀id x,S.L id=some x->¬M' x.b
 tok:∀k t b,S.tok k=some t->t.blk=some b->¬M' b
 mks:∀D,Zhz D∈a.defers->¬M' D
 mem:∀b o v,m b o=some v->¬M' b
theorem Rel.markAt(h:Rel C S m a w){D:Nat}(hD:Zhz D∈a.defers):w.heap[D]?=some (.deferred (some [])):=by
 obtain⟨ms,h1,h2,h3⟩:=h.defers
 rw[h1]at hD
 obtain⟨D',h4,h5⟩:=List.mem_map.1 hD
 have:D'=D:=by simpa[Zhz]using h5
 exact this ▸ h3 D' h4
theorem Rel.foreign(h:Rel C S m a w)(hd:Dom C S m a w M)(hM:∀k,M' k->M k)(dP:Apart M' S m a)(hu:Upd M' w w'):Rel C S m a w'/\Dom C S m a w' (ZrV M w w'):=by
 have hd':Dom C S m a w' (ZrV M w w'):=hd.step ⟨hu.os,hu.tape,hu.output,hu.size,λk hk hn=>hu.block k hk (λhm=>hn (hM k hm)),hu.wr⟩ (λb o v hv=>.inl hv)
 refine⟨⟨?_,h.size,h.env,λid x hx=>?_,h.apart,h.ids,λk t ht=>?_,h.tkeys,h.tapart,λb o v hv=>?_,h.le,⟨_,hd'⟩⟩,hd'⟩
 ·obtain⟨ms,h1,h2,h3⟩:=h.defers
  refine⟨ms,h1,h2,λD hD=>?_⟩
  rw[hu.block D (Array.getElem?_eq_some_iff.1 (h3 D hD)).1 (dP.mks D (by rw[h1];exact List.mem_map.2 ⟨D,hD,rfl⟩))];exact h3 D hD
 ·exact(h.own id x hx).same (hu.block _ (h.own id x hx).lt (dP.box id x hx)) (Mem.le_refl m) (h.own id x hx).free
 ·obtain⟨h1,h2⟩:=h.toks k t ht
  exact⟨h1.same (λb hb=>hu.block b (h1.lt hb) (dP.tok k t b ht hb)) (λ_ _ _ hn=>hn),h2⟩
 ·rw[ZaY (hu.block b (h.sub.lt hv) (dP.mem b o v hv))];exact h.sub b o v hv
theorem Rel.swap{C2:Ctx}{S2:St}{a2:Act}(h:Rel C S m a w)(hn:C2.n=C.n)(hm:C2.m0.le m)(hL:S2.L=S.L)(dI:S2.ids=S.ids)(bP:S2.tok=S.tok)(fW:S2.tkeys=S.tkeys)
  (cX:∀i sv,S2.env i=some sv->∃v,S2.den sv=some v/\a2.tmps[i]?=some v) (bU:a2.tmps.size=C2.n)
  (ic:∃ms:List Nat,a2.defers=ms.map Zhz/\ms.Nodup/\∀D∈ms,w'.heap[D]?=some (.deferred (some [])))
  (fY:∀(k:Nat) c T fr,w.heap[k]?=some (Obj.cells c T fr)->w'.heap[k]?=w.heap[k]?) (bO:∀k t b,S.tok k=some t->t.blk=some b->C2.m0.free b) (hd:∃M,Dom C2 S2 m a2 w' M):Rel C2 S2 m a2 w':=by
 refine⟨ic,bU,cX,λid x hx=>?_,λid id' x x' hx hx'=>?_,λid x hx=>?_,λk t ht=>?_,λk t ht=>?_,λk k' t t' b ht ht'=>?_,λb o v hv=>?_,hm,hd⟩
 ·rw[hL]at hx
  have ho:=h.own id x hx
  obtain⟨sp,fr,hc,_⟩:=ho.cells
  exact ho.same (fY _ _ _ _ hc) (Mem.le_refl m) ho.free
 ·rw[hL]at hx hx';exact h.apart id id' x x' hx hx'
 ·rw[hL]at hx;rw[dI];exact h.ids id x hx
 ·rw[bP]at ht
  obtain⟨h1,h2⟩:=h.toks k t ht
  refine⟨h1.same (λb hb=>?_) (λ_ _ _ hn=>hn),λb hb=>⟨λid x hx=>?_,?_⟩⟩
  ·rcases h1 with h1|⟨b',o0,n,c,cur,T,fr,hv,_,hh,_⟩
   ·simp[Tok.blk,h1]at hb
   ·simp[Tok.blk,hv]at hb;subst hb;exact fY _ _ _ _ hh
  ·rw[hL]at hx;exact(h2 b hb).1 id x hx
  ·exact bO k t b ht hb
 ·rw[bP]at ht;rw[fW];exact h.tkeys k t ht
 ·rw[bP]at ht ht';exact h.tapart k k' t t' b ht ht'
 ·have h1:=h.sub b o v hv
  have:∃c T fr,w.heap[b]?=some (Obj.cells c T fr):=by
   unfold World.cell? at h1
   split at h1
   ·rename_i c T fr hc;exact⟨c,T,fr,hc⟩
   ·cases h1
  obtain⟨c,T,fr,hc⟩:=this
  rw[ZaY (fY _ _ _ _ hc)];exact h1
end
def Ztd(C:Ctx)(X:Nat->Prop)(h:Nat->Option Obj)(B:Nat):Ctx where
 n:=C.n
 m0:=C.m0
 p:=λg Mr w=>∃M,C.p g M w/\(∀k,M k->k < w.heap.size)/\(∀k,Mr k->M k)/\(∀k,X k->M k/\¬Mr k/\w.heap[k]?=h k)/\B<=w.heap.size
 st:=by
  rintro g Mr M2 w w' ⟨M,h1,h2,h3,h4,h5⟩ hu hg
  refine⟨ZrV M w w',C.st g M _ w w' h1 ⟨hu.os,hu.tape,hu.output,hu.size,λk hk hn=>hu.block k hk (λhm=>hn (h3 k hm)),hu.wr⟩ (λ_ hk=>hk),?_,?_,?_,Nat.le_trans h5 hu.size⟩
  ·rintro k (hk|hk)
   ·exact Nat.lt_of_lt_of_le (h2 k hk) hu.size
   ·exact hk.2.1
  ·intro k hk
   exact(hg k hk).imp_left (h3 k)
  ·intro k hk
   obtain⟨g1,g2,g3⟩:=h4 k hk
   have aH:=h2 k g1
   refine⟨.inl g1,λhm=>?_,?_⟩
   ·rcases hg k hm with h|h
    ·exact g2 h
    ·omega
   ·rw[hu.block k aH g2];exact g3
theorem ZnP{E:Env}{C:Ctx}{X:Nat->Prop}{h:Nat->Option Obj}{B:Nat}(hY:YOk E C):YOk E (Ztd C X h B):=by
 refine⟨?_,λmm eR=>⟨(hY.m0 mm eR).1,λg Mr w ⟨M,h1,h2,h3,h4,h5⟩ k hk=>(hY.m0 mm eR).2 g M w h1 k (h3 k hk)⟩⟩
 rintro Y u2 F n l g v Mr w hF aH hy ⟨M,h1,h2,h3,h4,h5⟩ hs
 obtain⟨fn,tmps,asg,bdy,nP,fV⟩:=hY.y Y u2 F n l g v M w hF h2 hy h1 hs
 refine⟨fn,tmps,asg,bdy,nP,fV.mono ?_⟩
 rintro e w' ⟨b,rfl,hp,hf⟩
 refine⟨b,rfl,⟨M,hp,λk hk=>Nat.lt_of_lt_of_le (h2 k hk) hf.size,h3,λk hk=>?_,Nat.le_trans h5 hf.size⟩,hf.size,λk hk hm=>hf.block k hk (h3 k hm),hf.sub⟩
 obtain⟨g1,g2,g3⟩:=h4 k hk
 exact⟨g1,g2,by rw[hf.block k (h2 k g1) g1];exact g3⟩
def ROk(F:Fence)(C:Ctx):Prop:=∀l,F.round=some l->∀g M w,C.p g M w->∃r,w.heap[l]?=some (.loop r)
def Zim:Obj->Bool
 | .cells _ _ _=>false
 | _=>true
theorem Zla{o:Obj}(h:Zim o=true):Zp8 o:=λc T fr e=>by subst e;simp[Zim]at h
theorem ZeU{M:Nat->Prop}{w:World}{l:Nat}{o:Obj}(ho:Zim o=true)(hl:M l):Upd M w (w.putObj l o):=
 ⟨rfl,rfl,rfl,by simp[World.putObj],λk hk hn=>World.putObj_heap_other (λe=>hn (e ▸ hl)),λk _ hk c T fr hh i hi=>by
  by_cases e:k=l
  ·subst e
   by_cases aH:k < w.heap.size
   ·rw[World.putObj_heap_same aH]at hh
    exact Zla ho c T fr (Option.some.inj hh) i hi
   ·have h1:=(Array.getElem?_eq_some_iff.1 hh).1
    have h2:(w.putObj k o).heap.size=w.heap.size:=by simp[World.putObj]
    omega
  ·rw[World.putObj_heap_other e]at hh;exact hk c T fr hh i hi⟩
theorem ZcO(w:World)(l:Nat)(o:Obj):(w.putObj l o).heap.size=w.heap.size:=by simp[World.putObj]
theorem FOk.inRound{F:Fence}(h:FOk F)(l:Nat):FOk (F.inRound l):=by
 rcases h with rfl|⟨l',rfl⟩
 ·exact .inr ⟨l,rfl⟩
 ·exact .inr ⟨l,rfl⟩
section
variable {C:Ctx} {S:St} {m:Mem} {a:Act} {w w':World} {M M':Nat->Prop}
theorem Rel.alloc(h:Rel C S m a w)(hd:Dom C S m a w M){o:Obj}(ho:Zim o=true):Rel C S m a (w.alloc o)/\Dom C S m a (w.alloc o) (ZrV M w (w.alloc o)):=by
 have hk:Keep w.heap.size [] w (w.alloc o):=Keep.alloc (Nat.le_refl _) (Zla ho)
 refine⟨h.world hk (λb o' v hv=>?_) (Mem.le_refl m) (λ_ _ _ hv=>.inl hv),hd.step (hk.upd (by simp)) (λb o v hv=>.inl hv)⟩
 rw[ZaY (Below.heap_alloc w _ b (h.sub.lt hv))];exact h.sub _ _ _ hv
theorem ZeV(M:Nat->Prop)(w:World)(o:Obj)(ho:Zp8 o):ZrV M w (w.alloc o) w.heap.size:=.inr ⟨Nat.le_refl _,by simp,Wr.new ho⟩
theorem Rel.enter{P:Program}(hr:Rel C S m a w){F:Fence}(hR:ROk F C)(fn:FuncId)(ps:Array Tmp)(asg bdy:Code):
  ∃l mk w1 D,(Instr.enterLoop fn a.tmps ps asg bdy F.round).run P w=.ok (l,mk) w1/\Rel C S m { a with defers:=mk++a.defers } w1/\(∃M,Dom C S m { a with defers:=mk++a.defers } w1 M/\M l)/\
   w1.heap[l]?=some (.loop { state:=.ready,pending:=none,fn,tmps:=a.tmps,params:=ps,assign:=asg,body:=bdy,defers:=D }):=by
 obtain⟨M,hd⟩:=hr.dom
 cases rp:F.round with
 | none=>
  obtain⟨h1,d1⟩:=hr.alloc hd (o:=.deferred (some [])) rfl
  obtain⟨h2,d2⟩:=h1.alloc d1 (o:=.loop { state:=.ready,pending:=none,fn,tmps:=a.tmps,params:=ps,assign:=asg,body:=bdy,defers:=w.heap.size }) rfl
  have e1:(w.alloc (.deferred (some []))).heap.size=w.heap.size+1:=by simp
  have g1:((w.alloc (.deferred (some []))).alloc (.loop { state:=.ready,pending:=none,fn,tmps:=a.tmps,params:=ps,assign:=asg,body:=bdy,defers:=w.heap.size })).heap[w.heap.size]?=some (.deferred (some [])):=by
   rw[Below.heap_alloc _ _ _ (by simp)];exact heap_alloc_new w _
  refine⟨_,_,_,w.heap.size,run_enterLoop_outer _ _ _ _ _,?_,?_,?_⟩
  ·obtain⟨ms,k1,k2,k3⟩:=h2.defers
   have hD:∃M,Dom C S m { a with defers:=[Zhz w.heap.size]++a.defers } ((w.alloc (.deferred (some []))).alloc (.loop { state:=.ready,pending:=none,fn,tmps:=a.tmps,params:=ps,assign:=asg,body:=bdy,defers:=w.heap.size })) M:=
    ⟨_,d2.p,d2.lt,d2.own,d2.tok,λD hD=>by
     simp only[List.singleton_append,List.mem_cons]at hD
     rcases hD with hD|hD
     ·have:D=w.heap.size:=by simpa[Zhz]using hD
      subst this
      exact .inl (ZeV _ _ _ (λc T fr e=>by cases e))
     ·exact d2.mks D hD,d2.new⟩
   refine⟨⟨w.heap.size::ms,by simp[k1,Zhz],?_,?_⟩,h2.size,h2.env,h2.own,h2.apart,h2.ids,h2.toks,h2.tkeys,h2.tapart,h2.sub,h2.le,hD⟩
   ·refine List.nodup_cons.2 ⟨λhm=>?_,k2⟩
    obtain⟨ms',q1,q2,q3⟩:=hr.defers
    have:w.heap.size∈ms':=by
     have e:Zhz w.heap.size∈a.defers:=by
      have:a.defers=ms.map Zhz:=k1
      rw[this];exact List.mem_map.2 ⟨_,hm,rfl⟩
     rw[q1]at e
     obtain⟨D',r1,r2⟩:=List.mem_map.1 e
     have:D'=w.heap.size:=by simpa[Zhz]using r2
     exact this ▸ r1
    have:=(Array.getElem?_eq_some_iff.1 (q3 _ this)).1
    omega
   ·intro D hD
    rcases List.mem_cons.1 hD with rfl|hD
    ·exact g1
    ·exact k3 D hD
  ·refine⟨_,⟨d2.p,d2.lt,d2.own,d2.tok,λD hD=>?_,d2.new⟩,by rw[<-e1];exact ZeV _ _ _ (λc T fr e=>by cases e)⟩
   simp only[List.singleton_append,List.mem_cons]at hD
   rcases hD with hD|hD
   ·have:D=w.heap.size:=by simpa[Zhz]using hD
    subst this
    exact .inl (ZeV _ _ _ (λc T fr e=>by cases e))
   ·exact d2.mks D hD
  ·rw[<-e1];exact heap_alloc_new _ _
 | some l0=>
  obtain⟨r0,h0⟩:=hR l0 rp _ _ _ hd.p
  obtain⟨h1,d1⟩:=hr.alloc hd (o:=.loop { state:=.ready,pending:=none,fn,tmps:=a.tmps,params:=ps,assign:=asg,body:=bdy,defers:=r0.defers }) rfl
  exact⟨_,_,_,r0.defers,run_enterLoop_inner h0 _ _ _ _ _,h1,⟨_,d1,ZeV _ _ _ (λc T fr e=>by cases e)⟩,heap_alloc_new _ _⟩
theorem Zlb{S:St}{ds:List Nat}{A:LoopAnn}{g:Int}{xs:List Value}{css:List (List Value)}{tvs:List Value}{sv:SV}{v:Value}(h:S.den sv=some v):(ZbA S ds A g xs css tvs).den sv=some v:=by
 cases sv with
 | v u=>exact h
 | loc id off=>
  simp only[St.den]at h ⊢
  cases hx:S.L id with
  | none=>simp[hx]at h
  | some x=>
   obtain⟨y,hy,hb⟩:=ZdD (l:=A.boxes) (css:=css) hx
   simp only[hx]at h
   simp only[ZbA,hy,hb];exact h
 | sl id n c=>
  simp only[St.den]at h ⊢
  cases hx:S.L id with
  | none=>simp[hx]at h
  | some x=>
   obtain⟨y,hy,hb⟩:=ZdD (l:=A.boxes) (css:=css) hx
   simp only[hx]at h
   simp only[ZbA,hy,hb];exact h
end
def Zo1(E:Env)(T:KT->St->Mem->Prop)(c:Code):Prop:=
 ∀{F:Fence} (_:FOk F) {C:Ctx} (_:YOk E C) (_:ROk F C) (n:Nat),Zbf C.n c=true->∀{S:St} {m:Mem} {a:Act} {w:World} {K:KT} {Q:Exit->Act->World->Prop},Rel C S m a w->T K S m->
  (∀e S' m' a' w',K e S' m'->Rel C S' m' a' w'->Q e a' w')->c.wpIn F n E.P Q a w
def ZnQ(tvs:List Value):Prop:=∀v∈tvs,ZdK v=true
def Zr5(K:KT)(c:Code)(S:St)(m:Mem):Prop:=match c with
 | .ret=>K .ret S m
 | .exit id=>K (.exit id) S m
 | .goto l=>K (.goto l) S m
 | _=>False
section
variable {C:Ctx} {S:St} {m:Mem} {a:Act} {w w':World} {M M':Nat->Prop}
def ZfR(fn:FuncId)(tmps:Array Value)(ps:Array Tmp)(x y:Code)(D:Nat)(st:LoopState)(pe:Option Code):Loop:=
 {state:=st,pending:=pe,fn,tmps,params:=ps,assign:=x,body:=y,defers:=D }
def Zo2(C:Ctx)(S:St)(m:Mem)(A:LoopAnn)(I:List Value->List (List Value)->List Value->Mem->Nat->Prop)(K:KT)(a1:Act)(l:Nat)(rec:LoopState->Option Code->Loop)(k:Int)(M':Nat->Prop)(W:World):Prop:=
 ∃(g:Int) (css:List (List Value)) (tvs:List Value) (m':Mem),css.length=A.boxes.length/\tvs.length=A.toks.length/\ZnQ tvs/\(A.gh=false->g=S.gh)/\m.le m'/\
  Rel C (ZbA S [] { A with slots:=[] } g [] css tvs) m' a1 W/\
  (∃M,Dom C (ZbA S [] { A with slots:=[] } g [] css tvs) m' a1 W M/\M l/\¬M' l/\(∀k,M' k->M k)/\Apart M' (ZbA S [] { A with slots:=[] } g [] css tvs) m' a1)/\
  ((0<=k/\I (ghs A.gh g []) css tvs m' k.toNat/\W.heap[l]?=some (.loop (rec .ready none)))\/
   (k=-1/\∃c,W.heap[l]?=some (.loop (rec .done (some c)))/\Zr5 K c (ZbA S [] { A with slots:=[] } g [] css tvs) m'))
theorem Zj1{A:LoopAnn}{I:List Value->List (List Value)->List Value->Mem->Nat->Prop}{K:KT}{a1:Act}{l:Nat}{rec:LoopState->Option Code->Loop}:Zr0 (Zo2 C S m A I K a1 l rec):=by
 rintro k M' M2 W W' ⟨g,css,tvs,m',h1,h2,h3,h4,h5,hr,⟨M,hd,hl,hl',hM,dP⟩,hc⟩ hu hg
 obtain⟨ge,rq⟩:=hr.foreign hd hM dP hu
 have dU:=hd.lt l hl
 have u4:W'.heap[l]?=W.heap[l]?:=hu.block l dU hl'
 have key:∀k,k < W.heap.size->¬M' k->¬M2 k:=λk hk hn h=>by
  rcases hg k h with h|h
  ·exact hn h
  ·omega
 refine⟨g,css,tvs,m',h1,h2,h3,h4,h5,ge,⟨_,rq,.inl hl,key l dU hl',λk hk=>?_,?_⟩,?_⟩
 ·rcases hg k hk with h|h
  ·exact .inl (hM k h)
  ·exact .inr h
 ·refine⟨λid x hx=>key _ (hr.own id x hx).lt (dP.box id x hx),λk t b ht hb=>key _ ((hr.toks k t ht).1.lt hb) (dP.tok k t b ht hb),λD hD=>key _ (hd.lt D (hd.mks D hD)) (dP.mks D hD),λb o v hv=>key _ (hr.sub.lt hv) (dP.mem b o v hv)⟩
 ·rw[u4];exact hc
end
section
variable {C:Ctx} {S:St} {m:Mem} {a:Act} {w w':World} {M M':Nat->Prop}
theorem Zr6{a b:Nat}(h:Nat.blt a b=true):a < b:=by simpa[Nat.blt_eq]using h
theorem ZbS{w:World}{k l:Nat}{c T fr}{r:Loop}(h:w.heap[k]?=some (.cells c T fr))(hl:w.heap[l]?=some (.loop r)):k≠l:=λe=>by subst e;rw[h]at hl;cases hl
theorem Zgc{w:World}{k l:Nat}{c T fr d}(h:w.heap[k]?=some (.cells c T fr))(hl:w.heap[l]?=some (.deferred d)):k≠l:=λe=>by subst e;rw[h]at hl;cases hl
theorem Own.isCells{m:Mem}{w:World}{x:Box}(h:Own m w x):∃c T fr,w.heap[x.b]?=some (.cells c T fr):=by
 obtain⟨sp,fr,hh,_⟩:=h.cells
 exact⟨_,_,_,hh⟩
theorem TokOk.isCells{m:Mem}{w:World}{t:Tok}(h:TokOk m w t){b:Nat}(hb:t.blk=some b):∃c T fr,w.heap[b]?=some (.cells c T fr):=by
 rcases h with h|⟨b',o0,n,c,cur,T,fr,hv,_,hh,_⟩
 ·simp[Tok.blk,h]at hb
 ·simp[Tok.blk,hv]at hb;subst hb;exact⟨_,_,_,hh⟩
theorem Sub.isCells{m:Mem}{w:World}(h:Sub m w){b o:Nat}{v:Value}(hv:m b o=some v):∃c T fr,w.heap[b]?=some (.cells c T fr):=by
 have h1:=h b o v hv
 unfold World.cell? at h1
 split at h1
 ·rename_i c T fr hc;exact⟨c,T,fr,hc⟩
 ·cases h1
theorem Rel.intoRound{S0 S1:St}{a1:Act}{l:Nat}{r:Loop}{tm:Array Value}(hr:Rel C S0 m a1 w)(hd:Dom C S0 m a1 w M)(hl:M l)(hl':¬M' l)(hM:∀k,M' k->M k)(dP:Apart M' S0 m a1)(dJ:w.heap[l]?=some (.loop r))
  (hL:S1.L=S0.L) (dI:S1.ids=S0.ids) (bP:S1.tok=S0.tok) (fW:S1.tkeys=S0.tkeys) (hg:S1.gh=S0.gh) (bU:tm.size=C.n) (cX:∀i sv,S1.env i=some sv->∃v,S1.den sv=some v/\tm[i]?=some v):
  Rel (Ztd C (λk=>M' k\/k=l\/Zhz k∈a1.defers) (λk=>w.heap[k]?) w.heap.size) S1 m { tmps:=tm,defers:=[] } w:=by
 have hX:∀k,(∃c T fr,w.heap[k]?=some (.cells c T fr))->¬M' k->¬(M' k\/k=l\/Zhz k∈a1.defers):=by
  rintro k ⟨c,T,fr,hk⟩ hn (h|h|h)
  ·exact hn h
  ·exact ZbS hk dJ h
  ·exact Zgc hk (hr.markAt h) rfl
 refine hr.swap rfl hr.le hL dI bP fW cX bU ⟨[],rfl,List.nodup_nil,by simp⟩ (λ_ _ _ _ _=>rfl) (λk t b ht hb=>((hr.toks k t ht).2 b hb).2) ⟨λk=>M k/\¬(M' k\/k=l\/Zhz k∈a1.defers),?_,λk hk=>hd.lt k hk.1,λid x hx=>?_,λk t b ht hb=>?_,by simp,λb o v hv=>?_⟩
 ·rw[hg]
  refine⟨M,hd.p,hd.lt,λk hk=>hk.1,λk hk=>⟨?_,λh=>h.2 hk,rfl⟩,Nat.le_refl _⟩
  rcases hk with h|h|h
  ·exact hM k h
  ·exact h ▸ hl
  ·exact hd.mks k h
 ·rw[hL]at hx
  exact⟨hd.own id x hx,hX _ (hr.own id x hx).isCells (dP.box id x hx)⟩
 ·rw[bP]at ht
  exact⟨hd.tok k t b ht hb,hX _ ((hr.toks k t ht).1.isCells hb) (dP.tok k t b ht hb)⟩
 ·exact(hd.new b o v hv).imp_right λh=>⟨h,hX _ (hr.sub.isCells hv) (dP.mem b o v hv)⟩
theorem Rel.beginRound{X:Nat->Prop}{h1:Nat->Option Obj}{B:Nat}{S1:St}{ar:Act}{l:Nat}{r r':Loop}(hr:Rel (Ztd C X h1 B) S1 m ar w)(hl:X l)(dJ:w.heap[l]?=some (.loop r)):
  Rel (Ztd C X (λk=>(w.putObj l (.loop r')).heap[k]?) B) S1 m ar (w.putObj l (.loop r')):=by
 have cE:∀(k:Nat) c T fr,w.heap[k]?=some (Obj.cells c T fr)->(w.putObj l (.loop r')).heap[k]?=w.heap[k]?:=λk c T fr hk=>World.putObj_heap_other (ZbS hk dJ)
 obtain⟨ms,q1,q2,q3⟩:=hr.defers
 refine hr.swap rfl hr.le rfl rfl rfl rfl hr.env hr.size ⟨ms,q1,q2,λD hD=>?_⟩ cE (λk t b ht hb=>((hr.toks k t ht).2 b hb).2) ?_
 ·rw[World.putObj_heap_other (λe=>by have:=q3 D hD;rw[e,dJ]at this;cases this)];exact q3 D hD
 ·obtain⟨Mr,hd⟩:=hr.dom
  obtain⟨M,p1,p2,p3,p4,p5⟩:=hd.p
  refine⟨Mr,⟨M,C.st _ M M _ _ p1 (ZeU rfl (p4 l hl).1) (λk hk=>.inl hk),λk hk=>by rw[ZcO];exact p2 k hk,p3,λk hk=>⟨(p4 k hk).1,(p4 k hk).2.1,rfl⟩,by rw[ZcO];exact p5⟩,λk hk=>by rw[ZcO];exact hd.lt k hk,hd.own,hd.tok,hd.mks,hd.new⟩
theorem Rel.outOfRound{X:Nat->Prop}{h1:Nat->Option Obj}{B:Nat}{S' S2:St}{a3 a1:Act}{l:Nat}{r r':Loop}(hr:Rel (Ztd C X h1 B) S' m a3 w)(hl:X l)(dJ:w.heap[l]?=some (.loop r))
  (eH:∀b o v,C.m0 b o=some v->¬X b) (u5:∀D,Zhz D∈a1.defers->X D) (hX':∀k,M' k->X k) (u6:∀D,Zhz D∈a1.defers->¬M' D)
  (hL:S2.L=S'.L) (dI:S2.ids=S'.ids) (bP:S2.tok=S'.tok) (fW:S2.tkeys=S'.tkeys) (hg:S2.gh=S'.gh) (bU:a1.tmps.size=C.n) (cX:∀i sv,S2.env i=some sv->∃v,S2.den sv=some v/\a1.tmps[i]?=some v)
  (ic:∃ms:List Nat,a1.defers=ms.map Zhz/\ms.Nodup/\∀D∈ms,w.heap[D]?=some (.deferred (some []))):
  Rel C S2 m a1 (w.putObj l (.loop r'))/\∃M,Dom C S2 m a1 (w.putObj l (.loop r')) M/\M l/\(∀k,M' k->M k)/\Apart M' S2 m a1:=by
 have cE:∀(k:Nat) c T fr,w.heap[k]?=some (Obj.cells c T fr)->(w.putObj l (.loop r')).heap[k]?=w.heap[k]?:=λk c T fr hk=>World.putObj_heap_other (ZbS hk dJ)
 obtain⟨ms,q1,q2,q3⟩:=ic
 obtain⟨Mr,hd⟩:=hr.dom
 obtain⟨M,p1,p2,p3,p4,p5⟩:=hd.p
 have hD:Dom C S2 m a1 (w.putObj l (.loop r')) M:=by
  refine⟨hg ▸ C.st _ M M _ _ p1 (ZeU rfl (p4 l hl).1) (λk hk=>.inl hk),λk hk=>by rw[ZcO];exact p2 k hk,λid x hx=>p3 _ (hd.own id x (hL ▸ hx)),λk t b ht hb=>p3 _ (hd.tok k t b (bP ▸ ht) hb),λD hD=>(p4 D (u5 D hD)).1,λb o v hv=>(hd.new b o v hv).imp_right (p3 b)⟩
 refine⟨hr.swap rfl hr.le hL dI bP fW cX bU ⟨ms,q1,q2,λD hD=>?_⟩ cE (λk t b ht hb=>((hr.toks k t ht).2 b hb).2) ⟨M,hD⟩,?_⟩
 ·rw[World.putObj_heap_other (λe=>by have:=q3 D hD;rw[e,dJ]at this;cases this)];exact q3 D hD
 ·refine⟨M,hD,(p4 l hl).1,λk hk=>(p4 k (hX' k hk)).1,?_⟩
  refine⟨λid x hx h=>(p4 _ (hX' _ h)).2.1 (hd.own id x (hL ▸ hx)),λk t b ht hb h=>(p4 _ (hX' _ h)).2.1 (hd.tok k t b (bP ▸ ht) hb),u6,λb o v hv h=>?_⟩
  rcases hd.new b o v hv with h2|h2
  ·exact eH b o v h2 (hX' b h)
  ·exact(p4 b (hX' b h)).2.1 h2
theorem Rel.atX{X:Nat->Prop}{h1:Nat->Option Obj}{B:Nat}{S':St}{a3:Act}(hr:Rel (Ztd C X h1 B) S' m a3 w):B<=w.heap.size/\∀k,X k->w.heap[k]?=h1 k:=by
 obtain⟨Mr,hd⟩:=hr.dom
 obtain⟨M,p1,p2,p3,p4,p5⟩:=hd.p
 exact⟨p5,λk hk=>(p4 k hk).2.2⟩
theorem Zj2{th:Bool}{E:Env}{A:LoopAnn}{I:List Value->List (List Value)->List Value->Mem->Nat->Prop}{K:KT}{a1:Act}{l:Nat}{fn:FuncId}{ps:Array Tmp}{x y:Code}{D:Nat}{Tx Ty:KT->St->Mem->Prop}{xs:List (List Value)}
  (rr:Zo1 E Tx x) (ru:Zo1 E Ty y) (rv:∀{K:KT} {S:St} {m:Mem},Tx K S m->Tx (λe S' m'=>K e S' m'/\leT th m m') S m) (rx:∀{K:KT} {S:St} {m:Mem},Ty K S m->Ty (λe S' m'=>K e S' m'/\leT th m m') S m) (qi:YOk E C) (ry:Zbf C.n x=true) (rz:Zbf C.n y=true) (rA:ps.toList.all (Nat.blt · C.n)=true) (hS:StOk S) (bU:a1.tmps.size=C.n) (cX:∀i sv,S.env i=some sv->∃v,S.den sv=some v/\a1.tmps[i]?=some v)
  (u9:ZjZ ps.toList (A.slots.map (·.1))=true) (kZ:ZaU ps.toList=true) (dF:∀v∈xs,Shape.fitsL (A.slots.map (·.2)) v=true)
  (hb:Ztc A.gh S.gh λy=>Shape.allL (A.slots.map (·.2)) λx=>ZkZ A.boxes λcss=>Zk0 A.toks λtvs=>∀(m':Mem)(n:Nat),m.le m'->xs[n]?=some x->I (ghs A.gh y []) css tvs m' n->
     Tx (λe S1 m1=>match e with
      | .normal=>Ty (λe S' m''=>Zuc th m m'' (Zjc A.gh S'.gh S.gh (Zkw (ZbG S' A S.ids) (ZbG S A S.ids) (Zkx (ZaS S' A S.tkeys) (ZaS S A S.tkeys) (Zqe S' A.boxes λcss'=>ZeR S' A.toks λtvs'=>match e with
       | .normal=>I (ghs A.gh S'.gh []) css' tvs' m'' (n+1)
       | e=>Zk1 K e (ZbA S [] { A with slots:=[] } S'.gh [] css' tvs') m''))))) S1 m1
      | _=>False) (ZbA S [] A y x css tvs) m'):
  Zi7 E.P m (Zo2 C S m A I K a1 l (ZfR fn a1.tmps ps x y D)) (λl' g v=>l'=l/\0<=g/\xs[g.toNat]?=some v):=by
 rintro F n l' k v M' w hF aH ⟨rfl,xh,t6⟩ ⟨g,css,tvs,m',h1,h2,h3,h4,h5,hr,⟨M,hd,hl,hl',hM,dP⟩,hc⟩ cW
 rcases hc with⟨_,hI,dJ⟩|⟨gK,_⟩
 rotate_left
 ·omega
 have kr:=ZhK u9
 have rB:=dF v (zA2 t6)
 have jf:v.length=ps.toList.length:=by rw[kr,Zej rB];simp
 have dQ:=ZaC kZ
 have hy:=run_yield (P:=E.P) (args:=v.toArray) dJ (by simpa[ZfR]using jf)
 simp only[ZfR]at hy
 refine⟨_,_,_,_,hy,roundIn_of_wpIn (hF.fn _) ?_⟩
 have nS:((ps.zip v.toArray).foldl (λtmps (x:Tmp×Value)=>tmps.setIfInBounds x.1 x.2) a1.tmps)=((ps.toList.zip v).foldl (λ(t:Array Value)(x:Nat×Value)=>t.setIfInBounds x.1 x.2) a1.tmps):=by
  rw[<-Array.foldl_toList,Array.toList_zip]
 obtain⟨f1,f2,f3⟩:=ZhJ ps.toList v a1.tmps jf dQ
 have rC:=hF.inRound l'
 have dD:=hr.intoRound (S1:=ZbA S [] A g v css tvs) (tm:=(ps.toList.zip v).foldl (λ(t:Array Value)(x:Nat×Value)=>t.setIfInBounds x.1 x.2) a1.tmps) hd hl hl' hM dP dJ rfl rfl rfl rfl rfl (by rw[f1];exact bU) (by
  intro i sv he
  simp only[ZbA]at he
  rcases ZhI (by rw[Zej rB];simp) he with⟨g1,g2⟩|⟨q,sh,u,g1,g2,g3⟩
  ·simp only[List.any_nil,cond_false]at g1
   obtain⟨u,g3,g4⟩:=cX i sv g1
   exact⟨u,Zlb g3,by rw[f2 i (by rw[kr];exact g2)];exact g4⟩
  ·subst g3
   refine⟨u,rfl,f3 q i u ?_ g2 ?_⟩
   ·rw[kr,List.getElem?_map,g1];rfl
   ·have:i∈ps.toList:=by rw[kr];exact List.mem_map.2 ⟨_,zA2 g1,rfl⟩
    have:=List.all_eq_true.1 rA i this
    rw[bU];exact Zr6 this)
 rw[nS]
 have vb:∀b o v,C.m0 b o=some v->¬(M' b\/b=l'\/Zhz b∈a1.defers):=by
  intro b o v hv
  have hv':m' b o=some v:=hr.le b o v hv
  obtain⟨c,T,fr,hc⟩:=hr.sub.isCells hv'
  rintro(h|h|h)
  ·exact dP.mem b o v hv' h
  ·exact ZbS hc dJ h
  ·exact Zgc hc (hr.markAt h) rfl
 have dE:=ZdC (ZdB (Shape.allL_fits _ _ (Zf5 hb h4) v rB) css h1) tvs h2 h3 m' k.toNat h5 t6 hI
 refine rr rC (ZnP qi) ?_ n ry dD (rv dE) ?_
 ·intro l2 k5 g2 Mr w2 hp
  have:l2=l':=by simpa using k5.symm
  subst this
  obtain⟨M2,_,_,_,p4,_⟩:=hp
  exact⟨_,by rw[(p4 l2 (.inr (.inl rfl))).2.2];exact dJ⟩
 rintro e S1 m1 a2 w1 ⟨hk,jB⟩ ge
 cases e with
 | normal=>
  obtain⟨z1,z2⟩:=ge.atX
  have jC:w1.heap[l']?=some (.loop (ZfR fn a1.tmps ps x y D .ready none)):=by rw[z2 l' (.inr (.inl rfl))];exact dJ
  refine⟨_,run_beginRound jC rfl,?_⟩
  have rD:=ge.beginRound (r':={ ZfR fn a1.tmps ps x y D .ready none with state:=.busy }) (.inr (.inl rfl)) jC
  have nk:l' < w1.heap.size:=(Array.getElem?_eq_some_iff.1 jC).1
  have dT:(w1.putObj l' (.loop { ZfR fn a1.tmps ps x y D .ready none with state:=.busy })).heap[l']?=some (.loop { ZfR fn a1.tmps ps x y D .ready none with state:=.busy }):=World.putObj_heap_same nk
  refine ru rC (ZnP qi) ?_ n rz rD (rx hk) ?_
  ·intro l2 k5 g2 Mr w2 hp
   have:l2=l':=by simpa using k5.symm
   subst this
   obtain⟨M2,_,_,_,p4,_⟩:=hp
   exact⟨_,by rw[(p4 l2 (.inr (.inl rfl))).2.2];exact dT⟩
  rintro e S' m'' a3 w3 ⟨hk,jD⟩ qj
  obtain⟨q0,hk⟩:=ZoU hk
  obtain⟨q1,hk⟩:=Zdy hk
  obtain⟨q2,hk⟩:=Zcx.1 hk
  obtain⟨q3,hk⟩:=Zcy.1 hk
  obtain⟨css',g1,g2,hk⟩:=ZcN hk
  obtain⟨tvs',k1,k2,hk⟩:=ZbM hk
  obtain⟨y1,y2⟩:=qj.atX
  have iy:w3.heap[l']?=some (.loop { ZfR fn a1.tmps ps x y D .ready none with state:=.busy }):=by rw[y2 l' (.inr (.inl rfl))];exact dT
  have nj:m.le m'':=by
   cases th with
   | true=>exact q0 rfl
   | false=>exact mLt h5 (mLt jB jD)
  have hx:Rel (Ztd C (λk=>M' k\/k=l'\/Zhz k∈a1.defers) (λk=>(w1.putObj l' (.loop { ZfR fn a1.tmps ps x y D .ready none with state:=.busy })).heap[k]?) w.heap.size) (ZbA { S with env:=λ_=>none } [] { A with slots:=[] } S'.gh [] css' tvs') m'' a3 w3:=by
   have hh:Rel (Ztd C (λk=>M' k\/k=l'\/Zhz k∈a1.defers) (λk=>(w1.putObj l' (.loop { ZfR fn a1.tmps ps x y D .ready none with state:=.busy })).heap[k]?) w.heap.size) { S' with env:=λ_=>none } m'' a3 w3:=
    qj.restrict rfl (λ_ _ h=>h) (λ_ _ h=>.inl h) (λi sv h=>(by cases h)) qj.ids qj.tkeys
   exact ZdS (S:={ S with env:=λ_=>none }) (S':={ S' with env:=λ_=>none }) (A:={ A with slots:=[] }) ⟨λi sv h=>(by cases h),hS.ids,hS.tkeys⟩ hh (λ_ _=>rfl) q2 q3 (by simp) g1 g2 k1 k2
  have ic:∃ms:List Nat,a1.defers=ms.map Zhz/\ms.Nodup/\∀D∈ms,w3.heap[D]?=some (.deferred (some [])):=by
   obtain⟨ms,r1,r2,r3⟩:=hr.defers
   refine⟨ms,r1,r2,λD' hD'=>?_⟩
   have hm:Zhz D'∈a1.defers:=by rw[r1];exact List.mem_map.2 ⟨_,hD',rfl⟩
   rw[y2 D' (.inr (.inr hm)),World.putObj_heap_other (λe=>by have:=r3 D' hD';rw[e,dJ]at this;cases this),z2 D' (.inr (.inr hm))];exact r3 D' hD'
  have eT:=λ(r':Loop)=>hx.outOfRound (S2:=ZbA S [] { A with slots:=[] } S'.gh [] css' tvs') (a1:=a1) (M':=M') (r':=r') (.inr (.inl rfl)) iy vb (λD' hD'=>.inr (.inr hD')) (λk hk=>.inl hk) dP.mks rfl rfl rfl rfl rfl bU (by
   intro i sv he
   simp only[ZbA,Zbr,List.any_nil,cond_false]at he
   obtain⟨u,g3,g4⟩:=cX i sv he
   exact⟨u,Zlb g3,g4⟩) ic
  have t7:l' < w3.heap.size:=(Array.getElem?_eq_some_iff.1 iy).1
  have nT:∀r',Frn m M' w (w3.putObj l' (.loop r')):=λr'=>by
   refine⟨by rw[ZcO];exact y1,λk hk rE=>?_,λb o v hv=>?_⟩
   ·have cE:k≠l':=λe=>hl' (e ▸ rE)
    rw[World.putObj_heap_other cE,y2 k (.inl rE),World.putObj_heap_other cE,z2 k (.inl rE)]
   ·have:=(eT r').1.sub b o v (nj b o v hv)
    exact this
  have dM:ZnQ tvs':=by
   intro u hu
   obtain⟨i,hi⟩:=List.getElem?_of_mem hu
   have aH:=(zA0 hi).1
   obtain⟨qe,jE⟩:∃qe,A.toks[i]?=some qe:=⟨_,zA3 (by omega)⟩
   exact(k2 i qe.1 qe.2 u jE hi).1
  have fin:∀(c:Code) ,Zr5 K c (ZbA S [] { A with slots:=[] } S'.gh [] css' tvs') m''->∃v w',(Instr.endRound l' (some c)).run E.P w3=.ok v w'/\∃b,Ending.returned v=Ending.returned (.bool b)/\Zo2 C S m A I K a1 l' (ZfR fn a1.tmps ps x y D) (if b then k+1 else -1) M' w'/\Frn m M' w w':=by
   intro c hc
   refine⟨_,_,run_endRound (some c) iy,false,rfl,?_,nT _⟩
   obtain⟨o1,M3,o2,o3,o4,o5⟩:=eT (ZfR fn a1.tmps ps x y D .done (some c))
   exact⟨S'.gh,css',tvs',m'',g1,k1,dM,q1,nj,o1,⟨M3,o2,o3,hl',o4,o5⟩,.inr ⟨rfl,c,World.putObj_heap_same t7,hc⟩⟩
  cases e with
  | normal=>
   refine⟨_,_,run_endRound none iy,true,rfl,?_,nT _⟩
   obtain⟨o1,M3,o2,o3,o4,o5⟩:=eT (ZfR fn a1.tmps ps x y D .ready none)
   refine⟨S'.gh,css',tvs',m'',g1,k1,dM,q1,nj,o1,⟨M3,o2,o3,hl',o4,o5⟩,.inl ⟨by simp;omega,?_,World.putObj_heap_same t7⟩⟩
   have:(k+1).toNat=k.toNat+1:=by omega
   simp only[if_true,this]
   exact hk
  | ret=>exact fin _ hk
  | exit id=>exact fin _ hk
  | goto t=>exact fin _ hk
  | panic ch=>exact hk.elim
  | outgrown=>exact hk.elim
 | exit id=>exact hk.elim
 | goto t=>exact hk.elim
 | ret=>exact hk.elim
 | panic ch=>exact hk.elim
 | outgrown=>exact hk.elim
end
section
variable {C:Ctx} {S:St} {m:Mem} {a:Act} {w w':World}
theorem Rel.afterRange{S2:St}{a1:Act}{l:Nat}{r r':Loop}{M:Nat->Prop}(hr:Rel C S2 m a1 w)(hd:Dom C S2 m a1 w M)(hl:M l)(dJ:w.heap[l]?=some (.loop r)):Rel C S2 m a1 (w.putObj l (.loop r')):=by
 obtain⟨ms,q1,q2,q3⟩:=hr.defers
 refine hr.swap rfl hr.le rfl rfl rfl rfl hr.env hr.size ⟨ms,q1,q2,λD hD=>?_⟩ (λk c T fr hk=>World.putObj_heap_other (ZbS hk dJ)) (λk t b ht hb=>((hr.toks k t ht).2 b hb).2) ⟨_,hd.step (ZeU rfl hl) (λb o v hv=>.inl hv)⟩
 rw[World.putObj_heap_other (λe=>by have:=q3 D hD;rw[e,dJ]at this;cases this)];exact q3 D hD
theorem Zlc{th:Bool}{E:Env}{F:Fence}(hF:FOk F)(qi:YOk E C)(hR:ROk F C)(n:Nat){A:LoopAnn}{f:Operand}{ps:Array Tmp}{x y:Code}{Tx Ty:KT->St->Mem->Prop}
  (rr:Zo1 E Tx x) (ru:Zo1 E Ty y) (rv:∀{K:KT} {S:St} {m:Mem},Tx K S m->Tx (λe S' m'=>K e S' m'/\leT th m m') S m) (rx:∀{K:KT} {S:St} {m:Mem},Ty K S m->Ty (λe S' m'=>K e S' m'/\leT th m m') S m)
  (ry:Zbf C.n x=true) (rz:Zbf C.n y=true) (rA:ps.toList.all (Nat.blt · C.n)=true)
  {K:KT} {Q:Exit->Act->World->Prop} (hr:Rel C S m a w) (h:Zk2 th E.P A f ps.toList Tx Ty K S m) (hK:∀e S' m' a' w',K e S' m'->Rel C S' m' a' w'->Q e a' w'):(Code.rangeFunc f ps x y).wpIn F n E.P Q a w:=by
 unfold Zk2 at h
 split at h
 rotate_left
 ·exact h.elim
 rename_i g first captured jp
 obtain⟨hc,nj⟩:=Zad h
 obtain⟨mi,jF,kX,xs,qk,dF,I,h0,hb,jG⟩:=ZoT nj
 simp only[zA7]at hc
 obtain⟨v,e1,_,e2⟩:=hr.ev_val jp
 simp only[St.den,Option.some.injEq]at e1
 refine wpIn_rangeFunc λfn gE=>?_
 obtain⟨l,mk,w1,D,jA,dD,⟨M1,j7,nk⟩,dJ⟩:=hr.enter (P:=E.P) hR fn ps x y
 obtain⟨a1,lW⟩:∃a1,a1=({ a with defers:=mk++a.defers }:Act):=⟨_,rfl⟩
 rw[<-lW]at dD j7
 have eP:a1.tmps=a.tmps:=by rw[lW]
 have nU:w1.heap[l]?=some (.loop (ZfR fn a1.tmps ps x y D .ready none)):=by rw[eP];exact dJ
 refine⟨l,mk,w1,{ target:=.fn (.func g) captured,args:=first++#[.func (.yield l) #[] #[]] },w1,g,(first.toList++.func (.yield l) #[] #[]::captured.toList).toArray,w1,jA,?_,λf' _=>hF.fn f',?_,λhs=>by rw[hF.depth]at hs;simp at hs,?_⟩
 ·simp only[resolve,e2,<-e1,Deferred.ofValue]
  simp[go_sem]
 ·have gx:first++#[Value.func (.yield l) #[] #[]]++captured=(first.toList++Value.func (.yield l) #[] #[]::captured.toList).toArray:=Array.ext' (by simp)
  simp only[invoke,gx]
  exact qk.1 _ _
 ·obtain⟨css,g1,g2,h0⟩:=ZcN h0
  obtain⟨tvs,k1,k2,hI⟩:=ZbM h0
  have dM:ZnQ tvs:=by
   intro u hu
   obtain⟨i,hi⟩:=List.getElem?_of_mem hu
   have aH:=(zA0 hi).1
   obtain⟨qe,jE⟩:∃qe,A.toks[i]?=some qe:=⟨_,zA3 (by omega)⟩
   exact(k2 i qe.1 qe.2 u jE hi).1
  have rF:Rel C (ZbA S [] { A with slots:=[] } S.gh [] css tvs) m a1 w1:=ZdS dD.ok dD (SameOut.refl _ _) rfl rfl (by simp) g1 g2 k1 k2
  have rG:Zo2 C S mi A I K a1 l (ZfR fn a1.tmps ps x y D) 0 (λ_=>False) w1:=by
   refine⟨S.gh,css,tvs,m,g1,k1,dM,λ_=>rfl,jF,rF,?_,.inl ⟨Int.le_refl _,hI,nU⟩⟩
   have rq:Dom C (ZbA S [] { A with slots:=[] } S.gh [] css tvs) m a1 w1 M1:=by
    refine⟨j7.p,j7.lt,λid y hy=>?_,λk t b ht hb=>?_,j7.mks,j7.new⟩
    ·simp only[ZbA]at hy
     rcases ZeT hy with⟨i,x',cs,q1,q2,q3,q4⟩|⟨q1,q2⟩
     ·rw[q4];exact j7.own id x' q3
     ·exact j7.own id y q2
    ·simp only[ZbA]at ht
     rcases Zc4 ht with⟨i,e,u,q1,q2,q3⟩|⟨q1,q2⟩
     ·obtain⟨_,q5⟩:=k2 i k e u q1 q2
      subst q3
      rcases q5 with q5|q5
      ·exact j7.tok k _ b q5 hb
      ·simp[Tok.blk,q5]at hb
     ·exact j7.tok k t b q2 hb
   exact⟨M1,rq,nk,λh=>h,λ_ h=>h.elim,⟨λ_ _ _ h=>h,λ_ _ _ _ _ h=>h,λ_ _ h=>h,λ_ _ _ _ h=>h⟩⟩
  have cX:∀i sv,S.env i=some sv->∃v,S.den sv=some v/\a1.tmps[i]?=some v:=λi sv he=>dD.env i sv he
  have lY:=Zj2 (th:=th) (E:=E) (S:=S) (m:=mi) (K:=K) (l:=l) (fn:=fn) (D:=D) rr ru rv rx qi ry rz rA hr.ok dD.size cX hc.1 hc.2 dF hb
  refine hF.calls ((qk.2 _ Zj1 l w1 (λb o v hv=>dD.sub b o v (jF b o v hv)) rG lY).mono ?_)
  rintro e w2 ⟨v,M2,rfl,aH,eQ⟩
  rw[<-lW]
  rcases eQ with eQ|eQ
  all_goals obtain⟨gg,css2,tvs2,m2,y1,y2,y3,y4,y5,y6,⟨M3,y7,y8,y9,y10,y11⟩,y12⟩:=eQ
  ·rcases y12 with⟨_,ve,gW⟩|⟨hk,_⟩
   ·refine⟨none,_,run_endLoop gW (by simp[ZfR]),?_⟩
    have:=ZdC (ZdB (Zf5 jG y4) css2 y1) tvs2 y2 y3 m2 y5 (by simpa using ve)
    exact hK _ _ _ _ _ this (y6.afterRange y7 y8 gW)
   ·omega
  ·rcases y12 with⟨hk,_⟩|⟨_,c,gW,iz⟩
   ·omega
   ·refine⟨some c,_,run_endLoop gW (by simp[ZfR]),?_⟩
    have hR:=λr'=>y6.afterRange (r':=r') y7 y8 gW
    cases c with
    | ret=>exact wpIn_ret (hK _ _ _ _ _ iz (hR _))
    | exit id=>exact wpIn_exit (hK _ _ _ _ _ iz (hR _))
    | goto t=>exact wpIn_goto (hK _ _ _ _ _ iz (hR _))
    | _=>exact iz.elim
end
end Go.Eng