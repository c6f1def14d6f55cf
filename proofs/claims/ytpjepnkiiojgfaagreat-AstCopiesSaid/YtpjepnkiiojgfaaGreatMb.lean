/- The engine: a reckoner over the code of a program in Lean, with its soundness; it names no program. No condition. -/
import Derived.Test.YtpjepnkiiojgfaaGreatMa
import Derived.RangeFuncNested
import Derived.RangeFuncLeaves
set_option linter.unusedVariables false
set_option linter.unusedSimpArgs false
set_option linter.unusedSectionVars false
namespace Go.Eng
open Go Go.RowKit
theorem Zd1{n:Int}(h0 : -9223372036854775808<=n)(h1:n<=9223372036854775807):IntKind.i64.wrap n=n:=by
 simp only[IntKind.wrap,IntKind.bits,IntKind.signed,Bool.true_and]
 split
 ·rename_i h;simp at h;omega
 ·rename_i h;simp at h;omega
def Zwn(E:Env)(S:St)(T:TypeId)(l c:Operand)(d:Option Tmp)(K:St->Prop):Prop:=match d with
 | none=>False
 | some d=>match Zau E T with
  | none=>False
  | some (e,j)=>match S.L d with
   | some _=>False
   | none=>wv S l λvl=>wv S c λvc=>chk (ZcI vl&&ZcI vc) ((0<=RowKit.intOf vl/\RowKit.intOf vl<=RowKit.intOf vc/\RowKit.intOf vc*j.bytes<=281474976710656/\RowKit.intOf vc<=9223372036854775807)/\
     ∀b,K ((S.newL d { b:=b,cs:=(List.replicate (RowKit.intOf vc).toNat j.zero.cells.toList).flatten,T:=e,cap:=(RowKit.intOf vc).toNat*j.size,fz:=false,full:=true }).put (some d) (some (.sl d (RowKit.intOf vl).toNat (RowKit.intOf vc).toNat))))
theorem Zmn(zs:List Value):∀(c:Nat),(List.range (c*zs.length)).map (λi=>zs.toArray[i % zs.toArray.size]!)=(List.replicate c zs).flatten
 | 0=>by simp
 | c+1=>by
  rw[Nat.add_mul,Nat.one_mul,List.replicate_succ',List.flatten_append,<-Zmn zs c,List.range_add,List.map_append]
  congr 1
  simp only[List.flatten_cons,List.flatten_nil,List.append_nil,List.map_map]
  refine List.ext_getElem (by simp) λi h1 h2=>?_
  simp only[List.length_map,List.length_range]at h1
  simp only[List.getElem_map,List.getElem_range,Function.comp,List.size_toArray]
  rw[Nat.mul_comm,Nat.mul_add_mod,Nat.mod_eq_of_lt h1]
  simp[h1]
section
variable {C:Ctx} {S:St} {m:Mem} {a:Act} {w:World}
theorem ZmX{E:Env}(hE:E.ok){T:TypeId}{l c:Operand}{d:Option Tmp}{K:St->Prop}(hd:∀t,d=some t->t < C.n)(hr:Rel C S m a w)(h:Zwn E S T l c d K):
  ∃S' v w',K S'/\Rel C S' m (a.put d v) w'/\(Instr.makeSlice T (a.eval l) (a.eval c)).run E.P w=.ok v w':=by
 unfold Zwn at h
 cases d with
 | none=>exact h.elim
 | some d=>
  simp only at h
  cases hs:Zau E T with
  | none=>simp[hs]at h
  | some ej=>
   obtain⟨e,j⟩:=ej
   simp only[hs]at h
   cases hL:S.L d with
   | some x=>simp[hL]at h
   | none=>
    simp only[hL]at h
    obtain⟨vl,gQ,h⟩:=Zaw h
    obtain⟨vc,oq,h⟩:=Zaw h
    obtain⟨h1,⟨h2,h3,h4,h5⟩,hk⟩:=Zag h
    simp only[zA7]at h1
    obtain⟨kl,ot⟩:=Za8 h1.1
    obtain⟨kc,qa⟩:=Za8 h1.2
    generalize mt:RowKit.intOf vl=nl at *
    generalize gj:RowKit.intOf vc=nc at *
    obtain⟨i,iy,gH,ky⟩:=ZaW hs
    have dW:=hE e j ky
    have hu:=(hE T i iy).run_und (w:=w)
    rw[gH]at hu
    have bJ:=dW.run_size (w:=w)
    have hz:=dW.run_zero (w:=w)
    obtain⟨x,g1,_,_,g4⟩:=dW.run_info (w:=w)
    have gA:j.zero.cells.toList.length=j.size:=by simpa using dW.zsize
    have aH:((List.replicate nc.toNat j.zero.cells.toList).flatten).length=nc.toNat*j.size:=by simp[dW.zsize]
    have hb:=hr.newBox (d:=d) hL (x:={ b:=w.heap.size,cs:=(List.replicate nc.toNat j.zero.cells.toList).flatten,T:=e,cap:=nc.toNat*j.size,fz:=false,full:=true }) (m':=m) [] rfl (by simpa using aH) (λ_=>aH) (.inl ⟨rfl,rfl⟩)
    simp only[List.append_nil]at hb
    refine⟨_,.slice (some ⟨w.heap.size,0,none⟩) nl.toNat nc.toNat,_,hk w.heap.size,hb.put (some d) hd (by simp[St.den,St.newL]),?_⟩
    rw[hr.ev gQ,hr.ev oq,ot,qa]
    have w1:IntKind.i64.wrap nl=nl:=Zd1 (by omega) (by omega)
    have w2:IntKind.i64.wrap nc=nc:=Zd1 (by omega) (by omega)
    have vA:0<=nc:=by omega
    have c1:¬(nc < 0):=by omega
    have c2:¬(nl < 0):=by omega
    have c3:¬(nc < nl):=by omega
    have c4:¬(281474976710656 < (x.bytes:Int)*nc):=by rw[g4,Int.mul_comm];omega
    have dX:(Array.map (λi=>(if nc.toNat*j.size=0 then(#[]:Array Value)else j.zero.cells)[i % (if nc.toNat*j.size=0 then(#[]:Array Value)else j.zero.cells).size]!) (Array.range (nc.toNat*j.size)))=(List.replicate nc.toNat j.zero.cells.toList).flatten.toArray:=by
     have:=Zmn j.zero.cells.toList nc.toNat
     rw[gA]at this
     apply Array.ext'
     by_cases h0:nc.toNat*j.size=0
     ·have dR:(List.replicate nc.toNat j.zero.cells.toList).flatten=[]:=List.eq_nil_of_length_eq_zero (by rw[aH,h0])
      simp[h0,dR]
     ·simp only[h0,if_false,Array.toList_map,Array.toList_range]
      rw[<-this]
    by_cases h0:nc.toNat*j.size=0
    ·simp only[h0,if_true]at dX
     simp[Instr.makeSlice,hu,asInt,asIntOf,g1,w1,w2,c1,c2,c3,c4,bJ,h0,newRow,<-dX]
    ·simp only[h0,if_false]at dX
     simp[Instr.makeSlice,hu,asInt,asIntOf,g1,w1,w2,c1,c2,c3,c4,bJ,h0,hz,newRow,<-dX]
def frW(fr:Option Mem)(b:Nat)(p:Prop):Prop:=match fr with
 | none=>p
 | some m=>m.free b->m.k b=none->p
theorem ZuI{fr:Option Mem}{m:Mem}{b:Nat}{p:Prop}(dV:∀m',fr=some m'->m'=m)(hf:m.free b)(hk:m.k b=none)(h:frW fr b p):p:=by
 cases fr with
 | none=>exact h
 | some m'=>exact h (by rw[dV m' rfl];exact hf) (by rw[dV m' rfl];exact hk)
theorem Zqj{fr:Option Mem}{b:Nat}{p q:Prop}(h:p->q)(hx:frW fr b p):frW fr b q:=by
 cases fr with
 | none=>exact h hx
 | some m=>exact λhf hk=>h (hx hf hk)
def Zk9(E:Env)(S:St)(fr:Option Mem)(T:TypeId)(l c:Operand)(d:Option Tmp)(key:Nat)(K:St->Prop):Prop:=match d with
 | none=>False
 | some d=>match Zau E T with
  | none=>False
  | some (e,j)=>wv S l λvl=>wv S c λvc=>chk (ZcI vl&&ZcI vc) ((RowKit.intOf vl=0/\0<=RowKit.intOf vc/\RowKit.intOf vc*j.bytes<=281474976710656/\RowKit.intOf vc<=9223372036854775807)/\
     ∀b,frW fr b (K (({ S with tok:=λk=>bif Nat.beq k key then some ⟨.slice (some ⟨b,0,none⟩) 0 (RowKit.intOf vc).toNat,j.size⟩ else S.tok k,tkeys:=key::S.tkeys }:St).put (some d) (some (.v (.slice (some ⟨b,0,none⟩) 0 (RowKit.intOf vc).toNat))))))
theorem Zgq{E:Env}(hE:E.ok){T:TypeId}{l c:Operand}{d:Option Tmp}{key:Nat}{K:St->Prop}{fr:Option Mem}(dV:∀m',fr=some m'->m'=m)(hd:∀t,d=some t->t < C.n)(hr:Rel C S m a w)(h:Zk9 E S fr T l c d key K):
  ∃S' v w',K S'/\Rel C S' m (a.put d v) w'/\(Instr.makeSlice T (a.eval l) (a.eval c)).run E.P w=.ok v w'/\
   (c=.const (.int .i64 0)->∃i e,E.tt T=some i/\i.d=.slice e/\v=.slice (some ⟨w.heap.size,0,none⟩) 0 0/\w'=w.alloc (.cells #[] e (0,0))):=by
 unfold Zk9 at h
 cases d with
 | none=>exact h.elim
 | some d=>
  simp only at h
  cases hs:Zau E T with
  | none=>simp[hs]at h
  | some ej=>
   obtain⟨e,j⟩:=ej
   simp only[hs]at h
   obtain⟨vl,gQ,h⟩:=Zaw h
   obtain⟨vc,oq,h⟩:=Zaw h
   obtain⟨h1,⟨h2,h3,h4,h5⟩,hk⟩:=Zag h
   simp only[zA7]at h1
   obtain⟨kl,ot⟩:=Za8 h1.1
   obtain⟨kc,qa⟩:=Za8 h1.2
   generalize mt:RowKit.intOf vl=nl at *
   generalize gj:RowKit.intOf vc=nc at *
   subst h2
   obtain⟨i,iy,gH,ky⟩:=ZaW hs
   have dW:=hE e j ky
   have hu:=(hE T i iy).run_und (w:=w)
   rw[gH]at hu
   have bJ:=dW.run_size (w:=w)
   have hz:=dW.run_zero (w:=w)
   obtain⟨x,g1,_,_,g4⟩:=dW.run_info (w:=w)
   have gA:j.zero.cells.toList.length=j.size:=by simpa using dW.zsize
   have aH:((List.replicate nc.toNat j.zero.cells.toList).flatten).length=nc.toNat*j.size:=by simp[dW.zsize]
   have dx:Sub m (w.alloc (.cells ((List.replicate nc.toNat j.zero.cells.toList).flatten).toArray e (0,0))):=hr.sub.alloc _
   have kA:Rel C S m a (w.alloc (.cells ((List.replicate nc.toNat j.zero.cells.toList).flatten).toArray e (0,0))):=hr.world (Keep.alloc (Nat.le_refl _) (ZfV _ _)) dx (Mem.le_refl m) (NewM.refl _ _)
   have eS:∀o,m w.heap.size o=none:=λo=>by
    cases he:m w.heap.size o with
    | none=>rfl
    | some u=>have:=hr.sub.lt he;omega
   have aS:TokOk m (w.alloc (.cells ((List.replicate nc.toNat j.zero.cells.toList).flatten).toArray e (0,0))) ⟨.slice (some ⟨w.heap.size,0,none⟩) 0 nc.toNat,j.size⟩:=
    .inr ⟨w.heap.size,0,0,nc.toNat,((List.replicate nc.toNat j.zero.cells.toList).flatten).toArray,e,(0,0),rfl,Nat.zero_le _,by show(w.heap.push _)[w.heap.size]?=_;simp,by show 0+nc.toNat*j.size<=((List.replicate nc.toNat j.zero.cells.toList).flatten).length;rw[aH,Nat.zero_add];exact Nat.le_refl _,λo _ ho=>by simp at ho,λo _ _=>eS o⟩
   have gl:∀b,(Tok.mk (.slice (some ⟨w.heap.size,0,none⟩) 0 nc.toNat) j.size).blk=some b->b=w.heap.size:=λb hb=>by simp[Tok.blk]at hb;exact hb.symm
   have fR:=kA.tokUpd key _ aS (λb hb=>by
    have:=gl b hb
    subst this
    refine⟨⟨λid x hx e=>?_,λo=>?_⟩,λk' t' _ hk' hb'=>?_⟩
    ·have:=(hr.own id x hx).lt;omega
    ·cases he:C.me w.heap.size o with
     | none=>rfl
     | some u=>have:=hr.sub.lt (hr.le _ _ _ he);omega
    ·have:=(hr.toks k' t' hk').1.lt hb';omega) (by
    obtain⟨M,hd'⟩:=hr.dom
    refine⟨_,hd'.step (m':=m) ((Keep.alloc (Nat.le_refl _) (ZfV _ _):Keep w.heap.size [] w _).upd (by simp)) (NewM.refl _ _),λb hb=>?_⟩
    have:=gl b hb
    subst this
    exact .inr ⟨Nat.le_refl _,by show w.heap.size < (w.heap.push _).size;simp,Wr.new (ZfV _ _)⟩)
   have cY:=hk w.heap.size
   have fF:=ZuI dV eS (by
    cases he:m.k w.heap.size with
    | none=>rfl
    | some e=>exact absurd (hr.sub.k _ _ he).lt (Nat.lt_irrefl _)) cY
   refine⟨_,.slice (some ⟨w.heap.size,0,none⟩) 0 nc.toNat,_,fF,fR.put (some d) hd rfl,?_,λhc=>⟨i,e,iy,gH,?_,?_⟩⟩
   rotate_left
   ·subst hc
    have:vc=.int .i64 0:=by simpa[St.val,St.ev,St.den]using oq.symm
    subst this
    simp only[RowKit.intOf]at gj;subst gj;rfl
   ·subst hc
    have:vc=.int .i64 0:=by simpa[St.val,St.ev,St.den]using oq.symm
    subst this
    simp only[RowKit.intOf]at gj;subst gj;rfl
   rw[hr.ev gQ,hr.ev oq,ot,qa]
   have w1:IntKind.i64.wrap 0=0:=Zd1 (by omega) (by omega)
   have w2:IntKind.i64.wrap nc=nc:=Zd1 (by omega) (by omega)
   have c1:¬(nc < 0):=by omega
   have c2:¬((0:Int) < 0):=by omega
   have c4:¬(281474976710656 < (x.bytes:Int)*nc):=by rw[g4,Int.mul_comm];omega
   have dX:(Array.map (λi=>(if nc.toNat*j.size=0 then(#[]:Array Value)else j.zero.cells)[i % (if nc.toNat*j.size=0 then(#[]:Array Value)else j.zero.cells).size]!) (Array.range (nc.toNat*j.size)))=((List.replicate nc.toNat j.zero.cells.toList).flatten).toArray:=by
    have:=Zmn j.zero.cells.toList nc.toNat
    rw[gA]at this
    apply Array.ext'
    by_cases h0:nc.toNat*j.size=0
    ·have dR:(List.replicate nc.toNat j.zero.cells.toList).flatten=[]:=List.eq_nil_of_length_eq_zero (by rw[aH,h0])
     simp[h0,dR]
    ·simp only[h0,if_false,Array.toList_map,Array.toList_range]
     rw[<-this]
   by_cases h0:nc.toNat*j.size=0
   ·simp only[h0,if_true]at dX
    simp[Instr.makeSlice,hu,asInt,asIntOf,g1,w1,w2,c1,c2,c4,bJ,h0,newRow,<-dX]
   ·simp only[h0,if_false]at dX
    simp[Instr.makeSlice,hu,asInt,asIntOf,g1,w1,w2,c1,c2,c4,bJ,h0,hz,newRow,<-dX]
theorem ZeY{P:Program}{w:World}(b o:Nat){cells:Array Value}{T:TypeId}{fr:Nat×Nat}(h:w.heap[b]?=some (.cells cells T fr)):
  (markStringish ⟨b,o,none⟩).run P w=.ok () (w.freeze ⟨b,cells.size,none⟩ 1):=by
 simp[markStringish,World.shape?,h]
end
def Za0(s:ByteArray):List Value:=s.data.toList.map λb=>.int .u8 b.toNat
def ZcB(E:Env)(s d:TypeId):Bool:=Zel E s&&(match Zau E d with
 | none=>false
 | some (_,j)=>match j.d with
  | .int .u8=>true
  | _=>false)
def ZyY(S:St)(m:Mem)(x:Operand)(d:Option Tmp)(K:St->Mem->Prop):Prop:=
 wv S x λv=>chk (ZiH v) (∀(b c:Nat),m.free b->(Zcp v).size<=c->K (S.put d (some (.v (.slice (some ⟨b,0,none⟩) (Zcp v).size c)))) (m.add b (Za0 (Zcp v))))
section
variable {C:Ctx} {S:St} {m:Mem} {a:Act} {w:World}
theorem ZmY{E:Env}(hE:E.ok){s d:TypeId}(fm:ZcB E s d=true){x:Operand}{t:Option Tmp}{K:St->Mem->Prop}(hd:∀t',t=some t'->t' < C.n)(hr:Rel C S m a w)(h:ZyY S m x t K):
  ∃S' m' v w',K S' m'/\Rel C S' m' (a.put t v) w'/\(convert s d (a.eval x)).run E.P w=.ok v w':=by
 unfold ZyY at h
 obtain⟨v,hv,h⟩:=Zaw h
 obtain⟨h1,hk⟩:=Zag h
 have he:=hr.ev hv
 have eC:=Zcy h1
 generalize Zcp v=bs at *
 subst eC
 unfold ZcB at fm
 rw[zA7]at fm
 obtain⟨i,hi,de⟩:=Zfo fm.1
 have fm:=fm.2
 cases hs:Zau E d with
 | none=>simp[hs]at fm
 | some ej=>
  obtain⟨e,j⟩:=ej
  simp only[hs]at fm
  obtain⟨k,gI,iT,qY⟩:=ZaW hs
  have iR:j.d=.int .u8:=by
   cases iR:j.d with
   | int kk=>cases kk <;> simp[iR]at fm <;> rfl
   | _=>simp[iR]at fm
  have ou:=(hE s i hi).run_und (w:=w)
  rw[de]at ou
  have qd:=(hE d k gI).run_und (w:=w)
  rw[iT]at qd
  have qg:=(hE e j qY).run_und (w:=w)
  rw[iR]at qg
  generalize cS:grownCap w bs.size 0 e=cap
  have bO:bs.size<=cap:=by rw[<-cS];exact grownCap_ge w bs.size 0 e
  have bI:m.free w.heap.size:=λo=>by
   cases he:m w.heap.size o with
   | none=>rfl
   | some v=>have:=hr.sub.lt he;omega
  obtain⟨cells,jo⟩:∃cells,cells=(Za0 bs++List.replicate (cap - bs.size) (Value.int .u8 0)).toArray:=⟨_,rfl⟩
  obtain⟨w1,gJ⟩:∃w1,w1=w.drew.alloc (.cells cells e (0,0)):=⟨_,rfl⟩
  have oh:w1.heap[w.heap.size]?=some (.cells cells e (0,0)):=by rw[gJ];exact heap_alloc_new w.drew _
  obtain⟨w2,gm⟩:∃w2,w2=w1.freeze ⟨w.heap.size,cells.size,none⟩ 1:=⟨_,rfl⟩
  have bH:∀k,k≠w.heap.size->w2.heap[k]?=w1.heap[k]?:=λk hk=>by
   rw[gm]
   simp only[World.freeze,Nat.one_ne_zero,if_false,Array.getElem?_modify]
   rw[if_neg (by simpa using Ne.symm hk)]
  have dD:∃fr',w2.heap[w.heap.size]?=some (.cells cells e fr'):=by
   rw[gm]
   simp only[World.freeze,Nat.one_ne_zero,if_false,Array.getElem?_modify,if_true,oh,Option.map_some]
   exact⟨_,rfl⟩
  obtain⟨fr',dD⟩:=dD
  have ov:Wr w2 w.heap.size:=by
   intro c1 T1 fr1 hh i hi
   rw[gm]at hh
   simp[World.freeze,Array.getElem?_modify,oh]at hh
   obtain⟨rfl,rfl,rfl⟩:=hh
   simp only;omega
  have mu:Keep w.heap.size [] w w1:=(Keep.drew w).trans (by rw[gJ];exact Keep.alloc (B:=w.heap.size) (w:=w.drew) (show w.heap.size<=w.drew.heap.size from Nat.le_refl _) (ZfV _ _))
  have mw:Keep w.heap.size [] w1 w2:=by
   refine⟨by rw[gm];simp[World.freeze],by rw[gm];simp[World.freeze],by rw[gm];simp[World.freeze],by rw[gm];simp[World.freeze],λk hk _=>bH k (by omega),λk _ hk=>?_⟩
   by_cases e9:k=w.heap.size
   ·subst e9;exact ov
   ·exact hk.of_eq (bH k e9)
  have eB:=mu.trans mw
  have fE:Sub (m.add w.heap.size (Za0 bs)) w2:=by
   refine(hr.sub.below λb' aB=>eB.block b' aB (by simp)).add λo v hv=>?_
   have aB:=(zA0 hv).1
   simp only[World.cell?,dD,Option.isSome_none,Bool.false_eq_true,if_false,jo,List.getElem?_toArray]
   rw[zA5 aB,hv]
  have aZ:Rel C S (m.add w.heap.size (Za0 bs)) a w2:=hr.world eB fE (Mem.le_add bI _) (NewM.add _ _ ⟨Nat.le_refl _,ov⟩)
  refine⟨_,_,.slice (some ⟨w.heap.size,0,none⟩) bs.size cap,w2,hk w.heap.size cap bI bO,aZ.put t hd rfl,?_⟩
  have vB:=ZeY (P:=E.P) (w:=w1) w.heap.size 0 oh
  have dX:(Array.map (λb:UInt8=>Value.int .u8 (b.toNat:Int)) bs.data++Array.replicate (cap - bs.size) (Value.int .u8 0))=cells:=by
   rw[jo]
   apply Array.ext'
   simp[Za0]
  have vC:(newRow e cells).run E.P w.drew=.ok ⟨w.heap.size,0,none⟩ w1:=by
   rw[gJ];simp[newRow]
  rw[he]
  simp only[convert,Sem.run_bind,ou,Result.andThen_ok,qd,qg,Conv.stringToBytes]
  simp[Question.forced]
  rw[show(Question.appendCap bs.size 0 e).cut (w.tape w.drawn (Question.appendCap bs.size 0 e))=cap from cS,dX,vC]
  simp only[Result.andThen_ok,vB,<-gm]
end
def ZcC(E:Env)(s d:TypeId):Bool:=Zel E d&&(match Zau E s with
 | none=>false
 | some (_,j)=>match j.d with
  | .int .u8=>true
  | _=>false)
def ZbB(S:St)(m:Mem)(x:Operand)(K:Value->Prop):Prop:=match S.ev x with
 | some (.sl id n c)=>match S.L id with
  | none=>False
  | some bx=>∃bs:ByteArray,Nat.beq bs.size n=true/\Za0 bs=bx.cs.take n/\K (.string bs)
 | _=>wv S x λv=>chk (ZbQ v) (∃bs:ByteArray,bs.size=slN v/\rowRd m (slA v) (Za0 bs)/\K (.string bs))
def Zd2(S:St)(m:Mem)(x:Operand)(K:Value->Prop):Prop:=match S.ev x with
 | some (.v v)=>chk (ZbQ v) (∃bs:ByteArray,bs.size=slN v/\rowRd m (slA v) (Za0 bs)/\K (.string bs))
 | _=>False
theorem Zih{S:St}{m:Mem}{x:Operand}{K:Value->Prop}(h:Zd2 S m x K):ZbB S m x K:=by
 unfold Zd2 at h
 unfold ZbB
 split at h
 ·rename_i v he
  simp only[he]
  unfold wv St.val
  simp only[he,St.den]
  exact h
 ·exact h.elim
def Zla(E:Env)(S:St)(m:Mem)(x:Operand)(K:Value->Prop):Prop:=bif E.fix.isSome then Zd2 S m x K else ZbB S m x K
theorem Zpg{E:Env}{S:St}{m:Mem}{x:Operand}{K:Value->Prop}(h:Zla E S m x K):ZbB S m x K:=by
 unfold Zla at h
 cases hf:E.fix.isSome with
 | true=>rw[hf]at h;exact Zih h
 | false=>rw[hf]at h;exact h
theorem Zlb{S:St}{m:Mem}{x:Operand}{k k':Value->Prop}(h:∀v,k v->k' v)(hx:Zd2 S m x k):Zd2 S m x k':=by
 unfold Zd2 at *
 split at hx
 ·obtain⟨h1,bs,h2,h3,h4⟩:=Zag hx
  exact Zaa h1 ⟨bs,h2,h3,h _ h4⟩
 ·exact hx.elim
theorem Zb7(s:ByteArray):(Za0 s).length=s.size:=by
 unfold Za0 ByteArray.size
 rw[List.length_map,Array.length_toList]
theorem ZrV(ns:List UInt8):∀s:ByteArray,(ns.map λb:UInt8=>(b.toNat:Int)).foldl (λ(r:ByteArray)(n:Int)=>r.push (UInt8.ofNat n.toNat)) s=⟨s.data++ns.toArray⟩:=by
 induction ns with
 | nil=>intro s;simp
 | cons b l ih=>
  intro s
  rw[List.map_cons,List.foldl_cons,ih]
  congr 1
  apply Array.ext'
  simp[ByteArray.push]
theorem Zlc{P:Program}{w:World}{s d e:TypeId}{a:Option Addr}{c:Nat}{bs:ByteArray}(hs:P.underlying s=some (.slice e))(he:P.underlying e=some (.int .u8))(hd:P.underlying d=some .string)
  (cz:∀j v,(Za0 bs)[j]?=some v->∃b o,a=some ⟨b,o,none⟩/\w.cell? ⟨b,o+j,none⟩=some v):(convert s d (.slice a bs.size c)).run P w=.ok (.string bs) w:=by
 rw[run_convert_bytes_string w s d e a bs.size c hs he hd]
 cases a with
 | none=>
  have h0:Za0 bs=[]:=by
   cases h:Za0 bs with
   | nil=>rfl
   | cons v l=>obtain⟨_,_,h1,_⟩:=cz 0 v (by rw[h];rfl);cases h1
  have hb:bs.size=0:=by rw[<-Zb7,h0];rfl
  have:bs=ByteArray.empty:=by
   cases bs with
   | mk data=>
    have:data=#[]:=Array.eq_empty_of_size_eq_zero hb
    subst this;rfl
  subst this
  simp[Conv.bytesToString]
 | some a=>
  have hl:(loadCells a bs.size).run P w=.ok (((bs.data.toList.map λb:UInt8=>(b.toNat:Int))).map (Value.int .u8)).toArray w:=by
   have qZ:(bs.data.toList.map λb:UInt8=>(b.toNat:Int)).map (Value.int .u8)=Za0 bs:=by simp[Za0]
   rw[qZ]
   by_cases h0:bs.size=0
   ·have:Za0 bs=[]:=List.eq_nil_of_length_eq_zero (by rw[Zb7,h0])
    rw[this,h0];rfl
   ·obtain⟨v,hv⟩:∃v,(Za0 bs)[0]?=some v:=⟨_,zA3 (by rw[Zb7];omega)⟩
    obtain⟨b,o,ha,_⟩:=cz 0 v hv
    cases ha
    rw[<-Zb7]
    exact Zdq b o _ (λj u hu=>by obtain⟨_,_,h1,h2⟩:=cz j u hu;cases h1;exact h2)
  have fR:(⟨ByteArray.empty.data++bs.data.toList.toArray⟩:ByteArray)=bs:=by
   cases bs with
   | mk data=>
    congr 1
    apply Array.ext'
    show((#[]:Array UInt8)++data.toList.toArray).toList=data.toList
    simp
  rw[run_bytesToString w a bs.size c _ hl,ZrV,fR]
section
variable {C:Ctx} {S:St} {m:Mem} {a:Act} {w:World}
theorem Zgr{E:Env}(hE:E.ok){s d:TypeId}(fm:ZcC E s d=true){x:Operand}{K:Value->Prop}(hr:Rel C S m a w)(h:ZbB S m x K):
  ∃v,K v/\(convert s d (a.eval x)).run E.P w=.ok v w:=by
 unfold ZcC at fm
 rw[zA7]at fm
 obtain⟨i,hi,de⟩:=Zfo fm.1
 have fm:=fm.2
 cases hs:Zau E s with
 | none=>simp[hs]at fm
 | some ej=>
  obtain⟨e,j⟩:=ej
  simp only[hs]at fm
  obtain⟨k,gI,iT,qY⟩:=ZaW hs
  have iR:j.d=.int .u8:=by
   cases iR:j.d with
   | int kk=>cases kk <;> simp[iR]at fm <;> rfl
   | _=>simp[iR]at fm
  have qd:E.P.underlying d=some .string:=by rw[(hE d i hi).und,de]
  have ou:E.P.underlying s=some (.slice e):=by rw[(hE s k gI).und,iT]
  have qg:E.P.underlying e=some (.int .u8):=by rw[(hE e j qY).und,iR]
  have gen:∀{v:Value},S.val x=some v->(∃bs,ZbQ v=true/\bs.size=slN v/\(∀j u,(Za0 bs)[j]?=some u->∃b o,slA v=some ⟨b,o,none⟩/\w.cell? ⟨b,o+j,none⟩=some u)/\K (.string bs))->∃v,K v/\(convert s d (a.eval x)).run E.P w=.ok v w:=by
   rintro v hv ⟨bs,h1,h2,h3,h4⟩
   obtain⟨ba,n,c,rfl⟩:∃ba n c,v=.slice ba n c:=⟨_,_,_,Zbr h1⟩
   simp only[slN,slA]at h2 h3
   subst h2
   exact⟨_,h4,by rw[hr.ev hv];exact Zlc ou qg qd h3⟩
  unfold ZbB at h
  split at h
  ·rename_i id n c he
   cases hL:S.L id with
   | none=>simp[hL]at h
   | some bx=>
    simp only[hL]at h
    obtain⟨bs,h1,h2,h3⟩:=h
    have h1:=Nat.eq_of_beq_eq_true h1
    refine gen (v:=.slice (some ⟨bx.b,0,none⟩) n c) (by simp[St.val,he,St.den,hL]) ⟨bs,rfl,h1,λj u hu=>⟨bx.b,0,rfl,?_⟩,h3⟩
    rw[Nat.zero_add]
    refine(hr.own id bx hL).cell ?_
    rw[h2]at hu
    rw[List.getElem?_take]at hu
    split at hu
    ·exact hu
    ·cases hu
  ·obtain⟨v,hv,h⟩:=Zaw h
   obtain⟨h1,bs,h2,h3,h4⟩:=Zag h
   refine gen hv ⟨bs,h1,h2,λj u hu=>?_,h4⟩
   rcases h3 with h3|⟨b,o,h5,h6⟩
   ·rw[h3]at hu;simp at hu
   ·exact⟨b,o,h5,hr.sub _ _ _ (h6 j u hu)⟩
end
def Mem.upd(m:Mem)(b o:Nat)(vs:List Value):Mem:=⟨λb' o'=>if b'=b/\o<=o'/\o' < o+vs.length then vs[o' - o]? else m b' o',m.k⟩
theorem Mem.upd_other(m:Mem){b b':Nat}(h:b'≠b)(o:Nat)(vs:List Value)(o':Nat):m.upd b o vs b' o'=m b' o':=by
 simp only[Mem.upd];rw[if_neg (λhc=>h hc.1)]
theorem Mem.le_upd{m0 m:Mem}(h:m0.le m){b:Nat}(hb:m0.free b)(o:Nat)(vs:List Value):m0.le (m.upd b o vs):=⟨λb' o' v hv=>by
 by_cases e:b'=b
 ·subst e;rw[hb o']at hv;cases hv
 ·rw[Mem.upd_other m e];exact h _ _ _ hv,h.k⟩
def ZmZ(E:Env)(x:Operand):Option Nat:=bif E.thaw then(match x with
 | .tmp t=>E.stAt t
 | _=>none)else none
def Zgs(E:Env)(S:St)(m:Mem)(T:TypeId)(key:Nat)(x:Operand)(v:Value)(K:Mem->Prop):Prop:=wv S x λp=>match E.tt T with
 | none=>False
 | some i=>match S.tok key with
  | none=>match E.m0 with
   | none=>False
   | some m0=>chk (!S.fo&&Zka p&&(Nat.beq v.cells.size i.size&&ZeI v.cells.toList)) ((∃vs:List Value,vs.length=i.size/\m.reads (ZrK p) (ZrL p) vs)/\Mem.free m0 (ZrK p)/\Nat.blt 0 i.size=true/\nfz S (ZrK p) S.ids (K (m.upd (ZrK p) (ZrL p) v.cells.toList)))
  | some t=>chk (Zka p&&(Nat.beq v.cells.size i.size&&ZeI v.cells.toList)) (t.v=.slice (some ⟨ZrK p,0,none⟩) (slN t.v) (slC t.v)/\ZrL p+i.size<=slN t.v*t.esz/\K (m.upd (ZrK p) (ZrL p) v.cells.toList))
section
variable {C:Ctx} {S:St} {m:Mem} {a:Act} {w:World}
theorem Rel.storeOwn(hr:Rel C S m a w){b o:Nat}{vs:List Value}{cur:Array Value}{TT:TypeId}{fr:Nat×Nat}{w':World}(cG:w.heap[b]?=some (.cells cur TT fr))(fS:Wr w b)(bJ:o+vs.length<=cur.size)
  (hw':w'=w.setRow b (ZaH cur.toList o vs).toArray) (hM:∀M,Dom C S m a w M->M b) (h0:C.me.free b) (q7:∀id x,S.L id=some x->x.b≠b)
  (aS:∀k t o0 n c,S.tok k=some t->t.v=.slice (some ⟨b,o0,none⟩) n c->∀q,o<=q->q < o+vs.length->o0+n*t.esz<=q->q < o0+c*t.esz->False):Rel C S (m.upd b o vs) a w':=by
 have bH:∀k,k≠b->w'.heap[k]?=w.heap[k]?:=λk hk=>by rw[hw'];exact setRow_other w b k _ hk
 have dD:w'.heap[b]?=some (.cells (ZaH cur.toList o vs).toArray TT fr):=by rw[hw'];exact setRow_heap w b cur _ TT fr cG
 have fg:(ZaH cur.toList o vs).length=cur.size:=by
  rw[Zcf (by rw[Array.length_toList];omega),Array.length_toList]
 have e8:∀o,o < cur.size->¬(fr.1<=o/\o < fr.2):=fS cur TT fr cG
 have fE:Sub (m.upd b o vs) w':=by
  refine hr.sub.wr1 ⟨_,_,_,cG⟩ bH (λ_ _ h=>h) λb1 o1 u hu=>?_
  by_cases hb:b1=b
  ·subst hb
   simp only[Mem.upd,true_and]at hu
   simp only[World.cell?,dD,Option.isSome_none,Bool.false_eq_true,if_false,List.getElem?_toArray]
   have vD:o+vs.length<=cur.toList.length:=by simp;omega
   have et:(List.take o cur.toList).length=o:=by simp;simp at vD;omega
   by_cases eO:o<=o1/\o1 < o+vs.length
   ·rw[if_pos eO]at hu
    simp only[ZaH]
    rw[List.append_assoc,zA4 (by omega),et,zA5 (by omega)]
    exact hu
   ·rw[if_neg eO]at hu
    have j3:=hr.sub _ _ _ hu
    simp only[World.cell?,cG,Option.isSome_none,Bool.false_eq_true,if_false]at j3
    rw[<-Array.getElem?_toList]at j3
    simp only[ZaH]
    by_cases vE:o1 < o
    ·rw[List.append_assoc,zA5 (by omega),List.getElem?_take,if_pos vE];exact j3
    ·rw[zA4 (by simp at eO et ⊢;omega),List.getElem?_drop]
     have:o+vs.length+(o1 - (List.take o cur.toList++vs).length)=o1:=by
      rw[zA1,et];omega
     rw[this];exact j3
  ·rw[Mem.upd_other m hb]at hu
   rw[ZbL (bH b1 hb)];exact hr.sub _ _ _ hu
 refine⟨?_,hr.size,hr.env,λid y hy=>?_,hr.apart,hr.ids,λk t' ht'=>?_,hr.tkeys,hr.tapart,fE,Mem.le_upd hr.le h0 _ _,?_,hr.fo⟩
 ·obtain⟨ms,d1,d2,d3⟩:=hr.defers
  refine⟨ms,d1,d2,λD hD=>?_⟩
  rw[bH D (λe=>by have:=d3 D hD;rw[e,cG]at this;cases this)];exact d3 D hD
 ·have ho:=hr.own id y hy
  have cI:=q7 id y hy
  exact⟨by rw[bH _ cI];exact ho.cells,λhz o1=>by rw[Mem.upd_other m cI];exact ho.free hz o1,λhz j u hu=>by rw[Mem.upd_other m cI];exact ho.known hz j u hu,ho.whole⟩
 ·obtain⟨q1,q2⟩:=hr.toks k t' ht'
  refine⟨?_,q2⟩
  by_cases cY:t'.blk=some b
  ·rcases q1 with q1|⟨b',o0,n,c,cur',TT',fr',hv,gj,hh,fQ,vF,bI⟩
   ·exact .inl q1
   obtain rfl:b'=b:=by simpa[Tok.blk,hv]using cY
   rw[cG]at hh
   simp only[Option.some.injEq,Obj.cells.injEq]at hh
   obtain⟨rfl,rfl,rfl⟩:=hh
   have cy:=aS k t' o0 n c ht' hv
   refine .inr ⟨b',o0,n,c,_,TT,fr,hv,gj,dD,by simp only[List.size_toArray,fg];exact fQ,λo1 lh=>e8 o1 (by simpa only[List.size_toArray,fg]using lh),λo1 lh gy=>?_⟩
   simp only[Mem.upd]
   rw[if_neg (λhc=>cy o1 hc.2.1 hc.2.2 lh gy)];exact bI o1 lh gy
  ·have cI:∀b1,t'.blk=some b1->b1≠b:=λb1 dt e=>by subst e;exact cY dt
   exact q1.same (λb1 dt=>bH _ (cI b1 dt)) (λb1 o1 dt hn=>by rw[Mem.upd_other m (cI b1 dt)];exact hn)
 ·obtain⟨M,hd⟩:=hr.dom
  have hu:Upd M w w':=⟨by rw[hw'];rfl,by rw[hw'];rfl,by rw[hw'];rfl,by rw[hw'];simp,λk hk hn=>bH k (λe=>hn (e ▸ hM M hd)),λk _ hk=>by
   by_cases e9:k=b
   ·subst e9
    intro c1 T1 fr1 hh i hi
    rw[dD]at hh
    simp only[Option.some.injEq,Obj.cells.injEq]at hh
    obtain⟨rfl,rfl,rfl⟩:=hh
    exact e8 i (by simpa only[List.size_toArray,fg]using hi)
   ·exact hk.of_eq (bH k e9)⟩
  exact⟨_,hd.step hu ⟨λb1 o1 u j1=>by
   by_cases hb:b1=b
   ·exact .inr (.inl (hb ▸ hM M hd))
   ·rw[Mem.upd_other m hb]at j1;exact .inl j1,λ_ _ h=>.inl h⟩⟩
theorem Zgt{E:Env}{T:TypeId}{i:TI}(cH:TOk E.P T i){w:World}{b o:Nat}{v:Value}{cur:Array Value}{TT:TypeId}{fr:Nat×Nat}(cG:w.heap[b]?=some (.cells cur TT fr))(fS:Wr w b)(bJ:o+v.cells.toList.length<=cur.size)
  (h1:v.cells.size=i.size) (fa:v.cells.all Value.oneCell'=true):(Instr.storeAt T (ptr b o) v).run E.P w=.ok () (w.setRow b (ZaH cur.toList o v.cells.toList).toArray):=by
 have ow:=ZbA (P:=E.P) b o TT fr v.cells.toList 0 cur w cG (λo ho=>fS cur TT fr cG o ho) (by omega) (λu hu=>by
  rw[Array.all_eq_true_iff_forall_mem]at fa;exact fa u (by simpa using hu))
 have aV:(storeVar T ⟨b,o,none⟩ v).run E.P w=.ok () (w.setRow b (ZaH cur.toList o v.cells.toList).toArray):=by
  have hz:=cH.run_size (w:=w)
  simp only[storeVar,Sem.run_bind,hz,Result.andThen_ok,h1,ne_eq,not_true_eq_false,if_false]
  rw[ow]
  simp[ZaH]
 simp[Instr.storeAt,Instr.sureAddr,ptr,aV]
theorem Zgu{E:Env}(hE:E.ok)(hY:YOk E C){T:TypeId}{key:Nat}{x:Operand}{v:Value}{K:Mem->Prop}(hr:Rel C S m a w)(h:Zgs E S m T key x v K):
  ∃m' w',K m'/\Rel C S m' a w'/\(Instr.storeAt T (a.eval x) v).run E.P w=.ok () w':=by
 unfold Zgs at h
 obtain⟨p,hp,h⟩:=Zaw h
 have he:=hr.ev hp
 cases ht:E.tt T with
 | none=>simp[ht]at h
 | some i=>
  simp only[ht]at h
  have cH:=hE T i ht
  cases hk:S.tok key with
  | none=>
   simp only[hk]at h
   cases dQ:E.m0 with
   | none=>simp[dQ]at h
   | some mm=>
    simp only[dQ]at h
    obtain⟨gn,hW⟩:=hY.m0 mm dQ
    obtain⟨h1,⟨us,ou,cz⟩,h3,h5,h4⟩:=Zag h
    simp only[zA7,Bool.not_eq_true']at h1
    obtain⟨⟨iU,fT⟩,ln⟩:=h1
    have h1:=And.intro fT ln
    have fq:=hr.fo iU
    have kC:=Zce h1.1
    generalize ZrK p=b at *
    generalize ZrL p=o at *
    have bJ:=Nat.eq_of_beq_eq_true h1.2.1
    have fa:=ZeU h1.2.2
    have aH:v.cells.toList.length=i.size:=by simpa using bJ
    have gX:0 < i.size:=by simpa[Nat.blt_eq]using h5
    obtain⟨j4,vG⟩:=Zeo h4
    obtain⟨u,hu⟩:∃u,us[i.size - 1]?=some u:=⟨_,zA3 (by omega)⟩
    have cx:=hr.sub _ _ _ (cz _ _ hu)
    obtain⟨cur,TT,fr,cG⟩:∃c T fr,w.heap[b]?=some (.cells c T fr):=by
     unfold World.cell? at cx
     split at cx
     ·rename_i c T fr hc;exact⟨c,T,fr,hc⟩
     ·cases cx
    have eT:o+(i.size - 1) < cur.size:=by
     simp only[World.cell?,cG,Option.isSome_none,Bool.false_eq_true,if_false]at cx
     exact(Array.getElem?_eq_some_iff.1 cx).1
    have jk:∀M,Dom C S m a w M->M b:=λM hd=>by
     rcases hd.new _ _ _ (cz _ _ hu)with h6|h6
     ·rw[fq,gn,h3]at h6;cases h6
     ·exact h6
    have fS:Wr w b:=by
     obtain⟨M,hd⟩:=hr.dom
     exact hW _ _ _ hd.p b (jk M hd)
    refine⟨_,_,j4,hr.storeOwn cG fS (by omega) rfl jk (by rw[fq,gn];exact h3) (λid y hy e=>?_) (λk t o0 n c gc hv q gB oz q8 oA=>?_),?_⟩
    ·have ho:=hr.own id y hy
     cases hz:y.fz with
     | true=>exact vG id y (hr.ids id y hy) hy hz e
     | false=>
      have:=ho.free hz (o+(i.size - 1))
      rw[e,cz _ _ hu]at this;cases this
    ·rcases(hr.toks k t gc).1 with q0|⟨b',o',n',c',_,_,_,hv',_,_,_,_,bI⟩
     ·rw[hv]at q0;cases q0
     ·rw[hv]at hv'
      simp only[Value.slice.injEq,Option.some.injEq,Addr.mk.injEq,and_true]at hv'
      obtain⟨⟨rfl,rfl⟩,rfl,rfl⟩:=hv'
      have h7:=bI _ q8 oA
      obtain⟨u7,vH⟩:∃u7,us[q - o]?=some u7:=⟨us[q - o]'(by omega),zA3 _⟩
      have h8:=cz _ _ vH
      rw[show o+(q - o)=q by omega,h7]at h8;cases h8
    ·rw[he,kC];exact Zgt cH cG fS (by omega) bJ fa
  | some t=>
   simp only[hk]at h
   obtain⟨h1,h2,h3,h4⟩:=Zag h
   simp only[zA7]at h1
   have kC:=Zce h1.1
   generalize ZrK p=b at *
   generalize ZrL p=o at *
   have bJ:=Nat.eq_of_beq_eq_true h1.2.1
   have fa:=ZeU h1.2.2
   have aH:v.cells.toList.length=i.size:=by simpa using bJ
   obtain⟨g1,g2⟩:=hr.toks key t hk
   have gl:t.blk=some b:=by unfold Tok.blk;rw[h2]
   obtain⟨g2,g3⟩:=g2 b gl
   rcases g1 with g1|⟨b',o0,n,c,cur,TT,fr,hv,gj,cG,fQ,e8,bI⟩
   ·rw[g1]at h2;cases h2
   rw[hv]at h2
   simp only[Value.slice.injEq,Option.some.injEq,Addr.mk.injEq,and_true]at h2
   obtain⟨⟨rfl,rfl⟩,_,_⟩:=h2
   rw[hv]at h3
   simp only[slN]at h3
   have cy:n*t.esz<=c*t.esz:=Nat.mul_le_mul_right _ gj
   have fS:Wr w b':=λc1 T1 fr1 hh o ho=>by
    rw[cG]at hh
    simp only[Option.some.injEq,Obj.cells.injEq]at hh
    obtain⟨rfl,rfl,rfl⟩:=hh
    exact e8 o ho
   refine⟨_,_,h4,hr.storeOwn cG fS (by omega) rfl (λM hd=>hd.tok key t b' hk gl) g3 g2 (λk t' o' n' c' gc hv' q gB oz q8 oA=>?_),?_⟩
   ·have:k=key:=hr.tapart k key t' t b' gc hk (by simp[Tok.blk,hv']) gl
    subst this
    rw[hk]at gc;cases gc
    rw[hv]at hv'
    simp only[Value.slice.injEq,Option.some.injEq,Addr.mk.injEq,and_true,true_and]at hv'
    obtain⟨rfl,rfl,rfl⟩:=hv'
    omega
   ·rw[he,kC];exact Zgt cH cG fS (by omega) bJ fa
end
def Zo1(E:Env)(S:St)(m:Mem)(T:TypeId)(id:Nat)(vd vs:Value)(K:Int->St->Prop):Prop:=match Zau E T with
 | none=>False
 | some (e,j)=>match S.L id with
  | none=>False
  | some bx=>chk (ZbQ vd&&(ZbQ vs&&!bx.fz)) (m.free bx.b->∃(o:Nat)(xs:List Value),slA vd=some ⟨bx.b,o,none⟩/\xs.length=min (slN vs) (slN vd)*j.size/\o+xs.length<=bx.cs.length/\(∀u∈xs,u.oneCell'=true)/\
    (rowRd m (slA vs) xs\/∃o',slA vs=some ⟨bx.b,o',none⟩/\∀i u,xs[i]?=some u->bx.cs[o'+i]?=some u)/\K ((min (slN vs) (slN vd):Nat):Int) (S.setL id (some { bx with cs:=ZaH bx.cs o xs })))
theorem Zld{P:Program}{w:World}{m:Mem}{x:Box}(hx:Own m w x)(o:Nat)(xs:List Value)(h1:∀u∈xs,u.oneCell'=true)(hb:o+xs.length<=x.cs.length):
  ∃w',(storeCells ⟨x.b,o,none⟩ xs 0).run P w=.ok () w'/\w'.os=w.os/\w'.tape=w.tape/\w'.output=w.output/\w'.heap.size=w.heap.size/\(∀k,k≠x.b->w'.heap[k]?=w.heap[k]?)/\
   (x.fz=false->Own m w' { x with cs:=ZaH x.cs o xs }):=by
 obtain⟨sp,fr,hh,hc,hf⟩:=hx.cells
 have h3:=ZbA (P:=P) x.b o x.T fr xs 0 _ w hh (λo ho=>hf o (by simpa[hc]using ho)) (by simp at hc ⊢;omega) h1
 have h4:(storeCells ⟨x.b,o,none⟩ xs 0).run P w=.ok () (w.setRow x.b (ZaH (x.cs++sp) o xs).toArray):=by
  rw[h3]
  simp[ZaH]
 refine⟨_,h4,rfl,rfl,rfl,by simp,λk hk=>setRow_other w x.b k _ hk,λhz=>?_⟩
 refine⟨⟨sp,fr,?_,?_,hf⟩,λ_=>hx.free hz,λhz'=>by simp[hz]at hz',λeb=>?_⟩
 ·rw[setRow_heap w x.b _ _ x.T fr hh,Zfn (by omega)]
 ·have:=Zcf (cs:=x.cs) (o:=o) (vs:=xs) (by omega)
  simp only[zA1]at hc ⊢
  omega
 ·have:=hx.whole eb
  show(ZaH x.cs o xs).length=x.cap
  rw[Zcf (by omega)];exact this
section
variable {C:Ctx} {S:St} {m:Mem} {a:Act} {w:World}
theorem Zm0{E:Env}(hE:E.ok){T xT ty:TypeId}{id:Nat}{vd vs:Value}{K:Int->St->Prop}(hr:Rel C S m a w)(h:Zo1 E S m T id vd vs K):
  ∃n S' w',K n S'/\Rel C S' m a w'/\(Builtin.copy_ #[T,xT] ty #[vd,vs]).run E.P w=.ok (.int .i64 n) w':=by
 unfold Zo1 at h
 cases hs:Zau E T with
 | none=>simp[hs]at h
 | some ej=>
  obtain⟨e,j⟩:=ej
  simp only[hs]at h
  cases hL:S.L id with
  | none=>simp[hL]at h
  | some bx=>
   simp only[hL]at h
   obtain⟨h1,hq⟩:=Zag h
   simp only[zA7,Bool.not_eq_true']at h1
   obtain⟨o,xs,h2,h3,h4,h5,h6,hk⟩:=hq ((hr.own id bx hL).free h1.2.2)
   clear hq h
   have oB:=Zbr h1.1
   have eC:=Zbr h1.2.1
   generalize slA vd=ad at *
   generalize slN vd=nd at *
   generalize slC vd=cd at *
   generalize slA vs=as at *
   generalize slN vs=ns at *
   generalize slC vs=cs at *
   subst oB eC h2
   obtain⟨i,iy,gH,ky⟩:=ZaW hs
   have dW:=hE e j ky
   have hu:=(hE T i iy).run_und (w:=w)
   rw[gH]at hu
   have bJ:=dW.run_size (w:=w)
   have mg:=hr.own id bx hL
   have li:(Builtin.firstCells j.size (min ns nd) (.slice as ns cs)).run E.P w=.ok xs.toArray w:=by
    rcases h6 with h6|⟨o',h6,h7⟩
    ·exact Zbc hr.sub h6 _ _ _ _ h3
    ·subst h6
     refine run_firstCells_some w j.size _ _ ns cs xs h3 (λi u hu=>?_)
     rw[ZbN]
     obtain⟨sp,fr,hh,_⟩:=mg.cells
     have h8:=h7 i u hu
     have h9:=(zA0 h8).1
     simp only[World.cell?,hh,Option.isSome_none,Bool.false_eq_true,if_false,List.getElem?_toArray]
     rw[zA5 h9];exact h8
   obtain⟨w',aV,e1,e2,e3,e4,e5,e6⟩:=Zld (P:=E.P) mg o xs h5 h4
   refine⟨_,_,w',hk,hr.store hL h1.2.2 rfl e1 e2 e3 e4 e5 (e6 h1.2.2),?_⟩
   have iV:Nat.min ns nd=min ns nd:=rfl
   simp[Builtin.copy_,hu,Builtin.lenOf,bJ,iV,li,aV,goInt]
end
def Mem.or(a b:Mem):Mem:=⟨λi o=>match a i o with
 | some v=>some v
 | none=>b i o,λi=>match a.k i with
 | some v=>some v
 | none=>b.k i⟩
theorem Mem.le_or(a b:Mem):a.le (a.or b):=⟨λi o v h=>by simp[Mem.or,h],λi v h=>by simp[Mem.or,h]⟩
theorem Mem.or_k{a b:Mem}{i:Nat}{v:List (Value×Value)}(h:(a.or b).k i=some v):a.k i=some v\/(a.k i=none/\b.k i=some v):=by
 unfold Mem.or at h
 cases ha:a.k i with
 | some u=>simp[ha]at h;exact .inl (by rw[h])
 | none=>simp[ha]at h;exact .inr ⟨rfl,h⟩
theorem Mem.or_some{a b:Mem}{i o:Nat}{v:Value}(h:a.or b i o=some v):a i o=some v\/(a i o=none/\b i o=some v):=by
 unfold Mem.or at h
 cases ha:a i o with
 | some u=>simp[ha]at h;exact .inl (by rw[h])
 | none=>simp[ha]at h;exact .inr ⟨rfl,h⟩
def MapFind(P:Program)(T:TypeId)(k:Value):List (Value×Value)->Option Value->Prop
 | [],r=>r=none
 | e::es,r=>(EqIs P T k e.1 true/\r=some e.2)\/(EqIs P T k e.1 false/\MapFind P T k es r)
def ZiR(P:Program)(T:TypeId)(k z:Value):List (Value×Value)->List (Value×Value)->Prop
 | [],r=>r=[(k,z)]
 | e::l,r=>(EqIs P T k e.1 true/\Instr.sameBits 10000 e.1 k=true/\r=(k,z)::l)\/(EqIs P T k e.1 false/\∃l',ZiR P T k z l l'/\r=e::l')
def ZtF(P:Program)(T:TypeId)(v:Value):Prop:=∀(b:Bool)(w:World),(Instr.checkKey b 10000 T v).run P w=.ok () w
def LookIs(P:Program)(T:TypeId)(k:Value)(es:List (Value×Value))(z v:Value)(ok:Bool):Prop:=∃r,MapFind P T k es r/\v=r.getD z/\ok=r.isSome
def Mem.updK(m:Mem)(b:Nat)(e:List (Value×Value)):Mem:=⟨m.c,λi=>if i=b then some e else m.k i⟩
theorem Mem.updK_same(m:Mem)(b:Nat)(e:List (Value×Value)):(m.updK b e).k b=some e:=by simp[Mem.updK]
theorem Mem.updK_other(m:Mem){b b':Nat}(h:b'≠b)(e:List (Value×Value)):(m.updK b e).k b'=m.k b':=by simp[Mem.updK,h]
theorem Mem.le_updK{m0 m:Mem}(h:m0.le m){b:Nat}(hb:m0.k b=none)(e:List (Value×Value)):m0.le (m.updK b e):=⟨h.c,λi x hx=>by
 by_cases hi:i=b
 ·subst hi;rw[hb]at hx;cases hx
 ·rw[Mem.updK_other m hi];exact h.k i x hx⟩
def Mem.newC(m mi:Mem)(b:Nat):Prop:=∃o v,mi b o=some v/\m b o=none
def Mem.newK(m mi:Mem)(b:Nat):Prop:=∃e,mi.k b=some e/\m.k b=none
noncomputable def Mem.less(m m0 mi:Mem):Mem:=⟨λb o=>open Classical in if m0.newC mi b then none else m b o,λb=>open Classical in if m0.newK mi b then none else m.k b⟩
theorem Sub.le_or{a b:Mem}{w:World}(ha:Sub a w)(hb:Sub b w):b.le (a.or b):=⟨λi o v h=>by
 cases he:a i o with
 | none=>simp[Mem.or,he,h]
 | some u=>
  have h1:=ha.c i o u he
  rw[hb.c i o v h]at h1
  simp[Mem.or,he,Option.some.inj h1],λi e h=>by
 cases he:a.k i with
 | none=>simp[Mem.or,he,h]
 | some u=>
  obtain⟨es,c,h1,h2⟩:=ha.k i u he
  obtain⟨es',c',h3,h4⟩:=hb.k i e h
  rw[h1]at h3;cases h3
  simp[Mem.or,he,<-h2,<-h4]⟩
def Zo2(E:Env)(T:TypeId):Option (TypeId×TI):=match E.tt T with
 | none=>none
 | some i=>match i.d with
  | .map k e=>match E.tt k,E.tt e with
   | some _,some ei=>some (k,ei)
   | _,_=>none
  | _=>none
theorem Zkh{E:Env}{T k:TypeId}{ei:TI}(h:Zo2 E T=some (k,ei)):∃i e ki,E.tt T=some i/\i.d=.map k e/\E.tt k=some ki/\E.tt e=some ei:=by
 unfold Zo2 at h
 cases ht:E.tt T with
 | none=>simp[ht]at h
 | some i=>
  simp only[ht]at h
  cases hd:i.d with
  | map k' e=>
   simp only[hd]at h
   cases hk:E.tt k' with
   | none=>simp[hk]at h
   | some ki=>
    cases he:E.tt e with
    | none=>simp[hk,he]at h
    | some ei'=>
     simp only[hk,he,Option.some.injEq,Prod.mk.injEq]at h
     obtain⟨rfl,rfl⟩:=h
     exact⟨i,e,ki,rfl,hd,hk,he⟩
  | _=>simp[hd]at h
def Zwo(E:Env)(S:St)(m:Mem)(T:TypeId)(x y:Operand)(ok:Bool)(K:Value->Prop):Prop:=wv S x λvm=>wv S y λvk=>match Zo2 E T with
 | none=>False
 | some (k,ei)=>∃(b:Nat) (es:List (Value×Value)) (v:Value) (o:Bool),vm=.map (some b)/\m.k b=some es/\ZtF E.P k vk/\LookIs E.P k vk es ei.zero v o/\K (bif ok then .tuple #[v,.bool o]else v)
def ZrW(E:Env)(S:St)(m:Mem)(T:TypeId)(x y z:Operand)(K:Mem->Prop):Prop:=wv S x λvm=>wv S y λvk=>wv S z λvz=>match Zo2 E T with
 | none=>False
 | some (k,_)=>match E.m0 with
  | none=>False
  | some m0=>chk (!S.fo) (∃(b:Nat) (es es':List (Value×Value)),vm=.map (some b)/\m.k b=some es/\ZtF E.P k vk/\ZiR E.P k vk vz es es'/\m0.k b=none/\K (m.updK b es'))
def ZuJ(S:St)(m:Mem)(r:Option Operand)(d:Option Tmp)(K:St->Mem->Prop):Prop:=match r with
 | some _=>False
 | none=>∀b,m.free b->m.k b=none->K (S.put d (some (.v (.map (some b))))) (m.updK b [])
section
variable {C:Ctx} {S:St} {m:Mem} {a:Act} {w:World}
theorem Zqk{P:Program}{k:TypeId}{kv:Value}{w:World}:∀{l:List MapEntry} {r:Option Value} {i:Nat},MapFind P k kv (l.map λx=>(x.key,x.val)) r->∃q:Option (Nat×Value),(Instr.findAsking k kv l i).run P w=.ok q w/\q.map (·.2)=r
 | [],r,i,h=>⟨none,rfl,by simp only[List.map_nil,MapFind]at h;rw[h];rfl⟩
 | e::l,r,i,h=>by
  simp only[List.map_cons,MapFind]at h
  rcases h with⟨h1,rfl⟩|⟨h1,h2⟩
  ·exact⟨some (i,e.val),by simp[Instr.findAsking,h1.1 w,Result.andThen],rfl⟩
  ·obtain⟨q,h3,h4⟩:=Zqk (w:=w) (i:=i+1) h2
   exact⟨q,by simp[Instr.findAsking,h1.1 w,Result.andThen,h3],h4⟩
theorem ZwP{P:Program}{K:TypeId}{d:TypeDesc}(hu:P.underlying K=some d){a b:Value}{r:Bool}(h:Instr.sameNow d a b=some r)(n:Nat)(w:World):(Op.equalIn (n+1) K a b).run P w=.ok r w:=by
 unfold Instr.sameNow at h
 split at h
 ·split at h
  ·rename_i e
   cases h;subst e
   rw[Op.equalIn]
   simp[run_underlying hu,Result.andThen]
  ·cases h
 ·cases h
  rw[Op.equalIn]
  simp[run_underlying hu,Result.andThen]
 ·cases h
  rw[Op.equalIn]
  simp[run_underlying hu,Result.andThen]
 ·cases h
theorem Zmo{P:Program}{K:TypeId}{d:TypeDesc}(hu:P.underlying K=some d){a b:Value}{r:Bool}(h:Instr.sameNow d a b=some r)(w:World):(Op.equal K a b).run P w=.ok r w:=ZwP hu h 9999 w
theorem ZtG{P:Program}{K:TypeId}{d:TypeDesc}(hu:P.underlying K=some d){kv:Value}{w:World}:∀{l:List MapEntry} {i:Nat} {r:Option (Nat×Value)},Instr.findNow d kv l i=some r->(Instr.findAsking K kv l i).run P w=.ok r w
 | [],i,r,h=>by simp only[Instr.findNow,Option.some.injEq]at h;subst h;rfl
 | e::l,i,r,h=>by
  unfold Instr.findNow at h
  split at h
  ·rename_i hs
   cases h
   simp[Instr.findAsking,Zmo hu hs,Result.andThen]
  ·rename_i hs
   simp[Instr.findAsking,Zmo hu hs,Result.andThen,ZtG hu h]
  ·cases h
theorem ZtH{P:Program}{K:TypeId}{d:TypeDesc}(hu:P.underlying K=some d){kv:Value}{w:World}{l:List MapEntry}{q:Option (Nat×Value)}(h:(Instr.findAsking K kv l 0).run P w=.ok q w):(Instr.findKey K kv l).run P w=.ok q w:=by
 simp only[Instr.findKey,Sem.run_bind,run_underlying hu,Result.andThen]
 split
 ·rename_i r hr
  rw[ZtG hu hr]at h
  cases h;rfl
 ·exact h
theorem Zm1{P:Program}{k:TypeId}{d:TypeDesc}{kv:Value}{w:World}{l:List MapEntry}{r:Option Value}(hu:P.underlying k=some d)(h:MapFind P k kv (l.map λx=>(x.key,x.val)) r):
  ∃q:Option (Nat×Value),(Instr.findKey k kv l).run P w=.ok q w/\q.map (·.2)=r:=by
 obtain⟨q,h1,h2⟩:=Zqk (w:=w) (i:=0) h
 exact⟨q,ZtH hu h1,h2⟩
theorem ZtI{P:Program}{k:TypeId}{kv z:Value}{w:World}:∀{l:List MapEntry} {r:List (Value×Value)} {i:Nat},ZiR P k kv z (l.map λx=>(x.key,x.val)) r->∃q:Option (Nat×Value),(Instr.findAsking k kv l i).run P w=.ok q w/\(match q with
  | none=>r=(l.map λx=>(x.key,x.val))++[(kv,z)]
  | some (j,_)=>∃(d:Nat)(e:MapEntry),j=i+d/\l[d]?=some e/\Instr.sameBits 10000 e.key kv=true/\r=(l.modify d λe=>{ e with key:=kv,val:=z }).map λx=>(x.key,x.val))
 | [],r,i,h=>⟨none,rfl,by simp only[List.map_nil,ZiR]at h;simpa using h⟩
 | e::l,r,i,h=>by
  simp only[List.map_cons,ZiR]at h
  rcases h with⟨h1,h2,rfl⟩|⟨h1,l',h2,rfl⟩
  ·exact⟨some (i,e.val),by simp[Instr.findAsking,h1.1 w,Result.andThen],0,e,by simp,by simp,h2,by simp⟩
  ·obtain⟨q,h3,h4⟩:=ZtI (w:=w) (i:=i+1) h2
   refine⟨q,by simp[Instr.findAsking,h1.1 w,Result.andThen,h3],?_⟩
   cases q with
   | none=>simp only at h4 ⊢;simp[h4]
   | some q=>
    obtain⟨j,u⟩:=q
    simp only at h4 ⊢
    obtain⟨d,e',g1,g2,g3,g4⟩:=h4
    exact⟨d+1,e',by omega,by simpa using g2,g3,by simp[g4]⟩
theorem Zph{P:Program}{k:TypeId}{d:TypeDesc}{kv z:Value}{w:World}{l:List MapEntry}{r:List (Value×Value)}(hu:P.underlying k=some d)(h:ZiR P k kv z (l.map λx=>(x.key,x.val)) r):
  ∃q:Option (Nat×Value),(Instr.findKey k kv l).run P w=.ok q w/\(match q with
  | none=>r=(l.map λx=>(x.key,x.val))++[(kv,z)]
  | some (j,_)=>∃(e:MapEntry),l[j]?=some e/\Instr.sameBits 10000 e.key kv=true/\r=(l.modify j λe=>{ e with key:=kv,val:=z }).map λx=>(x.key,x.val)):=by
 obtain⟨q,h1,h2⟩:=ZtI (w:=w) (i:=0) h
 refine⟨q,ZtH hu h1,?_⟩
 cases q with
 | none=>exact h2
 | some q=>
  obtain⟨j,u⟩:=q
  simp only at h2 ⊢
  obtain⟨d,e,g1,g2,g3,g4⟩:=h2
  rw[Nat.zero_add]at g1
  subst g1
  exact⟨e,g2,g3,g4⟩
theorem Zm2{E:Env}(hE:E.ok)(hr:Rel C S m a w){T:TypeId}{x y:Operand}{ok:Bool}{K:Value->Prop}(h:Zwo E S m T x y ok K):∃v,K v/\(Instr.lookup T (a.eval x) (a.eval y) ok).run E.P w=.ok v w:=by
 unfold Zwo at h
 obtain⟨vm,q9,h⟩:=Zaw h
 obtain⟨vk,rb,h⟩:=Zaw h
 cases hm:Zo2 E T with
 | none=>simp[hm]at h
 | some q=>
  obtain⟨k,ei⟩:=q
  simp only[hm]at h
  obtain⟨b,es,v,o,rfl,h1,h2,⟨r,h3,h4,h5⟩,h6⟩:=h
  obtain⟨i,e,ki,g1,g2,g3,g4⟩:=Zkh hm
  obtain⟨arr,cl,h7,h8⟩:=hr.sub.k b es h1
  refine⟨_,h6,?_⟩
  rw[hr.ev q9,hr.ev rb]
  have hu:E.P.underlying T=some (.map k e):=by rw[(hE T i g1).und,g2]
  have re:E.P.underlying k=some ki.d:=(hE k ki g3).und
  obtain⟨q,h9,fT⟩:=Zm1 (w:=w) (l:=arr.toList) re (by rw[h8];exact h3)
  have hz:=(hE e ei g4).run_zero (w:=w)
  have hg:(getObj b).run E.P w=.ok (.map arr cl) w:=MapKept.run_getObj_map h7
  simp only[Instr.lookup,Sem.run_bind,run_underlying hu,Result.andThen,hg,h2 arr.isEmpty w,h9]
  cases q with
  | none=>
   simp only[Option.map_none]at fT
   subst fT
   simp only[Option.getD_none]at h4;subst h4
   simp only[Option.isSome_none]at h5;subst h5
   cases ok <;> simp[hz,Result.andThen,h2 arr.isEmpty w,h9]
  | some q=>
   simp only[Option.map_some]at fT
   subst fT
   simp only[Option.getD_some]at h4;subst h4
   simp only[Option.isSome_some]at h5;subst h5
   cases ok <;> simp[Result.andThen,h2 arr.isEmpty w,h9]
theorem Rel.storeMap(hr:Rel C S m a w){b:Nat}{es0:Array MapEntry}{cl0:Nat}{arr:Array MapEntry}{cl:Nat}(hb:w.heap[b]?=some (.map es0 cl0))(hM:∀M,Dom C S m a w M->M b)(h0:C.me.k b=none):
  Rel C S (m.updK b (arr.toList.map λx=>(x.key,x.val))) a (w.putObj b (.map arr cl)):=by
 have aB:=(Array.getElem?_eq_some_iff.1 hb).1
 have bH:∀k,k≠b->(w.putObj b (.map arr cl)).heap[k]?=w.heap[k]?:=λk hk=>World.putObj_heap_other hk
 have dD:(w.putObj b (.map arr cl)).heap[b]?=some (.map arr cl):=World.putObj_heap_same aB
 have cx:∀(k:Nat) c T fr,w.heap[k]?=some (Obj.cells c T fr)->k≠b:=λk c T fr hk e=>by rw[e,hb]at hk;cases hk
 obtain⟨es,q1,q2,q3⟩:=hr.defers
 have vI:∀k t b',S.tok k=some t->t.blk=some b'->b'≠b:=λk t b' ht hb' e=>by
  rcases(hr.toks k t ht).1 with q0|⟨b1,o0,n,c,cur,T,fr,hv,_,hh,_⟩
  ·simp[Tok.blk,q0]at hb'
  ·simp[Tok.blk,hv]at hb';subst hb';exact cx _ _ _ _ hh e
 refine⟨⟨es,q1,q2,λD hD=>?_⟩,hr.size,hr.env,λid x hx=>?_,hr.apart,hr.ids,λk t ht=>?_,hr.tkeys,hr.tapart,⟨λb' o v hv=>?_,λb' e he=>?_⟩,Mem.le_updK hr.le h0 _,?_,hr.fo⟩
 ·rw[bH D (λe=>by have:=q3 D hD;rw[e,hb]at this;cases this)];exact q3 D hD
 ·have ho:=hr.own id x hx
  obtain⟨c,T,fr,hh⟩:=ho.isC
  exact⟨by rw[bH _ (cx _ _ _ _ hh)];exact ho.cells,ho.free,ho.known,ho.whole⟩
 ·obtain⟨g1,g2⟩:=hr.toks k t ht
  exact⟨g1.same (λb' hb'=>bH _ (vI k t b' ht hb')) (λ_ _ _ h=>h),g2⟩
 ·have h1:=hr.sub.c b' o v hv
  have h2:∃c T fr,w.heap[b']?=some (Obj.cells c T fr):=by
   unfold World.cell? at h1
   split at h1
   ·rename_i c T fr hc;exact⟨c,T,fr,hc⟩
   ·cases h1
  obtain⟨c,T,fr,hh⟩:=h2
  rw[ZbL (bH _ (cx _ _ _ _ hh))];exact h1
 ·by_cases dT:b'=b
  ·subst dT
   rw[Mem.updK_same]at he;cases he
   exact⟨arr,cl,dD,rfl⟩
  ·rw[Mem.updK_other m dT]at he
   exact(hr.sub.k b' e he).same (bH b' dT)
 ·obtain⟨M,hd⟩:=hr.dom
  have jk:=hM M hd
  have hu:Upd M w (w.putObj b (.map arr cl)):=⟨rfl,rfl,rfl,by simp[World.putObj],λk hk hn=>bH k (λe=>hn (e ▸ jk)),λk _ hk=>by
   by_cases e9:k=b
   ·subst e9
    intro c1 T1 fr1 hh i hi
    rw[dD]at hh;cases hh
   ·exact hk.of_eq (bH k e9)⟩
  exact⟨_,hd.step hu ⟨λ_ _ _ h=>.inl h,λb' e he=>by
   by_cases dT:b'=b
   ·exact .inr (.inl (dT ▸ jk))
   ·rw[Mem.updK_other m dT]at he;exact .inl he⟩⟩
theorem Zle{E:Env}(hE:E.ok)(hY:YOk E C)(hr:Rel C S m a w){T:TypeId}{x y z:Operand}{K:Mem->Prop}(h:ZrW E S m T x y z K):
  ∃m' w',K m'/\Rel C S m' a w'/\(Instr.mapUpdate T (a.eval x) (a.eval y) (a.eval z)).run E.P w=.ok () w':=by
 unfold ZrW at h
 obtain⟨vm,q9,h⟩:=Zaw h
 obtain⟨vk,rb,h⟩:=Zaw h
 obtain⟨vz,vJ,h⟩:=Zaw h
 cases hm:Zo2 E T with
 | none=>simp[hm]at h
 | some q=>
  obtain⟨k,ei⟩:=q
  simp only[hm]at h
  cases dQ:E.m0 with
  | none=>simp[dQ]at h
  | some mm=>
   simp only[dQ]at h
   obtain⟨h1,b,es,es',rfl,h2,h3,h4,h5,h6⟩:=Zag h
   have iU:S.fo=false:=by simpa using h1
   have fq:C.me=mm:=(hr.fo iU).trans (hY.m0 mm dQ).1
   obtain⟨i,e,ki,g1,g2,g3,g4⟩:=Zkh hm
   obtain⟨arr,cl,h7,h8⟩:=hr.sub.k b es h2
   have hu:E.P.underlying T=some (.map k e):=by rw[(hE T i g1).und,g2]
   have re:E.P.underlying k=some ki.d:=(hE k ki g3).und
   obtain⟨q,h9,fT⟩:=Zph (w:=w) (l:=arr.toList) re (by rw[h8];exact h4)
   have hM:∀M,Dom C S m a w M->M b:=λM hd=>by
    rcases hd.new.k b es h2 with ln|ln
    ·rw[fq,h5]at ln;cases ln
    ·exact ln
   rw[hr.ev q9,hr.ev rb,hr.ev vJ]
   have hg:(getObj b).run E.P w=.ok (.map arr cl) w:=MapKept.run_getObj_map h7
   cases q with
   | none=>
    have cB:=hr.storeMap (arr:=arr.push { key:=vk,val:=vz,born:=cl }) (cl:=cl+1) h7 hM (by rw[fq];exact h5)
    have e1:(arr.push { key:=vk,val:=vz,born:=cl }).toList.map (λx=>(x.key,x.val))=es':=by simp only at fT;rw[fT];simp
    rw[e1]at cB
    refine⟨_,_,h6,cB,?_⟩
    have hs:(setObj b (.map (arr.push { key:=vk,val:=vz,born:=cl }) (cl+1))).run E.P w=.ok () (w.putObj b (.map (arr.push { key:=vk,val:=vz,born:=cl }) (cl+1))):=MapKept.run_setObj_map _ h7
    simp only[Instr.mapUpdate,Sem.run_bind,run_underlying hu,Result.andThen,hg,h3 false w,h9]
    exact hs
   | some q=>
    obtain⟨j,u⟩:=q
    simp only at fT
    obtain⟨e0,q1,q2,q3⟩:=fT
    have cB:=hr.storeMap (arr:=arr.modify j λe=>{ e with key:=vk,val:=vz }) (cl:=cl) h7 hM (by rw[fq];exact h5)
    have e1:(arr.modify j λe=>{ e with key:=vk,val:=vz }).toList.map (λx=>(x.key,x.val))=es':=by rw[q3];simp
    rw[e1]at cB
    refine⟨_,_,h6,cB,?_⟩
    have hs:(setObj b (.map (arr.modify j λe=>{ e with key:=vk,val:=vz }) cl)).run E.P w=.ok () (w.putObj b (.map (arr.modify j λe=>{ e with key:=vk,val:=vz }) cl)):=MapKept.run_setObj_map _ h7
    have hk:(Instr.keyThatStays (((arr[j]?).map (·.key)).getD vk) vk).run E.P w=.ok vk w:=by
     have:arr[j]?=some e0:=by simpa using q1
     simp[Instr.keyThatStays,this,q2]
    simp only[Instr.mapUpdate,Sem.run_bind,run_underlying hu,Result.andThen,hg,h3 false w,h9,hk]
    exact hs
theorem Zlf{E:Env}{T:TypeId}{r:Option Operand}{d:Option Tmp}(hd:∀t,d=some t->t < C.n){K:St->Mem->Prop}(hr:Rel C S m a w)(h:ZuJ S m r d K):
  ∃S' m' v w',K S' m'/\Rel C S' m' (a.put d v) w'/\(Instr.makeMap T (r.map a.eval)).run E.P w=.ok v w':=by
 cases r with
 | some r=>exact h.elim
 | none=>
  have aB:∀e,m.k w.heap.size≠some e:=λe he=>by have:=(hr.sub.k _ e he).lt;omega
  have hk:m.k w.heap.size=none:=by
   cases he:m.k w.heap.size with
   | none=>rfl
   | some e=>exact(aB e he).elim
  have bI:m.free w.heap.size:=λo=>by
   cases he:m w.heap.size o with
   | none=>rfl
   | some v=>have:=hr.sub.lt he;omega
  have h1:=h w.heap.size bI hk
  have hs:Sub (m.updK w.heap.size []) (w.alloc (.map #[] 0)):=⟨(hr.sub.alloc _).c,λb e he=>by
   by_cases hb:b=w.heap.size
   ·subst hb
    rw[Mem.updK_same]at he;cases he
    exact⟨#[],0,heap_alloc_new w _,rfl⟩
   ·rw[Mem.updK_other m hb]at he
    exact(hr.sub.alloc _).k b e he⟩
  have hw:=hr.world (w':=w.alloc (.map #[] 0)) (m':=m.updK w.heap.size []) (Keep.alloc (Nat.le_refl _) (λc T fr e=>by cases e)) hs (Mem.le_updK (Mem.le_refl m) hk _) ⟨λ_ _ _ h=>.inl h,λb e he=>by
   by_cases hb:b=w.heap.size
   ·exact .inr ⟨Nat.le_of_eq hb.symm,by rw[hb];exact Wr.new (λc T fr e=>by cases e)⟩
   ·rw[Mem.updK_other m hb]at he;exact .inl he⟩
  exact⟨_,_,.map (some w.heap.size),_,h1,hw.put d hd rfl,by simp[Instr.makeMap,Result.andThen]⟩
end
theorem ZwQ{P:Program}{K:TypeId}(hu:P.underlying K=some .string)(v:Value)(b:Bool)(n:Nat)(w:World):(Instr.checkKey b (n+1) K v).run P w=.ok () w:=by
 rw[Instr.checkKey]
 simp[run_underlying hu,Result.andThen]
theorem ZuK{P:Program}{K:TypeId}{d:TypeDesc}(hu:P.underlying K=some d){a b:Value}{r:Bool}(h:Instr.sameNow d a b=some r)(hg:∀(op:BinOp)(ox oy:Operand) w,(eqGuard op K ox oy a b).run P w=.ok () w):EqIs P K a b r:=⟨λw=>Zmo hu h w,hg⟩
theorem ZiS{P:Program}{K:TypeId}(hu:P.underlying K=some .string)(v:Value):ZtF P K v:=λb w=>ZwQ hu v b 9999 w
def opW(E:Env)(S:St)(m:Mem)(o:Oper)(K:St->Mem->Prop):Prop:=match o.op with
 | .move x=>K (S.put o.dst (S.ev x)) m
 | .assign x=>K (S.put o.dst (S.ev x)) m
 | .pick c x y=>wv S c λv=>chk (Zgi v) (br (ZcJ v) (K (S.put o.dst (S.ev x)) m) (K (S.put o.dst (S.ev y)) m))
 | .load T x=>match ZtD E o.dst with
  | none=>ZeW E S m T x λv=>K (S.put o.dst (some (.v v))) m
  | some y=>ZeW E S m T x λv=>ldW y v λv=>K (S.put o.dst (some (.v v))) m
 | .store T x y=>wv S y λv=>match ZmZ E x with
  | none=>ZfW E S T x v λS'=>K (S'.put o.dst none) m
  | some key=>bif E.fix.isSome then False else Zgs E S m T key x v λm'=>K (S.put o.dst none) m'
 | .alloc T=>ZrT E S T o.dst λS'=>K S' m
 | .box T x=>wv S x λv=>bif Zfs E o.dst then(bif E.fix.isSome then False else ZyX E S m T v o.dst K)else ZA5 E S T v o.dst λS'=>K S' m
 | .buildSlice T len parts=>match ZcL E o.dst with
  | none=>ZdZ E S m T len parts.toList o.dst K
  | some ke=>bif E.fix.isSome then False else match len,parts.toList with
   | 0,[]=>Zk9 E S (some m) T (.const (.int .i64 0)) (.const (.int .i64 0)) o.dst ke.1 λS'=>K S' m
   | _,_=>False
 | .makeSlice T l c=>match ZcL E o.dst with
  | none=>Zwn E S T l c o.dst λS'=>K S' m
  | some ke=>bif E.fix.isSome then False else Zk9 E S none T l c o.dst ke.1 λS'=>K S' m
 | .lookup T x y ok=>Zwo E S m T x y ok λv=>K (S.put o.dst (some (.v v))) m
 | .mapUpdate T x y z=>bif E.fix.isSome||!E.thaw then False else ZrW E S m T x y z λm'=>K (S.put o.dst none) m'
 | .makeMap T r=>bif E.fix.isSome then False else ZuJ S m r o.dst K
 | .convert s d x=>bif ZcB E s d then(bif E.fix.isSome then False else ZyY S m x o.dst K)
  else bif ZcC E s d then(Zla E S m x λv=>K (S.put o.dst (some (.v v))) m)
  else Zcq E S o λsv=>K (S.put o.dst (some sv)) m
 | .call c=>match c.callee with
  | .value f=>ZwL E o.dst S m (ZwN E o.type o.dst f c.args.toList K)
  | .builtin .append=>match c.args.toList,c.argTypes.toList,o.dst with
   | [s,x],[T,xT],some d=>ZwL E (some d) S m λS m=>wv S s λvs=>wv S x λvx=>Zgp E S m T xT (E.tokOf d) (E.app0 d) vs vx λv tk m'=>K ({ S with tok:=tk,tkeys:=E.tokOf d::S.tkeys }.put (some d) (some (.v v))) m'
   | _,_,_=>False
  | .builtin .copy=>match c.args.toList,c.argTypes.toList with
   | [d,s],[T,xT]=>(match ZeV E d with
    | none=>False
    | some id=>wv S d λvd=>wv S s λvs=>Zo1 E S m T id vd vs λn S'=>K (S'.put o.dst (some (.v (.int .i64 n)))) m)
   | _,_=>False
  | _=>Zcq E S o λsv=>K (S.put o.dst (some sv)) m
 | _=>Zcq E S o λsv=>K (S.put o.dst (some sv)) m
section
variable {C:Ctx} {S:St} {m:Mem} {a:Act} {w:World}
theorem Zgv{E:Env}(hE:E.ok){o:Oper}(hd:∀t,o.dst=some t->t < C.n)(hr:Rel C S m a w){K:St->Mem->Prop}(h:Zcq E S o λsv=>K (S.put o.dst (some sv)) m){F:Fence}{n:Nat}{next:Act->World->Prop}{Q:Exit->Act->World->Prop}
  (hK:∀S' m' a' w',K S' m'->Rel C S' m' a' w'->next a' w'):o.uponIn F n E.P a next Q ((execOp a.eval o).run E.P w):=by
 obtain⟨sv,v,hk,rh,aV⟩:=ZmP hE hr h
 rw[aV]
 exact hK _ _ _ _ hk (hr.put o.dst hd rh)
theorem Zpi{w:World}{E:Env}{g:FuncId}{args:List Value}{K:SV->Prop}(h:ZA4 E S g args K):
  ∃v,K (.v v)/\(callFunc g args.toArray).run E.P w=.ok (.value v) w:=by
 obtain⟨v,h1,h2⟩:=h
 exact⟨v,h2,h1 w⟩
theorem Zlg{C:Ctx}{S:St}{m:Mem}{a:Act}{w:World}{E:Env}{rt:TypeId}{g:FuncId}{args:List Value}{key esz:Nat}{K:Value->St->Mem->Prop}(hr:Rel C S m a w)(h:ZiO E S m rt g args key esz K):
  Zem E.P g/\Calls E.P g args.toArray w λe w'=>∃v S' m',e=.returned v/\K v S' m'/\Rel C S' m' a w':=by
 obtain⟨R,h⟩:=h
 obtain⟨fP,ee,cR⟩:=ZrP h
 refine⟨fP.1,(fP.2 w hr.sub).mono ?_⟩
 rintro e w' ⟨v,m',rfl,cy,dx,bN,eB,aS,gl,hR⟩
 have hk:=Shape.all_fits _ _ cR v (ee _ _ _ hR) m' cy hR
 have kA:=hr.world eB dx cy bN
 refine⟨v,_,m',rfl,hk,kA.tokUpd key ⟨v,esz⟩ aS (λb hb=>?_) ?_⟩
 ·have bO:=gl b hb
  refine⟨⟨λid x hx e=>?_,λo=>?_⟩,λk' t' _ hk' hb'=>?_⟩
  ·have:=(hr.own id x hx).lt;omega
  ·cases he:C.me b o with
   | none=>rfl
   | some u=>have:=hr.sub.lt (hr.le _ _ _ he);omega
  ·have:=(hr.toks k' t' hk').1.lt hb';omega
 ·obtain⟨M,hd⟩:=hr.dom
  refine⟨_,hd.step (m':=m') (eB.upd (by simp)) (bN.grown dx _),λb hb=>?_⟩
  exact .inr ⟨gl b hb,aS.lt hb,aS.wr hb⟩
theorem Zlh{C:Ctx}{S:St}{m:Mem}{a:Act}{w:World}{E:Env}{rt:TypeId}{g:FuncId}{args:List Value}{ids:List Nat}{ks:List (Nat×Nat)}{K:Value->St->Mem->Prop}(hY:YOk E C)(hr:Rel C S m a w)(h:ZmS E S m rt g args ids ks K):
  Zem E.P g/\Calls E.P g args.toArray w λe w'=>∃v S' m',e=.returned v/\K v S' m'/\Rel C S' m' a w':=by
 unfold ZmS at h
 cases hb:ZbO S ids with
 | none=>simp[hb]at h
 | some bxs=>
 simp only[hb]at h
 cases dQ:E.m0 with
 | none=>simp[dQ]at h
 | some mm=>
 simp only[dQ]at h
 obtain⟨h1,Y,R,fP,c1,c2,ee,cR⟩:=Zag h
 simp only[zA7,List.all_eq_true,Bool.not_eq_true']at h1
 obtain⟨iU,h1⟩:=h1
 have fq:=hr.fo iU
 obtain⟨gn,hW⟩:=hY.m0 mm dQ
 obtain⟨aH,cJ⟩:=ZcA hb
 obtain⟨tlen,tmem⟩:=Zig (S:=S) (ks:=ks)
 generalize ZeX S ks=tks at *
 have tlen:tks.length=(ks.map (·.1)).length:=by rw[List.length_map];exact tlen
 have ot:(ks.map (·.1)).length=ks.length:=List.length_map _
 generalize my:ks.map (·.1)=kl at *
 have eN:=ZaZ h1.2.1
 have ub:=ZaZ h1.2.2
 have tk_of:∀t∈tks,∀b,t.blk=some b->∃k∈kl,S.tok k=some t:=λt ht b hb=>by
  obtain⟨i,hi⟩:=List.getElem?_of_mem ht
  obtain⟨k,q1,q2⟩:=tmem i t hi
  rcases q2 with q2|q2
  ·exact⟨k,zA2 q1,q2⟩
  ·simp[Tok.blk,q2]at hb
 have iD:∀b,Y b->b < w.heap.size/\(∀D,w.heap[b]?≠some (.deferred D))/\C.me.free b/\(∀M,Dom C S m a w M->M b)/\(∀id x,S.L id=some x->x.b≠b)/\(∀k t,S.tok k=some t->t.blk=some b->k∈kl):=λb qh=>by
  rcases c2 b qh with⟨t,ht,dy⟩|⟨⟨q1,q1k⟩,q2,q3⟩
  ·obtain⟨k,hk,gc⟩:=tk_of t ht b dy
   obtain⟨g1,g2⟩:=hr.toks k t gc
   refine⟨g1.lt dy,λD e=>?_,(g2 b dy).2,λM hd=>hd.tok k t b gc dy,(g2 b dy).1,λk' t' hk' hb'=>?_⟩
   ·rcases g1 with g1|⟨b',o0,n,c,cur,T,fr,hv,_,hh,_⟩
    ·simp[Tok.blk,g1]at dy
    ·simp[Tok.blk,hv]at dy;subst dy;rw[hh]at e;cases e
   ·rw[hr.tapart k' k t' t b hk' gc hb' dy];exact hk
  ·rcases q2 with⟨o,v,q2⟩|⟨e0,q2⟩
   ·obtain⟨q4,q5⟩:=Zeo q3
    have hs:=hr.sub b o v q2
    refine⟨hr.sub.lt q2,λD e=>?_,by rw[fq,gn];exact q1,λM hd=>?_,λid x hx e=>?_,λk t gc dy=>?_⟩
    ·unfold World.cell? at hs
     rw[e]at hs
     simp at hs
    ·rcases hd.new b o v q2 with h6|h6
     ·rw[fq,gn,q1]at h6;cases h6
     ·exact h6
    ·have ho:=hr.own id x hx
     cases hz:x.fz with
     | true=>exact q5 id x (hr.ids id x hx) hx hz e
     | false=>
      have:=ho.free hz o
      rw[e,q2]at this;cases this
    ·exact Classical.byContradiction λhn=>Zfv q4 k t (hr.tkeys k t gc) gc hn dy
   ·have hs:=hr.sub.k b e0 q2
    obtain⟨es,cl,g1,_⟩:=hs
    refine⟨(hr.sub.k b e0 q2).lt,λD e=>?_,by rw[fq,gn];exact q1,λM hd=>?_,λid x hx e=>?_,λk t gc dy=>?_⟩
    ·rw[e]at g1;cases g1
    ·rcases hd.new.k b e0 q2 with h6|h6
     ·rw[fq,gn,q1k]at h6;cases h6
     ·exact h6
    ·obtain⟨c,T,fr,h0⟩:=(hr.own id x hx).isC
     rw[e,g1]at h0;cases h0
    ·rcases(hr.toks k t gc).1 with q0|⟨b',o0,n,c,cur,T,fr,hv,_,hh,_⟩
     ·simp[Tok.blk,q0]at dy
     ·simp[Tok.blk,hv]at dy;subst dy;rw[hh]at g1;cases g1
 have dE:∀x∈bxs,Own m w x/\x.fz=false/\¬Y x.b:=λx hx=>by
  obtain⟨i,hi⟩:=List.getElem?_of_mem hx
  obtain⟨id,_,hL⟩:=cJ i x hi
  exact⟨hr.own id x hL,by simpa using h1.1 x hx,λhy=>(iD _ hy).2.2.2.2.1 id x hL rfl⟩
 have mh:(bxs.map (·.b)).Nodup:=Zfr hr.apart hb eN
 have iE:Zwm tks:=λi j t t' b hi hj dt eY=>by
  obtain⟨k,q1,q2⟩:=tmem i t hi
  obtain⟨k',q3,q4⟩:=tmem j t' hj
  have q2:S.tok k=some t:=q2.resolve_right λe=>by simp[Tok.blk,e]at dt
  have q4:S.tok k'=some t':=q4.resolve_right λe=>by simp[Tok.blk,e]at eY
  have:=hr.tapart k k' t t' b q2 q4 dt eY
  subst this
  have hi':=(zA0 q1).1
  exact(List.getElem?_inj (l:=kl) (i:=i) (j:=j) hi' ub).1 (by rw[q1,q3])
 refine⟨fP.1,(fP.2 w hr.sub dE mh (λt ht=>?_) iE (λb qh=>⟨(iD b qh).1,?_⟩)).mono ?_⟩
 ·refine⟨?_,c1 t ht⟩
  obtain⟨i,hi⟩:=List.getElem?_of_mem ht
  obtain⟨k,_,q2⟩:=tmem i t hi
  rcases q2 with q2|q2
  ·exact(hr.toks k t q2).1
  ·exact .inl q2
 ·obtain⟨M,hd⟩:=hr.dom
  exact hW _ _ _ hd.p b ((iD b qh).2.2.2.1 M hd)
 rintro e w' ⟨v,m',css,tvs,rfl,cy,dx,bN,hu,fg,bX,gC,nG,ri,hR⟩
 have d5:∀u∈tvs,ZbQ u=true:=λu hu=>by
  obtain⟨i,hi⟩:=List.getElem?_of_mem hu
  have aB:=(zA0 hi).1
  exact(nG i (tks[i]'(by omega)) u (zA3 (by omega)) hi).1
 have hk:=Zkd (Zgm (Shape.all_fits _ _ cR v (ee _ _ _ _ hR) m' cy (bN.mono λb h=>h.imp_right λh o=>by
  cases he:m b o with
  | none=>rfl
  | some u=>have:=hr.sub.lt he;omega)) css (by omega)) tvs (by omega) d5 hR
 refine⟨v,_,m',rfl,hk,?_⟩
 have oC:∀b,b < w.heap.size->¬Y b->∀o,m b o=none->m' b o=none:=λb aB hn o ho=>by
  cases he:m' b o with
  | none=>rfl
  | some u=>
   rcases bN b o u he with h|h|h
   ·rw[ho]at h;cases h
   ·exact absurd h hn
   ·omega
 have eB:∀b,¬Y b->∀o u,m b o=some u->m' b o=some u:=λb hn o u h=>cy b o u (by rw[Mem.off_at hn];exact h)
 have nH:∀id y,(Zdr S ids bxs css).L id=some y->∃x,S.L id=some x/\x.b=y.b:=λid y hy=>by
  rcases ZeL (S:=S) eN aH (by omega:css.length=ids.length) id with⟨_,h4⟩|⟨i,x,cs,h3,h4,h5,h6⟩
  ·exact⟨y,by rw[<-h4];exact hy,rfl⟩
  ·obtain⟨id',g1,g2⟩:=cJ i x h4
   rw[h3]at g1;cases g1
   rw[h6]at hy;cases hy
   exact⟨x,g2,rfl⟩
 have qi:∀id x,S.L id=some x->∃y,(Zdr S ids bxs css).L id=some y/\y.b=x.b:=λid x hx=>by
  rcases ZeL (S:=S) eN aH (by omega:css.length=ids.length) id with⟨_,h4⟩|⟨i,x',cs,h3,h4,h5,h6⟩
  ·exact⟨x,by rw[h4];exact hx,rfl⟩
  ·obtain⟨id',g1,g2⟩:=cJ i x' h4
   rw[h3]at g1;cases g1
   rw[hx]at g2;cases g2
   exact⟨_,h6,rfl⟩
 have vK:∀M,Dom C S m a w M->∀b,b∈bxs.map (·.b)->M b:=λM hd b hb=>by
  obtain⟨z,hz,rfl⟩:=List.mem_map.1 hb
  obtain⟨i,hi⟩:=List.getElem?_of_mem hz
  obtain⟨id',_,g2⟩:=cJ i z hi
  exact hd.own id' z g2
 have uc:∀b,b∈bxs.map (·.b)->∃id x,S.L id=some x/\x.b=b:=λb hb=>by
  obtain⟨z,hz,rfl⟩:=List.mem_map.1 hb
  obtain⟨i,hi⟩:=List.getElem?_of_mem hz
  obtain⟨id',_,g2⟩:=cJ i z hi
  exact⟨id',z,g2,rfl⟩
 have iF:(Zdr S ids bxs css).env=S.env/\(Zdr S ids bxs css).ids=S.ids/\(Zdr S ids bxs css).tkeys=S.tkeys/\(Zdr S ids bxs css).gh=S.gh/\(Zdr S ids bxs css).fo=S.fo:=by rw[Zdf];exact⟨rfl,rfl,rfl,rfl,rfl⟩
 have mz:∀k t,Zo0 S.tok kl tks tvs k=some t->(k ∉ kl/\S.tok k=some t)\/∃(q:Nat)(t0:Tok)(tv:Value),kl[q]?=some k/\tks[q]?=some t0/\tvs[q]?=some tv/\t=⟨tv,t0.esz⟩:=λk t ht=>by
  rcases Zkf (tok:=S.tok) ub tlen (by omega:tvs.length=kl.length) k with⟨q1,q2⟩|⟨q,t0,tv,q1,q2,q3,q4⟩
  ·exact .inl ⟨q1,by rw[<-q2];exact ht⟩
  ·rw[ht]at q4;cases q4
   exact .inr ⟨q,t0,tv,q1,q2,q3,rfl⟩
 refine⟨?_,hr.size,λi sv he=>?_,λid y hy=>?_,λid id' y y' hy hy' e=>?_,λid y hy=>?_,λk t ht=>?_,λk t ht=>?_,λk k' t t' b ht ht' dt eY=>?_,dx,⟨λb o u rj=>?_,λb e rk=>?_⟩,?_,λh'=>hr.fo (by simpa only[iF.2.2.2.2]using h')⟩
 ·obtain⟨ms,q1,q2,q3⟩:=hr.defers
  refine⟨ms,q1,q2,λD hD=>?_⟩
  rw[hu.block D (Array.getElem?_eq_some_iff.1 (q3 D hD)).1 (λhm=>?_)]
  ·exact q3 D hD
  ·rcases hm with hm|hm
   ·obtain⟨id,x,g1,g2⟩:=uc D hm
    obtain⟨sp,fr,g3,_⟩:=(hr.own id x g1).cells
    have:=q3 D hD
    rw[<-g2,g3]at this;cases this
   ·exact(iD D hm).2.1 _ (q3 D hD)
 ·simp only[iF.1]at he
  obtain⟨u,q1,q2⟩:=hr.env i sv he
  refine⟨u,?_,q2⟩
  cases sv with
  | v x=>exact q1
  | loc id off=>
   simp only[St.den]at q1 ⊢
   cases hx:S.L id with
   | none=>simp[hx]at q1
   | some x=>
    obtain⟨y,g1,g2⟩:=qi id x hx
    simp only[hx]at q1
    simp only[g1,g2];exact q1
  | sl id n c=>
   simp only[St.den]at q1 ⊢
   cases hx:S.L id with
   | none=>simp[hx]at q1
   | some x=>
    obtain⟨y,g1,g2⟩:=qi id x hx
    simp only[hx]at q1
    simp only[g1,g2];exact q1
 ·rcases ZeL (S:=S) eN aH (by omega:css.length=ids.length) id with⟨h3,h4⟩|⟨i,x,cs,h3,h4,h5,h6⟩
  ·have hy':S.L id=some y:=by rw[<-h4];exact hy
   have ho:=hr.own id y hy'
   have hn:¬Y y.b:=λhh=>(iD _ hh).2.2.2.2.1 id y hy' rfl
   have cG:w'.heap[y.b]?=w.heap[y.b]?:=hu.block _ ho.lt (λhm=>by
    rcases hm with hm|hm
    ·obtain⟨z,hz,qS⟩:=List.mem_map.1 hm
     obtain⟨i,hi⟩:=List.getElem?_of_mem hz
     obtain⟨id',g1,g2⟩:=cJ i z hi
     have:=hr.apart _ _ _ _ g2 hy' qS
     subst this
     exact h3 (zA2 g1)
    ·exact hn hm)
   exact⟨by rw[cG];exact ho.cells,λhz o=>oC _ ho.lt hn o (ho.free hz o),λhz j u hu=>eB _ hn _ _ (ho.known hz j u hu),ho.whole⟩
  ·simp only[h6,Option.some.injEq]at hy
   subst hy
   exact bX i x cs h4 h5
 ·obtain⟨x,g1,g2⟩:=nH id y hy
  obtain⟨x',g3,g4⟩:=nH id' y' hy'
  exact hr.apart _ _ _ _ g1 g3 (by rw[g2,g4,e])
 ·obtain⟨x,g1,g2⟩:=nH id y hy
  simp only[iF.2.1];exact hr.ids id x g1
 ·rcases mz k t ht with⟨q1,q2⟩|⟨q,t0,tv,q1,q2,q3,rfl⟩
  ·obtain⟨g1,g2⟩:=hr.toks k t q2
   have hn:∀b,t.blk=some b->¬Y b:=λb hb hh=>q1 ((iD b hh).2.2.2.2.2 k t q2 hb)
   refine⟨g1.same (λb hb=>hu.block b (g1.lt hb) (λhm=>?_)) (λb o hb=>oC b (g1.lt hb) (hn b hb) o),λb hb=>⟨λid y hy=>?_,(g2 b hb).2⟩⟩
   ·rcases hm with hm|hm
    ·obtain⟨id,x,g3,g4⟩:=uc b hm
     exact(g2 b hb).1 id x g3 g4
    ·exact hn b hb hm
   ·obtain⟨x,g3,g4⟩:=nH id y hy
    rw[<-g4];exact(g2 b hb).1 id x g3
  ·obtain⟨g1,g2,g3⟩:=nG q t0 tv q2 q3
   refine⟨g2,λb hb=>⟨λid y hy=>?_,?_⟩⟩
   ·obtain⟨x,g4,g5⟩:=nH id y hy
    rw[<-g5]
    rcases(g3 b hb).1 with h|h
    ·exact(iD b h).2.2.2.2.1 id x g4
    ·have:=(hr.own id x g4).lt;omega
   ·rcases(g3 b hb).1 with h|h
    ·exact(iD b h).2.2.1
    ·intro o
     cases he:C.me b o with
     | none=>rfl
     | some u=>have:=hr.sub.lt (hr.le _ _ _ he);omega
 ·rcases mz k t ht with⟨q1,q2⟩|⟨q,t0,tv,q1,q2,q3,rfl⟩
  ·exact List.mem_append_right _ (hr.tkeys k t q2)
  ·exact List.mem_append_left _ (zA2 q1)
 ·have cross:∀(k k':Nat)(t t':Tok),(k ∉ kl/\S.tok k=some t)->(∃(q:Nat)(t0:Tok)(tv:Value),kl[q]?=some k'/\tks[q]?=some t0/\tvs[q]?=some tv/\t'=⟨tv,t0.esz⟩)->t.blk=some b->t'.blk=some b->False:=by
   rintro k k' t t' ⟨q1,q2⟩ ⟨q,t0,tv,q3,q4,q5,rfl⟩ e1 e2
   rcases((nG q t0 tv q4 q5).2.2 b e2).1 with h|h
   ·exact q1 ((iD b h).2.2.2.2.2 k t q2 e1)
   ·have:=(hr.toks k t q2).1.lt e1;omega
  rcases mz k t ht with h3|h3 <;> rcases mz k' t' ht' with h4|h4
  ·exact hr.tapart k k' t t' b h3.2 h4.2 dt eY
  ·exact(cross k k' t t' h3 h4 dt eY).elim
  ·exact(cross k' k t' t h4 h3 eY dt).elim
  ·obtain⟨q,t0,tv,q1,q2,q3,rfl⟩:=h3
   obtain⟨q',t0',tv',q1',q2',q3',rfl⟩:=h4
   have hz:∀(q:Nat)(t0:Tok)(tv:Value),tks[q]?=some t0->tvs[q]?=some tv->((tks.zip tvs).map λq=>(⟨q.2,q.1.esz⟩:Tok))[q]?=some ⟨tv,t0.esz⟩:=λq t0 tv h5 h6=>by
    rw[List.getElem?_map,(List.getElem?_zip_eq_some (z:=(t0,tv))).2 ⟨h5,h6⟩];rfl
   have:=ri q q' _ _ b (hz q t0 tv q2 q3) (hz q' t0' tv' q2' q3') dt eY
   subst this
   rw[q1]at q1';cases q1';rfl
 ·refine eB b (λhh=>?_) o u (hr.le b o u rj)
  rw[(iD b hh).2.2.1 o]at rj;cases rj
 ·have h5:=hr.le.k b e rk
  by_cases hh:Y b
  ·rcases c2 b hh with⟨t,ht,dy⟩|⟨⟨q1,q1k⟩,q2,q3⟩
   ·obtain⟨k,hk,gc⟩:=tk_of t ht b dy
    obtain⟨es,cl,g1,_⟩:=hr.sub.k b e h5
    rcases(hr.toks k t gc).1 with q0|⟨b',o0,n,c,cur,T,fr,hv,_,vL,_⟩
    ·simp[Tok.blk,q0]at dy
    ·simp[Tok.blk,hv]at dy;subst dy;rw[vL]at g1;cases g1
   ·rw[fq,gn,q1k]at rk;cases rk
  ·exact cy.k b e (by rw[Mem.off_k hh];exact h5)
 ·obtain⟨M,hd⟩:=hr.dom
  have hu':Upd M w w':=⟨hu.os,hu.tape,hu.output,hu.size,λk hk hn=>hu.block k hk (λhm=>hn (by
   rcases hm with hm|hm
   ·exact vK M hd k hm
   ·exact(iD k hm).2.2.2.1 M hd)),hu.wr⟩
  have cB:=hd.step (m':=m') hu' ⟨λb o u h=>by
   rcases bN b o u h with h|h|h
   ·exact .inl h
   ·exact .inr (.inl ((iD b h).2.2.2.1 M hd))
   ·exact .inr (.inr ⟨h.1,dx.lt (by assumption),h.2⟩),λb e h=>by
   rcases bN.k b e h with h|h|h
   ·exact .inl h
   ·exact .inr (.inl ((iD b h).2.2.2.1 M hd))
   ·exact .inr (.inr ⟨h.1,(dx.k b e (by assumption)).lt,h.2⟩)⟩
  refine⟨_,by simpa only[iF.2.2.2.1]using cB.p,cB.lt,λid y hy=>?_,λk t b ht hb=>?_,cB.mks,cB.new⟩
  ·obtain⟨x,g1,g2⟩:=nH id y hy
   rw[<-g2];exact cB.own id x g1
  ·rcases mz k t ht with⟨q1,q2⟩|⟨q,t0,tv,q1,q2,q3,rfl⟩
   ·exact cB.tok k t b q2 hb
   ·obtain⟨g1,g2,g3⟩:=nG q t0 tv q2 q3
    rcases(g3 b hb).1 with h|h
    ·exact .inl ((iD b h).2.2.2.1 M hd)
    ·exact .inr ⟨h,g2.lt hb,g2.wr hb⟩
theorem Zpj{C:Ctx}{S:St}{m:Mem}{a:Act}{w:World}{E:Env}{rt:TypeId}{g:FuncId}{args:List Value}{K:Value->Int->Prop}(hY:YOk E C)(hr:Rel C S m a w)(h:ZAn E rt g args K S m):
  Zem E.P g/\Calls E.P g args.toArray w λe w'=>∃v gh,e=.returned v/\K v gh/\Rel C { S with gh:=gh } m a w':=by
 unfold ZAn at h
 split at h
 ·exact h.elim
 rename_i Y fD
 obtain⟨l,xs,go,stop,jb,mA,ee,cR⟩:=h
 have vM:=hY.y Y fD
 obtain⟨M0,hd⟩:=hr.dom
 let at':Int->Int:=λj=>if j < 0 then -1 else S.gh+j
 let p:Int->(Nat->Prop)->World->Prop:=λj M w1=>C.p (at' j) (λk=>M0 k\/M k) w1/\(∀k,M k->w.heap.size<=k)/\w.heap.size<=w1.heap.size/\(∀k,M0 k->w1.heap[k]?=w.heap[k]?)/\Sub m w1
 have rm:∀b o v,m b o=some v->b < w.heap.size:=λb o v hv=>hr.sub.lt hv
 have hp:ZwJ p:=by
  rintro j M M' w1 w2 ⟨h1,h2,h3,h4,h5⟩ hu hM'
  have fh:∀k,M' k->w.heap.size<=k:=λk hk=>by
   rcases hM' k hk with hk|hk
   ·exact h2 k hk
   ·exact Nat.le_trans h3 hk.1
  have cB:∀k,k < w.heap.size->w2.heap[k]?=w1.heap[k]?:=λk hk=>hu.block k (Nat.lt_of_lt_of_le hk h3) λhm=>by have:=h2 k hm;omega
  refine⟨C.st _ _ _ _ _ h1 ⟨hu.os,hu.tape,hu.output,hu.size,λk hk hn=>hu.block k hk λhm=>hn (.inr hm),hu.wr⟩ (λk hk=>?_),fh,Nat.le_trans h3 hu.size,λk hk=>by rw[cB k (hd.lt k hk)];exact h4 k hk,⟨λb o v hv=>?_,λb e he=>(h5.k b e he).same (cB b (hr.sub.k b e he).lt)⟩⟩
  ·rcases hk with hk|hk
   ·exact .inl (.inl hk)
   ·rcases hM' k hk with hk|hk
    ·exact .inl (.inr hk)
    ·exact .inr hk
  ·rw[ZbL (cB b (rm b o v hv))];exact h5 b o v hv
 have rp:p 0 (λ_=>False) w:=by
  refine⟨?_,λ_ h=>h.elim,Nat.le_refl _,λ_ _=>rfl,hr.sub⟩
  have e1:at' 0=S.gh:=by simp[at']
  have e2:(λk=>M0 k\/False)=M0:=by funext k;simp
  rw[e1]
  show C.p S.gh (λk=>M0 k\/False) w
  rw[e2];exact hd.p
 have vN:Zkc E.P m p (λl' g v=>l'=l/\0<=g/\xs[g.toNat]?=some v):=by
  rintro F n l' j v M w1 hF oD ⟨rfl,hj,cC⟩ ⟨h1,h2,h3,h4,h5⟩ dx
  have e1:at' j=S.gh+((j.toNat:Nat):Int):=by
   show(if j < 0 then -1 else S.gh+j)=_
   rw[if_neg (by omega)];omega
  rw[e1]at h1
  have aB:∀k,M0 k\/M k->k < w1.heap.size:=λk hk=>by
   rcases hk with hk|hk
   ·exact Nat.lt_of_lt_of_le (hd.lt k hk) h3
   ·exact oD k hk
  have vO:=vM F n l' _ v (λk=>M0 k\/M k) w1 hF aB (mA _ _ cC) h1 (dx.less hr.le)
  obtain⟨fn,tmps,asg,bdy,mB,fG⟩:=vO
  refine⟨fn,tmps,asg,bdy,mB,fG.mono ?_⟩
  rintro e w2 ⟨b,rfl,qj,dV⟩
  have lp:Sub m w2:=⟨λb o v hv=>by
   rcases hd.new b o v hv with h6|h6
   ·exact dV.sub b o v h6
   ·have hb:=dV.block b (Nat.lt_of_lt_of_le (hd.lt b h6) h3) (.inl h6)
    rw[ZbL hb];exact dx b o v hv,λb e he=>by
   rcases hd.new.k b e he with h6|h6
   ·exact dV.sub.k b e h6
   ·exact(dx.k b e he).same (dV.block b (Nat.lt_of_lt_of_le (hd.lt b h6) h3) (.inl h6))⟩
  refine⟨b,rfl,⟨?_,h2,Nat.le_trans h3 dV.size,λk hk=>?_,lp⟩,⟨dV.size,λk hk hm=>dV.block k hk (.inr hm),lp⟩⟩
  ·cases b with
   | true=>
    have e2:at' (j+1)=S.gh+((j.toNat:Nat):Int)+1:=by
     show(if j+1 < 0 then -1 else S.gh+(j+1))=_
     rw[if_neg (by omega)];omega
    simp only[if_true]at qj ⊢
    rw[e2];exact qj
   | false=>
    simp only[Bool.false_eq_true,if_false]at qj ⊢
    exact qj
  ·rw[dV.block k (Nat.lt_of_lt_of_le (hd.lt k hk) h3) (.inl hk)];exact h4 k hk
 refine⟨jb.1,(jb.2 p hp w hr.sub rp vN).mono ?_⟩
 rintro e w' ⟨v,M,rfl,oD,kD⟩
 have fin:∀j,p j M w'->Rel C { S with gh:=at' j } m a w':=by
  rintro j ⟨h1,h2,h3,h4,h5⟩
  refine hr.yielded hd (C.st _ _ _ _ _ h1 (Upd.refl _ _) λk hk=>.inl (.inl hk)) ⟨h3,λk _ hk=>h4 k hk,h5.less hr.le⟩
 have hv:go v\/stop v:=by
  rcases kD with h|h
  ·exact .inl h.1
  ·exact .inr h.1
 have hk:=Shape.all_fits _ _ cR v (ee v hv)
 rcases kD with⟨h1,h2⟩|⟨h1,h2⟩
 ·have:=fin _ h2
  have e1:at' (xs.length:Int)=S.gh+(xs.length:Int):=by
   show(if((xs.length:Nat):Int) < 0 then -1 else S.gh+((xs.length:Nat):Int))=_
   rw[if_neg (by omega)]
  rw[e1]at this
  exact⟨v,_,rfl,hk.1 h1,this⟩
 ·have:=fin _ h2
  have e1:at' (-1)=-1:=rfl
  rw[e1]at this
  exact⟨v,_,rfl,hk.2 h1,this⟩
theorem ZrX{E:Env}(hE:E.ok){F:Fence}(hF:FOk F)(hY:YOk E C){o:Oper}(hd:∀t,o.dst=some t->t < C.n)(hr:Rel C S m a w){K:St->Mem->Prop}(h:opW E S m o K){n:Nat}{next:Act->World->Prop}{Q:Exit->Act->World->Prop}
  (hK:∀S' m' a' w',K S' m'->Rel C S' m' a' w'->next a' w'):o.uponIn F n E.P a next Q ((execOp a.eval o).run E.P w):=by
 obtain⟨dst,op,type,pos,after,guard⟩:=o
 cases op with
 | move x=>exact hK _ _ _ _ h (hr.putEv' dst hd x)
 | assign x=>exact hK _ _ _ _ h (hr.putEv' dst hd x)
 | pick c x y=>
  obtain⟨v,hv,h⟩:=Zaw h
  obtain⟨h1,h2⟩:=Zag h
  have he:=hr.ev hv
  obtain⟨b,rfl⟩:∃b,v=.bool b:=⟨_,ZbM h1⟩
  have aV:(execOp a.eval ⟨dst,.pick c x y,type,pos,after,guard⟩).run E.P w=.ok (.value (if b then a.eval x else a.eval y)) w:=by
   simp[execOp,he,asBool]
  rw[aV]
  simp only[ZcJ]at h2
  cases b
  ·exact hK _ _ _ _ h2 (hr.putEv' dst hd y)
  ·exact hK _ _ _ _ h2 (hr.putEv' dst hd x)
 | load T x=>
  have h':∃v,K (S.put dst (some (.v v))) m/\(Instr.loadAt T (a.eval x)).run E.P w=.ok v w:=by
   simp only[opW]at h
   cases nI:ZtD E dst with
   | none=>
    simp only[nI]at h
    exact Zfq hE hr h
   | some y=>
    simp only[nI]at h
    obtain⟨v,hk,aV⟩:=Zfq hE hr h
    exact⟨v,Zqg hk,aV⟩
  obtain⟨v,hk,aV⟩:=h'
  have cU:(execOp a.eval ⟨dst,.load T x,type,pos,after,guard⟩).run E.P w=.ok (.value v) w:=by simp[execOp,aV]
  rw[cU]
  exact hK _ _ _ _ hk (hr.put dst hd rfl)
 | store T x y=>
  obtain⟨v,hv,h⟩:=Zaw h
  have he:=hr.ev hv
  cases kE:ZmZ E x with
  | none=>
   simp only[kE]at h
   obtain⟨S',w',hk,aZ,aV⟩:=Zk6 hE hr h
   have cU:(execOp a.eval ⟨dst,.store T x y,type,pos,after,guard⟩).run E.P w=.ok .skip w':=by simp[execOp,he,aV]
   rw[cU]
   exact hK _ _ _ _ hk (aZ.putNone dst _)
  | some key=>
   simp only[kE]at h
   cases cO:E.fix with
   | some f=>simp[cO]at h
   | none=>
    simp only[cO,Option.isSome_none,cond_false]at h
    obtain⟨m',w',hk,aZ,aV⟩:=Zgu hE hY hr h
    have cU:(execOp a.eval ⟨dst,.store T x y,type,pos,after,guard⟩).run E.P w=.ok .skip w':=by simp[execOp,he,aV]
    rw[cU]
    exact hK _ _ _ _ hk (aZ.putNone dst _)
 | alloc T=>
  simp only[opW,ZrT]at h
  cases dst with
  | none=>exact h.elim
  | some d=>
   simp only at h
   cases ht:E.tt T with
   | none=>simp[ht]at h
   | some i=>
    simp only[ht]at h
    cases hL:S.L d with
    | some x=>simp[hL]at h
    | none=>
     simp only[hL]at h
     have cH:=hE T i ht
     have hz:=cH.run_zero (w:=w)
     have gA:i.zero.cells.toList.length=i.size:=by simpa using cH.zsize
     have hb:=hr.newBox (d:=d) hL (x:={ b:=w.heap.size,cs:=i.zero.cells.toList,T:=T,cap:=i.size,fz:=false,full:=true }) (m':=m) [] rfl (by simpa using gA) (λ_=>gA) (.inl ⟨rfl,rfl⟩)
     simp only[List.append_nil,Array.toArray_toList]at hb
     have aV:(execOp a.eval ⟨some d,.alloc T,type,pos,after,guard⟩).run E.P w=.ok (.value (.pointer (some ⟨w.heap.size,0,none⟩))) (w.alloc (.cells i.zero.cells T (0,0))):=by
      simp[execOp,Instr.alloc,hz,newVar,newRow]
     rw[aV]
     exact hK _ _ _ _ (h w.heap.size) (hb.put (some d) hd (by simp[St.den,St.newL]))
 | box T x=>
  obtain⟨v,hv,h⟩:=Zaw h
  have he:=hr.ev hv
  cases mC:Zfs E dst with
  | true=>
   simp only[mC,cond_true]at h
   cases cO:E.fix with
   | some f=>simp[cO]at h
   | none=>
    simp only[cO,Option.isSome_none,cond_false,ZyX]at h
    cases dst with
    | none=>exact h.elim
    | some d=>
     simp only at h
     cases ht:E.tt T with
     | none=>simp[ht]at h
     | some i=>
      simp only[ht]at h
      cases hL:S.L d with
      | some x=>simp[hL]at h
      | none=>
       simp only[hL]at h
       obtain⟨h1,h2⟩:=Zag h
       have bJ:=Nat.eq_of_beq_eq_true h1
       have gA:v.cells.toList.length=i.size:=by simpa using bJ
       have bI:m.free w.heap.size:=λo=>by
        cases he:m w.heap.size o with
        | none=>rfl
        | some v=>have:=hr.sub.lt he;omega
       have hb:=hr.newBox (d:=d) hL (x:={ b:=w.heap.size,cs:=v.cells.toList,T:=T,cap:=i.size,fz:=true,full:=true }) (m':=m.add w.heap.size v.cells.toList) [] rfl (by simpa using gA) (λ_=>gA) (.inr ⟨rfl,rfl⟩)
       simp only[List.append_nil,Array.toArray_toList]at hb
       have aV:(execOp a.eval ⟨some d,.box T x,type,pos,after,guard⟩).run E.P w=.ok (.value (.pointer (some ⟨w.heap.size,0,none⟩))) (w.alloc (.cells v.cells T (0,0))):=by
        simp[execOp,he,Instr.box,newVar,newRow]
       rw[aV]
       exact hK _ _ _ _ (Zpe (h2 w.heap.size _ (Mem.le_add bI _) (λj v hv=>by rw[Mem.add_same];simpa using hv)) bI (λb' o u hu=>by
        by_cases e:b'=w.heap.size
        ·exact .inr e
        ·rw[Mem.add_other _ e]at hu;exact .inl hu) (by
        cases he:m.k w.heap.size with
        | none=>rfl
        | some e=>have:=(hr.sub.k _ e he).lt;omega)) (hb.put (some d) hd (by simp[St.den,St.newL]))
  | false=>
  simp only[mC,cond_false]at h
  simp only[ZA5]at h
  cases dst with
  | none=>exact h.elim
  | some d=>
   simp only at h
   cases ht:E.tt T with
   | none=>simp[ht]at h
   | some i=>
    simp only[ht]at h
    cases hL:S.L d with
    | some x=>simp[hL]at h
    | none=>
     simp only[hL]at h
     obtain⟨h1,h2⟩:=Zag h
     have bJ:=Nat.eq_of_beq_eq_true h1
     have gA:v.cells.toList.length=i.size:=by simpa using bJ
     have hb:=hr.newBox (d:=d) hL (x:={ b:=w.heap.size,cs:=v.cells.toList,T:=T,cap:=i.size,fz:=false,full:=true }) (m':=m) [] rfl (by simpa using gA) (λ_=>gA) (.inl ⟨rfl,rfl⟩)
     simp only[List.append_nil,Array.toArray_toList]at hb
     have aV:(execOp a.eval ⟨some d,.box T x,type,pos,after,guard⟩).run E.P w=.ok (.value (.pointer (some ⟨w.heap.size,0,none⟩))) (w.alloc (.cells v.cells T (0,0))):=by
      simp[execOp,he,Instr.box,newVar,newRow]
     rw[aV]
     exact hK _ _ _ _ (h2 w.heap.size) (hb.put (some d) hd (by simp[St.den,St.newL]))
 | buildSlice T len parts=>
  simp only[opW]at h
  cases gD:ZcL E dst with
  | some ke=>
   simp only[gD]at h
   cases cO:E.fix with
   | some f=>simp[cO]at h
   | none=>
    simp only[cO,Option.isSome_none,cond_false]at h
    split at h
    ·rename_i hp
     have vP:parts=#[]:=by rw[<-Array.toArray_toList (xs:=parts),hp]
     subst vP
     obtain⟨S',v,w',hk,aZ,_,hx⟩:=Zgq hE (λm' e=>by cases e;rfl) hd hr h
     obtain⟨i,e,g1,g2,rfl,rfl⟩:=hx rfl
     have hu:=(hE T i g1).run_und (w:=w)
     rw[g2]at hu
     have bJ:∃n,(Go.sizeOf e).run E.P w=.ok n w:=by
      unfold Zk9 at h
      cases dst with
      | none=>exact h.elim
      | some d=>
       simp only at h
       cases hs:Zau E T with
       | none=>simp[hs]at h
       | some ej=>
        obtain⟨e',j⟩:=ej
        obtain⟨i',q1,q2,q3⟩:=ZaW hs
        rw[g1]at q1;cases q1
        rw[g2]at q2;cases q2
        exact⟨_,(hE _ j q3).run_size (w:=w)⟩
     obtain⟨n0,bJ⟩:=bJ
     have aV:(execOp a.eval ⟨dst,.buildSlice T 0 #[],type,pos,after,guard⟩).run E.P w=.ok (.value (.slice (some ⟨w.heap.size,0,none⟩) 0 0)) (w.alloc (.cells #[] e (0,0))):=by
      simp[execOp,Instr.buildSlice,hu,bJ,newRow,Instr.fill]
      congr 2
      apply Array.ext'
      simp
     rw[aV]
     exact hK _ _ _ _ hk aZ
    ·exact h.elim
  | none=>
  simp only[gD,ZdZ]at h
  cases dst with
  | none=>exact h.elim
  | some d=>
   simp only at h
   cases ht:E.tt T with
   | none=>simp[ht]at h
   | some t=>
    simp only[ht]at h
    have fj:=hE T t ht
    cases rq:t.d with
    | slice e=>
     simp only[rq]at h
     cases hi:E.tt e with
     | none=>simp[hi]at h
     | some i=>
      simp only[hi]at h
      have cH:=hE e i hi
      cases hL:S.L d with
      | some x=>simp[hL]at h
      | none=>
       simp only[hL]at h
       obtain⟨h1,h2⟩:=Zag h
       simp only[zA7,Nat.ble_eq]at h1
       have h3:=ZbS hr h2
       obtain⟨h4,h5⟩:=Zag h3
       generalize eC:List.map a.eval (List.map (λx=>x.2) parts.toList)=vs at *
       have aH:parts.toList.length=len:=Nat.eq_of_beq_eq_true h1.2.1
       have gQ:vs.length=len:=by rw[<-eC];simpa using aH
       have fg:(Zbz vs).length=len*i.size:=by rw[ZmU h4,gQ]
       have bI:m.free w.heap.size:=λo=>by
        cases he:m w.heap.size o with
        | none=>rfl
        | some v=>have:=hr.sub.lt he;omega
       have hb:=hr.newBox (d:=d) hL (x:={ b:=w.heap.size,cs:=Zbz vs,T:=e,cap:=len*i.size,fz:=true,full:=true }) (m':=m.add w.heap.size (Zbz vs)) [] rfl (by simpa using fg) (λ_=>fg) (.inr ⟨rfl,rfl⟩)
       simp only[List.append_nil]at hb
       have hu:=fj.run_und (w:=w)
       rw[rq]at hu
       have bJ:=cH.run_size (w:=w)
       have hz:=cH.run_zero (w:=w)
       have mD:(parts.map λx=>(x.1,a.eval x.2)).toList=(List.range' 0 vs.length).zip vs:=by
        have e1:=Zgn h1.1
        simp only[List.length_map]at e1
        rw[aH,<-gQ]at e1
        rw[<-e1,<-eC,List.map_map,List.zip_map']
        simp
       have gA:i.zero.cells.toList.length=i.size:=by simpa using cH.zsize
       have vQ:∀zz:Array Value,((Array.range (len*i.size)).map (λq=>zz[q % zz.size]!)).toList.length=vs.length*i.size:=λzz=>by simp[gQ]
       have lq:∀zz:Array Value,Instr.fill (λq=>some (q*i.size,i.size)) ((Array.range (len*i.size)).map (λq=>zz[q % zz.size]!)) (parts.map λx=>(x.1,a.eval x.2)).toList=some (Zbz vs).toArray:=λzz=>by
        have:=Zkg i.size vs 0 [] ((Array.range (len*i.size)).map (λq=>zz[q % zz.size]!)).toList h4 (by simp) (vQ zz)
        rw[mD]
        simpa only[List.nil_append,Array.toArray_toList]using this
       have cy:¬(16777216 < len*i.size):=by omega
       have aV:(execOp a.eval ⟨some d,.buildSlice T len parts,type,pos,after,guard⟩).run E.P w=.ok (.value (.slice (some ⟨w.heap.size,0,none⟩) len len)) (w.alloc (.cells (Zbz vs).toArray e (0,0))):=by
        by_cases h0:len*i.size=0
        ·have:=lq #[]
         simp only[h0]at this
         simp[execOp,Instr.buildSlice,hu,bJ,h0,newRow]
         simp at this
         simp[this]
        ·have:=lq i.zero.cells
         simp[execOp,Instr.buildSlice,hu,bJ,cy,h0,hz,newRow]
         simp at this
         simp[this]
       rw[aV]
       exact hK _ _ _ _ (h5 w.heap.size bI) (hb.put (some d) hd (by simp[St.den,St.newL]))
    | _=>simp[rq]at h
 | makeSlice T l c=>
  have h':∃S' m' v w',K S' m'/\Rel C S' m' (a.put dst v) w'/\(Instr.makeSlice T (a.eval l) (a.eval c)).run E.P w=.ok v w':=by
   simp only[opW]at h
   cases gD:ZcL E dst with
   | none=>
    simp only[gD]at h
    obtain⟨S',v,w',g⟩:=ZmX hE hd hr h
    exact⟨S',m,v,w',g⟩
   | some ke=>
    simp only[gD]at h
    cases cO:E.fix with
    | some f=>simp[cO]at h
    | none=>
     simp only[cO,Option.isSome_none,cond_false]at h
     obtain⟨S',v,w',g1,g2,g3,_⟩:=Zgq hE (λm' e=>by cases e) hd hr h
     exact⟨S',m,v,w',g1,g2,g3⟩
  obtain⟨S',m',v,w',hk,aZ,aV⟩:=h'
  have cU:(execOp a.eval ⟨dst,.makeSlice T l c,type,pos,after,guard⟩).run E.P w=.ok (.value v) w':=by simp[execOp,aV]
  rw[cU]
  exact hK _ _ _ _ hk aZ
 | lookup T x y ok=>
  simp only[opW]at h
  obtain⟨v,hk,aV⟩:=Zm2 hE hr h
  have cU:(execOp a.eval ⟨dst,.lookup T x y ok,type,pos,after,guard⟩).run E.P w=.ok (.value v) w:=by simp[execOp,aV]
  rw[cU]
  exact hK _ _ _ _ hk (hr.put dst hd rfl)
 | mapUpdate T x y z=>
  simp only[opW]at h
  cases cO:E.fix with
  | some f=>simp[cO]at h
  | none=>
   simp only[cO,Option.isSome_none,Bool.false_or]at h
   cases fU:E.thaw with
   | false=>simp[fU]at h
   | true=>
   simp only[fU,Bool.not_true,cond_false]at h
   obtain⟨m',w',hk,aZ,aV⟩:=Zle hE hY hr h
   have cU:(execOp a.eval ⟨dst,.mapUpdate T x y z,type,pos,after,guard⟩).run E.P w=.ok .skip w':=by simp[execOp,aV]
   rw[cU]
   exact hK _ _ _ _ hk (aZ.putNone dst _)
 | makeMap T r=>
  simp only[opW]at h
  cases cO:E.fix with
  | some f=>simp[cO]at h
  | none=>
   simp only[cO,Option.isSome_none,cond_false]at h
   obtain⟨S',m',v,w',hk,aZ,aV⟩:=Zlf (E:=E) (T:=T) hd hr h
   have cU:(execOp a.eval ⟨dst,.makeMap T r,type,pos,after,guard⟩).run E.P w=.ok (.value v) w':=by simp[execOp,aV]
   rw[cU]
   exact hK _ _ _ _ hk aZ
 | convert s d x=>
  simp only[opW]at h
  cases fm:ZcB E s d with
  | false=>
   simp only[fm,cond_false]at h
   cases oE:ZcC E s d with
   | false=>
    simp only[oE,cond_false]at h
    exact Zgv hE hd hr h hK
   | true=>
    simp only[oE,cond_true]at h
    obtain⟨v,hk,aV⟩:=Zgr hE oE hr (Zpg h)
    have cU:(execOp a.eval ⟨dst,.convert s d x,type,pos,after,guard⟩).run E.P w=.ok (.value v) w:=by simp[execOp,aV]
    rw[cU]
    exact hK _ _ _ _ hk (hr.put dst hd rfl)
  | true=>
   simp only[fm,cond_true]at h
   cases cO:E.fix with
   | some f=>simp[cO]at h
   | none=>
    simp only[cO,Option.isSome_none,cond_false]at h
    obtain⟨S',m',v,w',hk,aZ,aV⟩:=ZmY hE fm hd hr h
    have cU:(execOp a.eval ⟨dst,.convert s d x,type,pos,after,guard⟩).run E.P w=.ok (.value v) w':=by simp[execOp,aV]
    rw[cU]
    exact hK _ _ _ _ hk aZ
 | call c=>
  obtain⟨callee,args,argTypes⟩:=c
  cases callee with
  | value f=>
   simp only[opW]at h
   obtain⟨S,m,hr,h⟩:=Zhp hr h
   simp only[ZwN]at h
   cases he:S.ev f with
   | none=>simp[he]at h
   | some sv=>
    obtain⟨v,h1,h2,h3⟩:=hr.ev_val he
    cases sv with
    | v fv=>
     cases fv with
     | func fn first captured=>
      cases fn with
      | func g=>
       simp only[he]at h
       simp only[St.den,Option.some.injEq]at h1
       have gd:(first++Array.map a.eval args++captured)=(first.toList++List.map a.eval args.toList++captured.toList).toArray:=Array.ext' (by simp)
       cases kG:ZtE E dst with
       | true=>
        simp only[kG,cond_true]at h
        cases cO:E.fix with
        | some f=>simp[cO]at h
        | none=>
         simp only[cO,Option.isSome_none,cond_false]at h
         obtain⟨v,hk,aV⟩:=Zpi (w:=w) (ZbS hr h)
         have cU:(execOp a.eval ⟨dst,.call ⟨.value f,args,argTypes⟩,type,pos,after,guard⟩).run E.P w=.ok (.value v) w:=by
          simp only[execOp,resolve,h3,<-h1,Deferred.ofValue]
          simp only[Sem.run_bind,Sem.run_pure,Result.andThen_ok,invoke,gd]
          exact aV
         rw[cU]
         exact hK _ _ _ _ hk (hr.put dst hd rfl)
       | false=>
       simp only[kG,cond_false]at h
       have vR:Zem E.P g/\Calls E.P g (first.toList++List.map a.eval args.toList++captured.toList).toArray w λe w'=>∃v S' m',e=.returned v/\K (S'.put dst (some (.v v))) m'/\Rel C S' m' a w':=by
        cases jb:ZdY E dst with
        | some ks=>
         simp only[jb]at h
         cases cO:E.fix with
         | some f=>simp[cO]at h
         | none=>
          simp only[cO,Option.isSome_none,cond_false]at h
          have h4:=ZbS hr h
          exact Zlh hY hr h4
        | none=>
        simp only[jb]at h
        cases nJ:ZtA E dst with
        | true=>
         simp only[nJ,cond_true]at h
         cases cO:E.fix with
         | some f=>simp[cO]at h
         | none=>
          simp only[cO,Option.isSome_none,cond_false]at h
          have h4:=ZbS hr h
          obtain⟨h5,h6⟩:=Zpj hY hr h4
          refine⟨h5,h6.mono ?_⟩
          rintro e w' ⟨v,gh,rfl,h7,h8⟩
          exact⟨v,_,m,rfl,h7,h8⟩
        | false=>
        simp only[nJ,cond_false]at h
        cases gD:ZcL E dst with
        | none=>
         simp only[gD]at h
         have h4:=ZbS hr h
         exact ZmR hr h4
        | some ke=>
         simp only[gD]at h
         split at h
         ·have h4:=ZbS hr h
          exact Zlg hr h4
         ·exact h.elim
       obtain⟨jp,oF⟩:=vR
       have aV:(execOp a.eval ⟨dst,.call ⟨.value f,args,argTypes⟩,type,pos,after,guard⟩).run E.P w=.ok (.enter g (first.toList++List.map a.eval args.toList++captured.toList).toArray) w:=by
        simp only[execOp,resolve,h3,<-h1,Deferred.ofValue]
        simp only[Sem.run_bind,Sem.run_pure,Result.andThen_ok,invoke,gd]
        exact jp _ _
       rw[aV]
       refine⟨λhs=>by rw[hF.depth]at hs;simp at hs,?_⟩
       refine hF.calls (oF.mono ?_)
       rintro e w' ⟨v,S',m',rfl,hk,aZ⟩
       exact hK _ _ _ _ hk (aZ.put dst hd rfl)
      | yield l=>
       simp only[he]at h
       cases cO:E.fix with
       | some f=>simp[cO]at h
       | none=>
        simp only[cO,Option.isSome_none,cond_false]at h
        cases fD:E.yl with
        | none=>
         cases lr:first.toList with
         | cons x l=>simp[fD,lr]at h
         | nil=>
          cases nK:captured.toList with
          | cons x l=>simp[fD,lr,nK]at h
          | nil=>
           simp only[fD,lr,nK]at h
        | some Y=>
         cases lr:first.toList with
         | cons x l=>simp[fD,lr]at h
         | nil=>
          cases nK:captured.toList with
          | cons x l=>simp[fD,lr,nK]at h
          | nil=>
           simp only[fD,lr,nK]at h
           obtain⟨hy,gI,iT⟩:=ZbS hr h
           have rr:first=#[]:=by rw[<-Array.toArray_toList (xs:=first),lr]
           have ru:captured=#[]:=by rw[<-Array.toArray_toList (xs:=captured),nK]
           subst rr ru
           obtain⟨M,hd'⟩:=hr.dom
           obtain⟨fn,tmps,asg,bdy,mB,fG⟩:=hY.y Y fD F (n - 1) l S.gh _ M w hF hd'.lt hy hd'.p (hr.sub.less hr.le)
           simp only[St.den,Option.some.injEq]at h1
           have aV:(execOp a.eval ⟨dst,.call ⟨.value f,args,argTypes⟩,type,pos,after,guard⟩).run E.P w=.ok (.round l fn tmps asg bdy) w:=by
            have gd:(#[]++Array.map a.eval args)=(List.map a.eval args.toList).toArray:=Array.ext' (by simp)
            simp only[execOp,resolve,h3,<-h1,Deferred.ofValue]
            simp only[Sem.run_bind,Sem.run_pure,Result.andThen_ok,invoke,gd]
            simpa using mB
           rw[aV]
           refine⟨λhs=>by rw[hF.depth]at hs;simp at hs,fG.mono ?_⟩
           rintro e w' ⟨b,rfl,hp,dV⟩
           cases b with
           | true=>exact hK _ _ _ _ gI ((hr.yielded hd' hp dV).put dst hd rfl)
           | false=>exact hK _ _ _ _ iT ((hr.yielded hd' hp dV).put dst hd rfl)
      | _=>simp[he]at h
     | _=>simp[he]at h
    | _=>simp[he]at h
  | invoke r m=>exact Zgv hE hd hr h hK
  | builtin b=>
   cases b with
   | append=>
    simp only[opW]at h
    split at h
    ·rename_i s x T xT d hA hT
     obtain⟨S,m,hr,h⟩:=Zhp hr h
     obtain⟨vs,eC,h⟩:=Zaw h
     obtain⟨vx,vS,h⟩:=Zaw h
     have ha:args=#[s,x]:=by rw[<-Array.toArray_toList (xs:=args),hA]
     have dU:argTypes=#[T,xT]:=by rw[<-Array.toArray_toList (xs:=argTypes),hT]
     subst ha dU
     obtain⟨v,tk,m',w',hk,aZ,aV⟩:=ZiQ (ty:=type) hE hr h
     have cU:(execOp a.eval ⟨some d,.call ⟨.builtin .append,#[s,x],#[T,xT]⟩,type,pos,after,guard⟩).run E.P w=.ok (.value v) w':=by
      simp[execOp,resolve,invoke,builtin,hr.ev eC,hr.ev vS,aV]
     rw[cU]
     exact hK _ _ _ _ hk (aZ.put (some d) hd rfl)
    ·exact h.elim
   | copy=>
    simp only[opW]at h
    split at h
    ·rename_i d s T xT hA hT
     cases hh:ZeV E d with
     | none=>simp[hh]at h
     | some id=>
      simp only[hh]at h
      obtain⟨vd,oB,h⟩:=Zaw h
      obtain⟨vs,eC,h⟩:=Zaw h
      have ha:args=#[d,s]:=by rw[<-Array.toArray_toList (xs:=args),hA]
      have dU:argTypes=#[T,xT]:=by rw[<-Array.toArray_toList (xs:=argTypes),hT]
      subst ha dU
      obtain⟨n,S',w',hk,aZ,aV⟩:=Zm0 (ty:=type) (xT:=xT) hE hr h
      have cU:(execOp a.eval ⟨dst,.call ⟨.builtin .copy,#[d,s],#[T,xT]⟩,type,pos,after,guard⟩).run E.P w=.ok (.value (.int .i64 n)) w':=by
       simp[execOp,resolve,invoke,builtin,hr.ev oB,hr.ev eC,aV]
      rw[cU]
      exact hK _ _ _ _ hk (aZ.put dst hd rfl)
    ·exact h.elim
   | _=>exact Zgv hE hd hr h hK
 | _=>exact Zgv hE hd hr h hK
end
mutual
def Shape.ex:Shape->(Value->Prop)->Prop
 | .any,k=>∃v,k v
 | .int ki,k=>∃n:Int,k (.int ki n)
 | .bool,k=>∃b:Bool,k (.bool b)
 | .str,k=>∃s:ByteArray,k (.string s)
 | .slice,k=>∃(a:Option Addr)(n c:Nat),k (.slice a n c)
 | .agg l,k=>Shape.exL l λvs=>k (.agg vs.toArray)
 | .tup l,k=>Shape.exL l λvs=>k (.tuple vs.toArray)
 | .fn,k=>∃(g:Nat)(fi ca:List Value),k (.func (.func g) fi.toArray ca.toArray)
 | .cells,k=>∃cs:List Value,k (.agg cs.toArray)
 | .ptr,k=>∃b o:Nat,k (.pointer (some ⟨b,o,none⟩))
def Shape.exL:List Shape->(List Value->Prop)->Prop
 | [],k=>k []
 | s::l,k=>Shape.ex s λv=>Shape.exL l λvs=>k (v::vs)
end
mutual
theorem Shape.ex_elim:∀(s:Shape)(k:Value->Prop),s.ex k->∃v,k v
 | .any,k,h=>h
 | .int ki,k,h=>by simp only[Shape.ex]at h;obtain⟨n,h⟩:=h;exact⟨_,h⟩
 | .bool,k,h=>by simp only[Shape.ex]at h;obtain⟨n,h⟩:=h;exact⟨_,h⟩
 | .str,k,h=>by simp only[Shape.ex]at h;obtain⟨n,h⟩:=h;exact⟨_,h⟩
 | .slice,k,h=>by simp only[Shape.ex]at h;obtain⟨a,n,c,h⟩:=h;exact⟨_,h⟩
 | .agg l,k,h=>by
  simp only[Shape.ex]at h
  obtain⟨vs,_,h⟩:=Shape.exL_elim l _ h
  exact⟨_,h⟩
 | .tup l,k,h=>by
  simp only[Shape.ex]at h
  obtain⟨vs,_,h⟩:=Shape.exL_elim l _ h
  exact⟨_,h⟩
 | .fn,k,h=>by simp only[Shape.ex]at h;obtain⟨_,_,_,h⟩:=h;exact⟨_,h⟩
 | .cells,k,h=>by simp only[Shape.ex]at h;obtain⟨_,h⟩:=h;exact⟨_,h⟩
 | .ptr,k,h=>by simp only[Shape.ex]at h;obtain⟨_,_,h⟩:=h;exact⟨_,h⟩
theorem Shape.exL_elim:∀(l:List Shape)(k:List Value->Prop),Shape.exL l k->∃vs,vs.length=l.length/\k vs
 | [],k,h=>⟨[],rfl,h⟩
 | s::l,k,h=>by
  simp only[Shape.exL]at h
  obtain⟨v,h⟩:=Shape.ex_elim s _ h
  obtain⟨vs,hl,h⟩:=Shape.exL_elim l _ h
  exact⟨v::vs,by simp[hl],h⟩
end
def Zds:Value->Bool
 | .tuple _=>true
 | _=>false
def opG(E:Env)(ops:Array Oper)(o:Oper)(S:St)(m:Mem)(K:St->Mem->Prop):Prop:=match o.guard with
 | none=>opW E S m o K
 | some (j,want)=>match ops.toList[j]? with
  | none=>False
  | some oj=>match oj.dst with
   | none=>False
   | some t=>match S.env t with
    | some (.v v)=>bif Zds v then K (S.put o.dst (some (.v undef))) m else chk (Zgi v) (match want with
     | true=>br (ZcJ v) (opW E S m o K) (K (S.put o.dst (some (.v undef))) m)
     | false=>br (ZcJ v) (K (S.put o.dst (some (.v undef))) m) (opW E S m o K))
    | _=>False
def ZeZ(ops:Array Oper)(o:Oper):Option Nat:=match o.guard with
 | none=>none
 | some (j,_)=>match ops.toList[j]? with
  | none=>none
  | some oj=>oj.dst
def ZyL(E:Env)(ops:Array Oper)(o:Oper)(S:St)(m:Mem)(K:St->Mem->Prop):Prop:=match ZeZ ops o with
 | none=>opG E ops o S m K
 | some t=>match S.env t with
  | some (.v v)=>bif Zds v then opG E ops o S m K else chk (Zgi v) (br (ZcJ v) (opG E ops o (S.put (some t) (some (.v (.bool true)))) m K) (opG E ops o (S.put (some t) (some (.v (.bool false)))) m K))
  | _=>False
def Zwp(E:Env)(ops:Array Oper):List Nat->(St->Mem->Prop)->St->Mem->Prop
 | [],K,S,m=>K S m
 | i::l,K,S,m=>match ops.toList[i]? with
  | none=>False
  | some o=>ZyL E ops o S m (Zwp E ops l K)
def ZAp(n:Nat)(o:Oper):Bool:=match o.dst with
 | none=>true
 | some d=>Nat.blt d n
def Zm3(n:Nat):List Oper->Bool
 | []=>true
 | o::l=>ZAp n o&&Zm3 n l
def Zbs(n:Nat):Code->Bool
 | .region _ ops _=>Zm3 n ops.toList
 | .seq a b=>Zbs n a&&Zbs n b
 | .cond _ a b=>Zbs n a&&Zbs n b
 | .block _ a=>Zbs n a
 | .loop a=>Zbs n a
 | .scope a=>Zbs n a
 | .rangeFunc _ ps a b=>ps.toList.all (Nat.blt · n)&&(Zbs n a&&Zbs n b)
 | _=>true
def Za6:List Oper->List Nat
 | []=>[]
 | o::l=>match o.dst with
  | none=>Za6 l
  | some d=>d::Za6 l
def ZhF:Code->List Nat
 | .region _ ops _=>Za6 ops.toList
 | .seq a b=>ZhF a++ZhF b
 | .cond _ a b=>ZhF a++ZhF b
 | .block _ a=>ZhF a
 | .loop a=>ZhF a
 | .scope a=>ZhF a
 | .rangeFunc _ ps a b=>ps.toList++(ZhF a++ZhF b)
 | _=>[]
def ZaV:Code->Nat
 | .region id _ _=>id
 | .seq a _=>ZaV a
 | .cond _ a _=>ZaV a
 | .block _ a=>ZaV a
 | .loop a=>ZaV a
 | .scope a=>ZaV a
 | .rangeFunc _ _ a _=>ZaV a
 | _=>0
def ZfX(S:St):List (Nat×Shape)->(List Value->Prop)->Prop
 | [],k=>k []
 | (t,sh)::l,k=>wv S (.tmp t) λv=>chk (sh.fits v) (ZfX S l λvs=>k (v::vs))
def ZhM(S:St):List Nat->(List (List Value)->Prop)->Prop
 | [],k=>k []
 | id::l,k=>match S.L id with
  | none=>False
  | some x=>ZhM S l λcss=>k (x.cs::css)
def ZrY(S:St)(k:Nat):Value:=match S.tok k with
 | some t=>t.v
 | none=>.slice none 0 0
def Ze0(S:St):List (Nat×Nat)->(List Value->Prop)->Prop
 | [],k=>k []
 | (q,esz)::l,k=>chk (ZbQ (ZrY S q)&&(match S.tok q with
  | some t=>Nat.beq t.esz esz
  | none=>true)) (Ze0 S l λvs=>k (ZrY S q::vs))
def ZbC(e:Nat->Option SV):List (Nat×Shape)->List Value->(Nat->Option SV)
 | (t,_)::l,v::vs=>λi=>bif Nat.beq i t then some (.v v)else ZbC e l vs i
 | _,_=>e
def Zii(L:Nat->Option Box):List Nat->List (List Value)->(Nat->Option Box)
 | id::l,cs::css=>λi=>bif Nat.beq i id then(match L i with
  | some x=>some { x with cs:=cs }
  | none=>none)else Zii L l css i
 | _,_=>L
def ZeN(tk:Nat->Option Tok):List (Nat×Nat)->List Value->(Nat->Option Tok)
 | (q,esz)::l,v::vs=>λi=>bif Nat.beq i q then some ⟨v,esz⟩ else ZeN tk l vs i
 | _,_=>tk
def ZbP(S:St)(ds:List Nat)(A:LoopAnn)(g:Int)(xs:List Value)(css:List (List Value))(tvs:List Value):St:=
 {env:=ZbC (λi=>bif ds.any (Nat.beq i ·)then none else S.env i) A.slots xs
  L:=Zii S.L A.boxes css
  ids:=S.ids
  tok:=ZeN S.tok A.toks tvs
  tkeys:=A.toks.map (·.1)++S.tkeys
  gh:=g
  fo:=S.fo }
def ghs(b:Bool)(g:Int)(xs:List Value):List Value:=bif b then .int .i64 g::xs else xs
def ZyZ(b:Bool)(g:Int)(k:Int->Prop):Prop:=bif b then ∀y,k y else k g
def Zki(b:Bool)(x y:Int)(f g:Bool)(p:Prop):Prop:=bif Bool.xor f g then False else bif b then p else match x,y with
 | .ofNat 0,.ofNat 0=>p
 | x,y=>x=y/\p
theorem ZdJ{b:Bool}{x y:Int}{f g:Bool}{p:Prop}(h:Zki b x y f g p):(b=false->x=y)/\f=g/\p:=by
 unfold Zki at h
 cases hx:Bool.xor f g with
 | true=>simp[hx]at h
 | false=>
 have oG:f=g:=by cases f <;> cases g <;> first|rfl|cases hx
 simp only[hx,cond_false]at h
 cases b with
 | true=>exact⟨λh=>(by cases h),oG,h⟩
 | false=>
  simp only[cond_false]at h
  split at h
  ·exact⟨λ_=>rfl,oG,h⟩
  ·exact⟨λ_=>h.1,oG,h.2⟩
theorem Zgw{b:Bool}{g:Int}{k:Int->Prop}(h:ZyZ b g k){y:Int}(hy:b=false->y=g):k y:=by
 cases b with
 | true=>exact h y
 | false=>rw[hy rfl];exact h
def Zm4:List Nat->(List (List Value)->Prop)->Prop
 | [],k=>k []
 | _::l,k=>∀cs,Zm4 l λcss=>k (cs::css)
def Zm5:List (Nat×Nat)->(List Value->Prop)->Prop
 | [],k=>k []
 | _::l,k=>∀(a:Option Addr)(n c:Nat),Zm5 l λvs=>k (.slice a n c::vs)
def ZbU(S:St)(A:LoopAnn)(ids:List Nat):List (Option Box):=ids.map λid=>bif A.boxes.any (Nat.beq id ·)then(match S.L id with
 | some x=>some { x with cs:=[] }
 | none=>none)else S.L id
def Za4(S:St)(A:LoopAnn)(ks:List Nat):List (Option Tok):=ks.map λk=>bif A.toks.any (λq=>Nat.beq k q.1)then none else S.tok k
def Zmd(a b:List (Option Box))(p:Prop):Prop:=match a,b with
 | [],[]=>p
 | a,b=>a=b/\p
def Zme(a b:List (Option Tok))(p:Prop):Prop:=match a,b with
 | [],[]=>p
 | a,b=>a=b/\p
theorem ZcM{a b:List (Option Box)}{p:Prop}:Zmd a b p↔a=b/\p:=by
 unfold Zmd
 split
 ·simp
 ·exact Iff.rfl
theorem ZcN{a b:List (Option Tok)}{p:Prop}:Zme a b p↔a=b/\p:=by
 unfold Zme
 split
 ·simp
 ·exact Iff.rfl
abbrev KT:=Exit->St->Mem->Prop
def leT(th:Bool)(m m':Mem):Prop:=bif th then True else m.le m'
theorem leT.of{th:Bool}{m m':Mem}(h:m.le m'):leT th m m':=by
 cases th with
 | true=>trivial
 | false=>exact h
theorem leT.refl(th:Bool)(m:Mem):leT th m m:=.of (Mem.le_refl m)
theorem leT.trans{th:Bool}{a b c:Mem}(h:leT th a b)(k:leT th b c):leT th a c:=by
 cases th with
 | true=>trivial
 | false=>exact mLt h k
def Env.cold(E:Env):Env:={ E with thaw:=false }
def ZA6(th:Bool)(A:LoopAnn)(ds:List Nat)(body:KT->St->Mem->Prop)(K:KT)(S:St)(m:Mem):Prop:=
 ∃I:List Value->List (List Value)->List Value->Mem->Nat->Prop,
  (ZfX S A.slots λxs=>ZhM S A.boxes λcss=>Ze0 S A.toks λtvs=>∃n,I (ghs A.gh S.gh xs) css tvs m n)/\
  ZyZ A.gh S.gh λy=>Shape.allL (A.slots.map (·.2)) λxs=>Zm4 A.boxes λcss=>Zm5 A.toks λtvs=>∀(m':Mem)(n:Nat),leT th m m'->I (ghs A.gh y xs) css tvs m' n->
   body (λe S' m''=>match e with
    | .normal=>Zki A.gh S'.gh S.gh S'.fo S.fo (Zmd (ZbU S' A S.ids) (ZbU S A S.ids) (Zme (Za4 S' A S.tkeys) (Za4 S A S.tkeys) (ZfX S' A.slots λxs'=>ZhM S' A.boxes λcss'=>Ze0 S' A.toks λtvs'=>∃n',n' < n/\I (ghs A.gh S'.gh xs') css' tvs' m'' n')))
    | e=>K e S' m'') (ZbP S ds A y xs css tvs) m'
def ZCf(th:Bool)(A:LoopAnn)(ds:List Nat)(x y:KT->St->Mem->Prop)(K:KT)(S:St)(m:Mem):Prop:=
 ∃J:List Value->List (List Value)->List Value->Mem->Prop,
  x (λe S' m'=>match e with
   | .normal=>Zki A.gh S'.gh S.gh S'.fo S.fo (Zmd (ZbU S' A S.ids) (ZbU S A S.ids) (Zme (Za4 S' A S.tkeys) (Za4 S A S.tkeys) (ZfX S' A.slots λxs=>ZhM S' A.boxes λcss=>Ze0 S' A.toks λtvs=>J (ghs A.gh S'.gh xs) css tvs m')))
   | e=>K e S' m') S m/\
  ZyZ A.gh S.gh λg=>Shape.allL (A.slots.map (·.2)) λxs=>Zm4 A.boxes λcss=>Zm5 A.toks λtvs=>∀m':Mem,leT th m m'->J (ghs A.gh g xs) css tvs m'->y K (ZbP S ds A g xs css tvs) m'
def Zfz:LoopAnn:=⟨[],[],[],false⟩
def ZA7(outs:List (Nat×Shape))(ds:List Nat)(body:(St->Mem->Prop)->St->Mem->Prop)(K:St->Mem->Prop)(S:St)(m:Mem):Prop:=
 Shape.exL (outs.map (·.2)) λxs=>(body (λS' _=>Zki false S'.gh S.gh S'.fo S.fo (Zmd (ZbU S' Zfz S.ids) (ZbU S Zfz S.ids) (Zme (Za4 S' Zfz S.tkeys) (Za4 S Zfz S.tkeys) (ZfX S' outs λxs'=>xs'=xs)))) S m)/\
  K { S with env:=ZbC (λi=>bif ds.any (Nat.beq i ·)then none else S.env i) outs xs } m
def IX(P:Program)(g:FuncId)(first captured:List Value)(m:Mem)(xs:List (List Value)):Prop:=
 Zem P g/\∀(p:Int->(Nat->Prop)->World->Prop),ZwJ p->∀(l:Nat)(w:World),Sub m w->p 0 (λ_=>False) w->
  Zkc P m p (λl' g v=>l'=l/\0<=g/\xs[g.toNat]?=some v)->
  Calls P g (first++.func (.yield l) #[] #[]::captured).toArray w λe w'=>∃v M,e=.returned v/\(∀k,M k->k < w'.heap.size)/\(p xs.length M w'\/p (-1) M w')
def Zli:List Nat->List Nat->Bool
 | [],[]=>true
 | a::l,b::l'=>Nat.beq a b&&Zli l l'
 | _,_=>false
def Zm6(K:KT)(e:Exit)(S:St)(m:Mem):Prop:=match e with
 | .ret=>K .ret S m
 | .exit id=>K (.exit id) S m
 | .goto l=>K (.goto l) S m
 | _=>False
def ZA8(th:Bool)(m:Mem)(k:Mem->Prop):Prop:=bif th then ∃mi,Mem.le mi m/\k mi else k m
def ZAS(th:Bool)(mi m:Mem)(p:Prop):Prop:=bif th then(mi.le m/\p)else p
theorem ZrZ{th:Bool}{m:Mem}{k:Mem->Prop}(h:ZA8 th m k):∃mi:Mem,mi.le m/\(th=false->mi=m)/\k mi:=by
 cases th with
 | true=>obtain⟨mi,h1,h2⟩:=h;exact⟨mi,h1,λe=>(by cases e),h2⟩
 | false=>exact⟨m,Mem.le_refl m,λ_=>rfl,h⟩
theorem Zr0{th:Bool}{mi m:Mem}{p:Prop}(h:ZAS th mi m p):(th=true->mi.le m)/\p:=by
 cases th with
 | true=>exact⟨λ_=>h.1,h.2⟩
 | false=>exact⟨λe=>(by cases e),h⟩
theorem Zr1{th:Bool}{m:Mem}{k k':Mem->Prop}(h:∀mi:Mem,mi.le m->(th=false->mi=m)->k mi->k' mi)(hx:ZA8 th m k):ZA8 th m k':=by
 cases th with
 | true=>obtain⟨mi,h1,h2⟩:=hx;exact⟨mi,h1,h mi h1 (λe=>(by cases e)) h2⟩
 | false=>exact h m (Mem.le_refl m) (λ_=>rfl) hx
theorem Zr2{th:Bool}{mi m:Mem}{p q:Prop}(h:p->q)(hx:ZAS th mi m p):ZAS th mi m q:=by
 cases th with
 | true=>exact⟨hx.1,h hx.2⟩
 | false=>exact h hx
def Zm7(th:Bool)(P:Program)(A:LoopAnn)(f:Operand)(ps:List Nat)(assign body:KT->St->Mem->Prop)(K:KT)(S:St)(m:Mem):Prop:=match S.ev f with
 | some (.v (.func (.func g) first captured))=>chk (Zli ps (A.slots.map (·.1))&&ZbT ps) (ZA8 th m λmi=>∃xs:List (List Value),IX P g first.toList captured.toList mi xs/\(∀x∈xs,Shape.fitsL (A.slots.map (·.2)) x=true)/\
   ∃I:List Value->List (List Value)->List Value->Mem->Nat->Prop,
    (ZhM S A.boxes λcss=>Ze0 S A.toks λtvs=>I (ghs A.gh S.gh []) css tvs m 0)/\
    (ZyZ A.gh S.gh λy=>Shape.allL (A.slots.map (·.2)) λx=>Zm4 A.boxes λcss=>Zm5 A.toks λtvs=>∀(m':Mem)(n:Nat),mi.le m'->xs[n]?=some x->I (ghs A.gh y []) css tvs m' n->
     assign (λe S1 m1=>match e with
      | .normal=>body (λe S' m''=>ZAS th mi m'' (Zki A.gh S'.gh S.gh S'.fo S.fo (Zmd (ZbU S' A S.ids) (ZbU S A S.ids) (Zme (Za4 S' A S.tkeys) (Za4 S A S.tkeys) (ZhM S' A.boxes λcss'=>Ze0 S' A.toks λtvs'=>match e with
       | .normal=>I (ghs A.gh S'.gh []) css' tvs' m'' (n+1)
       | e=>Zm6 K e (ZbP S [] { A with slots:=[] } S'.gh [] css' tvs') m''))))) S1 m1
      | _=>False) (ZbP S [] A y x css tvs) m')/\
    (ZyZ A.gh S.gh λy=>Zm4 A.boxes λcss=>Zm5 A.toks λtvs=>∀m':Mem,mi.le m'->I (ghs A.gh y []) css tvs m' xs.length->K .normal (ZbP S [] { A with slots:=[] } y [] css tvs) m'))
 | _=>False
def Mem.cutA(m:Mem)(a:Option Addr)(o:Nat):Mem:=match a with
 | some ⟨b,_,_⟩=>⟨λb' o'=>if b'=b/\o<=o' then none else m b' o',m.k⟩
 | none=>m
def ZBP(m m0:Mem)(esz:Nat)(a:Option Addr)(n c:Nat):Prop:=
 (a=none/\n=0/\c=0)\/∃b,a=some ⟨b,0,none⟩/\n<=c/\0 < c*esz/\(∀o,o < c*esz->∃v,m b o=some v)/\m0.free b
def Zmf(E:Env)(id:Nat)(f:St->Mem->Prop)(S:St)(m:Mem):Prop:=match E.acqT id with
 | none=>f S m
 | some kz=>match E.m0 with
  | none=>False
  | some m0=>chk (E.thaw&&(E.last id&&!S.fo)) (∃(a:Option Addr)(n c:Nat),ZBP m m0 kz.2 a n c/\(∀b,(Tok.mk (.slice a n c) kz.2).blk=some b->nfz S b S.ids (ntk S b [kz.1] S.tkeys))/\
    f { S with tok:=λk=>bif Nat.beq k kz.1 then some ⟨.slice a n c,kz.2⟩ else S.tok k,tkeys:=kz.1::S.tkeys } (m.cutA a (n*kz.2)))
def Zql(E:Env)(id:Nat)(f:St->Mem->Prop)(S:St)(m:Mem):Prop:=match E.acqB id with
 | none=>f S m
 | some q=>match S.L q,E.m0 with
  | none,some m0=>chk (E.thaw&&(E.last id&&!S.fo)) (∃(b:Nat)(cs:List Value),cs≠[]/\m.reads b 0 cs/\m0.free b/\nfz S b S.ids (ntk S b [] S.tkeys)/\∀(T:TypeId)(cap:Nat),f (S.newL q ⟨b,cs,T,cap,false,false⟩) (m.off λk=>k=b))
  | _,_=>False
def W(E:Env)(Za1:Nat->Array Oper->(St->Mem->Prop)->St->Mem->Prop):Code->KT->St->Mem->Prop
 | .skip,K,S,m=>K .normal S m
 | .label _,K,S,m=>K .normal S m
 | .region id ops draw,K,S,m=>match E.joins id with
  | none=>bif draw then Za1 id ops (K .normal) S m else Zql E id (λS m=>Zmf E id (λS m=>Zwp E ops (List.range ops.size) (K .normal) S m) S m) S m
  | some outs=>ZA7 outs (Za6 ops.toList) (λk S m=>bif draw then(bif E.last id then False else Za1 id ops k S m)else Zwp E.cold ops (List.range ops.size) k S m) (K .normal) S m
 | .seq x y,K,S,m=>match E.cuts (ZaV y)with
  | none=>W E Za1 x (λe S' m'=>match e with
   | .normal=>W E Za1 y K S' m'
   | e=>K e S' m') S m
  | some A=>ZCf E.thaw A (ZhF x) (W E Za1 x) (W E Za1 y) K S m
 | .cond c x y,K,S,m=>wv S c λv=>chk (Zgi v) (br (ZcJ v) (W E Za1 x K S m) (W E Za1 y K S m))
 | .block id x,K,S,m=>W E Za1 x (λe S' m'=>match e with
  | .exit id'=>bif Nat.beq id' id then K .normal S' m' else K (.exit id') S' m'
  | e=>K e S' m') S m
 | .loop x,K,S,m=>ZA6 E.thaw (E.loops (ZaV x)) (ZhF x) (W E Za1 x) K S m
 | .exit id,K,S,m=>K (.exit id) S m
 | .ret,K,S,m=>K .ret S m
 | .rangeFunc f ps x y,K,S,m=>Zm7 E.thaw E.P (E.loops (ZaV y)) f ps.toList (W E Za1 x) (W E Za1 y) K S m
 | .scope x,K,S,m=>W E Za1 x (λe S' m'=>match e with
  | .goto _=>False
  | e=>K e S' m') S m
 | _,_,_,_=>False
section
variable {C:Ctx} {S:St} {m:Mem} {a:Act} {w:World}
theorem Ze1{E:Env}(hE:E.ok){F:Fence}(hF:FOk F)(hY:YOk E C){ops:Array Oper}{o:Oper}(hd:∀t,o.dst=some t->t < C.n)(hr:Rel C S m a w){K:St->Mem->Prop}(h:opG E ops o S m K){n:Nat}{next:Act->World->Prop}{Q:Exit->Act->World->Prop}
  (hK:∀S' m' a' w',K S' m'->Rel C S' m' a' w'->next a' w'):
  if Region.wanted o (yielded ops a.tmps)then o.wpIn F n E.P a w next Q else(∀f,o.about E.P w a.eval=some f->F.fn f)/\next (a.put o.dst undef) w:=by
 have kG:opW E S m o K->o.wpIn F n E.P a w next Q:=λhh=>by
  have gY:∀c,o.op≠.defer c:=λc e=>by
   obtain⟨dst,op,type,pos,after,guard⟩:=o
   simp only at e;subst e
   simp[opW,Zcq]at hh
  refine⟨λf _=>hF.fn f,?_⟩
  rw[Oper.semAt_eq _ _ _ gY]
  exact ZrX hE hF hY hd hr hh hK
 have kE:K (S.put o.dst (some (.v undef))) m->(∀f,o.about E.P w a.eval=some f->F.fn f)/\next (a.put o.dst undef) w:=λhh=>
  ⟨λf _=>hF.fn f,hK _ _ _ _ hh (hr.put o.dst hd rfl)⟩
 unfold opG at h
 cases hg:o.guard with
 | none=>
  simp only[hg]at h
  simp only[Region.wanted,hg,if_true]
  exact kG h
 | some jw=>
  obtain⟨j,want⟩:=jw
  simp only[hg]at h
  cases hj:ops.toList[j]? with
  | none=>simp[hj]at h
  | some oj=>
   simp only[hj]at h
   have hj':ops[j]?=some oj:=by simpa using hj
   cases ht:oj.dst with
   | none=>simp[ht]at h
   | some t=>
    simp only[ht]at h
    cases he:S.env t with
    | none=>simp[he]at h
    | some sv=>
     cases sv with
     | loc id off=>simp[he]at h
     | sl id n' c=>simp[he]at h
     | v v=>
      simp only[he]at h
      obtain⟨v',h1,h2⟩:=hr.env t _ he
      simp only[St.den,Option.some.injEq]at h1
      subst h1
      cases hu:Zds v with
      | true=>
       simp only[hu,cond_true]at h
       have:Region.wanted o (yielded ops a.tmps)=false:=by
        cases v <;> simp[Zds]at hu
        simp[Region.wanted,hg,yielded,hj',ht,h2]
       simp only[this,Bool.false_eq_true,if_false]
       exact kE h
      | false=>
       simp only[hu,cond_false]at h
       obtain⟨h3,h4⟩:=Zag h
       obtain⟨b,rfl⟩:∃b,v=.bool b:=⟨_,ZbM h3⟩
       have hw:Region.wanted o (yielded ops a.tmps)=(b == want):=by
        simp[Region.wanted,hg,yielded,hj',ht,h2]
       rw[hw]
       simp only[ZcJ]at h4
       cases b <;> cases want <;> simp only[br]at h4 <;> simp <;> first
        | exact kG h4
        | exact kE h4
theorem Rel.refine{t:Nat}{v:Value}(hr:Rel C S m a w)(he:S.env t=some (.v v)):Rel C (S.put (some t) (some (.v v))) m a w:=by
 have:S.put (some t) (some (.v v))=S:=by
  unfold St.put
  have:(λi=>bif Nat.beq i t then some (SV.v v)else S.env i)=S.env:=by
   funext i
   by_cases hi:i=t
   ·subst hi;simp[he]
   ·simp[Zas hi]
  simp only[this]
 rw[this];exact hr
theorem Zhq{E:Env}(hE:E.ok){F:Fence}(hF:FOk F)(hY:YOk E C){ops:Array Oper}{o:Oper}(hd:∀t,o.dst=some t->t < C.n)(hr:Rel C S m a w){K:St->Mem->Prop}(h:ZyL E ops o S m K){n:Nat}{next:Act->World->Prop}{Q:Exit->Act->World->Prop}
  (hK:∀S' m' a' w',K S' m'->Rel C S' m' a' w'->next a' w'):
  if Region.wanted o (yielded ops a.tmps)then o.wpIn F n E.P a w next Q else(∀f,o.about E.P w a.eval=some f->F.fn f)/\next (a.put o.dst undef) w:=by
 unfold ZyL at h
 split at h
 ·exact Ze1 hE hF hY hd hr h hK
 ·rename_i t _
  split at h
  ·rename_i v he
   cases hu:Zds v with
   | true=>simp only[hu,cond_true]at h;exact Ze1 hE hF hY hd hr h hK
   | false=>
    simp only[hu,cond_false]at h
    obtain⟨h1,h2⟩:=Zag h
    obtain⟨b,rfl⟩:∃b,v=.bool b:=⟨_,ZbM h1⟩
    have dY:=hr.refine he
    cases b
    ·exact Ze1 hE hF hY hd dY h2 hK
    ·exact Ze1 hE hF hY hd dY h2 hK
  ·exact h.elim
theorem ZdK{n:Nat}:∀{l:List Oper},Zm3 n l=true->∀(i:Nat) o,l[i]?=some o->∀t,o.dst=some t->t < n
 | [],_,i,o,h,_,_=>by simp at h
 | x::l,hl,i,o,h,t,ht=>by
  simp only[Zm3,zA7]at hl
  cases i with
  | zero=>
   simp at h;subst h
   simp[ZAp,ht]at hl
   exact hl.1
  | succ i=>exact ZdK hl.2 i o (by simpa using h) t ht
theorem Ze2{E:Env}(hE:E.ok){F:Fence}(hF:FOk F)(hY:YOk E C){ops:Array Oper}(aB:Zm3 C.n ops.toList=true){n:Nat}{Q:Exit->Act->World->Prop}:∀(l:List Nat){K:St->Mem->Prop}{S:St}{m:Mem}{a:Act}{w:World},Rel C S m a w->Zwp E ops l K S m->
  (∀S' m' a' w',K S' m'->Rel C S' m' a' w'->Q .normal a' w')->wpOpsIn F n E.P ops Q l a w
 | [],K,S,m,a,w,hr,h,hK=>hK _ _ _ _ h hr
 | i::l,K,S,m,a,w,hr,h,hK=>by
  simp only[Zwp]at h
  cases ho:ops.toList[i]? with
  | none=>simp[ho]at h
  | some o=>
   simp only[ho]at h
   have ho':ops[i]?=some o:=by simpa using ho
   have:=Zhq hE hF hY (ZdK aB i o ho) hr h (n:=n) (Q:=Q) (next:=wpOpsIn F n E.P ops Q l) (λS' m' a' w' hk aZ=>Ze2 hE hF hY aB l aZ hk hK)
   simp only[wpOpsIn,ho']
   exact this
end
def SameOut(ds:List Nat)(S S':St):Prop:=∀i,i ∉ ds->S'.env i=S.env i
theorem SameOut.refl(ds:List Nat)(S:St):SameOut ds S S:=λ_ _=>rfl
theorem SameOut.trans{ds:List Nat}{a b c:St}(h:SameOut ds a b)(k:SameOut ds b c):SameOut ds a c:=λi hi=>(k i hi).trans (h i hi)
theorem SameOut.mono{ds ds':List Nat}{a b:St}(h:SameOut ds a b)(k:∀i,i∈ds->i∈ds'):SameOut ds' a b:=λi hi=>h i (λhm=>hi (k i hm))
theorem SameOut.put{ds:List Nat}{S S':St}(h:SameOut ds S S'){d:Option Tmp}(hd:∀t,d=some t->t∈ds)(x:Option SV):SameOut ds S (S'.put d x):=by
 cases d with
 | none=>exact h
 | some d=>
  intro i hi
  have cI:i≠d:=λe=>hi (e ▸ hd d rfl)
  simp[St.put,Zas cI,h i hi]
theorem Zgx{b:Bool}{p q p' q':Prop}(h:p->p')(k:q->q')(x:br b p q):br b p' q':=by
 cases b
 ·exact k x
 ·exact h x
theorem Zai{b:Bool}{p p':Prop}(h:p->p')(x:chk b p):chk b p':=Zgx h id x
theorem Zax{S:St}{x:Operand}{k k':Value->Prop}(h:∀v,k v->k' v)(hx:wv S x k):wv S x k':=by
 unfold wv at *
 split at hx
 ·exact h _ hx
 ·exact hx
theorem Zct{S:St}:∀{l:List Operand} {k k':List Value->Prop},(∀v,k v->k' v)->wvs S l k->wvs S l k'
 | [],k,k',h,hx=>h _ hx
 | x::l,k,k',h,hx=>Zax (λv hv=>Zct (λvs eC=>h _ eC) hv) hx
theorem Ze3{l:List Value}{n:Nat}{k k':Value->Prop}(h:∀v,k v->k' v)(hx:Ztz l n k):Ztz l n k':=by
 unfold Ztz at *
 split at hx
 ·exact h _ hx
 ·exact hx
theorem Zqm:∀{n:Nat} {k k':List Value->Prop},(∀v,k v->k' v)->exN n k->exN n k'
 | 0,k,k',h,hx=>h _ hx
 | n+1,k,k',h,⟨v,hx⟩=>⟨v,Zqm (λl hl=>h _ hl) hx⟩
theorem allL_mono:∀{n:Nat} {k k':List (List Value)->Prop},(∀v,k v->k' v)->allL n k->allL n k'
 | 0,k,k',h,hx=>h _ hx
 | n+1,k,k',h,hx=>λcs=>allL_mono (λl hl=>h _ hl) (hx cs)
mutual
theorem Shape.all_mono:∀(s:Shape){k k':Value->Prop},(∀v,k v->k' v)->s.all k->s.all k'
 | .any,k,k',h,hx=>by simp only[Shape.all]at *;exact λv=>h _ (hx v)
 | .int ki,k,k',h,hx=>by simp only[Shape.all]at *;exact λv=>h _ (hx v)
 | .bool,k,k',h,hx=>by simp only[Shape.all]at *;exact λv=>h _ (hx v)
 | .str,k,k',h,hx=>by simp only[Shape.all]at *;exact λv=>h _ (hx v)
 | .slice,k,k',h,hx=>by simp only[Shape.all]at *;exact λa n c=>h _ (hx a n c)
 | .agg l,k,k',h,hx=>by simp only[Shape.all]at *;exact Shape.allL_mono l (λvs eC=>h _ eC) hx
 | .tup l,k,k',h,hx=>by simp only[Shape.all]at *;exact Shape.allL_mono l (λvs eC=>h _ eC) hx
 | .fn,k,k',h,hx=>by simp only[Shape.all]at *;exact λg fi ca=>h _ (hx g fi ca)
 | .cells,k,k',h,hx=>by simp only[Shape.all]at *;exact λcs=>h _ (hx cs)
 | .ptr,k,k',h,hx=>by simp only[Shape.all]at *;exact λb o=>h _ (hx b o)
theorem Shape.allL_mono:∀(l:List Shape){k k':List Value->Prop},(∀v,k v->k' v)->Shape.allL l k->Shape.allL l k'
 | [],k,k',h,hx=>by simp only[Shape.allL]at *;exact h _ hx
 | s::l,k,k',h,hx=>by simp only[Shape.allL]at *;exact Shape.all_mono s (λv hv=>Shape.allL_mono l (λvs eC=>h _ eC) hv) hx
end
mutual
theorem Shape.ex_mono:∀(s:Shape){k k':Value->Prop},(∀v,k v->k' v)->s.ex k->s.ex k'
 | .any,k,k',h,hx=>by simp only[Shape.ex]at *;obtain⟨v,hx⟩:=hx;exact⟨v,h _ hx⟩
 | .int ki,k,k',h,hx=>by simp only[Shape.ex]at *;obtain⟨v,hx⟩:=hx;exact⟨v,h _ hx⟩
 | .bool,k,k',h,hx=>by simp only[Shape.ex]at *;obtain⟨v,hx⟩:=hx;exact⟨v,h _ hx⟩
 | .str,k,k',h,hx=>by simp only[Shape.ex]at *;obtain⟨v,hx⟩:=hx;exact⟨v,h _ hx⟩
 | .slice,k,k',h,hx=>by simp only[Shape.ex]at *;obtain⟨a,n,c,hx⟩:=hx;exact⟨a,n,c,h _ hx⟩
 | .agg l,k,k',h,hx=>by simp only[Shape.ex]at *;exact Shape.exL_mono l (λvs eC=>h _ eC) hx
 | .tup l,k,k',h,hx=>by simp only[Shape.ex]at *;exact Shape.exL_mono l (λvs eC=>h _ eC) hx
 | .fn,k,k',h,hx=>by simp only[Shape.ex]at *;obtain⟨g,fi,ca,hx⟩:=hx;exact⟨g,fi,ca,h _ hx⟩
 | .cells,k,k',h,hx=>by simp only[Shape.ex]at *;obtain⟨cs,hx⟩:=hx;exact⟨cs,h _ hx⟩
 | .ptr,k,k',h,hx=>by simp only[Shape.ex]at *;obtain⟨b,o,hx⟩:=hx;exact⟨b,o,h _ hx⟩
theorem Shape.exL_mono:∀(l:List Shape){k k':List Value->Prop},(∀v,k v->k' v)->Shape.exL l k->Shape.exL l k'
 | [],k,k',h,hx=>by simp only[Shape.exL]at *;exact h _ hx
 | s::l,k,k',h,hx=>by simp only[Shape.exL]at *;exact Shape.ex_mono s (λv hv=>Shape.exL_mono l (λvs eC=>h _ eC) hv) hx
end
theorem Zr3{op:BinOp}{k:IntKind}{a b:Int}{r r':Value->Prop}(h:∀v,r v->r' v)(x:ZyT op k a b r):ZyT op k a b r':=by
 cases op <;> simp only[ZyT]at * <;> first
  | exact h _ x
  | exact⟨x.1,h _ x.2⟩
  | exact x
theorem Zm8{op:BinOp}{k:IntKind}{a b:Int}{r r':Value->Prop}(h:∀v,r v->r' v)(x:ZiI op k a b r):ZiI op k a b r':=by
 cases op <;> simp only[ZiI]at * <;> first
  | exact⟨x.1,h _ x.2⟩
  | exact x
theorem Zr4{op:BinOp}{a b:ByteArray}{r r':Value->Prop}(h:∀v,r v->r' v)(x:ZyU op a b r):ZyU op a b r':=by
 cases op <;> simp only[ZyU]at * <;> first
  | exact h _ x
  | exact⟨x.1,h _ x.2⟩
  | exact x
theorem ZiT{op:BinOp}{b:Bool}{r r':Value->Prop}(h:∀v,r v->r' v)(x:Ztt op b r):Ztt op b r':=by
 cases op <;> simp only[Ztt]at * <;> first
  | exact h _ x
  | exact x
theorem Zm9{E:Env}{op:BinOp}{T:TypeId}{x y:Value}{r r':Value->Prop}(h:∀v,r v->r' v)(hx:ZyK E op T x y r):ZyK E op T x y r':=by
 unfold ZyK at *
 cases ht:E.tt T with
 | none=>simp[ht]at hx
 | some i=>
  simp only[ht]at *
  cases hd:i.d <;> simp only[hd]at * <;> first
   | exact hx.elim
   | exact Zai (λy=>Zr4 h y) hx
   | exact Zai (ZiT h) hx
   | exact Zai (λ⟨b,hb,y⟩=>⟨b,hb,ZiT h y⟩) hx
   | (cases hc:ZwI op <;> simp only[hc,cond_true,cond_false]at * <;> exact hx.elim λv y=>⟨v,y.1,h _ y.2⟩)
   | (cases hs:Zid op <;> simp only[hs,cond_true,cond_false]at * <;> first
     | exact Zai (Zr3 h) hx
     | exact Zai (Zm8 h) hx)
theorem Zkj{place:Nat->Option (Nat×Nat)}:∀{parts:List (Nat×Value)} {cs:List Value} {k k':List Value->Prop},(∀v,k v->k' v)->Zmb place cs parts k->Zmb place cs parts k'
 | [],cs,k,k',h,hx=>h _ hx
 | (i,v)::rest,cs,k,k',h,hx=>by
  simp only[Zmb]at *
  cases hp:place i with
  | none=>simp[hp]at hx
  | some os=>simp only[hp]at *;exact Zai (Zkj h) hx
theorem Zbu{x:Option Value}{d y:Nat}{r r':Nat->Prop}(h:∀v,r v->r' v)(hx:Zgk x d y r):Zgk x d y r':=by
 cases x with
 | none=>exact h _ hx
 | some v=>exact Zai (λ⟨a,b⟩=>⟨a,h _ b⟩) hx
theorem ZiU{S:St}{x:Option Operand}{r r':Option Value->Prop}(h:∀v,r v->r' v)(hx:ZyW S x r):ZyW S x r':=by
 cases x with
 | none=>exact h _ hx
 | some v=>exact Zax (λv hv=>h _ hv) hx
theorem Zij{E:Env}{T:TypeId}{v:Value}{lo hi mx:Option Value}{r r':Value->Prop}(h:∀v,r v->r' v)(hx:ZhL E T v lo hi mx r):ZhL E T v lo hi mx r':=by
 unfold ZhL at *
 cases he:Zhn E T with
 | some sz=>simp only[he]at *;exact Zai (λy=>Zbu (λm y=>Zbu (λh' y=>Zbu (λl y=>Zai (h _) y) y) y) y) hx
 | none=>
  simp only[he]at *
  cases hs:Zel E T <;> simp only[hs,cond_true,cond_false]at *
  exact Zai (λy=>Zbu (λh' y=>Zbu (λl y=>h _ y) y) y) hx
theorem Zkk{E:Env}{S:St}{o:Oper}{k k':SV->Prop}(h:∀v,k v->k' v)(hx:Zcq E S o k):Zcq E S o k':=by
 obtain⟨dst,op,type,pos,after,guard⟩:=o
 cases op <;> simp only[Zcq]at * <;> try exact hx.elim
 case unOp op T x=>
  refine Zax (λv y=>?_) hx
  cases op <;> simp only at *
  ·split at y <;> first|exact Zai (h _) y|exact y.elim
  ·split at y <;> first|exact Zai (h _) y|exact y.elim
  ·exact Zai (h _) y
 case binOp=>exact Zax (λv y=>Zax (λv' y=>Zm9 (λr y=>h _ y) y) y) hx
 case convert=>
  refine Zax (λv y=>?_) hx
  unfold ZrN at *
  (repeat' split at y) <;> first|exact(y:False).elim|exact Zai (h _) y|exact y.elim λu z=>⟨u,z.1,h _ z.2⟩
 case makeFunc=>exact Zct (λv y=>Zct (λv' y=>h _ y) y) hx
 case fieldAddr=>
  (repeat' split at hx) <;> first|exact hx.elim|exact h _ hx|exact Zai (h _) hx
 case indexAddr=>
  refine Zax (λv y=>Zai (λy=>?_) y) hx
  split at y
  ·exact y.elim
  ·refine⟨y.1,?_⟩
   have y2:=y.2
   (repeat' split at y2) <;> first|exact y2.elim|exact h _ y2|exact Zai (h _) y2
  ·(repeat' split at y) <;> first
    | exact y.elim
    | exact⟨y.1,h _ y.2⟩
    | exact Zai (λ⟨b,o,h1,h2,h3⟩=>⟨b,o,h1,h2,h _ h3⟩) y
 case index=>
  refine Zax (λv y=>Zax (λv' y=>Zai (λy=>?_) y) y) hx
  cases hs:Zel E _ <;> simp only[hs,cond_true,cond_false]at *
  ·split at y
   ·exact Zai (λ⟨a,b⟩=>⟨a,Ze3 (λu hu=>h _ hu) b⟩) y
   ·exact y.elim
  ·exact Zai (λ⟨a,b⟩=>⟨a,h _ b⟩) y
 case build=>
  split at hx
  ·exact hx.elim
  ·exact Zct (λvs y=>Zkj (λr y=>h _ y) y) hx
 case field=>
  split at hx
  ·exact hx.elim
  ·exact Zax (λv y=>Zai (λy=>Ze3 (λu hu=>h _ hu) y) y) hx
 case extract=>exact Zax (λv y=>Zai (λy=>Ze3 (λu hu=>h _ hu) y) y) hx
 case makeInterface=>exact Zax (λv y=>Zai (h _) y) hx
 case nilCheck=>(repeat' split at hx) <;> first|exact hx.elim|exact h _ hx|exact Zai (h _) hx
 case slice=>exact Zax (λv y=>ZiU (λl y=>ZiU (λh' y=>ZiU (λm y=>Zij (λr y=>h _ y) y) y) y) y) hx
 case call c=>
  split at hx
  ·split at hx
   ·refine Zax (λv y=>?_) hx
    unfold Zzo at *
    (repeat' split at y) <;> first|exact y.elim|exact Zai (h _) y|exact h _ y
   ·exact hx.elim
  ·split at hx
   ·refine Zax (λv y=>Zax (λv' y=>?_) y) hx
    split at y
    ·exact Zai (h _) y
    ·exact y.elim
   ·exact hx.elim
  ·split at hx
   ·refine Zax (λv y=>Zax (λv' y=>?_) y) hx
    split at y
    ·exact Zai (h _) y
    ·exact y.elim
   ·refine Zax (λv y=>Zax (λv' y=>Zax (λv'' y=>?_) y) y) hx
    split at y
    ·exact Zai (h _) y
    ·exact y.elim
   ·exact hx.elim
  ·exact hx.elim
def dl(d:Option Tmp):List Nat:=match d with
 | none=>[]
 | some t=>[t]
theorem Zzr{d:Option Tmp}{t:Nat}(h:d=some t):t∈dl d:=by subst h;simp[dl]
theorem Zb8(S:St)(d:Option Tmp)(x:Option SV):SameOut (dl d) S (S.put d x):=(SameOut.refl _ S).put (λt ht=>Zzr ht) x
theorem Zd3{ds:List Nat}{S S':St}(h:S'.env=S.env):SameOut ds S S':=λi _=>by rw[h]
theorem Zlj{i:TI}{m:Mem}{b o:Nat}{k k':Value->Prop}(h:∀v,k v->k' v)(hx:ZeK i m b o k):ZeK i m b o k':=by
 unfold ZeK at *
 cases ha:i.agg <;> simp only[ha,cond_true,cond_false]at *
 ·obtain⟨v,h1,h2⟩:=hx;exact⟨v,h1,h _ h2⟩
 ·cases hb:Nat.ble i.size 16 <;> simp only[hb,cond_true,cond_false]at *
  ·obtain⟨vs,h1,h2,h3⟩:=hx;exact⟨vs,h1,h2,h _ h3⟩
  ·exact Zqm (λvs ⟨a,b⟩=>⟨a,h _ b⟩) hx
theorem Zeq{i:TI}{x:Box}{off:Nat}{k k':Value->Prop}(h:∀v,k v->k' v)(hx:ZdX i x off k):ZdX i x off k':=by
 unfold ZdX at *
 cases ha:i.agg <;> simp only[ha,cond_true,cond_false]at *
 ·exact Ze3 h hx
 ·cases hb:(x.full&&(Nat.beq x.cap i.size&&Nat.beq off 0)) <;> simp only[hb,cond_true,cond_false]at *
  ·exact Zai (h _) hx
  ·exact h _ hx
theorem Zc8{E:Env}{S:St}{m:Mem}{T:TypeId}{x:Operand}{k k':Value->Prop}(h:∀v,k v->k' v)(hx:ZeW E S m T x k):ZeW E S m T x k':=by
 unfold ZeW at *
 split at hx
 ·exact hx.elim
 ·split at hx
  ·split at hx
   ·exact hx.elim
   ·exact Zeq h hx
  ·split at hx
   ·exact Zai (Zlj h) hx
   ·split at hx
    ·exact hx.elim
    ·exact Zai (λ⟨a,b⟩=>⟨a,Zeq h b⟩) hx
  ·exact hx.elim
theorem Zkl{E:Env}{S:St}{m:Mem}{T:TypeId}{id:Nat}{vd vs:Value}{k k':Int->St->Prop}(h:∀n S',S'.env=S.env->k n S'->k' n S')(hx:Zo1 E S m T id vd vs k):Zo1 E S m T id vd vs k':=by
 unfold Zo1 at *
 split at hx
 ·exact hx.elim
 ·split at hx
  ·exact hx.elim
  ·exact Zai (λg hf=>by
   obtain⟨o,xs,h1,h2,h3,h4,h5,h6⟩:=g hf
   exact⟨o,xs,h1,h2,h3,h4,h5,h _ _ rfl h6⟩) hx
theorem ZfA{E:Env}{S:St}{T:TypeId}{x:Operand}{v:Value}{k k':St->Prop}(h:∀S',S'.env=S.env->k S'->k' S')(hx:ZfW E S T x v k):ZfW E S T x v k':=by
 unfold ZfW at *
 split at hx
 ·exact hx.elim
 ·split at hx
  ·split at hx
   ·exact hx.elim
   ·refine Zai (λy=>?_) hx
    cases hb:(_&&(Nat.beq _ _&&Nat.beq _ 0)) <;> simp only[hb,cond_true,cond_false]at *
    ·exact Zai (h _ rfl) y
    ·exact h _ rfl y
  ·split at hx
   ·exact hx.elim
   ·split at hx
    ·exact hx.elim
    ·exact Zai (λ⟨a,b,c⟩=>⟨a,b,h _ rfl c⟩) hx
  ·exact hx.elim
theorem Zna(S:St)(ids:List Nat)(bxs:List Box)(css:List (List Value)):(Zdr S ids bxs css).env=S.env:=by
 rw[Zdf]
theorem Zik{E:Env}{S:St}{m:Mem}{rt:TypeId}{g:FuncId}{args:List Value}{key esz:Nat}{K K':Value->St->Mem->Prop}(h:∀v S' m',S'.env=S.env->m.le m'->K v S' m'->K' v S' m')(hx:ZiO E S m rt g args key esz K):ZiO E S m rt g args key esz K':=by
 obtain⟨R,hx⟩:=hx
 exact⟨R,ZrQ (λ⟨h1,h2,h3⟩=>⟨h1,h2,Shape.all_mono _ (λv y m' hm hr=>h v _ m' rfl hm (y m' hm hr)) h3⟩) hx⟩
theorem Zkm{E:Env}{S:St}{m:Mem}{rt:TypeId}{g:FuncId}{args:List Value}{ids:List Nat}{K K':Value->St->Mem->Prop}(h:∀v S' m',S'.env=S.env->m.le m'->K v S' m'->K' v S' m')(hx:Zmc E S m rt g args ids K):Zmc E S m rt g args ids K':=by
 unfold Zmc at *
 split at hx
 ·exact hx.elim
 ·refine Zai (λ⟨R,h0,h1,h2,h3⟩=>⟨R,h0,h1,h2,Shape.all_mono _ (λv y m' hm=>allL_mono (λcss y hR=>h _ _ _ (Zna _ _ _ _) hm (y hR)) (y m' hm)) h3⟩) hx
theorem Znb{E:Env}{S:St}{m:Mem}{rt:TypeId}{g:FuncId}{args:List Value}{ids:List Nat}{ks:List (Nat×Nat)}{K K':Value->St->Mem->Prop}(h:∀v S' m',S'.env=S.env->K v S' m'->K' v S' m')(hx:ZmS E S m rt g args ids ks K):ZmS E S m rt g args ids ks K':=by
 unfold ZmS at *
 split at hx
 ·exact hx.elim
 ·split at hx
  ·exact hx.elim
  ·exact Zai (λ⟨Y,R,h1,h2,h3,h4,h5⟩=>⟨Y,R,h1,h2,h3,h4,Shape.all_mono _ (λv y m' hm hn=>allL_mono (λcss y=>Zke (λtvs y hR=>h _ _ _ (Zna S _ _ _) (y hR)) y) (y m' hm hn)) h5⟩) hx
theorem ZeO{S:St}{m:Mem}{x:Operand}{k k':Value->Prop}(h:∀v,k v->k' v)(hx:ZbB S m x k):ZbB S m x k':=by
 unfold ZbB at *
 split at hx
 ·split at hx
  ·exact hx.elim
  ·obtain⟨bs,h1,h2,h3⟩:=hx
   exact⟨bs,h1,h2,h _ h3⟩
 ·exact Zax (λv y=>Zai (λ⟨bs,h1,h2,h3⟩=>⟨bs,h1,h2,h _ h3⟩) y) hx
theorem Zr5{E:Env}{rt:TypeId}{g:FuncId}{args:List Value}{K K':Value->Int->Prop}{S:St}{m:Mem}(h:∀v gh,K v gh->K' v gh)(hx:ZAn E rt g args K S m):ZAn E rt g args K' S m:=by
 unfold ZAn at *
 split at hx
 ·exact hx.elim
 ·obtain⟨l,xs,go,stop,h1,h2,h3,h4⟩:=hx
  exact⟨l,xs,go,stop,h1,h2,h3,Shape.all_mono _ (λv hv=>⟨λhg=>h _ _ (hv.1 hg),λhs=>h _ _ (hv.2 hs)⟩) h4⟩
theorem Zer{E:Env}{S:St}{m:Mem}{T xT:TypeId}{key:Nat}{vs vx:Value}{K K':Value->(Nat->Option Tok)->Mem->Prop}(h:∀v tk m',m.le m'->K v tk m'->K' v tk m')(hx:Zd0 E S m T xT key vs vx K):Zd0 E S m T xT key vs vx K':=by
 unfold Zd0 at *
 split at hx
 ·exact hx.elim
 ·split at hx
  ·exact hx.elim
  ·have hb:∀{j:TI},Zzq E S m j key vs vx K->Zzq E S m j key vs vx K':=λ⟨ht,xs,ys,a1,a2,a3,a4,a5,a6,a7,a8⟩=>⟨ht,xs,ys,a1,a2,a3,a4,a5,a6,a7,λa' c' m' h1 h2=>ZmV (h _ _ _ h1) (a8 a' c' m' h1 h2)⟩
   refine Zai (λy=>?_) hx
   exact hb y
theorem Zlk{E:Env}{S:St}{m:Mem}{T xT:TypeId}{key:Nat}{z:Bool}{vs vx:Value}{K K':Value->(Nat->Option Tok)->Mem->Prop}(h:∀v tk m',m.le m'->K v tk m'->K' v tk m')(hx:Zgp E S m T xT key z vs vx K):Zgp E S m T xT key z vs vx K':=by
 unfold Zgp at *
 cases z with
 | false=>exact Zer h hx
 | true=>
  refine Zgx (λy=>?_) (λy=>Zer h y) hx
  unfold ZwO at *
  split at y
  ·exact y.elim
  ·split at y
   ·exact y.elim
   ·exact Zai (λq=>h _ _ _ (Mem.le_refl m) q) y
def Znc(E:Env)(o:Oper):Prop:=(∀T x y,o.op=.store T x y->ZmZ E x=none)/\(∀f as ats,o.op=.call ⟨.value f,as,ats⟩->ZdY E o.dst=none)/\(∀T x y z,o.op=.mapUpdate T x y z->E.thaw=false)
theorem ZuL(E:Env)(o:Oper):E.thaw=true\/Znc E o:=by
 cases h:E.thaw with
 | true=>exact .inl rfl
 | false=>exact .inr ⟨λT x y _=>by simp[ZmZ,h],λ_ _ _ _=>by simp[ZdY,h],λ_ _ _ _ _=>h⟩
theorem Zmp{th:Bool}{E:Env}{S:St}{m:Mem}{o:Oper}(fU:th=true\/Znc E o){K K':St->Mem->Prop}(h0:∀S' m',SameOut (dl o.dst) S S'->leT th m m'->K S' m'->K' S' m')(hx:opW E S m o K):opW E S m o K':=by
 have h:∀S' m',SameOut (dl o.dst) S S'->m.le m'->K S' m'->K' S' m':=λS' m' hs hm=>h0 S' m' hs (.of hm)
 have hp:∀x,K (S.put o.dst x) m->K' (S.put o.dst x) m:=λx=>h _ _ (Zb8 S _ x) (Mem.le_refl m)
 have fN:∀(S1:St) x m',S1.env=S.env->m.le m'->K (S1.put o.dst x) m'->K' (S1.put o.dst x) m':=λS1 x m' he hm=>h _ _ ((Zd3 he).trans (Zb8 S1 _ x)) hm
 obtain⟨dst,op,type,pos,after,guard⟩:=o
 simp only at hp fN
 have eU:∀(o:Oper),o.dst=dst->Zcq E S o (λsv=>K (S.put dst (some sv)) m)->Zcq E S o (λsv=>K' (S.put dst (some sv)) m):=λo ho y=>Zkk (λsv y=>hp _ y) y
 cases op with
 | move x=>exact hp _ hx
 | assign x=>exact hp _ hx
 | pick c x y=>exact Zax (λv y=>Zai (λy=>Zgx (hp _) (hp _) y) y) hx
 | load T x=>
  simp only[opW]at hx ⊢
  cases nI:ZtD E dst with
  | none=>simp only[nI]at hx ⊢;exact Zc8 (λv y=>hp _ y) hx
  | some y=>
   simp only[nI]at hx ⊢
   exact Zc8 (λv y=>Zqh (λv y=>hp _ y) y) hx
 | store T x y=>
  refine Zax (λv y=>?_) hx
  cases kE:ZmZ E x with
  | none=>
   simp only[kE]at y ⊢
   exact ZfA (λS' he y=>fN S' _ _ he (Mem.le_refl m) y) y
  | some key=>
   simp only[kE]at y ⊢
   have fU:th=true:=by
    rcases fU with h|h
    ·exact h
    ·have:=h.1 T x _ rfl;rw[kE]at this;cases this
   cases cO:E.fix with
   | some f=>simp[cO]at y
   | none=>
    simp only[cO,Option.isSome_none,cond_false]at y ⊢
    unfold Zgs at *
    refine Zax (λp y=>?_) y
    split at y
    ·exact y.elim
    ·split at y
     ·split at y
      ·exact y.elim
      ·exact Zai (λ⟨y1,y2,y3,y4⟩=>⟨y1,y2,y3,ZiP (h0 _ _ (Zb8 S _ _) (by rw[fU];trivial)) y4⟩) y
     ·exact Zai (λ⟨y1,y2,y3⟩=>⟨y1,y2,h0 _ _ (Zb8 S _ _) (by rw[fU];trivial) y3⟩) y
 | alloc T=>
  simp only[opW,ZrT]at *
  split at hx
  ·exact hx.elim
  ·split at hx
   ·exact hx.elim
   ·split at hx
    ·exact hx.elim
    ·exact λb=>fN _ _ _ rfl (Mem.le_refl m) (hx b)
 | box T x=>
  refine Zax (λv y=>?_) hx
  simp only at y ⊢
  cases mC:Zfs E dst with
  | true=>
   simp only[mC,cond_true]at y ⊢
   cases cO:E.fix with
   | some f=>simp[cO]at y
   | none=>
    simp only[cO,Option.isSome_none,cond_false,ZyX]at y ⊢
    split at y
    ·exact y.elim
    ·split at y
     ·exact y.elim
     ·split at y
      ·exact y.elim
      ·exact Zai (λy b m' hm hb=>Zpf (fN _ _ _ rfl hm) (y b m' hm hb)) y
  | false=>
  simp only[mC,cond_false]at y ⊢
  simp only[ZA5]at *
  split at y
  ·exact y.elim
  ·split at y
   ·exact y.elim
   ·split at y
    ·exact y.elim
    ·exact Zai (λy b=>fN _ _ _ rfl (Mem.le_refl m) (y b)) y
 | buildSlice T len parts=>
  cases gD:ZcL E dst with
  | some ke=>
   simp only[opW,gD]at hx ⊢
   cases cO:E.fix with
   | some f=>simp[cO]at hx
   | none=>
    simp only[cO,Option.isSome_none,cond_false]at hx ⊢
    split at hx
    ·simp only[Zk9]at hx ⊢
     split at hx
     ·exact hx.elim
     ·split at hx
      ·exact hx.elim
      ·exact Zax (λv y=>Zax (λv' y=>Zai (λ⟨a,y⟩=>⟨a,λb=>Zqj (fN _ _ _ rfl (Mem.le_refl m)) (y b)⟩) y) y) hx
    ·exact hx.elim
  | none=>
  simp only[opW,gD,ZdZ]at hx ⊢
  split at hx
  ·exact hx.elim
  ·split at hx
   ·exact hx.elim
   ·split at hx
    ·split at hx
     ·exact hx.elim
     ·split at hx
      ·exact hx.elim
      ·exact Zai (λy=>Zct (λvs y=>Zai (λy b hf=>fN _ _ _ rfl (Mem.le_add hf _) (y b hf)) y) y) hx
    ·exact hx.elim
 | lookup T x y ok=>
  simp only[opW,Zwo]at hx ⊢
  refine Zax (λv y=>Zax (λv' y=>?_) y) hx
  split at y
  ·exact y
  ·obtain⟨b,es,u,o,h1,h2,h3,h4,h5⟩:=y
   exact⟨b,es,u,o,h1,h2,h3,h4,fN _ _ _ rfl (Mem.le_refl m) h5⟩
 | mapUpdate T x y z=>
  simp only[opW]at hx ⊢
  cases cO:E.fix with
  | some f=>simp[cO]at hx
  | none=>
   simp only[cO,Option.isSome_none,Bool.false_or]at hx ⊢
   cases qk:E.thaw with
   | false=>simp[qk]at hx
   | true=>
    simp only[qk,Bool.not_true,cond_false,ZrW]at hx ⊢
    have rv:th=true:=by
     rcases fU with fU|fU
     ·exact fU
     ·rw[fU.2.2 T x y z rfl]at qk;cases qk
    refine Zax (λv y=>Zax (λv' y=>Zax (λv2 y=>?_) y) y) hx
    split at y
    ·exact y
    ·split at y
     ·exact y
     ·refine Zai (λy=>?_) y
      obtain⟨b,es,es',h1,h2,h3,h4,h5,h6⟩:=y
      exact⟨b,es,es',h1,h2,h3,h4,h5,h0 _ _ (Zb8 S _ none) (by rw[rv];trivial) h6⟩
 | makeMap T r=>
  simp only[opW]at hx ⊢
  cases cO:E.fix with
  | some f=>simp[cO]at hx
  | none=>
   simp only[cO,Option.isSome_none,cond_false,ZuJ]at hx ⊢
   split at hx
   ·exact hx.elim
   ·exact λb h1 h2=>fN _ _ _ rfl (Mem.le_updK (Mem.le_refl m) h2 _) (hx b h1 h2)
 | makeSlice T l c=>
  simp only[opW]at hx ⊢
  cases gD:ZcL E dst with
  | none=>
   simp only[gD]at hx ⊢
   simp only[Zwn]at hx ⊢
   split at hx
   ·exact hx.elim
   ·split at hx
    ·exact hx.elim
    ·split at hx
     ·exact hx.elim
     ·exact Zax (λv y=>Zax (λv' y=>Zai (λ⟨a,y⟩=>⟨a,λb=>fN _ _ _ rfl (Mem.le_refl m) (y b)⟩) y) y) hx
  | some ke=>
   simp only[gD]at hx ⊢
   cases cO:E.fix with
   | some f=>simp[cO]at hx
   | none=>
    simp only[cO,Option.isSome_none,cond_false,Zk9]at hx ⊢
    split at hx
    ·exact hx.elim
    ·split at hx
     ·exact hx.elim
     ·exact Zax (λv y=>Zax (λv' y=>Zai (λ⟨a,y⟩=>⟨a,λb=>Zqj (fN _ _ _ rfl (Mem.le_refl m)) (y b)⟩) y) y) hx
 | convert s d x=>
  simp only[opW]at *
  cases fm:ZcB E s d <;> simp only[fm,cond_true,cond_false]at *
  ·cases oE:ZcC E s d <;> simp only[oE,cond_true,cond_false]at *
   ·exact eU _ rfl hx
   ·unfold Zla at *
    cases cO:E.fix.isSome with
    | true=>simp only[cO,cond_true]at hx ⊢;exact Zlb (λv y=>hp _ y) hx
    | false=>simp only[cO,cond_false]at hx ⊢;exact ZeO (λv y=>hp _ y) hx
  ·cases cO:E.fix with
   | some f=>simp[cO]at hx
   | none=>
    simp only[cO,Option.isSome_none,cond_false]at hx ⊢
    exact Zax (λv y=>Zai (λy b c hf hc=>fN _ _ _ rfl (Mem.le_add hf _) (y b c hf hc)) y) hx
 | call c=>
  obtain⟨callee,args,argTypes⟩:=c
  cases callee with
  | value f=>
   simp only[opW]at *
   refine ZiN (λS2 m2 dC aK hx=>?_) hx
   simp only[ZwN]at hx ⊢
   split at hx
   ·cases kG:ZtE E dst with
    | true=>
     simp only[kG,cond_true]at hx ⊢
     cases cO:E.fix with
     | some f=>simp[cO]at hx
     | none=>
      simp only[cO,Option.isSome_none,cond_false]at hx ⊢
      exact Zct (λvs y=>ZrS (λsv y=>fN _ _ _ dC aK y) y) hx
    | false=>
    simp only[kG,cond_false]at hx ⊢
    cases jb:ZdY E dst with
    | some ks=>
     simp only[jb]at hx ⊢
     have fU:th=true:=by
      rcases fU with h|h
      ·exact h
      ·have:=h.2.1 _ _ _ rfl;simp only at this;rw[jb]at this;cases this
     cases cO:E.fix with
     | some f=>simp[cO]at hx
     | none=>
      simp only[cO,Option.isSome_none,cond_false]at hx ⊢
      exact Zct (λvs y=>Znb (λv S' m' he y=>h0 _ _ ((Zd3 (he.trans dC)).trans (Zb8 S' _ _)) (by rw[fU];trivial) y) y) hx
    | none=>
    simp only[jb]at hx ⊢
    cases nJ:ZtA E dst with
    | true=>
     simp only[nJ,cond_true]at hx ⊢
     cases cO:E.fix with
     | some f=>simp[cO]at hx
     | none=>
      simp only[cO,Option.isSome_none,cond_false]at hx ⊢
      exact Zct (λvs y=>Zr5 (λv gh y=>fN _ _ _ dC aK y) y) hx
    | false=>
    simp only[nJ,cond_false]at hx ⊢
    split at hx
    ·exact Zct (λvs y=>Zkm (λv S' m' he hm y=>fN S' _ _ (he.trans dC) (mLt aK hm) y) y) hx
    ·split at hx
     ·exact Zct (λvs y=>Zik (λv S' m' he hm y=>fN S' _ _ (he.trans dC) (mLt aK hm) y) y) hx
     ·exact hx.elim
   ·cases cO:E.fix with
    | some f=>simp[cO]at hx
    | none=>
     simp only[cO,Option.isSome_none,cond_false]at hx ⊢
     split at hx
     ·exact Zct (λvs ⟨y1,y2,y3⟩=>⟨y1,fN _ _ _ dC aK y2,fN _ _ _ dC aK y3⟩) hx
     ·exact hx.elim
   ·exact hx.elim
  | invoke r mm=>
   simp only[opW]at *
   exact eU _ rfl hx
  | builtin b=>
   cases b with
   | append=>
    simp only[opW]at *
    split at hx
    ·exact ZiN (λS2 m2 dC aK hx=>Zax (λv y=>Zax (λv' y=>Zlk (λv tk m' hm y=>fN _ _ _ dC (mLt aK hm) y) y) y) hx) hx
    ·exact hx.elim
   | copy=>
    simp only[opW]at *
    split at hx
    ·split at hx
     ·exact hx.elim
     ·exact Zax (λv y=>Zax (λv' y=>Zkl (λn S' he y=>fN S' _ _ he (Mem.le_refl m) y) y) y) hx
    ·exact hx.elim
   | _=>
    simp only[opW]at *
    exact eU _ rfl hx
 | _=>
  simp only[opW]at *
  exact eU _ rfl hx
theorem Zhr{th:Bool}{E:Env}{ops:Array Oper}{S:St}{m:Mem}{o:Oper}(fU:th=true\/Znc E o){K K':St->Mem->Prop}(h:∀S' m',SameOut (dl o.dst) S S'->leT th m m'->K S' m'->K' S' m')(hx:opG E ops o S m K):opG E ops o S m K':=by
 unfold opG at *
 have hs:K (S.put o.dst (some (.v undef))) m->K' (S.put o.dst (some (.v undef))) m:=h _ _ (Zb8 S _ _) (leT.refl _ m)
 split at hx
 ·exact Zmp fU h hx
 ·split at hx
  ·exact hx.elim
  ·split at hx
   ·exact hx.elim
   ·split at hx
    ·rename_i v _
     cases hu:Zds v <;> simp only[hu,cond_true,cond_false]at *
     ·refine Zai (λy=>?_) hx
      split at y
      ·exact Zgx (Zmp fU h) hs y
      ·exact Zgx hs (Zmp fU h) y
     ·exact hs hx
    ·exact hx.elim
theorem Zcg:∀{l:List Oper} {i:Nat} {o:Oper} {t:Nat},l[i]?=some o->o.dst=some t->t∈Za6 l
 | [],i,o,t,h,_=>by simp at h
 | x::l,0,o,t,h,ht=>by simp at h;subst h;simp[Za6,ht]
 | x::l,i+1,o,t,h,ht=>by
  have:=Zcg (l:=l) (by simpa using h) ht
  simp only[Za6]
  cases x.dst with
  | none=>exact this
  | some d=>simp[this]
theorem ZiV{ops:Array Oper}{o:Oper}{t:Nat}(h:ZeZ ops o=some t):t∈Za6 ops.toList:=by
 unfold ZeZ at h
 split at h
 ·cases h
 ·split at h
  ·cases h
  ·rename_i hj;exact Zcg hj h
theorem ZiW{E:Env}{ops:Array Oper}{S:St}{m:Mem}{o:Oper}(ho:∀t,o.dst=some t->t∈Za6 ops.toList){K K':St->Mem->Prop}(h:∀S' m',SameOut (Za6 ops.toList) S S'->leT E.thaw m m'->K S' m'->K' S' m')(hx:ZyL E ops o S m K):ZyL E ops o S m K':=by
 have hm:∀{S':St},SameOut (dl o.dst) S S'->SameOut (Za6 ops.toList) S S':=λhs=>hs.mono λq hq=>by
  cases hd:o.dst with
  | none=>simp[hd,dl]at hq
  | some t=>simp[hd,dl]at hq;subst hq;exact ho _ hd
 unfold ZyL at *
 split at hx
 ·exact Zhr (ZuL E o) (λS' m' hs hm' y=>h _ _ (hm hs) hm' y) hx
 ·rename_i t ht
  have vT:=ZiV ht
  have hb:∀b:Bool,opG E ops o (S.put (some t) (some (.v (.bool b)))) m K->opG E ops o (S.put (some t) (some (.v (.bool b)))) m K':=λb=>Zhr (ZuL E o) (λS' m' hs hm' y=>h _ _ (by
   have h1:SameOut (Za6 ops.toList) S (S.put (some t) (some (.v (.bool b)))):=(SameOut.refl _ S).put (λt' e=>by cases e;exact vT) _
   refine h1.trans (hs.mono λq hq=>?_)
   cases hd:o.dst with
   | none=>simp[hd,dl]at hq
   | some t=>simp[hd,dl]at hq;subst hq;exact ho _ hd) hm' y)
  split at hx
  ·rename_i v _
   cases hu:Zds v with
   | true=>simp only[hu,cond_true]at hx ⊢;exact Zhr (ZuL E o) (λS' m' hs hm' y=>h _ _ (hm hs) hm' y) hx
   | false=>simp only[hu,cond_false]at hx ⊢;exact Zai (Zgx (hb true) (hb false)) hx
  ·exact hx.elim
theorem Zgy{E:Env}{ops:Array Oper}:∀{l:List Nat} {S:St} {m:Mem} {K K':St->Mem->Prop},(∀S' m',SameOut (Za6 ops.toList) S S'->leT E.thaw m m'->K S' m'->K' S' m')->Zwp E ops l K S m->Zwp E ops l K' S m
 | [],S,m,K,K',h,hx=>h _ _ (SameOut.refl _ S) (leT.refl _ m) hx
 | i::l,S,m,K,K',h,hx=>by
  simp only[Zwp]at *
  cases ho:ops.toList[i]? with
  | none=>simp[ho]at hx
  | some o=>
   simp only[ho]at hx ⊢
   exact ZiW (λt ht=>Zcg ho ht) (λS' m' hs hm y=>Zgy (λS'' m'' hs' hm' y=>h _ _ (SameOut.trans hs hs') (leT.trans hm hm') y) y) hx
theorem Znd{S:St}:∀{l:List Nat} {k k':List (List Value)->Prop},(∀v,k v->k' v)->ZhM S l k->ZhM S l k'
 | [],k,k',h,hx=>h _ hx
 | id::l,k,k',h,hx=>by
  simp only[ZhM]at *
  split at hx
  ·exact hx.elim
  ·exact Znd (λvs eC=>h _ eC) hx
theorem Zil{S:St}:∀{l:List (Nat×Nat)} {k k':List Value->Prop},(∀v,k v->k' v)->Ze0 S l k->Ze0 S l k'
 | [],k,k',h,hx=>h _ hx
 | (q,e)::l,k,k',h,hx=>Zai (λy=>Zil (λvs eC=>h _ eC) y) hx
theorem ZdL:∀{l:List Nat} {k k':List (List Value)->Prop},(∀v,k v->k' v)->Zm4 l k->Zm4 l k'
 | [],k,k',h,hx=>h _ hx
 | _::l,k,k',h,hx=>λcs=>ZdL (λvs eC=>h _ eC) (hx cs)
theorem ZdM:∀{l:List (Nat×Nat)} {k k':List Value->Prop},(∀v,k v->k' v)->Zm5 l k->Zm5 l k'
 | [],k,k',h,hx=>h _ hx
 | _::l,k,k',h,hx=>λa n c=>ZdM (λvs eC=>h _ eC) (hx a n c)
theorem Zim:∀{A:List (Nat×Shape)} {xs:List Value} {e:Nat->Option SV} {i:Nat},(∀q∈A,q.1≠i)->ZbC e A xs i=e i
 | [],xs,e,i,h=>by simp[ZbC]
 | (t,s)::A,[],e,i,h=>by simp[ZbC]
 | (t,s)::A,v::xs,e,i,h=>by
  have h1:i≠t:=λe=>h (t,s) (by simp) e.symm
  simp only[ZbC,Zas h1,cond_false]
  exact Zim (λq hq=>h q (by simp[hq]))
theorem ZeP{ds:List Nat}{i:Nat}:ds.any (Nat.beq i ·)=true↔i∈ds:=by
 rw[List.any_eq_true]
 constructor
 ·rintro⟨x,hx,he⟩;rw[Nat.eq_of_beq_eq_true he];exact hx
 ·intro h;exact⟨i,h,Nat.beq_refl i⟩
theorem ZfB{ds:List Nat}{i:Nat}(h:i ∉ ds):ds.any (Nat.beq i ·)=false:=by
 cases hh:ds.any (Nat.beq i ·)with
 | false=>rfl
 | true=>exact absurd (ZeP.1 hh) h
def Zwq(ds:List Nat)(A:List (Nat×Shape)):Bool:=A.all λq=>ds.any (Nat.beq q.1 ·)
theorem Zdi{ds:List Nat}{A:List (Nat×Shape)}(hA:Zwq ds A=true){S S':St}{xs:List Value}(h:S'.env=ZbC (λi=>bif ds.any (Nat.beq i ·)then none else S.env i) A xs):SameOut ds S S':=by
 intro i hi
 rw[h,Zim]
 ·simp[ZfB hi]
 ·intro q hq e
  simp only[Zwq,List.all_eq_true]at hA
  exact hi (e ▸ ZeP.1 (hA q hq))
def Zat(E:Env):Code->Bool
 | .region id ops draw=>(match E.joins id with
  | none=>true
  | some outs=>Zwq (Za6 ops.toList) outs)
 | .seq a b=>Zat E a&&Zat E b&&(match E.cuts (ZaV b)with
  | none=>true
  | some A=>Zwq (ZhF a) A.slots)
 | .cond _ a b=>Zat E a&&Zat E b
 | .block _ a=>Zat E a
 | .loop a=>Zat E a&&Zwq (ZhF a) (E.loops (ZaV a)).slots
 | .rangeFunc _ _ a b=>Zat E a&&Zat E b
 | .scope a=>Zat E a
 | _=>true
def leD(E:Env)(id:Nat)(m m':Mem):Prop:=match E.last id with
 | true=>leT E.thaw m m'
 | false=>m.le m'
theorem leD.leT{E:Env}{id:Nat}{m m':Mem}(h:leD E id m m'):leT E.thaw m m':=by
 unfold leD at h
 cases hl:E.last id with
 | true=>rw[hl]at h;exact h
 | false=>rw[hl]at h;exact .of h
theorem leD.le{E:Env}{id:Nat}{m m':Mem}(hl:E.last id=false)(h:leD E id m m'):m.le m':=by
 unfold leD at h;rw[hl]at h;exact h
def ZdG(E:Env)(Za1:Nat->Array Oper->(St->Mem->Prop)->St->Mem->Prop):Prop:=
 ∀(id:Nat)(ops:Array Oper)(K K':St->Mem->Prop)(S:St)(m:Mem),(∀S' m',SameOut (Za6 ops.toList) S S'->leD E id m m'->K S' m'->K' S' m')->Za1 id ops K S m->Za1 id ops K' S m
theorem Zgz{b:Bool}{g:Int}{k k':Int->Prop}(h:∀y,k y->k' y)(hx:ZyZ b g k):ZyZ b g k':=by
 cases b with
 | true=>exact λy=>h y (hx y)
 | false=>exact h g hx
theorem Zpk{b:Bool}{x y:Int}{f g:Bool}{p q:Prop}(h:p->q)(hx:Zki b x y f g p):Zki b x y f g q:=by
 unfold Zki at *
 cases hf:Bool.xor f g with
 | true=>simp[hf]at hx
 | false=>
 simp only[hf,cond_false]at *
 cases b with
 | true=>exact h hx
 | false=>
  simp only[cond_false]at *
  split at hx
  ·exact h hx
  ·exact⟨hx.1,h hx.2⟩
theorem Zpl{a b:List (Option Box)}{p q:Prop}(h:p->q)(hx:Zmd a b p):Zmd a b q:=ZcM.2 ⟨(ZcM.1 hx).1,h (ZcM.1 hx).2⟩
theorem Zpm{a b:List (Option Tok)}{p q:Prop}(h:p->q)(hx:Zme a b p):Zme a b q:=ZcN.2 ⟨(ZcN.1 hx).1,h (ZcN.1 hx).2⟩
theorem Zll{K K':KT}{e:Exit}{S:St}{m:Mem}(h:∀e,K e S m->K' e S m)(hx:Zm6 K e S m):Zm6 K' e S m:=by
 cases e with
 | ret=>exact h _ hx
 | exit id=>exact h _ hx
 | goto l=>exact h _ hx
 | _=>exact hx
theorem leT.up{th:Bool}{mi m m':Mem}(hc:th=false->mi=m)(h:mi.le m'):leT th m m':=by
 cases th with
 | true=>trivial
 | false=>rw[hc rfl]at h;exact h
theorem Zne{th:Bool}{P:Program}{A:LoopAnn}{f:Operand}{ps:List Nat}{assign body:KT->St->Mem->Prop}{ds:List Nat}
  (ha:∀{S:St} {m:Mem} {K K':KT},(∀e S' m',leT th m m'->K e S' m'->K' e S' m')->assign K S m->assign K' S m)
  (hb:∀{S:St} {m:Mem} {K K':KT},(∀e S' m',leT th m m'->K e S' m'->K' e S' m')->body K S m->body K' S m)
  {S:St} {m:Mem} {K K':KT} (h:∀e S' m',SameOut ds S S'->leT th m m'->K e S' m'->K' e S' m') (hx:Zm7 th P A f ps assign body K S m):Zm7 th P A f ps assign body K' S m:=by
 unfold Zm7 at *
 split at hx
 ·refine Zai (Zr1 λmi jd ls ⟨xs,h1,h2,I,h3,h4,h5⟩=>⟨xs,h1,h2,I,h3,?_,?_⟩) hx
  all_goals have up:∀{m':Mem},mi.le m'->leT th m m':=λhm=>leT.up ls hm
  ·refine Zgz (λy z=>Shape.allL_mono _ (λx z=>ZdL (λcss z=>ZdM (λtvs z m' n hm hn hI=>?_) z) z) z) h4
   refine ha (λe S1 m1 aG k=>?_) (z m' n hm hn hI)
   cases e with
   | normal=>
    refine hb (λe S' m'' aK k=>Zr2 (Zpk (Zpl (Zpm (Znd λcss' k=>?_ )))) k) k
    refine Zil (λtvs' k=>?_) k
    cases e with
    | normal=>exact k
    | _=>exact Zll (λe=>h e _ _ (SameOut.refl _ _) (leT.trans (up hm) (leT.trans aG aK))) k
   | _=>exact k
  ·exact Zgz (λy z=>ZdL (λcss z=>ZdM (λtvs z m' hm hI=>h _ _ _ (SameOut.refl _ _) (up hm) (z m' hm hI)) z) z) h5
 ·exact hx.elim
theorem Zmq{E:Env}{id:Nat}{f f':St->Mem->Prop}{S:St}{m:Mem}(h0:f S m->f' S m)(h1:E.thaw=true->E.last id=true->∀(S1:St)(m1:Mem),S1.env=S.env->f S1 m1->f' S1 m1)(hx:Zmf E id f S m):Zmf E id f' S m:=by
 unfold Zmf at hx ⊢
 split at hx
 ·exact h0 hx
 ·split at hx
  ·exact hx
  ·obtain⟨c1,a,n,c,y1,y2,y3⟩:=Zag hx
   have c2:=c1
   simp only[zA7]at c2
   exact Zaa c1 ⟨a,n,c,y1,y2,h1 c2.1 c2.2.1 _ _ rfl y3⟩
theorem ZuM{E:Env}{id:Nat}{f f':St->Mem->Prop}{S:St}{m:Mem}(h0:f S m->f' S m)(h1:E.thaw=true->E.last id=true->∀(S1:St)(m1:Mem),S1.env=S.env->f S1 m1->f' S1 m1)(hx:Zql E id f S m):Zql E id f' S m:=by
 unfold Zql at hx ⊢
 split at hx
 ·exact h0 hx
 ·split at hx
  ·obtain⟨c1,b,cs,y1,y2,y3,y4,y5⟩:=Zag hx
   have c2:=c1
   simp only[zA7]at c2
   exact Zaa c1 ⟨b,cs,y1,y2,y3,y4,λT cap=>h1 c2.1 c2.2.1 _ _ rfl (y5 T cap)⟩
  ·exact hx
theorem Zdx{E:Env}{Za1:Nat->Array Oper->(St->Mem->Prop)->St->Mem->Prop}(hD:ZdG E Za1):∀(c:Code),Zat E c=true->∀{S:St} {m:Mem} {K K':KT},(∀e S' m',SameOut (ZhF c) S S'->leT E.thaw m m'->K e S' m'->K' e S' m')->W E Za1 c K S m->W E Za1 c K' S m
 | .skip,_,S,m,K,K',h,hx=>h _ _ _ (SameOut.refl _ S) (leT.refl _ m) hx
 | .label _,_,S,m,K,K',h,hx=>h _ _ _ (SameOut.refl _ S) (leT.refl _ m) hx
 | .exit _,_,S,m,K,K',h,hx=>h _ _ _ (SameOut.refl _ S) (leT.refl _ m) hx
 | .ret,_,S,m,K,K',h,hx=>h _ _ _ (SameOut.refl _ S) (leT.refl _ m) hx
 | .region id ops draw,hc,S,m,K,K',h,hx=>by
  simp only[W]at *
  cases hj:E.joins id with
  | none=>
   simp only[hj]at hx ⊢
   cases draw with
   | true=>simp only[cond_true]at *;exact hD _ _ _ _ _ _ (λS' m' hs hm y=>h _ _ _ hs (leD.leT hm) y) hx
   | false=>
    simp only[cond_false]at *
    have go:E.thaw=true->∀(S1:St)(m1:Mem),S1.env=S.env->Zwp E ops (List.range ops.size) (K .normal) S1 m1->Zwp E ops (List.range ops.size) (K' .normal) S1 m1:=λht S1 m1 he y=>Zgy (λS' m' hs _ y=>h _ _ _ (λt hh=>(hs t hh).trans (congrFun he t)) (by rw[ht];trivial) y) y
    exact ZuM (λy=>Zmq (λy=>Zgy (λS' m' hs hm y=>h _ _ _ hs hm y) y) (λht _ S1 m1 he y=>go ht S1 m1 he y) y)
     (λht _ S1 m1 he y=>Zmq (λy=>go ht S1 m1 he y) (λht _ S2 m2 vU y=>go ht S2 m2 (vU.trans he) y) y) hx
  | some outs=>
   simp only[hj]at hx ⊢
   refine Shape.exL_mono _ (λxs ⟨h1,h2⟩=>⟨h1,h _ _ _ ?_ (leT.refl _ m) h2⟩) hx
   simp only[Zat,hj]at hc
   exact Zdi hc rfl
 | .seq x y,hc,S,m,K,K',h,hx=>by
  simp only[Zat,zA7]at hc
  simp only[W,ZhF]at *
  cases jq:E.cuts (ZaV y)with
  | none=>
   simp only[jq]at hx ⊢
   refine Zdx hD x hc.1.1 (λe S' m' hs hm hy=>?_) hx
   have hs':SameOut (ZhF x++ZhF y) S S':=hs.mono (λi hi=>by simp[hi])
   cases e with
   | normal=>exact Zdx hD y hc.1.2 (λe S'' m'' gR aK hy=>h _ _ _ (hs'.trans (gR.mono (λi hi=>by simp[hi]))) (leT.trans hm aK) hy) hy
   | _=>exact h _ _ _ hs' hm hy
  | some A=>
   simp only[jq]at hx ⊢ hc
   obtain⟨J,h1,h2⟩:=hx
   refine⟨J,Zdx hD x hc.1.1 (λe S' m' hs hm hy=>?_) h1,Zgz (λg z=>Shape.allL_mono _ (λxs z=>ZdL (λcss z=>ZdM (λtvs z m' hm hJ=>?_) z) z) z) h2⟩
   ·cases e with
    | normal=>exact hy
    | _=>exact h _ _ _ (hs.mono (λi hi=>by simp[hi])) hm hy
   ·refine Zdx hD y hc.1.2 (λe S' m'' hs aK hy=>h _ _ _ ?_ (leT.trans hm aK) hy) (z m' hm hJ)
    have h3:SameOut (ZhF x) S (ZbP S (ZhF x) A g xs css tvs):=Zdi (S':=ZbP S (ZhF x) A g xs css tvs) hc.2 rfl
    exact(h3.mono (λi hi=>by simp[hi])).trans (hs.mono (λi hi=>by simp[hi]))
 | .cond c x y,hc,S,m,K,K',h,hx=>by
  simp only[Zat,zA7]at hc
  simp only[W,ZhF]at *
  exact Zax (λv hy=>Zai (λhy=>Zgx (Zdx hD x hc.1 (λe S' m' hs hm hy=>h _ _ _ (hs.mono (λi hi=>by simp[hi])) hm hy)) (Zdx hD y hc.2 (λe S' m' hs hm hy=>h _ _ _ (hs.mono (λi hi=>by simp[hi])) hm hy)) hy) hy) hx
 | .block id x,hc,S,m,K,K',h,hx=>by
  simp only[Zat]at hc
  simp only[W,ZhF]at *
  refine Zdx hD x hc (λe S' m' hs hm hy=>?_) hx
  cases e with
  | exit id'=>
   simp only at *
   cases hb:Nat.beq id' id <;> simp only[hb,cond_true,cond_false]at *
   ·exact h _ _ _ hs hm hy
   ·exact h _ _ _ hs hm hy
  | _=>exact h _ _ _ hs hm hy
 | .loop x,hc,S,m,K,K',h,hx=>by
  simp only[Zat,zA7]at hc
  simp only[W,ZhF]at *
  obtain⟨I,h1,h2⟩:=hx
  refine⟨I,h1,Zgz (λg y=>Shape.allL_mono _ (λxs y=>ZdL (λcss y=>ZdM (λtvs y m' n hm hI=>?_) y) y) y) h2⟩
  refine Zdx hD x hc.1 (λe S' m'' hs aK hy=>?_) (y m' n hm hI)
  have hs':SameOut (ZhF x) S S':=(Zdi (S':=ZbP S (ZhF x) (E.loops (ZaV x)) g xs css tvs) hc.2 rfl).trans hs
  cases e with
  | normal=>exact hy
  | _=>exact h _ _ _ hs' (leT.trans hm aK) hy
 | .goto _,_,S,m,K,K',h,hx=>by simp[W]at hx
 | .scope x,hc,S,m,K,K',h,hx=>by
  simp only[Zat]at hc
  simp only[W,ZhF]at *
  refine Zdx hD x hc (λe S' m' hs hm hy=>?_) hx
  cases e with
  | goto l=>exact hy
  | _=>exact h _ _ _ hs hm hy
 | .rangeFunc f ps x y,hc,S,m,K,K',h,hx=>by
  simp only[Zat,zA7]at hc
  simp only[W]at *
  exact Zne (assign:=W E Za1 x) (body:=W E Za1 y) (λh'=>Zdx hD x hc.1 λe S' m' _ hm hy=>h' e S' m' hm hy) (λh'=>Zdx hD y hc.2 λe S' m' _ hm hy=>h' e S' m' hm hy) (λe S' m' hs hm=>h e S' m' hs hm) hx
 | .refuse _,_,S,m,K,K',h,hx=>by simp[W]at hx
section
variable {C:Ctx} {m:Mem} {a:Act} {w:World}
theorem Rel.restrict{S S2:St}(h:Rel C S m a w)(hg:S2.gh=S.gh)(hf:S2.fo=S.fo)(hL:∀id x,S2.L id=some x->S.L id=some x)(hT:∀k t,S2.tok k=some t->S.tok k=some t\/t.v=.slice none 0 0)
  (dC:∀i sv,S2.env i=some sv->∃v,S2.den sv=some v/\a.tmps[i]?=some v) (dS:∀id x,S2.L id=some x->id∈S2.ids) (oH:∀k t,S2.tok k=some t->k∈S2.tkeys):Rel C S2 m a w:=by
 refine⟨h.defers,h.size,dC,λid x hx=>h.own id x (hL id x hx),λid id' x x' hx hx'=>h.apart id id' x x' (hL _ _ hx) (hL _ _ hx'),dS,?_,oH,?_,h.sub,h.le,h.dom.imp λM d=>d.cut hg (λid x hx=>⟨id,x,hL id x hx,rfl⟩) (λk t b ht hb=>?_) rfl (Mem.le_refl _),λh'=>h.fo (hf ▸ h')⟩
 ·intro k t ht
  rcases hT k t ht with h1|h1
  ·obtain⟨h2,h3⟩:=h.toks k t h1
   exact⟨h2,λb hb=>⟨λid x hx=>(h3 b hb).1 id x (hL _ _ hx),(h3 b hb).2⟩⟩
  ·exact⟨.inl h1,λb hb=>by simp[Tok.blk,h1]at hb⟩
 ·intro k k' t t' b ht ht' hb hb'
  rcases hT k t ht with h1|h1
  ·rcases hT k' t' ht' with h2|h2
   ·exact h.tapart k k' t t' b h1 h2 hb hb'
   ·simp[Tok.blk,h2]at hb'
  ·simp[Tok.blk,h1]at hb
 ·rcases hT k t ht with h1|h1
  ·exact⟨k,t,h1,hb⟩
  ·simp[Tok.blk,h1]at hb
theorem Rel.forget{S:St}{m':Mem}(h:Rel C S m' a w)(hm:m.le m')(h0:C.me.le m)(hz:∀id x,S.L id=some x->x.fz=true->m.reads x.b 0 x.cs):Rel C S m a w:=by
 have hn:∀b o,m' b o=none->m b o=none:=λb o ho=>by
  cases he:m b o with
  | none=>rfl
  | some v=>rw[hm _ _ _ he]at ho;cases ho
 refine⟨h.defers,h.size,h.env,λid x hx=>?_,h.apart,h.ids,λk t ht=>?_,h.tkeys,h.tapart,h.sub.less hm,h0,h.dom.imp λM d=>d.cut rfl (λid x hx=>⟨id,x,hx,rfl⟩) (λk t b ht hb=>⟨k,t,ht,hb⟩) rfl hm,h.fo⟩
 ·have h1:=h.own id x hx
  exact⟨h1.cells,λhf o=>hn _ _ (h1.free hf o),hz id x hx,h1.whole⟩
 ·obtain⟨h1,h2⟩:=h.toks k t ht
  exact⟨h1.same (λ_ _=>rfl) (λb o _ ho=>hn _ _ ho),h2⟩
theorem ZcD{S:St}(hr:Rel C S m a w):∀{l:List (Nat×Shape)} {k:List Value->Prop},ZfX S l k->∃xs,Shape.fitsL (l.map (·.2)) xs=true/\(∀(i:Nat) t sh v,l[i]?=some (t,sh)->xs[i]?=some v->a.tmps[t]?=some v)/\xs.length=l.length/\k xs
 | [],k,h=>⟨[],rfl,by simp,rfl,h⟩
 | (t,sh)::l,k,h=>by
  obtain⟨v,hv,h⟩:=Zaw h
  obtain⟨h1,h2⟩:=Zag h
  obtain⟨xs,g1,g2,g3,g4⟩:=ZcD hr h2
  refine⟨v::xs,by simp[Shape.fitsL,h1,g1],?_,by simp[g3],g4⟩
  intro i t' sh' v' hi hx
  cases i with
  | zero=>
   simp at hi hx
   obtain⟨rfl,rfl⟩:=hi
   subst hx
   simp only[St.val,St.ev]at hv
   cases he:S.env t with
   | none=>simp[he]at hv
   | some sv=>
    simp only[he]at hv
    obtain⟨u,h3,h4⟩:=hr.env t sv he
    rw[hv]at h3;cases h3;exact h4
  | succ i=>exact g2 i t' sh' v' (by simpa using hi) (by simpa using hx)
theorem Zc9{S:St}:∀{l:List Nat} {k:List (List Value)->Prop},ZhM S l k->∃css,css.length=l.length/\(∀(i:Nat) id cs,l[i]?=some id->css[i]?=some cs->∃x,S.L id=some x/\x.cs=cs)/\k css
 | [],k,h=>⟨[],rfl,by simp,h⟩
 | id::l,k,h=>by
  simp only[ZhM]at h
  cases hx:S.L id with
  | none=>simp[hx]at h
  | some x=>
   simp only[hx]at h
   obtain⟨css,g1,g2,g3⟩:=Zc9 h
   refine⟨x.cs::css,by simp[g1],?_,g3⟩
   intro i id' cs hi hc
   cases i with
   | zero=>simp at hi hc;subst hi hc;exact⟨x,hx,rfl⟩
   | succ i=>exact g2 i id' cs (by simpa using hi) (by simpa using hc)
theorem Zb9{S:St}:∀{l:List (Nat×Nat)} {k:List Value->Prop},Ze0 S l k->∃vs,vs.length=l.length/\(∀(i:Nat) q e v,l[i]?=some (q,e)->vs[i]?=some v->ZbQ v=true/\(S.tok q=some ⟨v,e⟩\/v=.slice none 0 0))/\k vs
 | [],k,h=>⟨[],rfl,by simp,h⟩
 | (q,e)::l,k,h=>by
  obtain⟨h1,h2⟩:=Zag h
  simp only[zA7]at h1
  obtain⟨vs,g1,g2,g3⟩:=Zb9 h2
  refine⟨ZrY S q::vs,by simp[g1],?_,g3⟩
  intro i q' e' v hi hv
  cases i with
  | zero=>
   simp at hi hv
   obtain⟨rfl,rfl⟩:=hi
   subst hv
   refine⟨h1.1,?_⟩
   unfold ZrY
   cases ht:S.tok q with
   | none=>exact .inr rfl
   | some t=>
    left
    have:t.esz=e:=by have:=h1.2;simp only[ht]at this;exact Nat.eq_of_beq_eq_true this
    cases t;simp at this ⊢;exact this
  | succ i=>exact g2 i q' e' v (by simpa using hi) (by simpa using hv)
theorem ZdN:∀{l:List Nat} {k:List (List Value)->Prop},Zm4 l k->∀css,css.length=l.length->k css
 | [],k,h,css,hl=>by cases css <;> simp_all [Zm4]
 | _::l,k,h,css,hl=>by
  cases css with
  | nil=>simp at hl
  | cons c css=>exact ZdN (h c) css (by simpa using hl)
theorem ZdO:∀{l:List (Nat×Nat)} {k:List Value->Prop},Zm5 l k->∀vs,vs.length=l.length->(∀v∈vs,ZbQ v=true)->k vs
 | [],k,h,vs,hl,_=>by cases vs <;> simp_all [Zm5]
 | _::l,k,h,vs,hl,hs=>by
  cases vs with
  | nil=>simp at hl
  | cons v vs=>
   have:=Zbr (hs v (by simp))
   rw[this]
   exact ZdO (h _ _ _) vs (by simpa using hl) (λu hu=>hs u (by simp[hu]))
theorem Zkn:∀{A:List (Nat×Shape)} {xs:List Value} {e:Nat->Option SV} {i:Nat} {sv:SV},ZbC e A xs i=some sv->e i=some sv\/∃(q:Nat)(sh:Shape)(v:Value),A[q]?=some (i,sh)/\xs[q]?=some v/\sv=.v v
 | [],xs,e,i,sv,h=>.inl (by simpa[ZbC]using h)
 | (t,s)::A,[],e,i,sv,h=>.inl (by simpa[ZbC]using h)
 | (t,s)::A,v::xs,e,i,sv,h=>by
  by_cases hi:i=t
  ·subst hi
   simp[ZbC]at h
   exact .inr ⟨0,s,v,by simp,by simp,h.symm⟩
  ·simp only[ZbC,Zas hi,cond_false]at h
   rcases Zkn h with h1|⟨q,sh,u,h1,h2,h3⟩
   ·exact .inl h1
   ·exact .inr ⟨q+1,sh,u,by simpa using h1,by simpa using h2,h3⟩
theorem Ze4:∀{l:List Nat} {css:List (List Value)} {L:Nat->Option Box} {id:Nat} {y:Box},Zii L l css id=some y->(∃(i:Nat)(x:Box)(cs:List Value),l[i]?=some id/\css[i]?=some cs/\L id=some x/\y={ x with cs:=cs })\/((∀i,l[i]?=some id->css.length<=i)/\L id=some y)
 | [],css,L,id,y,h=>.inr ⟨by simp,by simpa[Zii]using h⟩
 | d::l,[],L,id,y,h=>.inr ⟨λi _=>by simp,by simpa[Zii]using h⟩
 | d::l,cs::css,L,id,y,h=>by
  by_cases de:id=d
  ·subst de
   simp only[Zii,Zhk,cond_true]at h
   cases hx:L id with
   | none=>simp[hx]at h
   | some x=>simp[hx]at h;exact .inl ⟨0,x,cs,by simp,by simp,rfl,h.symm⟩
  ·simp only[Zii,Zas de,cond_false]at h
   rcases Ze4 h with⟨i,x,c,h1,h2,h3,h4⟩|⟨h1,h2⟩
   ·exact .inl ⟨i+1,x,c,by simpa using h1,by simpa using h2,h3,h4⟩
   ·refine .inr ⟨λi hi=>?_,h2⟩
    cases i with
    | zero=>simp at hi;exact absurd hi.symm de
    | succ i=>have:=h1 i (by simpa using hi);simp;omega
theorem ZdP:∀{l:List Nat} {css:List (List Value)} {L:Nat->Option Box} {id:Nat} {x:Box},L id=some x->∃y,Zii L l css id=some y/\y.b=x.b
 | [],css,L,id,x,h=>⟨x,by simpa[Zii]using h,rfl⟩
 | d::l,[],L,id,x,h=>⟨x,by simpa[Zii]using h,rfl⟩
 | d::l,cs::css,L,id,x,h=>by
  by_cases de:id=d
  ·subst de
   exact⟨{ x with cs:=cs },by simp[Zii,h],rfl⟩
  ·simp only[Zii,Zas de,cond_false]
   exact ZdP h
theorem Zdj:∀{l:List (Nat×Nat)} {vs:List Value} {tk:Nat->Option Tok} {k:Nat} {t:Tok},ZeN tk l vs k=some t->(∃(i:Nat)(e:Nat)(v:Value),l[i]?=some (k,e)/\vs[i]?=some v/\t=⟨v,e⟩)\/((∀i q,l[i]?=some q->q.1=k->vs.length<=i)/\tk k=some t)
 | [],vs,tk,k,t,h=>.inr ⟨by simp,by simpa[ZeN]using h⟩
 | (q,e)::l,[],tk,k,t,h=>.inr ⟨λi _ _ _=>by simp,by simpa[ZeN]using h⟩
 | (q,e)::l,v::vs,tk,k,t,h=>by
  by_cases hk:k=q
  ·subst hk
   simp[ZeN]at h
   exact .inl ⟨0,e,v,by simp,by simp,h.symm⟩
  ·simp only[ZeN,Zas hk,cond_false]at h
   rcases Zdj h with⟨i,e',u,h1,h2,h3⟩|⟨h1,h2⟩
   ·exact .inl ⟨i+1,e',u,by simpa using h1,by simpa using h2,h3⟩
   ·refine .inr ⟨λi p hi hp=>?_,h2⟩
    cases i with
    | zero=>simp at hi;subst hi;exact absurd hp.symm hk
    | succ i=>have:=h1 i p (by simpa using hi) hp;simp;omega
structure StOk (S:St):Prop where
 env:∀i sv,S.env i=some sv->∃v,S.den sv=some v
 ids:∀id x,S.L id=some x->id∈S.ids
 tkeys:∀k t,S.tok k=some t->k∈S.tkeys
theorem Rel.ok{S:St}(h:Rel C S m a w):StOk S:=⟨λi sv he=>(h.env i sv he).imp λv hv=>hv.1,h.ids,h.tkeys⟩
theorem Zd4{S S':St}(hS:StOk S){ds:List Nat}{A:LoopAnn}(hr:Rel C S' m a w)(iU:S'.fo=S.fo)(eQ:SameOut ds S S')(lu:ZbU S' A S.ids=ZbU S A S.ids)(aS:Za4 S' A S.tkeys=Za4 S A S.tkeys)
  {xs:List Value} {css:List (List Value)} {tvs:List Value} (hx:∀(i:Nat) t sh v,A.slots[i]?=some (t,sh)->xs[i]?=some v->a.tmps[t]?=some v)
  (fg:css.length=A.boxes.length) (hc:∀(i:Nat) id cs,A.boxes[i]?=some id->css[i]?=some cs->∃x,S'.L id=some x/\x.cs=cs)
  (gC:tvs.length=A.toks.length) (ht:∀(i:Nat) q e v,A.toks[i]?=some (q,e)->tvs[i]?=some v->ZbQ v=true/\(S'.tok q=some ⟨v,e⟩\/v=.slice none 0 0)):Rel C (ZbP S ds A S'.gh xs css tvs) m a w:=by
 have hL:∀id y,Zii S.L A.boxes css id=some y->S'.L id=some y:=by
  intro id y hy
  have fa:∀id,id∈S.ids->(bif A.boxes.any (Nat.beq id ·)then(match S'.L id with
    | some x=>some { x with cs:=[] }
    | none=>none)else S'.L id)=(bif A.boxes.any (Nat.beq id ·)then(match S.L id with
    | some x=>some { x with cs:=[] }
    | none=>none)else S.L id):=λid de=>by
   simp only[ZbU]at lu
   exact(List.map_inj_left.1 lu) id de
  rcases Ze4 hy with⟨i,x,cs,h1,h2,h3,h4⟩|⟨h1,h2⟩
  ·obtain⟨x',g1,g2⟩:=hc i id cs h1 h2
   have:=fa id (hS.ids id x h3)
   have hm:A.boxes.any (Nat.beq id ·)=true:=ZeP.2 (zA2 h1)
   simp only[hm,cond_true,g1,h3,Option.some.injEq,Box.mk.injEq,true_and]at this
   rw[g1,h4]
   obtain⟨e1,e2,e3,e4,e5⟩:=this
   cases x;cases x'
   simp_all
  ·have hm:A.boxes.any (Nat.beq id ·)=false:=ZfB (λcJ=>by
    obtain⟨i,hi⟩:=List.getElem?_of_mem cJ
    have h3:=h1 i hi
    have h4:=(zA0 hi).1
    omega)
   have:=fa id (hS.ids id y h2)
   simp only[hm,cond_false]at this
   rw[this,h2]
 have mz:∀k t,ZeN S.tok A.toks tvs k=some t->S'.tok k=some t\/t.v=.slice none 0 0:=by
  intro k t hk
  have fa:∀k,k∈S.tkeys->(bif A.toks.any (λq=>Nat.beq k q.1)then none else S'.tok k)=(bif A.toks.any (λq=>Nat.beq k q.1)then none else S.tok k):=λk hk=>by
   simp only[Za4]at aS
   exact(List.map_inj_left.1 aS) k hk
  rcases Zdj hk with⟨i,e,v,h1,h2,h3⟩|⟨h1,h2⟩
  ·obtain⟨g1,g2⟩:=ht i k e v h1 h2
   subst h3
   exact g2.imp id id
  ·left
   have hm:A.toks.any (λq=>Nat.beq k q.1)=false:=by
    cases hh:A.toks.any (λq=>Nat.beq k q.1)with
    | false=>rfl
    | true=>
     obtain⟨q,hq,he⟩:=List.any_eq_true.1 hh
     obtain⟨i,hi⟩:=List.getElem?_of_mem hq
     have h3:=h1 i q hi (Nat.eq_of_beq_eq_true he).symm
     have h4:=(zA0 hi).1
     omega
   have:=fa k (hS.tkeys k t h2)
   simp only[hm,cond_false]at this
   rw[this,h2]
 refine hr.restrict rfl iU.symm hL mz ?_ ?_ ?_
 ·intro i sv he
  simp only[ZbP]at he
  rcases Zkn he with h1|⟨q,sh,v,h1,h2,h3⟩
  ·cases hi:ds.any (Nat.beq i ·)with
   | true=>simp[hi]at h1
   | false=>
    simp only[hi,cond_false]at h1
    have vV:i ∉ ds:=λhm=>by rw[ZeP.2 hm]at hi;cases hi
    have h2:S'.env i=some sv:=by rw[eQ i vV,h1]
    obtain⟨v,h3,h4⟩:=hr.env i sv h2
    refine⟨v,?_,h4⟩
    cases sv with
    | v u=>exact h3
    | loc id off=>
     obtain⟨v0,h5⟩:=hS.env i _ h1
     simp only[St.den]at h5
     cases hx:S.L id with
     | none=>simp[hx]at h5
     | some x=>
      obtain⟨y,hy,_⟩:=ZdP (l:=A.boxes) (css:=css) hx
      have:=hL id y hy
      simp only[St.den,this]at h3
      simp only[St.den,ZbP,hy];exact h3
    | sl id n c=>
     obtain⟨v0,h5⟩:=hS.env i _ h1
     simp only[St.den]at h5
     cases hx:S.L id with
     | none=>simp[hx]at h5
     | some x=>
      obtain⟨y,hy,_⟩:=ZdP (l:=A.boxes) (css:=css) hx
      have:=hL id y hy
      simp only[St.den,this]at h3
      simp only[St.den,ZbP,hy];exact h3
  ·subst h3
   exact⟨v,rfl,hx q i sh v h1 h2⟩
 ·intro id y hy
  simp only[ZbP]at hy ⊢
  rcases Ze4 hy with⟨i,x,cs,h1,h2,h3,h4⟩|⟨h1,h2⟩
  ·exact hS.ids id x h3
  ·exact hS.ids id y h2
 ·intro k t hk
  simp only[ZbP]at hk ⊢
  rcases Zdj hk with⟨i,e,v,h1,h2,h3⟩|⟨h1,h2⟩
  ·exact List.mem_append_left _ (List.mem_map.2 ⟨(k,e),zA2 h1,rfl⟩)
  ·exact List.mem_append_right _ (hS.tkeys k t h2)
end
theorem Rel.lessMem{C:Ctx}{S:St}{m m1:Mem}{a:Act}{w:World}(h:Rel C S m a w)(hm:m1.le m)(h0:C.me.le m1)(hk:∀id x,S.L id=some x->x.fz=true->∀o,m1 x.b o=m x.b o):Rel C S m1 a w:=by
 have eS:∀b o,m b o=none->m1 b o=none:=λb o hn=>by
  cases he:m1 b o with
  | none=>rfl
  | some v=>have:=hm _ _ _ he;rw[hn]at this;cases this
 refine⟨h.defers,h.size,h.env,λid x hx=>?_,h.apart,h.ids,λk t ht=>?_,h.tkeys,h.tapart,h.sub.less hm,h0,?_,h.fo⟩
 ·obtain⟨g1,g2,g3,g4⟩:=h.own id x hx
  exact⟨g1,λhz o=>eS _ _ (g2 hz o),λhz j u hu=>by rw[hk id x hx hz];exact g3 hz j u hu,g4⟩
 ·obtain⟨g1,g2⟩:=h.toks k t ht
  exact⟨g1.same (λb _=>rfl) (λb o _=>eS b o),g2⟩
 ·obtain⟨M,hd⟩:=h.dom
  exact⟨M,hd.p,hd.lt,hd.own,hd.tok,hd.mks,hd.new.less hm⟩
theorem Rel.acq{E:Env}{C:Ctx}(hY:YOk E C){mm:Mem}(dQ:E.m0=some mm){S:St}{m:Mem}{a:Act}{w:World}(hr:Rel C S m a w)(iU:S.fo=false){key esz:Nat}{p:Option Addr}{n c:Nat}(h1:ZBP m mm esz p n c)
  (h2:∀b,(Tok.mk (.slice p n c) esz).blk=some b->nfz S b S.ids (ntk S b [key] S.tkeys)):
  Rel C { S with tok:=λk=>bif Nat.beq k key then some ⟨.slice p n c,esz⟩ else S.tok k,tkeys:=key::S.tkeys } (m.cutA p (n*esz)) a w:=by
 obtain⟨gn,hW⟩:=hY.m0 mm dQ
 have gn:C.me=mm:=(hr.fo iU).trans gn
 rcases h1 with⟨rfl,rfl,rfl⟩|⟨b,rfl,gj,gX,iS,dV⟩
 ·exact hr.tokNil key _ rfl
 ·obtain⟨q1,q2⟩:=Zeo (h2 b rfl)
  have cy:(m.cutA (some ⟨b,0,none⟩) (n*esz)).le m:=⟨λb' o v hv=>by
   simp only[Mem.cutA]at hv
   split at hv
   ·cases hv
   ·exact hv,λ_ _ h=>h⟩
  have jr:∀b',b'≠b->∀o,m.cutA (some ⟨b,0,none⟩) (n*esz) b' o=m b' o:=λb' hb o=>by simp[Mem.cutA,hb]
  have iQ:∀id x,S.L id=some x->x.b≠b:=λid x hx e=>by
   have ho:=hr.own id x hx
   cases hz:x.fz with
   | true=>exact q2 id x (hr.ids id x hx) hx hz e
   | false=>
    obtain⟨v,hv⟩:=iS 0 gX
    have:=ho.free hz 0
    rw[e,hv]at this;cases this
  have dF:Rel C S (m.cutA (some ⟨b,0,none⟩) (n*esz)) a w:=hr.lessMem cy ⟨λb' o v hv=>by
   by_cases hb:b'=b
   ·subst hb;rw[gn]at hv;rw[dV o]at hv;cases hv
   ·rw[jr b' hb];exact hr.le _ _ _ hv,λb e he=>hr.le.k b e he⟩ (λid x hx _ o=>jr _ (iQ id x hx) o)
  obtain⟨v0,mE⟩:=iS 0 gX
  have hM:∀M,Dom C S m a w M->M b:=λM hd=>(hd.new b 0 v0 mE).resolve_left λh=>by rw[gn,dV 0]at h;cases h
  have cx:∀o,o < c*esz->∃v,w.cell? ⟨b,o,none⟩=some v:=λo ho=>by
   obtain⟨v,hv⟩:=iS o ho
   exact⟨v,hr.sub _ _ _ hv⟩
  obtain⟨cur,T,fr,hh⟩:∃cur T fr,w.heap[b]?=some (.cells cur T fr):=by
   obtain⟨v,hv⟩:=cx 0 gX
   unfold World.cell? at hv
   cases hh:w.heap[b]? with
   | none=>simp[hh]at hv
   | some ob=>
    cases ob <;> simp[hh]at hv
    exact⟨_,_,_,rfl⟩
  have bJ:c*esz<=cur.size:=by
   obtain⟨v,hv⟩:=cx (c*esz - 1) (by omega)
   simp only[World.cell?,hh]at hv
   simp at hv
   have:=(Array.getElem?_eq_some_iff.1 hv).1
   omega
  obtain⟨M,hd⟩:=hr.dom
  have fS:Wr w b:=hW _ _ _ hd.p b (hM M hd)
  refine dF.tokUpd key _ (.inr ⟨b,0,n,c,cur,T,fr,rfl,gj,hh,by rw[Nat.zero_add];exact bJ,fS cur T fr hh,λo ho _=>by rw[Nat.zero_add]at ho;simp[Mem.cutA,ho]⟩) (λb' hb'=>?_) ?_
  ·have:b'=b:=by simp[Tok.blk]at hb';exact hb'.symm
   subst this
   exact⟨⟨iQ,by rw[gn];exact dV⟩,λk' t' cI ht'=>Zfv q1 k' t' (hr.tkeys k' t' ht') ht' (by simpa using cI)⟩
  ·obtain⟨M1,j5⟩:=dF.dom
   refine⟨M,⟨hd.p,hd.lt,hd.own,hd.tok,hd.mks,hd.new.less cy⟩,λb' hb'=>?_⟩
   have:b'=b:=by simp[Tok.blk]at hb';exact hb'.symm
   subst this
   exact hM M hd
theorem Rel.acqB{E:Env}{C:Ctx}(hY:YOk E C){mm:Mem}(dQ:E.m0=some mm){S:St}{m:Mem}{a:Act}{w:World}(hr:Rel C S m a w)(iU:S.fo=false){q b:Nat}{cs:List Value}(hq:S.L q=none)(cI:cs≠[])(cz:m.reads b 0 cs)(dV:mm.free b)
  (h2:nfz S b S.ids (ntk S b [] S.tkeys)):∃T cap,Rel C (S.newL q ⟨b,cs,T,cap,false,false⟩) (m.off λk=>k=b) a w:=by
 obtain⟨gn,hW⟩:=hY.m0 mm dQ
 have gn:C.me=mm:=(hr.fo iU).trans gn
 obtain⟨q1,q2⟩:=Zeo h2
 have cx:∀(o:Nat)(v:Value),cs[o]?=some v->w.cell? ⟨b,o,none⟩=some v:=λo v hv=>by
  have:=hr.sub _ _ _ (cz o v hv);rwa [Nat.zero_add]at this
 obtain⟨v0,mE⟩:∃v,cs[0]?=some v:=by
  cases cs with
  | nil=>exact absurd rfl cI
  | cons v l=>exact⟨v,rfl⟩
 have lw:m b 0=some v0:=by have:=cz 0 v0 mE;rwa [Nat.zero_add]at this
 obtain⟨cur,T,fr,hh⟩:∃cur T fr,w.heap[b]?=some (.cells cur T fr):=by
  have hv:=cx 0 v0 mE
  unfold World.cell? at hv
  cases hh:w.heap[b]? with
  | none=>simp[hh]at hv
  | some ob=>
   cases ob <;> simp[hh]at hv
   exact⟨_,_,_,rfl⟩
 have jr:∀b',b'≠b->∀o,(m.off λk=>k=b) b' o=m b' o:=λb' hb o=>Mem.off_at (Y:=λk=>k=b) hb o
 have bI:(m.off λk=>k=b).free b:=Mem.off_free (Y:=λk=>k=b) rfl
 have iQ:∀id x,S.L id=some x->x.b≠b:=λid x hx e=>by
  have ho:=hr.own id x hx
  cases hz:x.fz with
  | true=>exact q2 id x (hr.ids id x hx) hx hz e
  | false=>
   have:=ho.free hz 0
   rw[e,lw]at this;cases this
 have cy:C.me.le (m.off λk=>k=b):=⟨λb' o v hv=>by
  by_cases hb:b'=b
  ·subst hb;rw[gn]at hv;rw[dV o]at hv;cases hv
  ·rw[jr b' hb];exact hr.le _ _ _ hv,λb' e he=>by
  by_cases hb:b'=b
  ·subst hb
   obtain⟨es,cl,h8,_⟩:=hr.sub.k b' e (hr.le.k _ _ he)
   rw[hh]at h8;cases h8
  ·rw[Mem.off_k (Y:=λk=>k=b) hb];exact hr.le.k _ _ he⟩
 have dF:Rel C S (m.off λk=>k=b) a w:=hr.lessMem (Mem.off_le _ _) cy (λid x hx _ o=>jr _ (iQ id x hx) o)
 obtain⟨M,hd⟩:=hr.dom
 have hM:M b:=(hd.new b 0 v0 lw).resolve_left λh=>by rw[gn,dV 0]at h;cases h
 have fS:Wr w b:=hW _ _ _ hd.p b hM
 obtain⟨sp,mF⟩:∃sp,cur.toList=cs++sp:=by
  refine⟨cur.toList.drop cs.length,?_⟩
  refine(List.take_append_drop cs.length cur.toList).symm.trans (congrArg (·++_) ?_)
  refine List.ext_getElem? λi=>?_
  by_cases hi:i < cs.length
  ·rw[List.getElem?_take_of_lt hi]
   have:=cx i _ (zA3 hi)
   simp only[World.cell?,hh,Option.isSome_none,Bool.false_eq_true,if_false]at this
   rw[zA3 hi,<-this];simp
  ·rw[List.getElem?_eq_none (l:=cur.toList.take cs.length) (by rw[List.length_take];omega),List.getElem?_eq_none (by omega)]
 have fQ:cur=(cs++sp).toArray:=by rw[<-mF]
 have dE:Own (m.off λk=>k=b) w ⟨b,cs,T,cur.size,false,false⟩:=⟨⟨sp,fr,by rw[<-fQ];exact hh,by rw[fQ];simp,fS cur T fr hh⟩,λ_=>bI,λh=>(by cases h),λh=>(by cases h)⟩
 have hL:∀i y,(S.newL q ⟨b,cs,T,cur.size,false,false⟩).L i=some y->(i=q/\y=⟨b,cs,T,cur.size,false,false⟩)\/(i≠q/\S.L i=some y):=λi y hy=>by
  simp only[St.newL]at hy
  cases e:Nat.beq i q with
  | true=>rw[e]at hy;exact .inl ⟨Nat.eq_of_beq_eq_true e,(Option.some.inj hy).symm⟩
  | false=>rw[e]at hy;exact .inr ⟨(λh=>by subst h;rw[Nat.beq_refl]at e;cases e),hy⟩
 refine⟨T,cur.size,dF.defers,dF.size,λi sv he=>?_,λi y hy=>?_,λi j y z hy hz hb=>?_,λi y hy=>?_,λk t ht=>⟨(dF.toks k t ht).1,λb' hb'=>⟨λi y hy=>?_,((dF.toks k t ht).2 b' hb').2⟩⟩,dF.tkeys,dF.tapart,dF.sub,dF.le,⟨M,hd.p,hd.lt,λi y hy=>?_,hd.tok,hd.mks,hd.new.less (Mem.off_le _ _)⟩,dF.fo⟩
 ·obtain⟨v,h1,h2⟩:=dF.env i sv he
  refine⟨v,?_,h2⟩
  have key:∀id x,S.L id=some x->(S.newL q ⟨b,cs,T,cur.size,false,false⟩).L id=some x:=λid x hx=>by
   simp only[St.newL]
   have:Nat.beq id q=false:=by
    cases e:Nat.beq id q with
    | false=>rfl
    | true=>rw[Nat.eq_of_beq_eq_true e,hq]at hx;cases hx
   rw[this];exact hx
  cases sv with
  | v u=>exact h1
  | loc id off=>
   simp only[St.den]at h1 ⊢
   cases hx:S.L id with
   | none=>simp[hx]at h1
   | some x=>rw[key id x hx];simpa[hx]using h1
  | sl id n c=>
   simp only[St.den]at h1 ⊢
   cases hx:S.L id with
   | none=>simp[hx]at h1
   | some x=>rw[key id x hx];simpa[hx]using h1
 ·rcases hL i y hy with⟨_,rfl⟩|⟨_,hy⟩
  ·exact dE
  ·exact dF.own i y hy
 ·rcases hL i y hy with⟨e1,e2⟩|⟨_,hy'⟩ <;> rcases hL j z hz with⟨e3,e4⟩|⟨_,hz'⟩
  ·rw[e1,e3]
  ·rw[e2]at hb;exact absurd hb.symm (iQ j z hz')
  ·rw[e4]at hb;exact absurd hb (iQ i y hy')
  ·exact dF.apart i j y z hy' hz' hb
 ·rcases hL i y hy with⟨rfl,rfl⟩|⟨_,hy⟩
  ·exact List.mem_cons_self
  ·exact List.mem_cons_of_mem _ (dF.ids i y hy)
 ·rcases hL i y hy with⟨rfl,rfl⟩|⟨_,hy⟩
  ·exact λe=>Zfv q1 k t (hr.tkeys k t ht) ht (by simp) (by rw[hb'];exact congrArg some e.symm)
  ·exact((dF.toks k t ht).2 b' hb').1 i y hy
 ·rcases hL i y hy with⟨rfl,rfl⟩|⟨_,hy⟩
  ·exact hM
  ·exact hd.own i y hy
theorem Zin:∀{A:List (Nat×Shape)} {xs:List Value} {e:Nat->Option SV} {i:Nat} {sv:SV},xs.length=A.length->ZbC e A xs i=some sv->(e i=some sv/\i ∉ A.map (·.1))\/∃(q:Nat)(sh:Shape)(v:Value),A[q]?=some (i,sh)/\xs[q]?=some v/\sv=.v v
 | [],xs,e,i,sv,_,h=>.inl ⟨by simpa[ZbC]using h,by simp⟩
 | (t,s)::A,[],e,i,sv,hl,h=>by simp at hl
 | (t,s)::A,v::xs,e,i,sv,hl,h=>by
  by_cases hi:i=t
  ·subst hi
   simp[ZbC]at h
   exact .inr ⟨0,s,v,by simp,by simp,h.symm⟩
  ·simp only[ZbC,Zas hi,cond_false]at h
   rcases Zin (by simpa using hl) h with⟨h1,h2⟩|⟨q,sh,u,h1,h2,h3⟩
   ·exact .inl ⟨h1,by simp only[List.map_cons,List.mem_cons,not_or];exact⟨hi,h2⟩⟩
   ·exact .inr ⟨q+1,sh,u,by simpa using h1,by simpa using h2,h3⟩
theorem Zio:∀(ps:List Nat)(vs:List Value)(t:Array Value),vs.length=ps.length->ps.Nodup->
  ((ps.zip vs).foldl (λ(t:Array Value)(x:Nat×Value)=>t.setIfInBounds x.1 x.2) t).size=t.size/\
  (∀i,i ∉ ps->((ps.zip vs).foldl (λ(t:Array Value)(x:Nat×Value)=>t.setIfInBounds x.1 x.2) t)[i]?=t[i]?)/\
  (∀(q i:Nat)(v:Value),ps[q]?=some i->vs[q]?=some v->i < t.size->((ps.zip vs).foldl (λ(t:Array Value)(x:Nat×Value)=>t.setIfInBounds x.1 x.2) t)[i]?=some v)
 | [],vs,t,_,_=>⟨rfl,λ_ _=>rfl,λq i v h=>by simp at h⟩
 | p::ps,[],t,h,_=>by simp at h
 | p::ps,v::vs,t,h,hn=>by
  obtain⟨hp,hn⟩:=List.nodup_cons.1 hn
  obtain⟨h1,h2,h3⟩:=Zio ps vs (t.setIfInBounds p v) (by simpa using h) hn
  simp only[List.zip_cons_cons,List.foldl_cons]
  refine⟨by simpa using h1,λi hi=>?_,λq i u hq hu aB=>?_⟩
  ·simp only[List.mem_cons,not_or]at hi
   rw[h2 i hi.2,Array.getElem?_setIfInBounds_ne (Ne.symm hi.1)]
  ·cases q with
   | zero=>
    simp at hq hu
    subst hq hu
    rw[h2 p hp]
    simp[aB]
   | succ q=>exact h3 q i u (by simpa using hq) (by simpa using hu) (by simpa using aB)
theorem Zip:∀{a b:List Nat},Zli a b=true->a=b
 | [],[],_=>rfl
 | [],_::_,h=>by simp[Zli]at h
 | _::_,[],h=>by simp[Zli]at h
 | x::a,y::b,h=>by
  simp only[Zli,zA7]at h
  rw[Nat.eq_of_beq_eq_true h.1,Zip h.2]
theorem Zes:∀{l:List Shape} {x:List Value},Shape.fitsL l x=true->x.length=l.length
 | [],[],_=>rfl
 | [],_::_,h=>by simp[Shape.fitsL]at h
 | _::_,[],h=>by simp[Shape.fitsL]at h
 | _::l,_::x,h=>by
  simp only[Shape.fitsL,zA7]at h
  simp[Zes h.2]
section
variable {C:Ctx} {S:St} {m:Mem} {a:Act} {w w':World} {M M':Nat->Prop}
structure Apart (M':Nat->Prop)(S:St)(m:Mem)(a:Act):Prop where
 box:∀id x,S.L id=some x->¬M' x.b
 tok:∀k t b,S.tok k=some t->t.blk=some b->¬M' b
 mks:∀D,ZhK D∈a.defers->¬M' D
 mem:∀b o v,m b o=some v->¬M' b
 kn:∀b e,m.k b=some e->¬M' b
theorem Rel.markAt(h:Rel C S m a w){D:Nat}(hD:ZhK D∈a.defers):w.heap[D]?=some (.deferred (some [])):=by
 obtain⟨ms,h1,h2,h3⟩:=h.defers
 rw[h1]at hD
 obtain⟨D',h4,h5⟩:=List.mem_map.1 hD
 have:D'=D:=by simpa[ZhK]using h5
 exact this ▸ h3 D' h4
theorem Rel.foreign(h:Rel C S m a w)(hd:Dom C S m a w M)(hM:∀k,M' k->M k)(dB:Apart M' S m a)(hu:Upd M' w w'):Rel C S m a w'/\Dom C S m a w' (ZwG M w w'):=by
 have hd':Dom C S m a w' (ZwG M w w'):=hd.step ⟨hu.os,hu.tape,hu.output,hu.size,λk hk hn=>hu.block k hk (λhm=>hn (hM k hm)),hu.wr⟩ (NewM.refl _ _)
 refine⟨⟨?_,h.size,h.env,λid x hx=>?_,h.apart,h.ids,λk t ht=>?_,h.tkeys,h.tapart,⟨λb o v hv=>?_,λb e he=>(h.sub.k b e he).same (hu.block b (h.sub.k b e he).lt (dB.kn b e he))⟩,h.le,⟨_,hd'⟩,h.fo⟩,hd'⟩
 ·obtain⟨ms,h1,h2,h3⟩:=h.defers
  refine⟨ms,h1,h2,λD hD=>?_⟩
  rw[hu.block D (Array.getElem?_eq_some_iff.1 (h3 D hD)).1 (dB.mks D (by rw[h1];exact List.mem_map.2 ⟨D,hD,rfl⟩))];exact h3 D hD
 ·exact(h.own id x hx).same (hu.block _ (h.own id x hx).lt (dB.box id x hx)) (Mem.le_refl m) (h.own id x hx).free
 ·obtain⟨h1,h2⟩:=h.toks k t ht
  exact⟨h1.same (λb hb=>hu.block b (h1.lt hb) (dB.tok k t b ht hb)) (λ_ _ _ hn=>hn),h2⟩
 ·rw[ZbL (hu.block b (h.sub.lt hv) (dB.mem b o v hv))];exact h.sub b o v hv
def ZwR:Obj->Bool
 | .cells _ _ _=>true
 | .map _ _=>true
 | _=>false
theorem Zda{w:World}{k l:Nat}{o:Obj}{r:Loop}(h:w.heap[k]?=some o)(hm:ZwR o=true)(hl:w.heap[l]?=some (.loop r)):k≠l:=λe=>by subst e;rw[h]at hl;cases hl;cases hm
theorem Rel.swap{C2:Ctx}{S2:St}{a2:Act}(h:Rel C S m a w)(hn:C2.n=C.n)(hm:C2.me.le m)(hL:S2.L=S.L)(dS:S2.ids=S.ids)(aS:S2.tok=S.tok)(fj:S2.tkeys=S.tkeys)
  (dC:∀i sv,S2.env i=some sv->∃v,S2.den sv=some v/\a2.tmps[i]?=some v) (bJ:a2.tmps.size=C2.n)
  (gY:∃ms:List Nat,a2.defers=ms.map ZhK/\ms.Nodup/\∀D∈ms,w'.heap[D]?=some (.deferred (some [])))
  (df:∀(k:Nat)(o:Obj),w.heap[k]?=some o->ZwR o=true->w'.heap[k]?=w.heap[k]?) (bI:∀k t b,S.tok k=some t->t.blk=some b->C2.me.free b) (iU:S2.fo=false->C2.me=C2.m0) (hd:∃M,Dom C2 S2 m a2 w' M):Rel C2 S2 m a2 w':=by
 refine⟨gY,bJ,dC,λid x hx=>?_,λid id' x x' hx hx'=>?_,λid x hx=>?_,λk t ht=>?_,λk t ht=>?_,λk k' t t' b ht ht'=>?_,⟨λb o v hv=>?_,λb e he=>?_⟩,hm,hd,iU⟩
 ·rw[hL]at hx
  have ho:=h.own id x hx
  obtain⟨sp,fr,hc,_⟩:=ho.cells
  exact ho.same (df _ _ hc rfl) (Mem.le_refl m) ho.free
 ·rw[hL]at hx hx';exact h.apart id id' x x' hx hx'
 ·rw[hL]at hx;rw[dS];exact h.ids id x hx
 ·rw[aS]at ht
  obtain⟨h1,h2⟩:=h.toks k t ht
  refine⟨h1.same (λb hb=>?_) (λ_ _ _ hn=>hn),λb hb=>⟨λid x hx=>?_,?_⟩⟩
  ·rcases h1 with h1|⟨b',o0,n,c,cur,T,fr,hv,_,hh,_⟩
   ·simp[Tok.blk,h1]at hb
   ·simp[Tok.blk,hv]at hb;subst hb;exact df _ _ hh rfl
  ·rw[hL]at hx;exact(h2 b hb).1 id x hx
  ·exact bI k t b ht hb
 ·rw[aS]at ht;rw[fj];exact h.tkeys k t ht
 ·rw[aS]at ht ht';exact h.tapart k k' t t' b ht ht'
 ·have h1:=h.sub b o v hv
  have:∃c T fr,w.heap[b]?=some (Obj.cells c T fr):=by
   unfold World.cell? at h1
   split at h1
   ·rename_i c T fr hc;exact⟨c,T,fr,hc⟩
   ·cases h1
  obtain⟨c,T,fr,hc⟩:=this
  rw[ZbL (df _ _ hc rfl)];exact h1
 ·obtain⟨es,cl,h1,h2⟩:=h.sub.k b e he
  exact⟨es,cl,(df _ _ h1 rfl).trans h1,h2⟩
end
def Zwr(C:Ctx)(X:Nat->Prop)(h:Nat->Option Obj)(B:Nat)(me:Mem)(fq:C.m0.le me):Ctx where
 n:=C.n
 m0:=C.m0
 me:=me
 mle:=fq
 p:=λg Mr w=>∃M,C.p g M w/\(∀k,M k->k < w.heap.size)/\(∀k,Mr k->M k)/\(∀k,X k->M k/\¬Mr k/\w.heap[k]?=h k)/\B<=w.heap.size
 st:=by
  rintro g Mr M2 w w' ⟨M,h1,h2,h3,h4,h5⟩ hu hg
  refine⟨ZwG M w w',C.st g M _ w w' h1 ⟨hu.os,hu.tape,hu.output,hu.size,λk hk hn=>hu.block k hk (λhm=>hn (h3 k hm)),hu.wr⟩ (λ_ hk=>hk),?_,?_,?_,Nat.le_trans h5 hu.size⟩
  ·rintro k (hk|hk)
   ·exact Nat.lt_of_lt_of_le (h2 k hk) hu.size
   ·exact hk.2.1
  ·intro k hk
   exact(hg k hk).imp_left (h3 k)
  ·intro k hk
   obtain⟨g1,g2,g3⟩:=h4 k hk
   have aB:=h2 k g1
   refine⟨.inl g1,λhm=>?_,?_⟩
   ·rcases hg k hm with h|h
    ·exact g2 h
    ·omega
   ·rw[hu.block k aB g2];exact g3
abbrev ZA9(C:Ctx)(X:Nat->Prop)(h:Nat->Option Obj)(B:Nat):Ctx:=Zwr C X h B C.me C.mle
theorem Zqn{E:Env}{C:Ctx}{X:Nat->Prop}{h:Nat->Option Obj}{B:Nat}(hY:YOk E C){me:Mem}{fq:C.m0.le me}(cy:C.me.le me)(lx:NewM C.me me X):YOk E (Zwr C X h B me fq):=by
 have key:∀{M:Nat->Prop} {w w':World},(∀k,M k->k < w.heap.size)->(∀k,X k->M k/\True)->Sub me w->Frn C.me M w w'->Sub me w':=λ{M w w'} h2 h4 hs hf=>⟨λb o v hv=>by
  rcases lx.c b o v hv with h|h
  ·exact hf.sub.c b o v h
  ·rw[ZbL (hf.block b (h2 b (h4 b h).1) (h4 b h).1)];exact hs.c b o v hv,λb e he=>by
  rcases lx.k b e he with h|h
  ·exact hf.sub.k b e h
  ·exact(hs.k b e he).same (hf.block b (h2 b (h4 b h).1) (h4 b h).1)⟩
 refine⟨?_,λmm fw=>⟨(hY.m0 mm fw).1,λg Mr w ⟨M,h1,h2,h3,h4,h5⟩ k hk=>(hY.m0 mm fw).2 g M w h1 k (h3 k hk)⟩⟩
 rintro Y vW F n l g v Mr w hF aB hy ⟨M,h1,h2,h3,h4,h5⟩ hs
 obtain⟨fn,tmps,asg,bdy,mB,fG⟩:=hY.y Y vW F n l g v M w hF h2 hy h1 (hs.less cy)
 refine⟨fn,tmps,asg,bdy,mB,fG.mono ?_⟩
 rintro e w' ⟨b,rfl,hp,hf⟩
 refine⟨b,rfl,⟨M,hp,λk hk=>Nat.lt_of_lt_of_le (h2 k hk) hf.size,h3,λk hk=>?_,Nat.le_trans h5 hf.size⟩,hf.size,λk hk hm=>hf.block k hk (h3 k hm),key h2 (λk hk=>⟨(h4 k hk).1,trivial⟩) hs hf⟩
 obtain⟨g1,g2,g3⟩:=h4 k hk
 exact⟨g1,g2,by rw[hf.block k (h2 k g1) g1];exact g3⟩
def ROk(F:Fence)(C:Ctx):Prop:=∀l,F.round=some l->∀g M w,C.p g M w->∃r,w.heap[l]?=some (.loop r)
def ZiX:Obj->Bool
 | .cells _ _ _=>false
 | _=>true
theorem Znf{o:Obj}(h:ZiX o=true):Zty o:=λc T fr e=>by subst e;simp[ZiX]at h
theorem Ze5{M:Nat->Prop}{w:World}{l:Nat}{o:Obj}(ho:ZiX o=true)(hl:M l):Upd M w (w.putObj l o):=
 ⟨rfl,rfl,rfl,by simp[World.putObj],λk hk hn=>World.putObj_heap_other (λe=>hn (e ▸ hl)),λk _ hk c T fr hh i hi=>by
  by_cases e:k=l
  ·subst e
   by_cases aB:k < w.heap.size
   ·rw[World.putObj_heap_same aB]at hh
    exact Znf ho c T fr (Option.some.inj hh) i hi
   ·have h1:=(Array.getElem?_eq_some_iff.1 hh).1
    have h2:(w.putObj k o).heap.size=w.heap.size:=by simp[World.putObj]
    omega
  ·rw[World.putObj_heap_other e]at hh;exact hk c T fr hh i hi⟩
theorem Zdb(w:World)(l:Nat)(o:Obj):(w.putObj l o).heap.size=w.heap.size:=by simp[World.putObj]
theorem FOk.inRound{F:Fence}(h:FOk F)(l:Nat):FOk (F.inRound l):=by
 rcases h with rfl|⟨l',rfl⟩
 ·exact .inr ⟨l,rfl⟩
 ·exact .inr ⟨l,rfl⟩
section
variable {C:Ctx} {S:St} {m:Mem} {a:Act} {w w':World} {M M':Nat->Prop}
theorem Rel.alloc(h:Rel C S m a w)(hd:Dom C S m a w M){o:Obj}(ho:ZiX o=true):Rel C S m a (w.alloc o)/\Dom C S m a (w.alloc o) (ZwG M w (w.alloc o)):=by
 have hk:Keep w.heap.size [] w (w.alloc o):=Keep.alloc (Nat.le_refl _) (Znf ho)
 refine⟨h.world hk (h.sub.alloc _) (Mem.le_refl m) (NewM.refl _ _),hd.step (hk.upd (by simp)) (NewM.refl _ _)⟩
theorem Ze6(M:Nat->Prop)(w:World)(o:Obj)(ho:Zty o):ZwG M w (w.alloc o) w.heap.size:=.inr ⟨Nat.le_refl _,by simp,Wr.new ho⟩
theorem Rel.enter{P:Program}(hr:Rel C S m a w){F:Fence}(hR:ROk F C)(fn:FuncId)(ps:Array Tmp)(asg bdy:Code):
  ∃l mk w1 D,(Instr.enterLoop fn a.tmps ps asg bdy F.round).run P w=.ok (l,mk) w1/\Rel C S m { a with defers:=mk++a.defers } w1/\(∃M,Dom C S m { a with defers:=mk++a.defers } w1 M/\M l)/\
   w1.heap[l]?=some (.loop { state:=.ready,pending:=none,fn,tmps:=a.tmps,params:=ps,assign:=asg,body:=bdy,defers:=D }):=by
 obtain⟨M,hd⟩:=hr.dom
 cases rx:F.round with
 | none=>
  obtain⟨h1,d1⟩:=hr.alloc hd (o:=.deferred (some [])) rfl
  obtain⟨h2,d2⟩:=h1.alloc d1 (o:=.loop { state:=.ready,pending:=none,fn,tmps:=a.tmps,params:=ps,assign:=asg,body:=bdy,defers:=w.heap.size }) rfl
  have e1:(w.alloc (.deferred (some []))).heap.size=w.heap.size+1:=by simp
  have g1:((w.alloc (.deferred (some []))).alloc (.loop { state:=.ready,pending:=none,fn,tmps:=a.tmps,params:=ps,assign:=asg,body:=bdy,defers:=w.heap.size })).heap[w.heap.size]?=some (.deferred (some [])):=by
   rw[Below.heap_alloc _ _ _ (by simp)];exact heap_alloc_new w _
  refine⟨_,_,_,w.heap.size,run_enterLoop_outer _ _ _ _ _,?_,?_,?_⟩
  ·obtain⟨ms,k1,k2,k3⟩:=h2.defers
   have hD:∃M,Dom C S m { a with defers:=[ZhK w.heap.size]++a.defers } ((w.alloc (.deferred (some []))).alloc (.loop { state:=.ready,pending:=none,fn,tmps:=a.tmps,params:=ps,assign:=asg,body:=bdy,defers:=w.heap.size })) M:=
    ⟨_,d2.p,d2.lt,d2.own,d2.tok,λD hD=>by
     simp only[List.singleton_append,List.mem_cons]at hD
     rcases hD with hD|hD
     ·have:D=w.heap.size:=by simpa[ZhK]using hD
      subst this
      exact .inl (Ze6 _ _ _ (λc T fr e=>by cases e))
     ·exact d2.mks D hD,d2.new⟩
   refine⟨⟨w.heap.size::ms,by simp[k1,ZhK],?_,?_⟩,h2.size,h2.env,h2.own,h2.apart,h2.ids,h2.toks,h2.tkeys,h2.tapart,h2.sub,h2.le,hD,h2.fo⟩
   ·refine List.nodup_cons.2 ⟨λhm=>?_,k2⟩
    obtain⟨ms',q1,q2,q3⟩:=hr.defers
    have:w.heap.size∈ms':=by
     have e:ZhK w.heap.size∈a.defers:=by
      have:a.defers=ms.map ZhK:=k1
      rw[this];exact List.mem_map.2 ⟨_,hm,rfl⟩
     rw[q1]at e
     obtain⟨D',r1,r2⟩:=List.mem_map.1 e
     have:D'=w.heap.size:=by simpa[ZhK]using r2
     exact this ▸ r1
    have:=(Array.getElem?_eq_some_iff.1 (q3 _ this)).1
    omega
   ·intro D hD
    rcases List.mem_cons.1 hD with rfl|hD
    ·exact g1
    ·exact k3 D hD
  ·refine⟨_,⟨d2.p,d2.lt,d2.own,d2.tok,λD hD=>?_,d2.new⟩,by rw[<-e1];exact Ze6 _ _ _ (λc T fr e=>by cases e)⟩
   simp only[List.singleton_append,List.mem_cons]at hD
   rcases hD with hD|hD
   ·have:D=w.heap.size:=by simpa[ZhK]using hD
    subst this
    exact .inl (Ze6 _ _ _ (λc T fr e=>by cases e))
   ·exact d2.mks D hD
  ·rw[<-e1];exact heap_alloc_new _ _
 | some l0=>
  obtain⟨r0,h0⟩:=hR l0 rx _ _ _ hd.p
  obtain⟨h1,d1⟩:=hr.alloc hd (o:=.loop { state:=.ready,pending:=none,fn,tmps:=a.tmps,params:=ps,assign:=asg,body:=bdy,defers:=r0.defers }) rfl
  exact⟨_,_,_,r0.defers,run_enterLoop_inner h0 _ _ _ _ _,h1,⟨_,d1,Ze6 _ _ _ (λc T fr e=>by cases e)⟩,heap_alloc_new _ _⟩
theorem Zng{S:St}{ds:List Nat}{A:LoopAnn}{g:Int}{xs:List Value}{css:List (List Value)}{tvs:List Value}{sv:SV}{v:Value}(h:S.den sv=some v):(ZbP S ds A g xs css tvs).den sv=some v:=by
 cases sv with
 | v u=>exact h
 | loc id off=>
  simp only[St.den]at h ⊢
  cases hx:S.L id with
  | none=>simp[hx]at h
  | some x=>
   obtain⟨y,hy,hb⟩:=ZdP (l:=A.boxes) (css:=css) hx
   simp only[hx]at h
   simp only[ZbP,hy,hb];exact h
 | sl id n c=>
  simp only[St.den]at h ⊢
  cases hx:S.L id with
  | none=>simp[hx]at h
  | some x=>
   obtain⟨y,hy,hb⟩:=ZdP (l:=A.boxes) (css:=css) hx
   simp only[hx]at h
   simp only[ZbP,hy,hb];exact h
end
def Zr6(E:Env)(T:KT->St->Mem->Prop)(c:Code):Prop:=
 ∀{F:Fence} (_:FOk F) {C:Ctx} (_:YOk E C) (_:ROk F C) (n:Nat),Zbs C.n c=true->∀{S:St} {m:Mem} {a:Act} {w:World} {K:KT} {Q:Exit->Act->World->Prop},Rel C S m a w->T K S m->
  (∀e S' m' a' w',K e S' m'->Rel C S' m' a' w'->Q e a' w')->c.wpIn F n E.P Q a w
def Zqo(tvs:List Value):Prop:=∀v∈tvs,ZbQ v=true
def ZwS(K:KT)(c:Code)(S:St)(m:Mem):Prop:=match c with
 | .ret=>K .ret S m
 | .exit id=>K (.exit id) S m
 | .goto l=>K (.goto l) S m
 | _=>False
section
variable {C:Ctx} {S:St} {m:Mem} {a:Act} {w w':World} {M M':Nat->Prop}
def Zgf(fn:FuncId)(tmps:Array Value)(ps:Array Tmp)(x y:Code)(D:Nat)(st:LoopState)(pe:Option Code):Loop:=
 {state:=st,pending:=pe,fn,tmps,params:=ps,assign:=x,body:=y,defers:=D }
def Zr7(C:Ctx)(S:St)(m:Mem)(A:LoopAnn)(I:List Value->List (List Value)->List Value->Mem->Nat->Prop)(K:KT)(a1:Act)(l:Nat)(rec:LoopState->Option Code->Loop)(k:Int)(M':Nat->Prop)(W:World):Prop:=
 ∃(g:Int) (css:List (List Value)) (tvs:List Value) (m':Mem),css.length=A.boxes.length/\tvs.length=A.toks.length/\Zqo tvs/\(A.gh=false->g=S.gh)/\m.le m'/\
  Rel C (ZbP S [] { A with slots:=[] } g [] css tvs) m' a1 W/\
  (∃M,Dom C (ZbP S [] { A with slots:=[] } g [] css tvs) m' a1 W M/\M l/\¬M' l/\(∀k,M' k->M k)/\Apart M' (ZbP S [] { A with slots:=[] } g [] css tvs) m' a1)/\
  ((0<=k/\I (ghs A.gh g []) css tvs m' k.toNat/\W.heap[l]?=some (.loop (rec .ready none)))\/
   (k=-1/\∃c,W.heap[l]?=some (.loop (rec .done (some c)))/\ZwS K c (ZbP S [] { A with slots:=[] } g [] css tvs) m'))
theorem Zlm{A:LoopAnn}{I:List Value->List (List Value)->List Value->Mem->Nat->Prop}{K:KT}{a1:Act}{l:Nat}{rec:LoopState->Option Code->Loop}:ZwJ (Zr7 C S m A I K a1 l rec):=by
 rintro k M' M2 W W' ⟨g,css,tvs,m',h1,h2,h3,h4,h5,hr,⟨M,hd,hl,hl',hM,dB⟩,hc⟩ hu hg
 obtain⟨dY,ry⟩:=hr.foreign hd hM dB hu
 have fV:=hd.lt l hl
 have vX:W'.heap[l]?=W.heap[l]?:=hu.block l fV hl'
 have key:∀k,k < W.heap.size->¬M' k->¬M2 k:=λk hk hn h=>by
  rcases hg k h with h|h
  ·exact hn h
  ·omega
 refine⟨g,css,tvs,m',h1,h2,h3,h4,h5,dY,⟨_,ry,.inl hl,key l fV hl',λk hk=>?_,?_⟩,?_⟩
 ·rcases hg k hk with h|h
  ·exact .inl (hM k h)
  ·exact .inr h
 ·refine⟨λid x hx=>key _ (hr.own id x hx).lt (dB.box id x hx),λk t b ht hb=>key _ ((hr.toks k t ht).1.lt hb) (dB.tok k t b ht hb),λD hD=>key _ (hd.lt D (hd.mks D hD)) (dB.mks D hD),λb o v hv=>key _ (hr.sub.lt hv) (dB.mem b o v hv),λb e he=>key _ (hr.sub.k b e he).lt (dB.kn b e he)⟩
 ·rw[vX];exact hc
end
section
variable {C:Ctx} {S:St} {m:Mem} {a:Act} {w w':World} {M M':Nat->Prop}
theorem ZwT{a b:Nat}(h:Nat.blt a b=true):a < b:=by simpa[Nat.blt_eq]using h
theorem ZfC{w:World}{k l:Nat}{c T fr}{r:Loop}(h:w.heap[k]?=some (.cells c T fr))(hl:w.heap[l]?=some (.loop r)):k≠l:=λe=>by subst e;rw[h]at hl;cases hl
theorem ZgA{w:World}{k l:Nat}{c T fr d}(h:w.heap[k]?=some (.cells c T fr))(hl:w.heap[l]?=some (.deferred d)):k≠l:=λe=>by subst e;rw[h]at hl;cases hl
theorem Own.isCells{m:Mem}{w:World}{x:Box}(h:Own m w x):∃c T fr,w.heap[x.b]?=some (.cells c T fr):=by
 obtain⟨sp,fr,hh,_⟩:=h.cells
 exact⟨_,_,_,hh⟩
theorem TokOk.isCells{m:Mem}{w:World}{t:Tok}(h:TokOk m w t){b:Nat}(hb:t.blk=some b):∃c T fr,w.heap[b]?=some (.cells c T fr):=by
 rcases h with h|⟨b',o0,n,c,cur,T,fr,hv,_,hh,_⟩
 ·simp[Tok.blk,h]at hb
 ·simp[Tok.blk,hv]at hb;subst hb;exact⟨_,_,_,hh⟩
theorem Sub.isCells{m:Mem}{w:World}(h:Sub m w){b o:Nat}{v:Value}(hv:m b o=some v):∃c T fr,w.heap[b]?=some (.cells c T fr):=by
 have h1:=h b o v hv
 unfold World.cell? at h1
 split at h1
 ·rename_i c T fr hc;exact⟨c,T,fr,hc⟩
 ·cases h1
theorem Rel.intoRound{S0 S1:St}{a1:Act}{l:Nat}{r:Loop}{tm:Array Value}(hr:Rel C S0 m a1 w)(hd:Dom C S0 m a1 w M)(hl:M l)(hl':¬M' l)(hM:∀k,M' k->M k)(dB:Apart M' S0 m a1)(dG:w.heap[l]?=some (.loop r))
  (hL:S1.L=S0.L) (dS:S1.ids=S0.ids) (aS:S1.tok=S0.tok) (fj:S1.tkeys=S0.tkeys) (hg:S1.gh=S0.gh) (hf:S1.fo=S0.fo) (bJ:tm.size=C.n) (dC:∀i sv,S1.env i=some sv->∃v,S1.den sv=some v/\tm[i]?=some v):
  Rel (ZA9 C (λk=>M' k\/k=l\/ZhK k∈a1.defers) (λk=>w.heap[k]?) w.heap.size) S1 m { tmps:=tm,defers:=[] } w:=by
 have hX:∀k,(∃c T fr,w.heap[k]?=some (.cells c T fr))->¬M' k->¬(M' k\/k=l\/ZhK k∈a1.defers):=by
  rintro k ⟨c,T,fr,hk⟩ hn (h|h|h)
  ·exact hn h
  ·exact ZfC hk dG h
  ·exact ZgA hk (hr.markAt h) rfl
 refine hr.swap rfl hr.le hL dS aS fj dC bJ ⟨[],rfl,List.nodup_nil,by simp⟩ (λ_ _ _ _=>rfl) (λk t b ht hb=>((hr.toks k t ht).2 b hb).2) (λh=>hr.fo (hf ▸ h)) ⟨λk=>M k/\¬(M' k\/k=l\/ZhK k∈a1.defers),?_,λk hk=>hd.lt k hk.1,λid x hx=>?_,λk t b ht hb=>?_,by simp,⟨λb o v hv=>?_,λb e he=>?_⟩⟩
 ·rw[hg]
  refine⟨M,hd.p,hd.lt,λk hk=>hk.1,λk hk=>⟨?_,λh=>h.2 hk,rfl⟩,Nat.le_refl _⟩
  rcases hk with h|h|h
  ·exact hM k h
  ·exact h ▸ hl
  ·exact hd.mks k h
 ·rw[hL]at hx
  exact⟨hd.own id x hx,hX _ (hr.own id x hx).isCells (dB.box id x hx)⟩
 ·rw[aS]at ht
  exact⟨hd.tok k t b ht hb,hX _ ((hr.toks k t ht).1.isCells hb) (dB.tok k t b ht hb)⟩
 ·exact(hd.new b o v hv).imp_right λh=>⟨h,hX _ (hr.sub.isCells hv) (dB.mem b o v hv)⟩
 ·refine(hd.new.k b e he).imp_right λh=>⟨h,?_⟩
  obtain⟨es,cl,h1,_⟩:=hr.sub.k b e he
  rintro(h|h|h)
  ·exact dB.kn b e he h
  ·exact Zda h1 rfl dG h
  ·have:=hr.markAt h
   rw[h1]at this;cases this
theorem Rel.beginRound{X:Nat->Prop}{h1:Nat->Option Obj}{B:Nat}{me:Mem}{fq:C.m0.le me}{S1:St}{ar:Act}{l:Nat}{r r':Loop}(hr:Rel (Zwr C X h1 B me fq) S1 m ar w)(hl:X l)(dG:w.heap[l]?=some (.loop r)):
  Rel (Zwr C X (λk=>(w.putObj l (.loop r')).heap[k]?) B me fq) S1 m ar (w.putObj l (.loop r')):=by
 have cI:∀(k:Nat)(o:Obj),w.heap[k]?=some o->ZwR o=true->(w.putObj l (.loop r')).heap[k]?=w.heap[k]?:=λk o hk hm=>World.putObj_heap_other (Zda hk hm dG)
 obtain⟨ms,q1,q2,q3⟩:=hr.defers
 refine hr.swap rfl hr.le rfl rfl rfl rfl hr.env hr.size ⟨ms,q1,q2,λD hD=>?_⟩ cI (λk t b ht hb=>((hr.toks k t ht).2 b hb).2) hr.fo ?_
 ·rw[World.putObj_heap_other (λe=>by have:=q3 D hD;rw[e,dG]at this;cases this)];exact q3 D hD
 ·obtain⟨Mr,hd⟩:=hr.dom
  obtain⟨M,p1,p2,p3,p4,p5⟩:=hd.p
  refine⟨Mr,⟨M,C.st _ M M _ _ p1 (Ze5 rfl (p4 l hl).1) (λk hk=>.inl hk),λk hk=>by rw[Zdb];exact p2 k hk,p3,λk hk=>⟨(p4 k hk).1,(p4 k hk).2.1,rfl⟩,by rw[Zdb];exact p5⟩,λk hk=>by rw[Zdb];exact hd.lt k hk,hd.own,hd.tok,hd.mks,hd.new⟩
theorem Rel.outOfRound{X:Nat->Prop}{h1:Nat->Option Obj}{B:Nat}{S' S2:St}{a3 a1:Act}{l:Nat}{r r':Loop}(hr:Rel (ZA9 C X h1 B) S' m a3 w)(hl:X l)(dG:w.heap[l]?=some (.loop r))
  (dQ:∀b o v,C.me b o=some v->¬X b) (rz:∀b e,C.me.k b=some e->¬X b) (vY:∀D,ZhK D∈a1.defers->X D) (hX':∀k,M' k->X k) (ql:∀D,ZhK D∈a1.defers->¬M' D)
  (hL:S2.L=S'.L) (dS:S2.ids=S'.ids) (aS:S2.tok=S'.tok) (fj:S2.tkeys=S'.tkeys) (hg:S2.gh=S'.gh) (hf:S2.fo=S'.fo) (bJ:a1.tmps.size=C.n) (dC:∀i sv,S2.env i=some sv->∃v,S2.den sv=some v/\a1.tmps[i]?=some v)
  (gY:∃ms:List Nat,a1.defers=ms.map ZhK/\ms.Nodup/\∀D∈ms,w.heap[D]?=some (.deferred (some []))):
  Rel C S2 m a1 (w.putObj l (.loop r'))/\∃M,Dom C S2 m a1 (w.putObj l (.loop r')) M/\M l/\(∀k,M' k->M k)/\Apart M' S2 m a1:=by
 have cI:∀(k:Nat)(o:Obj),w.heap[k]?=some o->ZwR o=true->(w.putObj l (.loop r')).heap[k]?=w.heap[k]?:=λk o hk hm=>World.putObj_heap_other (Zda hk hm dG)
 obtain⟨ms,q1,q2,q3⟩:=gY
 obtain⟨Mr,hd⟩:=hr.dom
 obtain⟨M,p1,p2,p3,p4,p5⟩:=hd.p
 have hD:Dom C S2 m a1 (w.putObj l (.loop r')) M:=by
  refine⟨hg ▸ C.st _ M M _ _ p1 (Ze5 rfl (p4 l hl).1) (λk hk=>.inl hk),λk hk=>by rw[Zdb];exact p2 k hk,λid x hx=>p3 _ (hd.own id x (hL ▸ hx)),λk t b ht hb=>p3 _ (hd.tok k t b (aS ▸ ht) hb),λD hD=>(p4 D (vY D hD)).1,hd.new.mono p3⟩
 refine⟨hr.swap rfl hr.le hL dS aS fj dC bJ ⟨ms,q1,q2,λD hD=>?_⟩ cI (λk t b ht hb=>((hr.toks k t ht).2 b hb).2) (λh=>hr.fo (hf ▸ h)) ⟨M,hD⟩,?_⟩
 ·rw[World.putObj_heap_other (λe=>by have:=q3 D hD;rw[e,dG]at this;cases this)];exact q3 D hD
 ·refine⟨M,hD,(p4 l hl).1,λk hk=>(p4 k (hX' k hk)).1,?_⟩
  refine⟨λid x hx h=>(p4 _ (hX' _ h)).2.1 (hd.own id x (hL ▸ hx)),λk t b ht hb h=>(p4 _ (hX' _ h)).2.1 (hd.tok k t b (aS ▸ ht) hb),ql,λb o v hv h=>?_,λb e he h=>?_⟩
  ·rcases hd.new b o v hv with h2|h2
   ·exact dQ b o v h2 (hX' b h)
   ·exact(p4 b (hX' b h)).2.1 h2
  ·rcases hd.new.k b e he with h2|h2
   ·exact rz b e h2 (hX' b h)
   ·exact(p4 b (hX' b h)).2.1 h2
theorem Rel.atX{X:Nat->Prop}{h1:Nat->Option Obj}{B:Nat}{me:Mem}{fq:C.m0.le me}{S':St}{a3:Act}(hr:Rel (Zwr C X h1 B me fq) S' m a3 w):B<=w.heap.size/\∀k,X k->w.heap[k]?=h1 k:=by
 obtain⟨Mr,hd⟩:=hr.dom
 obtain⟨M,p1,p2,p3,p4,p5⟩:=hd.p
 exact⟨p5,λk hk=>(p4 k hk).2.2⟩
theorem Zln{th:Bool}{E:Env}{A:LoopAnn}{I:List Value->List (List Value)->List Value->Mem->Nat->Prop}{K:KT}{a1:Act}{l:Nat}{fn:FuncId}{ps:Array Tmp}{x y:Code}{D:Nat}{Tx Ty:KT->St->Mem->Prop}{xs:List (List Value)}
  (rA:Zr6 E Tx x) (rB:Zr6 E Ty y) (rC:∀{K:KT} {S:St} {m:Mem},Tx K S m->Tx (λe S' m'=>K e S' m'/\leT th m m') S m) (rD:∀{K:KT} {S:St} {m:Mem},Ty K S m->Ty (λe S' m'=>K e S' m'/\leT th m m') S m) (qm:YOk E C) (rE:Zbs C.n x=true) (rF:Zbs C.n y=true) (rG:ps.toList.all (Nat.blt · C.n)=true) (hS:StOk S) (bJ:a1.tmps.size=C.n) (dC:∀i sv,S.env i=some sv->∃v,S.den sv=some v/\a1.tmps[i]?=some v)
  (qn:Zli ps.toList (A.slots.map (·.1))=true) (nL:ZbT ps.toList=true) (ee:∀v∈xs,Shape.fitsL (A.slots.map (·.2)) v=true)
  (hb:ZyZ A.gh S.gh λy=>Shape.allL (A.slots.map (·.2)) λx=>Zm4 A.boxes λcss=>Zm5 A.toks λtvs=>∀(m':Mem)(n:Nat),m.le m'->xs[n]?=some x->I (ghs A.gh y []) css tvs m' n->
     Tx (λe S1 m1=>match e with
      | .normal=>Ty (λe S' m''=>ZAS th m m'' (Zki A.gh S'.gh S.gh S'.fo S.fo (Zmd (ZbU S' A S.ids) (ZbU S A S.ids) (Zme (Za4 S' A S.tkeys) (Za4 S A S.tkeys) (ZhM S' A.boxes λcss'=>Ze0 S' A.toks λtvs'=>match e with
       | .normal=>I (ghs A.gh S'.gh []) css' tvs' m'' (n+1)
       | e=>Zm6 K e (ZbP S [] { A with slots:=[] } S'.gh [] css' tvs') m''))))) S1 m1
      | _=>False) (ZbP S [] A y x css tvs) m'):
  Zkc E.P m (Zr7 C S m A I K a1 l (Zgf fn a1.tmps ps x y D)) (λl' g v=>l'=l/\0<=g/\xs[g.toNat]?=some v):=by
 rintro F n l' k v M' w hF aB ⟨rfl,lw,qo⟩ ⟨g,css,tvs,m',h1,h2,h3,h4,h5,hr,⟨M,hd,hl,hl',hM,dB⟩,hc⟩ dx
 rcases hc with⟨_,hI,dG⟩|⟨gI,_⟩
 rotate_left
 ·omega
 have kH:=Zip qn
 have rH:=ee v (zA2 qo)
 have gQ:v.length=ps.toList.length:=by rw[kH,Zes rH];simp
 have eN:=ZaZ nL
 have hy:=run_yield (P:=E.P) (args:=v.toArray) dG (by simpa[Zgf]using gQ)
 simp only[Zgf]at hy
 refine⟨_,_,_,_,hy,roundIn_of_wpIn (hF.fn _) ?_⟩
 have oI:((ps.zip v.toArray).foldl (λtmps (x:Tmp×Value)=>tmps.setIfInBounds x.1 x.2) a1.tmps)=((ps.toList.zip v).foldl (λ(t:Array Value)(x:Nat×Value)=>t.setIfInBounds x.1 x.2) a1.tmps):=by
  rw[<-Array.foldl_toList,Array.toList_zip]
 obtain⟨f1,f2,f3⟩:=Zio ps.toList v a1.tmps gQ eN
 have ud:=hF.inRound l'
 have dF:=hr.intoRound (S1:=ZbP S [] A g v css tvs) (tm:=(ps.toList.zip v).foldl (λ(t:Array Value)(x:Nat×Value)=>t.setIfInBounds x.1 x.2) a1.tmps) hd hl hl' hM dB dG rfl rfl rfl rfl rfl rfl (by rw[f1];exact bJ) (by
  intro i sv he
  simp only[ZbP]at he
  rcases Zin (by rw[Zes rH];simp) he with⟨g1,g2⟩|⟨q,sh,u,g1,g2,g3⟩
  ·simp only[List.any_nil,cond_false]at g1
   obtain⟨u,g3,g4⟩:=dC i sv g1
   exact⟨u,Zng g3,by rw[f2 i (by rw[kH];exact g2)];exact g4⟩
  ·subst g3
   refine⟨u,rfl,f3 q i u ?_ g2 ?_⟩
   ·rw[kH,List.getElem?_map,g1];rfl
   ·have:i∈ps.toList:=by rw[kH];exact List.mem_map.2 ⟨_,zA2 g1,rfl⟩
    have:=List.all_eq_true.1 rG i this
    rw[bJ];exact ZwT this)
 rw[oI]
 have vZ:∀b o v,C.me b o=some v->¬(M' b\/b=l'\/ZhK b∈a1.defers):=by
  intro b o v hv
  have hv':m' b o=some v:=hr.le b o v hv
  obtain⟨c,T,fr,hc⟩:=hr.sub.isCells hv'
  rintro(h|h|h)
  ·exact dB.mem b o v hv' h
  ·exact ZfC hc dG h
  ·exact ZgA hc (hr.markAt h) rfl
 have rI:∀b e,C.me.k b=some e->¬(M' b\/b=l'\/ZhK b∈a1.defers):=by
  intro b e he
  have he':m'.k b=some e:=hr.le.k b e he
  obtain⟨es,cl,h1,_⟩:=hr.sub.k b e he'
  rintro(h|h|h)
  ·exact dB.kn b e he' h
  ·exact Zda h1 rfl dG h
  ·have:=hr.markAt h
   rw[h1]at this;cases this
 have dt:=ZdO (ZdN (Shape.allL_fits _ _ (Zgw hb h4) v rH) css h1) tvs h2 h3 m' k.toNat h5 qo hI
 refine rA ud (Zqn qm (Mem.le_refl _) (NewM.refl _ _)) ?_ n rE dF (rC dt) ?_
 ·intro l2 ly g2 Mr w2 hp
  have:l2=l':=by simpa using ly.symm
  subst this
  obtain⟨M2,_,_,_,p4,_⟩:=hp
  exact⟨_,by rw[(p4 l2 (.inr (.inl rfl))).2.2];exact dG⟩
 rintro e S1 m1 a2 w1 ⟨hk,rJ⟩ dY
 cases e with
 | normal=>
  obtain⟨z1,z2⟩:=dY.atX
  have js:w1.heap[l']?=some (.loop (Zgf fn a1.tmps ps x y D .ready none)):=by rw[z2 l' (.inr (.inl rfl))];exact dG
  refine⟨_,run_beginRound js rfl,?_⟩
  have je:=dY.beginRound (r':={ Zgf fn a1.tmps ps x y D .ready none with state:=.busy }) (.inr (.inl rfl)) js
  have iW:l' < w1.heap.size:=(Array.getElem?_eq_some_iff.1 js).1
  have gm:(w1.putObj l' (.loop { Zgf fn a1.tmps ps x y D .ready none with state:=.busy })).heap[l']?=some (.loop { Zgf fn a1.tmps ps x y D .ready none with state:=.busy }):=World.putObj_heap_same iW
  refine rB ud (Zqn qm (Mem.le_refl _) (NewM.refl _ _)) ?_ n rF je (rD hk) ?_
  ·intro l2 ly g2 Mr w2 hp
   have:l2=l':=by simpa using ly.symm
   subst this
   obtain⟨M2,_,_,_,p4,_⟩:=hp
   exact⟨_,by rw[(p4 l2 (.inr (.inl rfl))).2.2];exact gm⟩
  rintro e S' m'' a3 w3 ⟨hk,jt⟩ qp
  obtain⟨q0,hk⟩:=Zr0 hk
  obtain⟨q1,qf,hk⟩:=ZdJ hk
  obtain⟨q2,hk⟩:=ZcM.1 hk
  obtain⟨q3,hk⟩:=ZcN.1 hk
  obtain⟨css',g1,g2,hk⟩:=Zc9 hk
  obtain⟨tvs',k1,k2,hk⟩:=Zb9 hk
  obtain⟨y1,y2⟩:=qp.atX
  have iG:w3.heap[l']?=some (.loop { Zgf fn a1.tmps ps x y D .ready none with state:=.busy }):=by rw[y2 l' (.inr (.inl rfl))];exact gm
  have jd:m.le m'':=by
   cases th with
   | true=>exact q0 rfl
   | false=>exact mLt h5 (mLt rJ jt)
  have hx:Rel (ZA9 C (λk=>M' k\/k=l'\/ZhK k∈a1.defers) (λk=>(w1.putObj l' (.loop { Zgf fn a1.tmps ps x y D .ready none with state:=.busy })).heap[k]?) w.heap.size) (ZbP { S with env:=λ_=>none } [] { A with slots:=[] } S'.gh [] css' tvs') m'' a3 w3:=by
   have hh:Rel (ZA9 C (λk=>M' k\/k=l'\/ZhK k∈a1.defers) (λk=>(w1.putObj l' (.loop { Zgf fn a1.tmps ps x y D .ready none with state:=.busy })).heap[k]?) w.heap.size) { S' with env:=λ_=>none } m'' a3 w3:=
    qp.restrict rfl rfl (λ_ _ h=>h) (λ_ _ h=>.inl h) (λi sv h=>(by cases h)) qp.ids qp.tkeys
   exact Zd4 (S:={ S with env:=λ_=>none }) (S':={ S' with env:=λ_=>none }) (A:={ A with slots:=[] }) ⟨λi sv h=>(by cases h),hS.ids,hS.tkeys⟩ hh qf (λ_ _=>rfl) q2 q3 (by simp) g1 g2 k1 k2
  have gY:∃ms:List Nat,a1.defers=ms.map ZhK/\ms.Nodup/\∀D∈ms,w3.heap[D]?=some (.deferred (some [])):=by
   obtain⟨ms,r1,r2,r3⟩:=hr.defers
   refine⟨ms,r1,r2,λD' hD'=>?_⟩
   have hm:ZhK D'∈a1.defers:=by rw[r1];exact List.mem_map.2 ⟨_,hD',rfl⟩
   rw[y2 D' (.inr (.inr hm)),World.putObj_heap_other (λe=>by have:=r3 D' hD';rw[e,dG]at this;cases this),z2 D' (.inr (.inr hm))];exact r3 D' hD'
  have eQ:=λ(r':Loop)=>hx.outOfRound (S2:=ZbP S [] { A with slots:=[] } S'.gh [] css' tvs') (a1:=a1) (M':=M') (r':=r') (.inr (.inl rfl)) iG vZ rI (λD' hD'=>.inr (.inr hD')) (λk hk=>.inl hk) dB.mks rfl rfl rfl rfl rfl rfl bJ (by
   intro i sv he
   simp only[ZbP,ZbC,List.any_nil,cond_false]at he
   obtain⟨u,g3,g4⟩:=dC i sv he
   exact⟨u,Zng g3,g4⟩) gY
  have rK:l' < w3.heap.size:=(Array.getElem?_eq_some_iff.1 iG).1
  have oJ:∀r',Frn m M' w (w3.putObj l' (.loop r')):=λr'=>by
   refine⟨by rw[Zdb];exact y1,λk hk rL=>?_,(eQ r').1.sub.less jd⟩
   ·have cI:k≠l':=λe=>hl' (e ▸ rL)
    rw[World.putObj_heap_other cI,y2 k (.inl rL),World.putObj_heap_other cI,z2 k (.inl rL)]
  have d5:Zqo tvs':=by
   intro u hu
   obtain⟨i,hi⟩:=List.getElem?_of_mem hu
   have aB:=(zA0 hi).1
   obtain⟨qe,ju⟩:∃qe,A.toks[i]?=some qe:=⟨_,zA3 (by omega)⟩
   exact(k2 i qe.1 qe.2 u ju hi).1
  have fin:∀(c:Code) ,ZwS K c (ZbP S [] { A with slots:=[] } S'.gh [] css' tvs') m''->∃v w',(Instr.endRound l' (some c)).run E.P w3=.ok v w'/\∃b,Ending.returned v=Ending.returned (.bool b)/\Zr7 C S m A I K a1 l' (Zgf fn a1.tmps ps x y D) (if b then k+1 else -1) M' w'/\Frn m M' w w':=by
   intro c hc
   refine⟨_,_,run_endRound (some c) iG,false,rfl,?_,oJ _⟩
   obtain⟨o1,M3,o2,o3,o4,o5⟩:=eQ (Zgf fn a1.tmps ps x y D .done (some c))
   exact⟨S'.gh,css',tvs',m'',g1,k1,d5,q1,jd,o1,⟨M3,o2,o3,hl',o4,o5⟩,.inr ⟨rfl,c,World.putObj_heap_same rK,hc⟩⟩
  cases e with
  | normal=>
   refine⟨_,_,run_endRound none iG,true,rfl,?_,oJ _⟩
   obtain⟨o1,M3,o2,o3,o4,o5⟩:=eQ (Zgf fn a1.tmps ps x y D .ready none)
   refine⟨S'.gh,css',tvs',m'',g1,k1,d5,q1,jd,o1,⟨M3,o2,o3,hl',o4,o5⟩,.inl ⟨by simp;omega,?_,World.putObj_heap_same rK⟩⟩
   have:(k+1).toNat=k.toNat+1:=by omega
   simp only[if_true,this]
   exact hk
  | ret=>exact fin _ hk
  | exit id=>exact fin _ hk
  | goto t=>exact fin _ hk
  | panic ch=>exact hk.elim
  | outgrown=>exact hk.elim
 | exit id=>exact hk.elim
 | goto t=>exact hk.elim
 | ret=>exact hk.elim
 | panic ch=>exact hk.elim
 | outgrown=>exact hk.elim
end
section
variable {C:Ctx} {S:St} {m:Mem} {a:Act} {w w':World}
theorem Rel.afterRange{S2:St}{a1:Act}{l:Nat}{r r':Loop}{M:Nat->Prop}(hr:Rel C S2 m a1 w)(hd:Dom C S2 m a1 w M)(hl:M l)(dG:w.heap[l]?=some (.loop r)):Rel C S2 m a1 (w.putObj l (.loop r')):=by
 obtain⟨ms,q1,q2,q3⟩:=hr.defers
 refine hr.swap rfl hr.le rfl rfl rfl rfl hr.env hr.size ⟨ms,q1,q2,λD hD=>?_⟩ (λk o hk hm=>World.putObj_heap_other (Zda hk hm dG)) (λk t b ht hb=>((hr.toks k t ht).2 b hb).2) hr.fo ⟨_,hd.step (Ze5 rfl hl) (NewM.refl _ _)⟩
 rw[World.putObj_heap_other (λe=>by have:=q3 D hD;rw[e,dG]at this;cases this)];exact q3 D hD
theorem Znh{th:Bool}{E:Env}{F:Fence}(hF:FOk F)(qm:YOk E C)(hR:ROk F C)(n:Nat){A:LoopAnn}{f:Operand}{ps:Array Tmp}{x y:Code}{Tx Ty:KT->St->Mem->Prop}
  (rA:Zr6 E Tx x) (rB:Zr6 E Ty y) (rC:∀{K:KT} {S:St} {m:Mem},Tx K S m->Tx (λe S' m'=>K e S' m'/\leT th m m') S m) (rD:∀{K:KT} {S:St} {m:Mem},Ty K S m->Ty (λe S' m'=>K e S' m'/\leT th m m') S m)
  (rE:Zbs C.n x=true) (rF:Zbs C.n y=true) (rG:ps.toList.all (Nat.blt · C.n)=true)
  {K:KT} {Q:Exit->Act->World->Prop} (hr:Rel C S m a w) (h:Zm7 th E.P A f ps.toList Tx Ty K S m) (hK:∀e S' m' a' w',K e S' m'->Rel C S' m' a' w'->Q e a' w'):(Code.rangeFunc f ps x y).wpIn F n E.P Q a w:=by
 unfold Zm7 at h
 split at h
 rotate_left
 ·exact h.elim
 rename_i g first captured i9
 obtain⟨hc,jd⟩:=Zag h
 obtain⟨mi,eu,ls,xs,ue,ee,I,h0,hb,jv⟩:=ZrZ jd
 simp only[zA7]at hc
 obtain⟨v,e1,_,e2⟩:=hr.ev_val i9
 simp only[St.den,Option.some.injEq]at e1
 refine wpIn_rangeFunc λfn mC=>?_
 obtain⟨l,mk,w1,D,jp,dF,⟨M1,j5,iW⟩,dG⟩:=hr.enter (P:=E.P) hR fn ps x y
 obtain⟨a1,fb⟩:∃a1,a1=({ a with defers:=mk++a.defers }:Act):=⟨_,rfl⟩
 rw[<-fb]at dF j5
 have dU:a1.tmps=a.tmps:=by rw[fb]
 have oK:w1.heap[l]?=some (.loop (Zgf fn a1.tmps ps x y D .ready none)):=by rw[dU];exact dG
 refine⟨l,mk,w1,{ target:=.fn (.func g) captured,args:=first++#[.func (.yield l) #[] #[]] },w1,g,(first.toList++.func (.yield l) #[] #[]::captured.toList).toArray,w1,jp,?_,λf' _=>hF.fn f',?_,λhs=>by rw[hF.depth]at hs;simp at hs,?_⟩
 ·simp only[resolve,e2,<-e1,Deferred.ofValue]
  simp[go_sem]
 ·have gd:first++#[Value.func (.yield l) #[] #[]]++captured=(first.toList++Value.func (.yield l) #[] #[]::captured.toList).toArray:=Array.ext' (by simp)
  simp only[invoke,gd]
  exact ue.1 _ _
 ·obtain⟨css,g1,g2,h0⟩:=Zc9 h0
  obtain⟨tvs,k1,k2,hI⟩:=Zb9 h0
  have d5:Zqo tvs:=by
   intro u hu
   obtain⟨i,hi⟩:=List.getElem?_of_mem hu
   have aB:=(zA0 hi).1
   obtain⟨qe,ju⟩:∃qe,A.toks[i]?=some qe:=⟨_,zA3 (by omega)⟩
   exact(k2 i qe.1 qe.2 u ju hi).1
  have rM:Rel C (ZbP S [] { A with slots:=[] } S.gh [] css tvs) m a1 w1:=Zd4 dF.ok dF rfl (SameOut.refl _ _) rfl rfl (by simp) g1 g2 k1 k2
  have rN:Zr7 C S mi A I K a1 l (Zgf fn a1.tmps ps x y D) 0 (λ_=>False) w1:=by
   refine⟨S.gh,css,tvs,m,g1,k1,d5,λ_=>rfl,eu,rM,?_,.inl ⟨Int.le_refl _,hI,oK⟩⟩
   have ry:Dom C (ZbP S [] { A with slots:=[] } S.gh [] css tvs) m a1 w1 M1:=by
    refine⟨j5.p,j5.lt,λid y hy=>?_,λk t b ht hb=>?_,j5.mks,j5.new⟩
    ·simp only[ZbP]at hy
     rcases Ze4 hy with⟨i,x',cs,q1,q2,q3,q4⟩|⟨q1,q2⟩
     ·rw[q4];exact j5.own id x' q3
     ·exact j5.own id y q2
    ·simp only[ZbP]at ht
     rcases Zdj ht with⟨i,e,u,q1,q2,q3⟩|⟨q1,q2⟩
     ·obtain⟨_,q5⟩:=k2 i k e u q1 q2
      subst q3
      rcases q5 with q5|q5
      ·exact j5.tok k _ b q5 hb
      ·simp[Tok.blk,q5]at hb
     ·exact j5.tok k t b q2 hb
   exact⟨M1,ry,iW,λh=>h,λ_ h=>h.elim,⟨λ_ _ _ h=>h,λ_ _ _ _ _ h=>h,λ_ _ h=>h,λ_ _ _ _ h=>h,λ_ _ _ h=>h⟩⟩
  have dC:∀i sv,S.env i=some sv->∃v,S.den sv=some v/\a1.tmps[i]?=some v:=λi sv he=>dF.env i sv he
  have mG:=Zln (th:=th) (E:=E) (S:=S) (m:=mi) (K:=K) (l:=l) (fn:=fn) (D:=D) rA rB rC rD qm rE rF rG hr.ok dF.size dC hc.1 hc.2 ee hb
  refine hF.calls ((ue.2 _ Zlm l w1 (dF.sub.less eu) rN mG).mono ?_)
  rintro e w2 ⟨v,M2,rfl,aB,fg⟩
  rw[<-fb]
  rcases fg with fg|fg
  all_goals obtain⟨gg,css2,tvs2,m2,y1,y2,y3,y4,y5,y6,⟨M3,y7,y8,y9,y10,y11⟩,y12⟩:=fg
  ·rcases y12 with⟨_,v6,gK⟩|⟨hk,_⟩
   ·refine⟨none,_,run_endLoop gK (by simp[Zgf]),?_⟩
    have:=ZdO (ZdN (Zgw jv y4) css2 y1) tvs2 y2 y3 m2 y5 (by simpa using v6)
    exact hK _ _ _ _ _ this (y6.afterRange y7 y8 gK)
   ·omega
  ·rcases y12 with⟨hk,_⟩|⟨_,c,gK,ge⟩
   ·omega
   ·refine⟨some c,_,run_endLoop gK (by simp[Zgf]),?_⟩
    have hR:=λr'=>y6.afterRange (r':=r') y7 y8 gK
    cases c with
    | ret=>exact wpIn_ret (hK _ _ _ _ _ ge (hR _))
    | exit id=>exact wpIn_exit (hK _ _ _ _ _ ge (hR _))
    | goto t=>exact wpIn_goto (hK _ _ _ _ _ ge (hR _))
    | _=>exact ge.elim
end
end Go.Eng