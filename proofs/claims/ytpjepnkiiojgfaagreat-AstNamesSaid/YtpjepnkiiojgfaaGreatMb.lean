/- The engine: a reckoner over the code of a program in Lean, with its soundness; it names no program. No condition. -/
import Derived.Test.YtpjepnkiiojgfaaGreatMa
import Derived.RangeFuncNested
import Derived.RangeFuncLeaves
set_option linter.unusedVariables false
set_option linter.unusedSimpArgs false
set_option linter.unusedSectionVars false
namespace Go.Eng
open Go Go.RowKit
theorem ZdG{n:Int}(h0 : -9223372036854775808<=n)(h1:n<=9223372036854775807):IntKind.i64.wrap n=n:=by
 simp only[IntKind.wrap,IntKind.bits,IntKind.signed,Bool.true_and]
 split
 ·rename_i h;simp at h;omega
 ·rename_i h;simp at h;omega
def ZuE(E:Env)(S:St)(T:TypeId)(l c:Operand)(d:Option Tmp)(K:St->Prop):Prop:=match d with
 | none=>False
 | some d=>match Zau E T with
  | none=>False
  | some (e,j)=>match S.L d with
   | some _=>False
   | none=>wv S l λvl=>wv S c λvc=>chk (Zcw vl&&Zcw vc) ((0<=RowKit.intOf vl/\RowKit.intOf vl<=RowKit.intOf vc/\RowKit.intOf vc*j.bytes<=281474976710656/\RowKit.intOf vc<=9223372036854775807)/\
     ∀b,K ((S.newL d { b:=b,cs:=(List.replicate (RowKit.intOf vc).toNat j.zero.cells.toList).flatten,T:=e,cap:=(RowKit.intOf vc).toNat*j.size,fz:=false,full:=true }).put (some d) (some (.sl d (RowKit.intOf vl).toNat (RowKit.intOf vc).toNat))))
theorem Zlt(zs:List Value):∀(c:Nat),(List.range (c*zs.length)).map (λi=>zs.toArray[i % zs.toArray.size]!)=(List.replicate c zs).flatten
 | 0=>by simp
 | c+1=>by
  rw[Nat.add_mul,Nat.one_mul,List.replicate_succ',List.flatten_append,<-Zlt zs c,List.range_add,List.map_append]
  congr 1
  simp only[List.flatten_cons,List.flatten_nil,List.append_nil,List.map_map]
  refine List.ext_getElem (by simp) λi h1 h2=>?_
  simp only[List.length_map,List.length_range]at h1
  simp only[List.getElem_map,List.getElem_range,Function.comp,List.size_toArray]
  rw[Nat.mul_comm,Nat.mul_add_mod,Nat.mod_eq_of_lt h1]
  simp[h1]
section
variable {C:Ctx} {S:St} {m:Mem} {a:Act} {w:World}
theorem ZlZ{E:Env}(hE:E.ok){T:TypeId}{l c:Operand}{d:Option Tmp}{K:St->Prop}(hd:∀t,d=some t->t < C.n)(hr:Rel C S m a w)(h:ZuE E S T l c d K):
  ∃S' v w',K S'/\Rel C S' m (a.put d v) w'/\(Instr.makeSlice T (a.eval l) (a.eval c)).run E.P w=.ok v w':=by
 unfold ZuE at h
 cases d with
 | none=>exact h.elim
 | some d=>
  simp only at h
  cases hs:Zau E T with
  | none=>simp[hs]at h
  | some ej=>
   obtain⟨e,j⟩:=ej
   simp only[hs]at h
   cases hL:S.L d with
   | some x=>simp[hL]at h
   | none=>
    simp only[hL]at h
    obtain⟨vl,gY,h⟩:=Zav h
    obtain⟨vc,nL,h⟩:=Zav h
    obtain⟨h1,⟨h2,h3,h4,h5⟩,hk⟩:=Zag h
    simp only[zA7]at h1
    obtain⟨kl,na⟩:=Za5 h1.1
    obtain⟨kc,pJ⟩:=Za5 h1.2
    generalize ma:RowKit.intOf vl=nl at *
    generalize gL:RowKit.intOf vc=nc at *
    obtain⟨i,ir,gM,j3⟩:=ZaN hs
    have dU:=hE e j j3
    have hu:=(hE T i ir).run_und (w:=w)
    rw[gM]at hu
    have bE:=dU.run_size (w:=w)
    have hz:=dU.run_zero (w:=w)
    obtain⟨x,g1,_,_,g4⟩:=dU.run_info (w:=w)
    have gE:j.zero.cells.toList.length=j.size:=by simpa using dU.zsize
    have aH:((List.replicate nc.toNat j.zero.cells.toList).flatten).length=nc.toNat*j.size:=by simp[dU.zsize]
    have hb:=hr.newBox (d:=d) hL (x:={ b:=w.heap.size,cs:=(List.replicate nc.toNat j.zero.cells.toList).flatten,T:=e,cap:=nc.toNat*j.size,fz:=false,full:=true }) (m':=m) [] rfl (by simpa using aH) (λ_=>aH) (.inl ⟨rfl,rfl⟩)
    simp only[List.append_nil]at hb
    refine⟨_,.slice (some ⟨w.heap.size,0,none⟩) nl.toNat nc.toNat,_,hk w.heap.size,hb.put (some d) hd (by simp[St.den,St.newL]),?_⟩
    rw[hr.ev gY,hr.ev nL,na,pJ]
    have w1:IntKind.i64.wrap nl=nl:=ZdG (by omega) (by omega)
    have w2:IntKind.i64.wrap nc=nc:=ZdG (by omega) (by omega)
    have uL:0<=nc:=by omega
    have c1:¬(nc < 0):=by omega
    have c2:¬(nl < 0):=by omega
    have c3:¬(nc < nl):=by omega
    have c4:¬(281474976710656 < (x.bytes:Int)*nc):=by rw[g4,Int.mul_comm];omega
    have dV:(Array.map (λi=>(if nc.toNat*j.size=0 then(#[]:Array Value)else j.zero.cells)[i % (if nc.toNat*j.size=0 then(#[]:Array Value)else j.zero.cells).size]!) (Array.range (nc.toNat*j.size)))=(List.replicate nc.toNat j.zero.cells.toList).flatten.toArray:=by
     have:=Zlt j.zero.cells.toList nc.toNat
     rw[gE]at this
     apply Array.ext'
     by_cases h0:nc.toNat*j.size=0
     ·have dQ:(List.replicate nc.toNat j.zero.cells.toList).flatten=[]:=List.eq_nil_of_length_eq_zero (by rw[aH,h0])
      simp[h0,dQ]
     ·simp only[h0,if_false,Array.toList_map,Array.toList_range]
      rw[<-this]
    by_cases h0:nc.toNat*j.size=0
    ·simp only[h0,if_true]at dV
     simp[Instr.makeSlice,hu,asInt,asIntOf,g1,w1,w2,c1,c2,c3,c4,bE,h0,newRow,<-dV]
    ·simp only[h0,if_false]at dV
     simp[Instr.makeSlice,hu,asInt,asIntOf,g1,w1,w2,c1,c2,c3,c4,bE,h0,hz,newRow,<-dV]
def frW(fr:Option Mem)(b:Nat)(p:Prop):Prop:=match fr with
 | none=>p
 | some m=>m.free b->m.k b=none->p
theorem Ztb{fr:Option Mem}{m:Mem}{b:Nat}{p:Prop}(ew:∀m',fr=some m'->m'=m)(hf:m.free b)(hk:m.k b=none)(h:frW fr b p):p:=by
 cases fr with
 | none=>exact h
 | some m'=>exact h (by rw[ew m' rfl];exact hf) (by rw[ew m' rfl];exact hk)
theorem Zpa{fr:Option Mem}{b:Nat}{p q:Prop}(h:p->q)(hx:frW fr b p):frW fr b q:=by
 cases fr with
 | none=>exact h hx
 | some m=>exact λhf hk=>h (hx hf hk)
def Zkj(E:Env)(S:St)(fr:Option Mem)(T:TypeId)(l c:Operand)(d:Option Tmp)(key:Nat)(K:St->Prop):Prop:=match d with
 | none=>False
 | some d=>match Zau E T with
  | none=>False
  | some (e,j)=>wv S l λvl=>wv S c λvc=>chk (Zcw vl&&Zcw vc) ((RowKit.intOf vl=0/\0<=RowKit.intOf vc/\RowKit.intOf vc*j.bytes<=281474976710656/\RowKit.intOf vc<=9223372036854775807)/\
     ∀b,frW fr b (K (({ S with tok:=λk=>bif Nat.beq k key then some ⟨.slice (some ⟨b,0,none⟩) 0 (RowKit.intOf vc).toNat,j.size⟩ else S.tok k,tkeys:=key::S.tkeys }:St).put (some d) (some (.v (.slice (some ⟨b,0,none⟩) 0 (RowKit.intOf vc).toNat))))))
theorem ZfZ{E:Env}(hE:E.ok){T:TypeId}{l c:Operand}{d:Option Tmp}{key:Nat}{K:St->Prop}{fr:Option Mem}(ew:∀m',fr=some m'->m'=m)(hd:∀t,d=some t->t < C.n)(hr:Rel C S m a w)(h:Zkj E S fr T l c d key K):
  ∃S' v w',K S'/\Rel C S' m (a.put d v) w'/\(Instr.makeSlice T (a.eval l) (a.eval c)).run E.P w=.ok v w'/\
   (c=.const (.int .i64 0)->∃i e,E.tt T=some i/\i.d=.slice e/\v=.slice (some ⟨w.heap.size,0,none⟩) 0 0/\w'=w.alloc (.cells #[] e (0,0))):=by
 unfold Zkj at h
 cases d with
 | none=>exact h.elim
 | some d=>
  simp only at h
  cases hs:Zau E T with
  | none=>simp[hs]at h
  | some ej=>
   obtain⟨e,j⟩:=ej
   simp only[hs]at h
   obtain⟨vl,gY,h⟩:=Zav h
   obtain⟨vc,nL,h⟩:=Zav h
   obtain⟨h1,⟨h2,h3,h4,h5⟩,hk⟩:=Zag h
   simp only[zA7]at h1
   obtain⟨kl,na⟩:=Za5 h1.1
   obtain⟨kc,pJ⟩:=Za5 h1.2
   generalize ma:RowKit.intOf vl=nl at *
   generalize gL:RowKit.intOf vc=nc at *
   subst h2
   obtain⟨i,ir,gM,j3⟩:=ZaN hs
   have dU:=hE e j j3
   have hu:=(hE T i ir).run_und (w:=w)
   rw[gM]at hu
   have bE:=dU.run_size (w:=w)
   have hz:=dU.run_zero (w:=w)
   obtain⟨x,g1,_,_,g4⟩:=dU.run_info (w:=w)
   have gE:j.zero.cells.toList.length=j.size:=by simpa using dU.zsize
   have aH:((List.replicate nc.toNat j.zero.cells.toList).flatten).length=nc.toNat*j.size:=by simp[dU.zsize]
   have dx:Sub m (w.alloc (.cells ((List.replicate nc.toNat j.zero.cells.toList).flatten).toArray e (0,0))):=hr.sub.alloc _
   have j4:Rel C S m a (w.alloc (.cells ((List.replicate nc.toNat j.zero.cells.toList).flatten).toArray e (0,0))):=hr.world (Keep.alloc (Nat.le_refl _) (Zey _ _)) dx (Mem.le_refl m) (NewM.refl _ _)
   have eN:∀o,m w.heap.size o=none:=λo=>by
    cases he:m w.heap.size o with
    | none=>rfl
    | some u=>have:=hr.sub.lt he;omega
   have aN:TokOk m (w.alloc (.cells ((List.replicate nc.toNat j.zero.cells.toList).flatten).toArray e (0,0))) ⟨.slice (some ⟨w.heap.size,0,none⟩) 0 nc.toNat,j.size⟩:=
    .inr ⟨w.heap.size,0,0,nc.toNat,((List.replicate nc.toNat j.zero.cells.toList).flatten).toArray,e,(0,0),rfl,Nat.zero_le _,by show(w.heap.push _)[w.heap.size]?=_;simp,by show 0+nc.toNat*j.size<=((List.replicate nc.toNat j.zero.cells.toList).flatten).length;rw[aH,Nat.zero_add];exact Nat.le_refl _,λo _ ho=>by simp at ho,λo _ _=>eN o⟩
   have gq:∀b,(Tok.mk (.slice (some ⟨w.heap.size,0,none⟩) 0 nc.toNat) j.size).blk=some b->b=w.heap.size:=λb hb=>by simp[Tok.blk]at hb;exact hb.symm
   have fP:=j4.tokUpd key _ aN (λb hb=>by
    have:=gq b hb
    subst this
    refine⟨⟨λid x hx e=>?_,λo=>?_⟩,λk' t' _ hk' hb'=>?_⟩
    ·have:=(hr.own id x hx).lt;omega
    ·cases he:C.me w.heap.size o with
     | none=>rfl
     | some u=>have:=hr.sub.lt (hr.le _ _ _ he);omega
    ·have:=(hr.toks k' t' hk').1.lt hb';omega) (by
    obtain⟨M,hd'⟩:=hr.dom
    refine⟨_,hd'.step (m':=m) ((Keep.alloc (Nat.le_refl _) (Zey _ _):Keep w.heap.size [] w _).upd (by simp)) (NewM.refl _ _),λb hb=>?_⟩
    have:=gq b hb
    subst this
    exact .inr ⟨Nat.le_refl _,by show w.heap.size < (w.heap.push _).size;simp,Wr.new (Zey _ _)⟩)
   have dp:=hk w.heap.size
   have fC:=Ztb ew eN (by
    cases he:m.k w.heap.size with
    | none=>rfl
    | some e=>exact absurd (hr.sub.k _ _ he).lt (Nat.lt_irrefl _)) dp
   refine⟨_,.slice (some ⟨w.heap.size,0,none⟩) 0 nc.toNat,_,fC,fP.put (some d) hd rfl,?_,λhc=>⟨i,e,ir,gM,?_,?_⟩⟩
   rotate_left
   ·subst hc
    have:vc=.int .i64 0:=by simpa[St.val,St.ev,St.den]using nL.symm
    subst this
    simp only[RowKit.intOf]at gL;subst gL;rfl
   ·subst hc
    have:vc=.int .i64 0:=by simpa[St.val,St.ev,St.den]using nL.symm
    subst this
    simp only[RowKit.intOf]at gL;subst gL;rfl
   rw[hr.ev gY,hr.ev nL,na,pJ]
   have w1:IntKind.i64.wrap 0=0:=ZdG (by omega) (by omega)
   have w2:IntKind.i64.wrap nc=nc:=ZdG (by omega) (by omega)
   have c1:¬(nc < 0):=by omega
   have c2:¬((0:Int) < 0):=by omega
   have c4:¬(281474976710656 < (x.bytes:Int)*nc):=by rw[g4,Int.mul_comm];omega
   have dV:(Array.map (λi=>(if nc.toNat*j.size=0 then(#[]:Array Value)else j.zero.cells)[i % (if nc.toNat*j.size=0 then(#[]:Array Value)else j.zero.cells).size]!) (Array.range (nc.toNat*j.size)))=((List.replicate nc.toNat j.zero.cells.toList).flatten).toArray:=by
    have:=Zlt j.zero.cells.toList nc.toNat
    rw[gE]at this
    apply Array.ext'
    by_cases h0:nc.toNat*j.size=0
    ·have dQ:(List.replicate nc.toNat j.zero.cells.toList).flatten=[]:=List.eq_nil_of_length_eq_zero (by rw[aH,h0])
     simp[h0,dQ]
    ·simp only[h0,if_false,Array.toList_map,Array.toList_range]
     rw[<-this]
   by_cases h0:nc.toNat*j.size=0
   ·simp only[h0,if_true]at dV
    simp[Instr.makeSlice,hu,asInt,asIntOf,g1,w1,w2,c1,c2,c4,bE,h0,newRow,<-dV]
   ·simp only[h0,if_false]at dV
    simp[Instr.makeSlice,hu,asInt,asIntOf,g1,w1,w2,c1,c2,c4,bE,h0,hz,newRow,<-dV]
theorem ZeD{P:Program}{w:World}(b o:Nat){cells:Array Value}{T:TypeId}{fr:Nat×Nat}(h:w.heap[b]?=some (.cells cells T fr)):
  (markStringish ⟨b,o,none⟩).run P w=.ok () (w.freeze ⟨b,cells.size,none⟩ 1):=by
 simp[markStringish,World.shape?,h]
end
def ZaT(s:ByteArray):List Value:=s.data.toList.map λb=>.int .u8 b.toNat
def Zcn(E:Env)(s d:TypeId):Bool:=Zd2 E s&&(match Zau E d with
 | none=>false
 | some (_,j)=>match j.d with
  | .int .u8=>true
  | _=>false)
def ZwM(S:St)(m:Mem)(x:Operand)(d:Option Tmp)(K:St->Mem->Prop):Prop:=
 wv S x λv=>chk (Zh0 v) (∀(b c:Nat),m.free b->(Zcb v).size<=c->K (S.put d (some (.v (.slice (some ⟨b,0,none⟩) (Zcb v).size c)))) (m.add b (ZaT (Zcb v))))
section
variable {C:Ctx} {S:St} {m:Mem} {a:Act} {w:World}
theorem Zl0{E:Env}(hE:E.ok){s d:TypeId}(fj:Zcn E s d=true){x:Operand}{t:Option Tmp}{K:St->Mem->Prop}(hd:∀t',t=some t'->t' < C.n)(hr:Rel C S m a w)(h:ZwM S m x t K):
  ∃S' m' v w',K S' m'/\Rel C S' m' (a.put t v) w'/\(convert s d (a.eval x)).run E.P w=.ok v w':=by
 unfold ZwM at h
 obtain⟨v,hv,h⟩:=Zav h
 obtain⟨h1,hk⟩:=Zag h
 have he:=hr.ev hv
 have eC:=Zck h1
 generalize Zcb v=bs at *
 subst eC
 unfold Zcn at fj
 rw[zA7]at fj
 obtain⟨i,hi,cZ⟩:=Ze3 fj.1
 have fj:=fj.2
 cases hs:Zau E d with
 | none=>simp[hs]at fj
 | some ej=>
  obtain⟨e,j⟩:=ej
  simp only[hs]at fj
  obtain⟨k,iP,i6,qv⟩:=ZaN hs
  have iN:j.d=.int .u8:=by
   cases iN:j.d with
   | int kk=>cases kk <;> simp[iN]at fj <;> rfl
   | _=>simp[iN]at fj
  have nM:=(hE s i hi).run_und (w:=w)
  rw[cZ]at nM
  have pL:=(hE d k iP).run_und (w:=w)
  rw[i6]at pL
  have pM:=(hE e j qv).run_und (w:=w)
  rw[iN]at pM
  generalize cO:grownCap w bs.size 0 e=cap
  have bG:bs.size<=cap:=by rw[<-cO];exact grownCap_ge w bs.size 0 e
  have aU:m.free w.heap.size:=λo=>by
   cases he:m w.heap.size o with
   | none=>rfl
   | some v=>have:=hr.sub.lt he;omega
  obtain⟨cells,ji⟩:∃cells,cells=(ZaT bs++List.replicate (cap - bs.size) (Value.int .u8 0)).toArray:=⟨_,rfl⟩
  obtain⟨w1,fQ⟩:∃w1,w1=w.drew.alloc (.cells cells e (0,0)):=⟨_,rfl⟩
  have nH:w1.heap[w.heap.size]?=some (.cells cells e (0,0)):=by rw[fQ];exact heap_alloc_new w.drew _
  obtain⟨w2,fl⟩:∃w2,w2=w1.freeze ⟨w.heap.size,cells.size,none⟩ 1:=⟨_,rfl⟩
  have aT:∀k,k≠w.heap.size->w2.heap[k]?=w1.heap[k]?:=λk hk=>by
   rw[fl]
   simp only[World.freeze,Nat.one_ne_zero,if_false,Array.getElem?_modify]
   rw[if_neg (by simpa using Ne.symm hk)]
  have dJ:∃fr',w2.heap[w.heap.size]?=some (.cells cells e fr'):=by
   rw[fl]
   simp only[World.freeze,Nat.one_ne_zero,if_false,Array.getElem?_modify,if_true,nH,Option.map_some]
   exact⟨_,rfl⟩
  obtain⟨fr',dJ⟩:=dJ
  have nN:Wr w2 w.heap.size:=by
   intro c1 T1 fr1 hh i hi
   rw[fl]at hh
   simp[World.freeze,Array.getElem?_modify,nH]at hh
   obtain⟨rfl,rfl,rfl⟩:=hh
   simp only;omega
  have md:Keep w.heap.size [] w w1:=(Keep.drew w).trans (by rw[fQ];exact Keep.alloc (B:=w.heap.size) (w:=w.drew) (show w.heap.size<=w.drew.heap.size from Nat.le_refl _) (Zey _ _))
  have mf:Keep w.heap.size [] w1 w2:=by
   refine⟨by rw[fl];simp[World.freeze],by rw[fl];simp[World.freeze],by rw[fl];simp[World.freeze],by rw[fl];simp[World.freeze],λk hk _=>aT k (by omega),λk _ hk=>?_⟩
   by_cases eW:k=w.heap.size
   ·subst eW;exact nN
   ·exact hk.of_eq (aT k eW)
  have eB:=md.trans mf
  have fB:Sub (m.add w.heap.size (ZaT bs)) w2:=by
   refine(hr.sub.below λb' aC=>eB.block b' aC (by simp)).add λo v hv=>?_
   have aC:=(zA0 hv).1
   simp only[World.cell?,dJ,Option.isSome_none,Bool.false_eq_true,if_false,ji,List.getElem?_toArray]
   rw[zA5 aC,hv]
  have aV:Rel C S (m.add w.heap.size (ZaT bs)) a w2:=hr.world eB fB (Mem.le_add aU _) (NewM.add _ _ ⟨Nat.le_refl _,nN⟩)
  refine⟨_,_,.slice (some ⟨w.heap.size,0,none⟩) bs.size cap,w2,hk w.heap.size cap aU bG,aV.put t hd rfl,?_⟩
  have uM:=ZeD (P:=E.P) (w:=w1) w.heap.size 0 nH
  have dV:(Array.map (λb:UInt8=>Value.int .u8 (b.toNat:Int)) bs.data++Array.replicate (cap - bs.size) (Value.int .u8 0))=cells:=by
   rw[ji]
   apply Array.ext'
   simp[ZaT]
  have uN:(newRow e cells).run E.P w.drew=.ok ⟨w.heap.size,0,none⟩ w1:=by
   rw[fQ];simp[newRow]
  rw[he]
  simp only[convert,Sem.run_bind,nM,Result.andThen_ok,pL,pM,Conv.stringToBytes]
  simp[Question.forced]
  rw[show(Question.appendCap bs.size 0 e).cut (w.tape w.drawn (Question.appendCap bs.size 0 e))=cap from cO,dV,uN]
  simp only[Result.andThen_ok,uM,<-fl]
end
def Zco(E:Env)(s d:TypeId):Bool:=Zd2 E d&&(match Zau E s with
 | none=>false
 | some (_,j)=>match j.d with
  | .int .u8=>true
  | _=>false)
def Zbs(S:St)(m:Mem)(x:Operand)(K:Value->Prop):Prop:=match S.ev x with
 | some (.sl id n c)=>match S.L id with
  | none=>False
  | some bx=>∃bs:ByteArray,Nat.beq bs.size n=true/\ZaT bs=bx.cs.take n/\K (.string bs)
 | _=>wv S x λv=>chk (ZbT v) (∃bs:ByteArray,bs.size=slN v/\rowRd m (slA v) (ZaT bs)/\K (.string bs))
def ZdH(S:St)(m:Mem)(x:Operand)(K:Value->Prop):Prop:=match S.ev x with
 | some (.v v)=>chk (ZbT v) (∃bs:ByteArray,bs.size=slN v/\rowRd m (slA v) (ZaT bs)/\K (.string bs))
 | _=>False
theorem ZhF{S:St}{m:Mem}{x:Operand}{K:Value->Prop}(h:ZdH S m x K):Zbs S m x K:=by
 unfold ZdH at h
 unfold Zbs
 split at h
 ·rename_i v he
  simp only[he]
  unfold wv St.val
  simp only[he,St.den]
  exact h
 ·exact h.elim
def Zkk(E:Env)(S:St)(m:Mem)(x:Operand)(K:Value->Prop):Prop:=bif E.fix.isSome then ZdH S m x K else Zbs S m x K
theorem Zob{E:Env}{S:St}{m:Mem}{x:Operand}{K:Value->Prop}(h:Zkk E S m x K):Zbs S m x K:=by
 unfold Zkk at h
 cases hf:E.fix.isSome with
 | true=>rw[hf]at h;exact ZhF h
 | false=>rw[hf]at h;exact h
theorem Zkl{S:St}{m:Mem}{x:Operand}{k k':Value->Prop}(h:∀v,k v->k' v)(hx:ZdH S m x k):ZdH S m x k':=by
 unfold ZdH at *
 split at hx
 ·obtain⟨h1,bs,h2,h3,h4⟩:=Zag hx
  exact Zaa h1 ⟨bs,h2,h3,h _ h4⟩
 ·exact hx.elim
theorem ZbZ(s:ByteArray):(ZaT s).length=s.size:=by
 unfold ZaT ByteArray.size
 rw[List.length_map,Array.length_toList]
theorem ZqB(ns:List UInt8):∀s:ByteArray,(ns.map λb:UInt8=>(b.toNat:Int)).foldl (λ(r:ByteArray)(n:Int)=>r.push (UInt8.ofNat n.toNat)) s=⟨s.data++ns.toArray⟩:=by
 induction ns with
 | nil=>intro s;simp
 | cons b l ih=>
  intro s
  rw[List.map_cons,List.foldl_cons,ih]
  congr 1
  apply Array.ext'
  simp[ByteArray.push]
theorem Zkm{P:Program}{w:World}{s d e:TypeId}{a:Option Addr}{c:Nat}{bs:ByteArray}(hs:P.underlying s=some (.slice e))(he:P.underlying e=some (.int .u8))(hd:P.underlying d=some .string)
  (cD:∀j v,(ZaT bs)[j]?=some v->∃b o,a=some ⟨b,o,none⟩/\w.cell? ⟨b,o+j,none⟩=some v):(convert s d (.slice a bs.size c)).run P w=.ok (.string bs) w:=by
 rw[run_convert_bytes_string w s d e a bs.size c hs he hd]
 cases a with
 | none=>
  have h0:ZaT bs=[]:=by
   cases h:ZaT bs with
   | nil=>rfl
   | cons v l=>obtain⟨_,_,h1,_⟩:=cD 0 v (by rw[h];rfl);cases h1
  have hb:bs.size=0:=by rw[<-ZbZ,h0];rfl
  have:bs=ByteArray.empty:=by
   cases bs with
   | mk data=>
    have:data=#[]:=Array.eq_empty_of_size_eq_zero hb
    subst this;rfl
  subst this
  simp[Conv.bytesToString]
 | some a=>
  have hl:(loadCells a bs.size).run P w=.ok (((bs.data.toList.map λb:UInt8=>(b.toNat:Int))).map (Value.int .u8)).toArray w:=by
   have qw:(bs.data.toList.map λb:UInt8=>(b.toNat:Int)).map (Value.int .u8)=ZaT bs:=by simp[ZaT]
   rw[qw]
   by_cases h0:bs.size=0
   ·have:ZaT bs=[]:=List.eq_nil_of_length_eq_zero (by rw[ZbZ,h0])
    rw[this,h0];rfl
   ·obtain⟨v,hv⟩:∃v,(ZaT bs)[0]?=some v:=⟨_,zA3 (by rw[ZbZ];omega)⟩
    obtain⟨b,o,ha,_⟩:=cD 0 v hv
    cases ha
    rw[<-ZbZ]
    exact Zc9 b o _ (λj u hu=>by obtain⟨_,_,h1,h2⟩:=cD j u hu;cases h1;exact h2)
  have fP:(⟨ByteArray.empty.data++bs.data.toList.toArray⟩:ByteArray)=bs:=by
   cases bs with
   | mk data=>
    congr 1
    apply Array.ext'
    show((#[]:Array UInt8)++data.toList.toArray).toList=data.toList
    simp
  rw[run_bytesToString w a bs.size c _ hl,ZqB,fP]
section
variable {C:Ctx} {S:St} {m:Mem} {a:Act} {w:World}
theorem Zf0{E:Env}(hE:E.ok){s d:TypeId}(fj:Zco E s d=true){x:Operand}{K:Value->Prop}(hr:Rel C S m a w)(h:Zbs S m x K):
  ∃v,K v/\(convert s d (a.eval x)).run E.P w=.ok v w:=by
 unfold Zco at fj
 rw[zA7]at fj
 obtain⟨i,hi,cZ⟩:=Ze3 fj.1
 have fj:=fj.2
 cases hs:Zau E s with
 | none=>simp[hs]at fj
 | some ej=>
  obtain⟨e,j⟩:=ej
  simp only[hs]at fj
  obtain⟨k,iP,i6,qv⟩:=ZaN hs
  have iN:j.d=.int .u8:=by
   cases iN:j.d with
   | int kk=>cases kk <;> simp[iN]at fj <;> rfl
   | _=>simp[iN]at fj
  have pL:E.P.underlying d=some .string:=by rw[(hE d i hi).und,cZ]
  have nM:E.P.underlying s=some (.slice e):=by rw[(hE s k iP).und,i6]
  have pM:E.P.underlying e=some (.int .u8):=by rw[(hE e j qv).und,iN]
  have gen:∀{v:Value},S.val x=some v->(∃bs,ZbT v=true/\bs.size=slN v/\(∀j u,(ZaT bs)[j]?=some u->∃b o,slA v=some ⟨b,o,none⟩/\w.cell? ⟨b,o+j,none⟩=some u)/\K (.string bs))->∃v,K v/\(convert s d (a.eval x)).run E.P w=.ok v w:=by
   rintro v hv ⟨bs,h1,h2,h3,h4⟩
   obtain⟨ba,n,c,rfl⟩:∃ba n c,v=.slice ba n c:=⟨_,_,_,Zbh h1⟩
   simp only[slN,slA]at h2 h3
   subst h2
   exact⟨_,h4,by rw[hr.ev hv];exact Zkm nM pM pL h3⟩
  unfold Zbs at h
  split at h
  ·rename_i id n c he
   cases hL:S.L id with
   | none=>simp[hL]at h
   | some bx=>
    simp only[hL]at h
    obtain⟨bs,h1,h2,h3⟩:=h
    have h1:=Nat.eq_of_beq_eq_true h1
    refine gen (v:=.slice (some ⟨bx.b,0,none⟩) n c) (by simp[St.val,he,St.den,hL]) ⟨bs,rfl,h1,λj u hu=>⟨bx.b,0,rfl,?_⟩,h3⟩
    rw[Nat.zero_add]
    refine(hr.own id bx hL).cell ?_
    rw[h2]at hu
    rw[List.getElem?_take]at hu
    split at hu
    ·exact hu
    ·cases hu
  ·obtain⟨v,hv,h⟩:=Zav h
   obtain⟨h1,bs,h2,h3,h4⟩:=Zag h
   refine gen hv ⟨bs,h1,h2,λj u hu=>?_,h4⟩
   rcases h3 with h3|⟨b,o,h5,h6⟩
   ·rw[h3]at hu;simp at hu
   ·exact⟨b,o,h5,hr.sub _ _ _ (h6 j u hu)⟩
end
def Mem.upd(m:Mem)(b o:Nat)(vs:List Value):Mem:=⟨λb' o'=>if b'=b/\o<=o'/\o' < o+vs.length then vs[o' - o]? else m b' o',m.k⟩
theorem Mem.upd_other(m:Mem){b b':Nat}(h:b'≠b)(o:Nat)(vs:List Value)(o':Nat):m.upd b o vs b' o'=m b' o':=by
 simp only[Mem.upd];rw[if_neg (λhc=>h hc.1)]
theorem Mem.le_upd{m0 m:Mem}(h:m0.le m){b:Nat}(hb:m0.free b)(o:Nat)(vs:List Value):m0.le (m.upd b o vs):=⟨λb' o' v hv=>by
 by_cases e:b'=b
 ·subst e;rw[hb o']at hv;cases hv
 ·rw[Mem.upd_other m e];exact h _ _ _ hv,h.k⟩
def Zl1(E:Env)(x:Operand):Option Nat:=bif E.thaw then(match x with
 | .tmp t=>E.stAt t
 | _=>none)else none
def Zf1(E:Env)(S:St)(m:Mem)(T:TypeId)(key:Nat)(x:Operand)(v:Value)(K:Mem->Prop):Prop:=wv S x λp=>match E.tt T with
 | none=>False
 | some i=>match S.tok key with
  | none=>match E.m0 with
   | none=>False
   | some m0=>chk (!S.fo&&Zjo p&&(Nat.beq v.cells.size i.size&&Zek v.cells.toList)) ((∃vs:List Value,vs.length=i.size/\m.reads (Zqq p) (Zqr p) vs)/\Mem.free m0 (Zqq p)/\Nat.blt 0 i.size=true/\nfz S (Zqq p) S.ids (K (m.upd (Zqq p) (Zqr p) v.cells.toList)))
  | some t=>chk (Zjo p&&(Nat.beq v.cells.size i.size&&Zek v.cells.toList)) (t.v=.slice (some ⟨Zqq p,0,none⟩) (slN t.v) (slC t.v)/\Zqr p+i.size<=slN t.v*t.esz/\K (m.upd (Zqq p) (Zqr p) v.cells.toList))
section
variable {C:Ctx} {S:St} {m:Mem} {a:Act} {w:World}
theorem Rel.storeOwn(hr:Rel C S m a w){b o:Nat}{vs:List Value}{cur:Array Value}{TT:TypeId}{fr:Nat×Nat}{w':World}(bY:w.heap[b]?=some (.cells cur TT fr))(gt:Wr w b)(bE:o+vs.length<=cur.size)
  (hw':w'=w.setRow b (ZaC cur.toList o vs).toArray) (hM:∀M,Dom C S m a w M->M b) (h0:C.me.free b) (qx:∀id x,S.L id=some x->x.b≠b)
  (aN:∀k t o0 n c,S.tok k=some t->t.v=.slice (some ⟨b,o0,none⟩) n c->∀q,o<=q->q < o+vs.length->o0+n*t.esz<=q->q < o0+c*t.esz->False):Rel C S (m.upd b o vs) a w':=by
 have aT:∀k,k≠b->w'.heap[k]?=w.heap[k]?:=λk hk=>by rw[hw'];exact setRow_other w b k _ hk
 have dJ:w'.heap[b]?=some (.cells (ZaC cur.toList o vs).toArray TT fr):=by rw[hw'];exact setRow_heap w b cur _ TT fr bY
 have fh:(ZaC cur.toList o vs).length=cur.size:=by
  rw[Zb4 (by rw[Array.length_toList];omega),Array.length_toList]
 have eU:∀o,o < cur.size->¬(fr.1<=o/\o < fr.2):=gt cur TT fr bY
 have fB:Sub (m.upd b o vs) w':=by
  refine hr.sub.wr1 ⟨_,_,_,bY⟩ aT (λ_ _ h=>h) λb1 o1 u hu=>?_
  by_cases hb:b1=b
  ·subst hb
   simp only[Mem.upd,true_and]at hu
   simp only[World.cell?,dJ,Option.isSome_none,Bool.false_eq_true,if_false,List.getElem?_toArray]
   have uO:o+vs.length<=cur.toList.length:=by simp;omega
   have et:(List.take o cur.toList).length=o:=by simp;simp at uO;omega
   by_cases eV:o<=o1/\o1 < o+vs.length
   ·rw[if_pos eV]at hu
    simp only[ZaC]
    rw[List.append_assoc,zA4 (by omega),et,zA5 (by omega)]
    exact hu
   ·rw[if_neg eV]at hu
    have jT:=hr.sub _ _ _ hu
    simp only[World.cell?,bY,Option.isSome_none,Bool.false_eq_true,if_false]at jT
    rw[<-Array.getElem?_toList]at jT
    simp only[ZaC]
    by_cases uP:o1 < o
    ·rw[List.append_assoc,zA5 (by omega),List.getElem?_take,if_pos uP];exact jT
    ·rw[zA4 (by simp at eV et ⊢;omega),List.getElem?_drop]
     have:o+vs.length+(o1 - (List.take o cur.toList++vs).length)=o1:=by
      rw[zA1,et];omega
     rw[this];exact jT
  ·rw[Mem.upd_other m hb]at hu
   rw[ZbB (aT b1 hb)];exact hr.sub _ _ _ hu
 refine⟨?_,hr.size,hr.env,λid y hy=>?_,hr.apart,hr.ids,λk t' ht'=>?_,hr.tkeys,hr.tapart,fB,Mem.le_upd hr.le h0 _ _,?_,hr.fo⟩
 ·obtain⟨ms,d1,d2,d3⟩:=hr.defers
  refine⟨ms,d1,d2,λD hD=>?_⟩
  rw[aT D (λe=>by have:=d3 D hD;rw[e,bY]at this;cases this)];exact d3 D hD
 ·have ho:=hr.own id y hy
  have cS:=qx id y hy
  exact⟨by rw[aT _ cS];exact ho.cells,λhz o1=>by rw[Mem.upd_other m cS];exact ho.free hz o1,λhz j u hu=>by rw[Mem.upd_other m cS];exact ho.known hz j u hu,ho.whole⟩
 ·obtain⟨q1,q2⟩:=hr.toks k t' ht'
  refine⟨?_,q2⟩
  by_cases dp:t'.blk=some b
  ·rcases q1 with q1|⟨b',o0,n,c,cur',TT',fr',hv,gL,hh,fO,uQ,aU⟩
   ·exact .inl q1
   obtain rfl:b'=b:=by simpa[Tok.blk,hv]using dp
   rw[bY]at hh
   simp only[Option.some.injEq,Obj.cells.injEq]at hh
   obtain⟨rfl,rfl,rfl⟩:=hh
   have bU:=aN k t' o0 n c ht' hv
   refine .inr ⟨b',o0,n,c,_,TT,fr,hv,gL,dJ,by simp only[List.size_toArray,fh];exact fO,λo1 kU=>eU o1 (by simpa only[List.size_toArray,fh]using kU),λo1 kU gC=>?_⟩
   simp only[Mem.upd]
   rw[if_neg (λhc=>bU o1 hc.2.1 hc.2.2 kU gC)];exact aU o1 kU gC
  ·have cS:∀b1,t'.blk=some b1->b1≠b:=λb1 dT e=>by subst e;exact dp dT
   exact q1.same (λb1 dT=>aT _ (cS b1 dT)) (λb1 o1 dT hn=>by rw[Mem.upd_other m (cS b1 dT)];exact hn)
 ·obtain⟨M,hd⟩:=hr.dom
  have hu:Upd M w w':=⟨by rw[hw'];rfl,by rw[hw'];rfl,by rw[hw'];rfl,by rw[hw'];simp,λk hk hn=>aT k (λe=>hn (e ▸ hM M hd)),λk _ hk=>by
   by_cases eW:k=b
   ·subst eW
    intro c1 T1 fr1 hh i hi
    rw[dJ]at hh
    simp only[Option.some.injEq,Obj.cells.injEq]at hh
    obtain⟨rfl,rfl,rfl⟩:=hh
    exact eU i (by simpa only[List.size_toArray,fh]using hi)
   ·exact hk.of_eq (aT k eW)⟩
  exact⟨_,hd.step hu ⟨λb1 o1 u jQ=>by
   by_cases hb:b1=b
   ·exact .inr (.inl (hb ▸ hM M hd))
   ·rw[Mem.upd_other m hb]at jQ;exact .inl jQ,λ_ _ h=>.inl h⟩⟩
theorem Zf2{E:Env}{T:TypeId}{i:TI}(cE:TOk E.P T i){w:World}{b o:Nat}{v:Value}{cur:Array Value}{TT:TypeId}{fr:Nat×Nat}(bY:w.heap[b]?=some (.cells cur TT fr))(gt:Wr w b)(bE:o+v.cells.toList.length<=cur.size)
  (h1:v.cells.size=i.size) (eF:v.cells.all Value.oneCell'=true):(Instr.storeAt T (ptr b o) v).run E.P w=.ok () (w.setRow b (ZaC cur.toList o v.cells.toList).toArray):=by
 have nO:=Zbr (P:=E.P) b o TT fr v.cells.toList 0 cur w bY (λo ho=>gt cur TT fr bY o ho) (by omega) (λu hu=>by
  rw[Array.all_eq_true_iff_forall_mem]at eF;exact eF u (by simpa using hu))
 have aR:(storeVar T ⟨b,o,none⟩ v).run E.P w=.ok () (w.setRow b (ZaC cur.toList o v.cells.toList).toArray):=by
  have hz:=cE.run_size (w:=w)
  simp only[storeVar,Sem.run_bind,hz,Result.andThen_ok,h1,ne_eq,not_true_eq_false,if_false]
  rw[nO]
  simp[ZaC]
 simp[Instr.storeAt,Instr.sureAddr,ptr,aR]
theorem Zf3{E:Env}(hE:E.ok)(hY:YOk E C){T:TypeId}{key:Nat}{x:Operand}{v:Value}{K:Mem->Prop}(hr:Rel C S m a w)(h:Zf1 E S m T key x v K):
  ∃m' w',K m'/\Rel C S m' a w'/\(Instr.storeAt T (a.eval x) v).run E.P w=.ok () w':=by
 unfold Zf1 at h
 obtain⟨p,hp,h⟩:=Zav h
 have he:=hr.ev hp
 cases ht:E.tt T with
 | none=>simp[ht]at h
 | some i=>
  simp only[ht]at h
  have cE:=hE T i ht
  cases hk:S.tok key with
  | none=>
   simp only[hk]at h
   cases eD:E.m0 with
   | none=>simp[eD]at h
   | some mm=>
    simp only[eD]at h
    obtain⟨iQ,hW⟩:=hY.m0 mm eD
    obtain⟨h1,⟨us,nM,cD⟩,h3,h5,h4⟩:=Zag h
    simp only[zA7,Bool.not_eq_true']at h1
    obtain⟨⟨jj,gu⟩,kY⟩:=h1
    have h1:=And.intro gu kY
    have fm:=hr.fo jj
    have j5:=Zb3 h1.1
    generalize Zqq p=b at *
    generalize Zqr p=o at *
    have bE:=Nat.eq_of_beq_eq_true h1.2.1
    have eF:=Zez h1.2.2
    have aH:v.cells.toList.length=i.size:=by simpa using bE
    have j6:0 < i.size:=by simpa[Nat.blt_eq]using h5
    obtain⟨qy,uR⟩:=Zfa h4
    obtain⟨u,hu⟩:∃u,us[i.size - 1]?=some u:=⟨_,zA3 (by omega)⟩
    have bV:=hr.sub _ _ _ (cD _ _ hu)
    obtain⟨cur,TT,fr,bY⟩:∃c T fr,w.heap[b]?=some (.cells c T fr):=by
     unfold World.cell? at bV
     split at bV
     ·rename_i c T fr hc;exact⟨c,T,fr,hc⟩
     ·cases bV
    have eO:o+(i.size - 1) < cur.size:=by
     simp only[World.cell?,bY,Option.isSome_none,Bool.false_eq_true,if_false]at bV
     exact(Array.getElem?_eq_some_iff.1 bV).1
    have jf:∀M,Dom C S m a w M->M b:=λM hd=>by
     rcases hd.new _ _ _ (cD _ _ hu)with h6|h6
     ·rw[fm,iQ,h3]at h6;cases h6
     ·exact h6
    have gt:Wr w b:=by
     obtain⟨M,hd⟩:=hr.dom
     exact hW _ _ _ hd.p b (jf M hd)
    refine⟨_,_,qy,hr.storeOwn bY gt (by omega) rfl jf (by rw[fm,iQ];exact h3) (λid y hy e=>?_) (λk t o0 n c gT hv q gF nP pN nQ=>?_),?_⟩
    ·have ho:=hr.own id y hy
     cases hz:y.fz with
     | true=>exact uR id y (hr.ids id y hy) hy hz e
     | false=>
      have:=ho.free hz (o+(i.size - 1))
      rw[e,cD _ _ hu]at this;cases this
    ·rcases(hr.toks k t gT).1 with q0|⟨b',o',n',c',_,_,_,hv',_,_,_,_,aU⟩
     ·rw[hv]at q0;cases q0
     ·rw[hv]at hv'
      simp only[Value.slice.injEq,Option.some.injEq,Addr.mk.injEq,and_true]at hv'
      obtain⟨⟨rfl,rfl⟩,rfl,rfl⟩:=hv'
      have h7:=aU _ pN nQ
      obtain⟨u7,uS⟩:∃u7,us[q - o]?=some u7:=⟨us[q - o]'(by omega),zA3 _⟩
      have h8:=cD _ _ uS
      rw[show o+(q - o)=q by omega,h7]at h8;cases h8
    ·rw[he,j5];exact Zf2 cE bY gt (by omega) bE eF
  | some t=>
   simp only[hk]at h
   obtain⟨h1,h2,h3,h4⟩:=Zag h
   simp only[zA7]at h1
   have j5:=Zb3 h1.1
   generalize Zqq p=b at *
   generalize Zqr p=o at *
   have bE:=Nat.eq_of_beq_eq_true h1.2.1
   have eF:=Zez h1.2.2
   have aH:v.cells.toList.length=i.size:=by simpa using bE
   obtain⟨g1,g2⟩:=hr.toks key t hk
   have gq:t.blk=some b:=by unfold Tok.blk;rw[h2]
   obtain⟨g2,g3⟩:=g2 b gq
   rcases g1 with g1|⟨b',o0,n,c,cur,TT,fr,hv,gL,bY,fO,eU,aU⟩
   ·rw[g1]at h2;cases h2
   rw[hv]at h2
   simp only[Value.slice.injEq,Option.some.injEq,Addr.mk.injEq,and_true]at h2
   obtain⟨⟨rfl,rfl⟩,_,_⟩:=h2
   rw[hv]at h3
   simp only[slN]at h3
   have bU:n*t.esz<=c*t.esz:=Nat.mul_le_mul_right _ gL
   have gt:Wr w b':=λc1 T1 fr1 hh o ho=>by
    rw[bY]at hh
    simp only[Option.some.injEq,Obj.cells.injEq]at hh
    obtain⟨rfl,rfl,rfl⟩:=hh
    exact eU o ho
   refine⟨_,_,h4,hr.storeOwn bY gt (by omega) rfl (λM hd=>hd.tok key t b' hk gq) g3 g2 (λk t' o' n' c' gT hv' q gF nP pN nQ=>?_),?_⟩
   ·have:k=key:=hr.tapart k key t' t b' gT hk (by simp[Tok.blk,hv']) gq
    subst this
    rw[hk]at gT;cases gT
    rw[hv]at hv'
    simp only[Value.slice.injEq,Option.some.injEq,Addr.mk.injEq,and_true,true_and]at hv'
    obtain⟨rfl,rfl,rfl⟩:=hv'
    omega
   ·rw[he,j5];exact Zf2 cE bY gt (by omega) bE eF
end
def ZnX(E:Env)(S:St)(m:Mem)(T:TypeId)(id:Nat)(vd vs:Value)(K:Int->St->Prop):Prop:=match Zau E T with
 | none=>False
 | some (e,j)=>match S.L id with
  | none=>False
  | some bx=>chk (ZbT vd&&(ZbT vs&&!bx.fz)) (m.free bx.b->∃(o:Nat)(xs:List Value),slA vd=some ⟨bx.b,o,none⟩/\xs.length=min (slN vs) (slN vd)*j.size/\o+xs.length<=bx.cs.length/\(∀u∈xs,u.oneCell'=true)/\
    (rowRd m (slA vs) xs\/∃o',slA vs=some ⟨bx.b,o',none⟩/\∀i u,xs[i]?=some u->bx.cs[o'+i]?=some u)/\K ((min (slN vs) (slN vd):Nat):Int) (S.setL id (some { bx with cs:=ZaC bx.cs o xs })))
theorem Zkn{P:Program}{w:World}{m:Mem}{x:Box}(hx:Own m w x)(o:Nat)(xs:List Value)(h1:∀u∈xs,u.oneCell'=true)(hb:o+xs.length<=x.cs.length):
  ∃w',(storeCells ⟨x.b,o,none⟩ xs 0).run P w=.ok () w'/\w'.os=w.os/\w'.tape=w.tape/\w'.output=w.output/\w'.heap.size=w.heap.size/\(∀k,k≠x.b->w'.heap[k]?=w.heap[k]?)/\
   (x.fz=false->Own m w' { x with cs:=ZaC x.cs o xs }):=by
 obtain⟨sp,fr,hh,hc,hf⟩:=hx.cells
 have h3:=Zbr (P:=P) x.b o x.T fr xs 0 _ w hh (λo ho=>hf o (by simpa[hc]using ho)) (by simp at hc ⊢;omega) h1
 have h4:(storeCells ⟨x.b,o,none⟩ xs 0).run P w=.ok () (w.setRow x.b (ZaC (x.cs++sp) o xs).toArray):=by
  rw[h3]
  simp[ZaC]
 refine⟨_,h4,rfl,rfl,rfl,by simp,λk hk=>setRow_other w x.b k _ hk,λhz=>?_⟩
 refine⟨⟨sp,fr,?_,?_,hf⟩,λ_=>hx.free hz,λhz'=>by simp[hz]at hz',λdW=>?_⟩
 ·rw[setRow_heap w x.b _ _ x.T fr hh,Ze2 (by omega)]
 ·have:=Zb4 (cs:=x.cs) (o:=o) (vs:=xs) (by omega)
  simp only[zA1]at hc ⊢
  omega
 ·have:=hx.whole dW
  show(ZaC x.cs o xs).length=x.cap
  rw[Zb4 (by omega)];exact this
section
variable {C:Ctx} {S:St} {m:Mem} {a:Act} {w:World}
theorem Zl2{E:Env}(hE:E.ok){T xT ty:TypeId}{id:Nat}{vd vs:Value}{K:Int->St->Prop}(hr:Rel C S m a w)(h:ZnX E S m T id vd vs K):
  ∃n S' w',K n S'/\Rel C S' m a w'/\(Builtin.copy_ #[T,xT] ty #[vd,vs]).run E.P w=.ok (.int .i64 n) w':=by
 unfold ZnX at h
 cases hs:Zau E T with
 | none=>simp[hs]at h
 | some ej=>
  obtain⟨e,j⟩:=ej
  simp only[hs]at h
  cases hL:S.L id with
  | none=>simp[hL]at h
  | some bx=>
   simp only[hL]at h
   obtain⟨h1,hq⟩:=Zag h
   simp only[zA7,Bool.not_eq_true']at h1
   obtain⟨o,xs,h2,h3,h4,h5,h6,hk⟩:=hq ((hr.own id bx hL).free h1.2.2)
   clear hq h
   have qz:=Zbh h1.1
   have eC:=Zbh h1.2.1
   generalize slA vd=ad at *
   generalize slN vd=nd at *
   generalize slC vd=cd at *
   generalize slA vs=as at *
   generalize slN vs=ns at *
   generalize slC vs=cs at *
   subst qz eC h2
   obtain⟨i,ir,gM,j3⟩:=ZaN hs
   have dU:=hE e j j3
   have hu:=(hE T i ir).run_und (w:=w)
   rw[gM]at hu
   have bE:=dU.run_size (w:=w)
   have lS:=hr.own id bx hL
   have kV:(Builtin.firstCells j.size (min ns nd) (.slice as ns cs)).run E.P w=.ok xs.toArray w:=by
    rcases h6 with h6|⟨o',h6,h7⟩
    ·exact Za9 hr.sub h6 _ _ _ _ h3
    ·subst h6
     refine run_firstCells_some w j.size _ _ ns cs xs h3 (λi u hu=>?_)
     rw[ZbD]
     obtain⟨sp,fr,hh,_⟩:=lS.cells
     have h8:=h7 i u hu
     have h9:=(zA0 h8).1
     simp only[World.cell?,hh,Option.isSome_none,Bool.false_eq_true,if_false,List.getElem?_toArray]
     rw[zA5 h9];exact h8
   obtain⟨w',aR,e1,e2,e3,e4,e5,e6⟩:=Zkn (P:=E.P) lS o xs h5 h4
   refine⟨_,_,w',hk,hr.store hL h1.2.2 rfl e1 e2 e3 e4 e5 (e6 h1.2.2),?_⟩
   have iR:Nat.min ns nd=min ns nd:=rfl
   simp[Builtin.copy_,hu,Builtin.lenOf,bE,iR,kV,aR,goInt]
end
def Mem.or(a b:Mem):Mem:=⟨λi o=>match a i o with
 | some v=>some v
 | none=>b i o,λi=>match a.k i with
 | some v=>some v
 | none=>b.k i⟩
theorem Mem.le_or(a b:Mem):a.le (a.or b):=⟨λi o v h=>by simp[Mem.or,h],λi v h=>by simp[Mem.or,h]⟩
theorem Mem.or_k{a b:Mem}{i:Nat}{v:List (Value×Value)}(h:(a.or b).k i=some v):a.k i=some v\/(a.k i=none/\b.k i=some v):=by
 unfold Mem.or at h
 cases ha:a.k i with
 | some u=>simp[ha]at h;exact .inl (by rw[h])
 | none=>simp[ha]at h;exact .inr ⟨rfl,h⟩
theorem Mem.or_some{a b:Mem}{i o:Nat}{v:Value}(h:a.or b i o=some v):a i o=some v\/(a i o=none/\b i o=some v):=by
 unfold Mem.or at h
 cases ha:a i o with
 | some u=>simp[ha]at h;exact .inl (by rw[h])
 | none=>simp[ha]at h;exact .inr ⟨rfl,h⟩
def MapFind(P:Program)(T:TypeId)(k:Value):List (Value×Value)->Option Value->Prop
 | [],r=>r=none
 | e::es,r=>(EqIs P T k e.1 true/\r=some e.2)\/(EqIs P T k e.1 false/\MapFind P T k es r)
def Zia(P:Program)(T:TypeId)(k z:Value):List (Value×Value)->List (Value×Value)->Prop
 | [],r=>r=[(k,z)]
 | e::l,r=>(EqIs P T k e.1 true/\Instr.sameBits 10000 e.1 k=true/\r=(k,z)::l)\/(EqIs P T k e.1 false/\∃l',Zia P T k z l l'/\r=e::l')
def Zsj(P:Program)(T:TypeId)(v:Value):Prop:=∀(b:Bool)(w:World),(Instr.checkKey b 10000 T v).run P w=.ok () w
def LookIs(P:Program)(T:TypeId)(k:Value)(es:List (Value×Value))(z v:Value)(ok:Bool):Prop:=∃r,MapFind P T k es r/\v=r.getD z/\ok=r.isSome
def Mem.updK(m:Mem)(b:Nat)(e:List (Value×Value)):Mem:=⟨m.c,λi=>if i=b then some e else m.k i⟩
theorem Mem.updK_same(m:Mem)(b:Nat)(e:List (Value×Value)):(m.updK b e).k b=some e:=by simp[Mem.updK]
theorem Mem.updK_other(m:Mem){b b':Nat}(h:b'≠b)(e:List (Value×Value)):(m.updK b e).k b'=m.k b':=by simp[Mem.updK,h]
theorem Mem.le_updK{m0 m:Mem}(h:m0.le m){b:Nat}(hb:m0.k b=none)(e:List (Value×Value)):m0.le (m.updK b e):=⟨h.c,λi x hx=>by
 by_cases hi:i=b
 ·subst hi;rw[hb]at hx;cases hx
 ·rw[Mem.updK_other m hi];exact h.k i x hx⟩
def Mem.newC(m mi:Mem)(b:Nat):Prop:=∃o v,mi b o=some v/\m b o=none
def Mem.newK(m mi:Mem)(b:Nat):Prop:=∃e,mi.k b=some e/\m.k b=none
noncomputable def Mem.less(m m0 mi:Mem):Mem:=⟨λb o=>open Classical in if m0.newC mi b then none else m b o,λb=>open Classical in if m0.newK mi b then none else m.k b⟩
theorem Sub.le_or{a b:Mem}{w:World}(ha:Sub a w)(hb:Sub b w):b.le (a.or b):=⟨λi o v h=>by
 cases he:a i o with
 | none=>simp[Mem.or,he,h]
 | some u=>
  have h1:=ha.c i o u he
  rw[hb.c i o v h]at h1
  simp[Mem.or,he,Option.some.inj h1],λi e h=>by
 cases he:a.k i with
 | none=>simp[Mem.or,he,h]
 | some u=>
  obtain⟨es,c,h1,h2⟩:=ha.k i u he
  obtain⟨es',c',h3,h4⟩:=hb.k i e h
  rw[h1]at h3;cases h3
  simp[Mem.or,he,<-h2,<-h4]⟩
def ZnY(E:Env)(T:TypeId):Option (TypeId×TI):=match E.tt T with
 | none=>none
 | some i=>match i.d with
  | .map k e=>match E.tt k,E.tt e with
   | some _,some ei=>some (k,ei)
   | _,_=>none
  | _=>none
theorem Zjv{E:Env}{T k:TypeId}{ei:TI}(h:ZnY E T=some (k,ei)):∃i e ki,E.tt T=some i/\i.d=.map k e/\E.tt k=some ki/\E.tt e=some ei:=by
 unfold ZnY at h
 cases ht:E.tt T with
 | none=>simp[ht]at h
 | some i=>
  simp only[ht]at h
  cases hd:i.d with
  | map k' e=>
   simp only[hd]at h
   cases hk:E.tt k' with
   | none=>simp[hk]at h
   | some ki=>
    cases he:E.tt e with
    | none=>simp[hk,he]at h
    | some ei'=>
     simp only[hk,he,Option.some.injEq,Prod.mk.injEq]at h
     obtain⟨rfl,rfl⟩:=h
     exact⟨i,e,ki,rfl,hd,hk,he⟩
  | _=>simp[hd]at h
def ZuF(E:Env)(S:St)(m:Mem)(T:TypeId)(x y:Operand)(ok:Bool)(K:Value->Prop):Prop:=wv S x λvm=>wv S y λvk=>match ZnY E T with
 | none=>False
 | some (k,ei)=>∃(b:Nat) (es:List (Value×Value)) (v:Value) (o:Bool),vm=.map (some b)/\m.k b=some es/\Zsj E.P k vk/\LookIs E.P k vk es ei.zero v o/\K (bif ok then .tuple #[v,.bool o]else v)
def ZqC(E:Env)(S:St)(m:Mem)(T:TypeId)(x y z:Operand)(K:Mem->Prop):Prop:=wv S x λvm=>wv S y λvk=>wv S z λvz=>match ZnY E T with
 | none=>False
 | some (k,_)=>match E.m0 with
  | none=>False
  | some m0=>chk (!S.fo) (∃(b:Nat) (es es':List (Value×Value)),vm=.map (some b)/\m.k b=some es/\Zsj E.P k vk/\Zia E.P k vk vz es es'/\m0.k b=none/\K (m.updK b es'))
def Ztc(S:St)(m:Mem)(r:Option Operand)(d:Option Tmp)(K:St->Mem->Prop):Prop:=match r with
 | some _=>False
 | none=>∀b,m.free b->m.k b=none->K (S.put d (some (.v (.map (some b))))) (m.updK b [])
section
variable {C:Ctx} {S:St} {m:Mem} {a:Act} {w:World}
theorem Zpb{P:Program}{k:TypeId}{kv:Value}{w:World}:∀{l:List MapEntry} {r:Option Value} {i:Nat},MapFind P k kv (l.map λx=>(x.key,x.val)) r->∃q:Option (Nat×Value),(Instr.findAsking k kv l i).run P w=.ok q w/\q.map (·.2)=r
 | [],r,i,h=>⟨none,rfl,by simp only[List.map_nil,MapFind]at h;rw[h];rfl⟩
 | e::l,r,i,h=>by
  simp only[List.map_cons,MapFind]at h
  rcases h with⟨h1,rfl⟩|⟨h1,h2⟩
  ·exact⟨some (i,e.val),by simp[Instr.findAsking,h1.1 w,Result.andThen],rfl⟩
  ·obtain⟨q,h3,h4⟩:=Zpb (w:=w) (i:=i+1) h2
   exact⟨q,by simp[Instr.findAsking,h1.1 w,Result.andThen,h3],h4⟩
theorem Zu6{P:Program}{K:TypeId}{d:TypeDesc}(hu:P.underlying K=some d){a b:Value}{r:Bool}(h:Instr.sameNow d a b=some r)(n:Nat)(w:World):(Op.equalIn (n+1) K a b).run P w=.ok r w:=by
 unfold Instr.sameNow at h
 split at h
 ·split at h
  ·rename_i e
   cases h;subst e
   rw[Op.equalIn]
   simp[run_underlying hu,Result.andThen]
  ·cases h
 ·cases h
  rw[Op.equalIn]
  simp[run_underlying hu,Result.andThen]
 ·cases h
  rw[Op.equalIn]
  simp[run_underlying hu,Result.andThen]
 ·cases h
theorem Zlu{P:Program}{K:TypeId}{d:TypeDesc}(hu:P.underlying K=some d){a b:Value}{r:Bool}(h:Instr.sameNow d a b=some r)(w:World):(Op.equal K a b).run P w=.ok r w:=Zu6 hu h 9999 w
theorem Zsk{P:Program}{K:TypeId}{d:TypeDesc}(hu:P.underlying K=some d){kv:Value}{w:World}:∀{l:List MapEntry} {i:Nat} {r:Option (Nat×Value)},Instr.findNow d kv l i=some r->(Instr.findAsking K kv l i).run P w=.ok r w
 | [],i,r,h=>by simp only[Instr.findNow,Option.some.injEq]at h;subst h;rfl
 | e::l,i,r,h=>by
  unfold Instr.findNow at h
  split at h
  ·rename_i hs
   cases h
   simp[Instr.findAsking,Zlu hu hs,Result.andThen]
  ·rename_i hs
   simp[Instr.findAsking,Zlu hu hs,Result.andThen,Zsk hu h]
  ·cases h
theorem Zsl{P:Program}{K:TypeId}{d:TypeDesc}(hu:P.underlying K=some d){kv:Value}{w:World}{l:List MapEntry}{q:Option (Nat×Value)}(h:(Instr.findAsking K kv l 0).run P w=.ok q w):(Instr.findKey K kv l).run P w=.ok q w:=by
 simp only[Instr.findKey,Sem.run_bind,run_underlying hu,Result.andThen]
 split
 ·rename_i r hr
  rw[Zsk hu hr]at h
  cases h;rfl
 ·exact h
theorem Zl3{P:Program}{k:TypeId}{d:TypeDesc}{kv:Value}{w:World}{l:List MapEntry}{r:Option Value}(hu:P.underlying k=some d)(h:MapFind P k kv (l.map λx=>(x.key,x.val)) r):
  ∃q:Option (Nat×Value),(Instr.findKey k kv l).run P w=.ok q w/\q.map (·.2)=r:=by
 obtain⟨q,h1,h2⟩:=Zpb (w:=w) (i:=0) h
 exact⟨q,Zsl hu h1,h2⟩
theorem Zsm{P:Program}{k:TypeId}{kv z:Value}{w:World}:∀{l:List MapEntry} {r:List (Value×Value)} {i:Nat},Zia P k kv z (l.map λx=>(x.key,x.val)) r->∃q:Option (Nat×Value),(Instr.findAsking k kv l i).run P w=.ok q w/\(match q with
  | none=>r=(l.map λx=>(x.key,x.val))++[(kv,z)]
  | some (j,_)=>∃(d:Nat)(e:MapEntry),j=i+d/\l[d]?=some e/\Instr.sameBits 10000 e.key kv=true/\r=(l.modify d λe=>{ e with key:=kv,val:=z }).map λx=>(x.key,x.val))
 | [],r,i,h=>⟨none,rfl,by simp only[List.map_nil,Zia]at h;simpa using h⟩
 | e::l,r,i,h=>by
  simp only[List.map_cons,Zia]at h
  rcases h with⟨h1,h2,rfl⟩|⟨h1,l',h2,rfl⟩
  ·exact⟨some (i,e.val),by simp[Instr.findAsking,h1.1 w,Result.andThen],0,e,by simp,by simp,h2,by simp⟩
  ·obtain⟨q,h3,h4⟩:=Zsm (w:=w) (i:=i+1) h2
   refine⟨q,by simp[Instr.findAsking,h1.1 w,Result.andThen,h3],?_⟩
   cases q with
   | none=>simp only at h4 ⊢;simp[h4]
   | some q=>
    obtain⟨j,u⟩:=q
    simp only at h4 ⊢
    obtain⟨d,e',g1,g2,g3,g4⟩:=h4
    exact⟨d+1,e',by omega,by simpa using g2,g3,by simp[g4]⟩
theorem Zoc{P:Program}{k:TypeId}{d:TypeDesc}{kv z:Value}{w:World}{l:List MapEntry}{r:List (Value×Value)}(hu:P.underlying k=some d)(h:Zia P k kv z (l.map λx=>(x.key,x.val)) r):
  ∃q:Option (Nat×Value),(Instr.findKey k kv l).run P w=.ok q w/\(match q with
  | none=>r=(l.map λx=>(x.key,x.val))++[(kv,z)]
  | some (j,_)=>∃(e:MapEntry),l[j]?=some e/\Instr.sameBits 10000 e.key kv=true/\r=(l.modify j λe=>{ e with key:=kv,val:=z }).map λx=>(x.key,x.val)):=by
 obtain⟨q,h1,h2⟩:=Zsm (w:=w) (i:=0) h
 refine⟨q,Zsl hu h1,?_⟩
 cases q with
 | none=>exact h2
 | some q=>
  obtain⟨j,u⟩:=q
  simp only at h2 ⊢
  obtain⟨d,e,g1,g2,g3,g4⟩:=h2
  rw[Nat.zero_add]at g1
  subst g1
  exact⟨e,g2,g3,g4⟩
theorem Zl4{E:Env}(hE:E.ok)(hr:Rel C S m a w){T:TypeId}{x y:Operand}{ok:Bool}{K:Value->Prop}(h:ZuF E S m T x y ok K):∃v,K v/\(Instr.lookup T (a.eval x) (a.eval y) ok).run E.P w=.ok v w:=by
 unfold ZuF at h
 obtain⟨vm,qA,h⟩:=Zav h
 obtain⟨vk,qB,h⟩:=Zav h
 cases hm:ZnY E T with
 | none=>simp[hm]at h
 | some q=>
  obtain⟨k,ei⟩:=q
  simp only[hm]at h
  obtain⟨b,es,v,o,rfl,h1,h2,⟨r,h3,h4,h5⟩,h6⟩:=h
  obtain⟨i,e,ki,g1,g2,g3,g4⟩:=Zjv hm
  obtain⟨arr,cl,h7,h8⟩:=hr.sub.k b es h1
  refine⟨_,h6,?_⟩
  rw[hr.ev qA,hr.ev qB]
  have hu:E.P.underlying T=some (.map k e):=by rw[(hE T i g1).und,g2]
  have qC:E.P.underlying k=some ki.d:=(hE k ki g3).und
  obtain⟨q,h9,gu⟩:=Zl3 (w:=w) (l:=arr.toList) qC (by rw[h8];exact h3)
  have hz:=(hE e ei g4).run_zero (w:=w)
  have hg:(getObj b).run E.P w=.ok (.map arr cl) w:=MapKept.run_getObj_map h7
  simp only[Instr.lookup,Sem.run_bind,run_underlying hu,Result.andThen,hg,h2 arr.isEmpty w,h9]
  cases q with
  | none=>
   simp only[Option.map_none]at gu
   subst gu
   simp only[Option.getD_none]at h4;subst h4
   simp only[Option.isSome_none]at h5;subst h5
   cases ok <;> simp[hz,Result.andThen,h2 arr.isEmpty w,h9]
  | some q=>
   simp only[Option.map_some]at gu
   subst gu
   simp only[Option.getD_some]at h4;subst h4
   simp only[Option.isSome_some]at h5;subst h5
   cases ok <;> simp[Result.andThen,h2 arr.isEmpty w,h9]
theorem Rel.storeMap(hr:Rel C S m a w){b:Nat}{es0:Array MapEntry}{cl0:Nat}{arr:Array MapEntry}{cl:Nat}(hb:w.heap[b]?=some (.map es0 cl0))(hM:∀M,Dom C S m a w M->M b)(h0:C.me.k b=none):
  Rel C S (m.updK b (arr.toList.map λx=>(x.key,x.val))) a (w.putObj b (.map arr cl)):=by
 have aC:=(Array.getElem?_eq_some_iff.1 hb).1
 have aT:∀k,k≠b->(w.putObj b (.map arr cl)).heap[k]?=w.heap[k]?:=λk hk=>World.putObj_heap_other hk
 have dJ:(w.putObj b (.map arr cl)).heap[b]?=some (.map arr cl):=World.putObj_heap_same aC
 have bV:∀(k:Nat) c T fr,w.heap[k]?=some (Obj.cells c T fr)->k≠b:=λk c T fr hk e=>by rw[e,hb]at hk;cases hk
 obtain⟨es,q1,q2,q3⟩:=hr.defers
 have uT:∀k t b',S.tok k=some t->t.blk=some b'->b'≠b:=λk t b' ht hb' e=>by
  rcases(hr.toks k t ht).1 with q0|⟨b1,o0,n,c,cur,T,fr,hv,_,hh,_⟩
  ·simp[Tok.blk,q0]at hb'
  ·simp[Tok.blk,hv]at hb';subst hb';exact bV _ _ _ _ hh e
 refine⟨⟨es,q1,q2,λD hD=>?_⟩,hr.size,hr.env,λid x hx=>?_,hr.apart,hr.ids,λk t ht=>?_,hr.tkeys,hr.tapart,⟨λb' o v hv=>?_,λb' e he=>?_⟩,Mem.le_updK hr.le h0 _,?_,hr.fo⟩
 ·rw[aT D (λe=>by have:=q3 D hD;rw[e,hb]at this;cases this)];exact q3 D hD
 ·have ho:=hr.own id x hx
  obtain⟨c,T,fr,hh⟩:=ho.isC
  exact⟨by rw[aT _ (bV _ _ _ _ hh)];exact ho.cells,ho.free,ho.known,ho.whole⟩
 ·obtain⟨g1,g2⟩:=hr.toks k t ht
  exact⟨g1.same (λb' hb'=>aT _ (uT k t b' ht hb')) (λ_ _ _ h=>h),g2⟩
 ·have h1:=hr.sub.c b' o v hv
  have h2:∃c T fr,w.heap[b']?=some (Obj.cells c T fr):=by
   unfold World.cell? at h1
   split at h1
   ·rename_i c T fr hc;exact⟨c,T,fr,hc⟩
   ·cases h1
  obtain⟨c,T,fr,hh⟩:=h2
  rw[ZbB (aT _ (bV _ _ _ _ hh))];exact h1
 ·by_cases dS:b'=b
  ·subst dS
   rw[Mem.updK_same]at he;cases he
   exact⟨arr,cl,dJ,rfl⟩
  ·rw[Mem.updK_other m dS]at he
   exact(hr.sub.k b' e he).same (aT b' dS)
 ·obtain⟨M,hd⟩:=hr.dom
  have jf:=hM M hd
  have hu:Upd M w (w.putObj b (.map arr cl)):=⟨rfl,rfl,rfl,by simp[World.putObj],λk hk hn=>aT k (λe=>hn (e ▸ jf)),λk _ hk=>by
   by_cases eW:k=b
   ·subst eW
    intro c1 T1 fr1 hh i hi
    rw[dJ]at hh;cases hh
   ·exact hk.of_eq (aT k eW)⟩
  exact⟨_,hd.step hu ⟨λ_ _ _ h=>.inl h,λb' e he=>by
   by_cases dS:b'=b
   ·exact .inr (.inl (dS ▸ jf))
   ·rw[Mem.updK_other m dS]at he;exact .inl he⟩⟩
theorem Zko{E:Env}(hE:E.ok)(hY:YOk E C)(hr:Rel C S m a w){T:TypeId}{x y z:Operand}{K:Mem->Prop}(h:ZqC E S m T x y z K):
  ∃m' w',K m'/\Rel C S m' a w'/\(Instr.mapUpdate T (a.eval x) (a.eval y) (a.eval z)).run E.P w=.ok () w':=by
 unfold ZqC at h
 obtain⟨vm,qA,h⟩:=Zav h
 obtain⟨vk,qB,h⟩:=Zav h
 obtain⟨vz,uU,h⟩:=Zav h
 cases hm:ZnY E T with
 | none=>simp[hm]at h
 | some q=>
  obtain⟨k,ei⟩:=q
  simp only[hm]at h
  cases eD:E.m0 with
  | none=>simp[eD]at h
  | some mm=>
   simp only[eD]at h
   obtain⟨h1,b,es,es',rfl,h2,h3,h4,h5,h6⟩:=Zag h
   have jj:S.fo=false:=by simpa using h1
   have fm:C.me=mm:=(hr.fo jj).trans (hY.m0 mm eD).1
   obtain⟨i,e,ki,g1,g2,g3,g4⟩:=Zjv hm
   obtain⟨arr,cl,h7,h8⟩:=hr.sub.k b es h2
   have hu:E.P.underlying T=some (.map k e):=by rw[(hE T i g1).und,g2]
   have qC:E.P.underlying k=some ki.d:=(hE k ki g3).und
   obtain⟨q,h9,gu⟩:=Zoc (w:=w) (l:=arr.toList) qC (by rw[h8];exact h4)
   have hM:∀M,Dom C S m a w M->M b:=λM hd=>by
    rcases hd.new.k b es h2 with kY|kY
    ·rw[fm,h5]at kY;cases kY
    ·exact kY
   rw[hr.ev qA,hr.ev qB,hr.ev uU]
   have hg:(getObj b).run E.P w=.ok (.map arr cl) w:=MapKept.run_getObj_map h7
   cases q with
   | none=>
    have cA:=hr.storeMap (arr:=arr.push { key:=vk,val:=vz,born:=cl }) (cl:=cl+1) h7 hM (by rw[fm];exact h5)
    have e1:(arr.push { key:=vk,val:=vz,born:=cl }).toList.map (λx=>(x.key,x.val))=es':=by simp only at gu;rw[gu];simp
    rw[e1]at cA
    refine⟨_,_,h6,cA,?_⟩
    have hs:(setObj b (.map (arr.push { key:=vk,val:=vz,born:=cl }) (cl+1))).run E.P w=.ok () (w.putObj b (.map (arr.push { key:=vk,val:=vz,born:=cl }) (cl+1))):=MapKept.run_setObj_map _ h7
    simp only[Instr.mapUpdate,Sem.run_bind,run_underlying hu,Result.andThen,hg,h3 false w,h9]
    exact hs
   | some q=>
    obtain⟨j,u⟩:=q
    simp only at gu
    obtain⟨e0,q1,q2,q3⟩:=gu
    have cA:=hr.storeMap (arr:=arr.modify j λe=>{ e with key:=vk,val:=vz }) (cl:=cl) h7 hM (by rw[fm];exact h5)
    have e1:(arr.modify j λe=>{ e with key:=vk,val:=vz }).toList.map (λx=>(x.key,x.val))=es':=by rw[q3];simp
    rw[e1]at cA
    refine⟨_,_,h6,cA,?_⟩
    have hs:(setObj b (.map (arr.modify j λe=>{ e with key:=vk,val:=vz }) cl)).run E.P w=.ok () (w.putObj b (.map (arr.modify j λe=>{ e with key:=vk,val:=vz }) cl)):=MapKept.run_setObj_map _ h7
    have hk:(Instr.keyThatStays (((arr[j]?).map (·.key)).getD vk) vk).run E.P w=.ok vk w:=by
     have:arr[j]?=some e0:=by simpa using q1
     simp[Instr.keyThatStays,this,q2]
    simp only[Instr.mapUpdate,Sem.run_bind,run_underlying hu,Result.andThen,hg,h3 false w,h9,hk]
    exact hs
theorem Zkp{E:Env}{T:TypeId}{r:Option Operand}{d:Option Tmp}(hd:∀t,d=some t->t < C.n){K:St->Mem->Prop}(hr:Rel C S m a w)(h:Ztc S m r d K):
  ∃S' m' v w',K S' m'/\Rel C S' m' (a.put d v) w'/\(Instr.makeMap T (r.map a.eval)).run E.P w=.ok v w':=by
 cases r with
 | some r=>exact h.elim
 | none=>
  have aC:∀e,m.k w.heap.size≠some e:=λe he=>by have:=(hr.sub.k _ e he).lt;omega
  have hk:m.k w.heap.size=none:=by
   cases he:m.k w.heap.size with
   | none=>rfl
   | some e=>exact(aC e he).elim
  have aU:m.free w.heap.size:=λo=>by
   cases he:m w.heap.size o with
   | none=>rfl
   | some v=>have:=hr.sub.lt he;omega
  have h1:=h w.heap.size aU hk
  have hs:Sub (m.updK w.heap.size []) (w.alloc (.map #[] 0)):=⟨(hr.sub.alloc _).c,λb e he=>by
   by_cases hb:b=w.heap.size
   ·subst hb
    rw[Mem.updK_same]at he;cases he
    exact⟨#[],0,heap_alloc_new w _,rfl⟩
   ·rw[Mem.updK_other m hb]at he
    exact(hr.sub.alloc _).k b e he⟩
  have hw:=hr.world (w':=w.alloc (.map #[] 0)) (m':=m.updK w.heap.size []) (Keep.alloc (Nat.le_refl _) (λc T fr e=>by cases e)) hs (Mem.le_updK (Mem.le_refl m) hk _) ⟨λ_ _ _ h=>.inl h,λb e he=>by
   by_cases hb:b=w.heap.size
   ·exact .inr ⟨Nat.le_of_eq hb.symm,by rw[hb];exact Wr.new (λc T fr e=>by cases e)⟩
   ·rw[Mem.updK_other m hb]at he;exact .inl he⟩
  exact⟨_,_,.map (some w.heap.size),_,h1,hw.put d hd rfl,by simp[Instr.makeMap,Result.andThen]⟩
end
theorem Zu7{P:Program}{K:TypeId}(hu:P.underlying K=some .string)(v:Value)(b:Bool)(n:Nat)(w:World):(Instr.checkKey b (n+1) K v).run P w=.ok () w:=by
 rw[Instr.checkKey]
 simp[run_underlying hu,Result.andThen]
theorem Ztd{P:Program}{K:TypeId}{d:TypeDesc}(hu:P.underlying K=some d){a b:Value}{r:Bool}(h:Instr.sameNow d a b=some r)(hg:∀(op:BinOp)(ox oy:Operand) w,(eqGuard op K ox oy a b).run P w=.ok () w):EqIs P K a b r:=⟨λw=>Zlu hu h w,hg⟩
theorem Zib{P:Program}{K:TypeId}(hu:P.underlying K=some .string)(v:Value):Zsj P K v:=λb w=>Zu7 hu v b 9999 w
def opW(E:Env)(S:St)(m:Mem)(o:Oper)(K:St->Mem->Prop):Prop:=match o.op with
 | .move x=>K (S.put o.dst (S.ev x)) m
 | .assign x=>K (S.put o.dst (S.ev x)) m
 | .pick c x y=>wv S c λv=>chk (ZfR v) (br (Zcx v) (K (S.put o.dst (S.ev x)) m) (K (S.put o.dst (S.ev y)) m))
 | .load T x=>match Zsh E o.dst with
  | none=>ZeB E S m T x λv=>K (S.put o.dst (some (.v v))) m
  | some y=>ZeB E S m T x λv=>ldW y v λv=>K (S.put o.dst (some (.v v))) m
 | .store T x y=>wv S y λv=>match Zl1 E x with
  | none=>Zfx E S T x v λS'=>K (S'.put o.dst none) m
  | some key=>bif E.fix.isSome then False else Zf1 E S m T key x v λm'=>K (S.put o.dst none) m'
 | .alloc T=>Zqz E S T o.dst λS'=>K S' m
 | .box T x=>wv S x λv=>bif Ze7 E o.dst then(bif E.fix.isSome then False else ZwL E S m T v o.dst K)else ZyA E S T v o.dst λS'=>K S' m
 | .buildSlice T len parts=>match Zcz E o.dst with
  | none=>ZdE E S m T len parts.toList o.dst K
  | some ke=>bif E.fix.isSome then False else match len,parts.toList with
   | 0,[]=>Zkj E S (some m) T (.const (.int .i64 0)) (.const (.int .i64 0)) o.dst ke.1 λS'=>K S' m
   | _,_=>False
 | .makeSlice T l c=>match Zcz E o.dst with
  | none=>ZuE E S T l c o.dst λS'=>K S' m
  | some ke=>bif E.fix.isSome then False else Zkj E S none T l c o.dst ke.1 λS'=>K S' m
 | .lookup T x y ok=>ZuF E S m T x y ok λv=>K (S.put o.dst (some (.v v))) m
 | .mapUpdate T x y z=>bif E.fix.isSome||!E.thaw then False else ZqC E S m T x y z λm'=>K (S.put o.dst none) m'
 | .makeMap T r=>bif E.fix.isSome then False else Ztc S m r o.dst K
 | .convert s d x=>bif Zcn E s d then(bif E.fix.isSome then False else ZwM S m x o.dst K)
  else bif Zco E s d then(Zkk E S m x λv=>K (S.put o.dst (some (.v v))) m)
  else Zcc E S o λsv=>K (S.put o.dst (some sv)) m
 | .call c=>match c.callee with
  | .value f=>Zu2 E o.dst S m (Zu4 E o.type o.dst f c.args.toList K)
  | .builtin .append=>match c.args.toList,c.argTypes.toList,o.dst with
   | [s,x],[T,xT],some d=>Zu2 E (some d) S m λS m=>wv S s λvs=>wv S x λvx=>ZfY E S m T xT (E.tokOf d) (E.app0 d) vs vx λv tk m'=>K ({ S with tok:=tk,tkeys:=E.tokOf d::S.tkeys }.put (some d) (some (.v v))) m'
   | _,_,_=>False
  | .builtin .copy=>match c.args.toList,c.argTypes.toList with
   | [d,s],[T,xT]=>(match ZeA E d with
    | none=>False
    | some id=>wv S d λvd=>wv S s λvs=>ZnX E S m T id vd vs λn S'=>K (S'.put o.dst (some (.v (.int .i64 n)))) m)
   | _,_=>False
  | _=>Zcc E S o λsv=>K (S.put o.dst (some sv)) m
 | _=>Zcc E S o λsv=>K (S.put o.dst (some sv)) m
section
variable {C:Ctx} {S:St} {m:Mem} {a:Act} {w:World}
theorem Zf4{E:Env}(hE:E.ok){o:Oper}(hd:∀t,o.dst=some t->t < C.n)(hr:Rel C S m a w){K:St->Mem->Prop}(h:Zcc E S o λsv=>K (S.put o.dst (some sv)) m){F:Fence}{n:Nat}{next:Act->World->Prop}{Q:Exit->Act->World->Prop}
  (hK:∀S' m' a' w',K S' m'->Rel C S' m' a' w'->next a' w'):o.uponIn F n E.P a next Q ((execOp a.eval o).run E.P w):=by
 obtain⟨sv,v,hk,qD,aR⟩:=ZlR hE hr h
 rw[aR]
 exact hK _ _ _ _ hk (hr.put o.dst hd qD)
theorem Zod{w:World}{E:Env}{g:FuncId}{args:List Value}{K:SV->Prop}(h:Zyz E S g args K):
  ∃v,K (.v v)/\(callFunc g args.toArray).run E.P w=.ok (.value v) w:=by
 obtain⟨v,h1,h2⟩:=h
 exact⟨v,h2,h1 w⟩
theorem Zkq{C:Ctx}{S:St}{m:Mem}{a:Act}{w:World}{E:Env}{rt:TypeId}{g:FuncId}{args:List Value}{key esz:Nat}{K:Value->St->Mem->Prop}(hr:Rel C S m a w)(h:Zh7 E S m rt g args key esz K):
  ZdC E.P g/\Calls E.P g args.toArray w λe w'=>∃v S' m',e=.returned v/\K v S' m'/\Rel C S' m' a w':=by
 obtain⟨R,h⟩:=h
 obtain⟨fM,dX,cR⟩:=Zqv h
 refine⟨fM.1,(fM.2 w hr.sub).mono ?_⟩
 rintro e w' ⟨v,m',rfl,bU,dx,bJ,eB,aN,gq,hR⟩
 have hk:=Shape.all_fits _ _ cR v (dX _ _ _ hR) m' bU hR
 have j4:=hr.world eB dx bU bJ
 refine⟨v,_,m',rfl,hk,j4.tokUpd key ⟨v,esz⟩ aN (λb hb=>?_) ?_⟩
 ·have bG:=gq b hb
  refine⟨⟨λid x hx e=>?_,λo=>?_⟩,λk' t' _ hk' hb'=>?_⟩
  ·have:=(hr.own id x hx).lt;omega
  ·cases he:C.me b o with
   | none=>rfl
   | some u=>have:=hr.sub.lt (hr.le _ _ _ he);omega
  ·have:=(hr.toks k' t' hk').1.lt hb';omega
 ·obtain⟨M,hd⟩:=hr.dom
  refine⟨_,hd.step (m':=m') (eB.upd (by simp)) (bJ.grown dx _),λb hb=>?_⟩
  exact .inr ⟨gq b hb,aN.lt hb,aN.wr hb⟩
theorem Zkr{C:Ctx}{S:St}{m:Mem}{a:Act}{w:World}{E:Env}{rt:TypeId}{g:FuncId}{args:List Value}{ids:List Nat}{ks:List (Nat×Nat)}{K:Value->St->Mem->Prop}(hY:YOk E C)(hr:Rel C S m a w)(h:ZlU E S m rt g args ids ks K):
  ZdC E.P g/\Calls E.P g args.toArray w λe w'=>∃v S' m',e=.returned v/\K v S' m'/\Rel C S' m' a w':=by
 unfold ZlU at h
 cases hb:ZbE S ids with
 | none=>simp[hb]at h
 | some bxs=>
 simp only[hb]at h
 cases eD:E.m0 with
 | none=>simp[eD]at h
 | some mm=>
 simp only[eD]at h
 obtain⟨h1,Y,R,fM,c1,c2,dX,cR⟩:=Zag h
 simp only[zA7,List.all_eq_true,Bool.not_eq_true']at h1
 obtain⟨jj,h1⟩:=h1
 have fm:=hr.fo jj
 obtain⟨iQ,hW⟩:=hY.m0 mm eD
 obtain⟨aH,cH⟩:=Zcm hb
 obtain⟨tlen,tmem⟩:=ZhE (S:=S) (ks:=ks)
 generalize ZeC S ks=tks at *
 have tlen:tks.length=(ks.map (·.1)).length:=by rw[List.length_map];exact tlen
 have na:(ks.map (·.1)).length=ks.length:=List.length_map _
 generalize mg:ks.map (·.1)=kl at *
 have eJ:=ZaS h1.2.1
 have tx:=ZaS h1.2.2
 have tk_of:∀t∈tks,∀b,t.blk=some b->∃k∈kl,S.tok k=some t:=λt ht b hb=>by
  obtain⟨i,hi⟩:=List.getElem?_of_mem ht
  obtain⟨k,q1,q2⟩:=tmem i t hi
  rcases q2 with q2|q2
  ·exact⟨k,zA2 q1,q2⟩
  ·simp[Tok.blk,q2]at hb
 have iv:∀b,Y b->b < w.heap.size/\(∀D,w.heap[b]?≠some (.deferred D))/\C.me.free b/\(∀M,Dom C S m a w M->M b)/\(∀id x,S.L id=some x->x.b≠b)/\(∀k t,S.tok k=some t->t.blk=some b->k∈kl):=λb pO=>by
  rcases c2 b pO with⟨t,ht,dB⟩|⟨⟨q1,q1k⟩,q2,q3⟩
  ·obtain⟨k,hk,gT⟩:=tk_of t ht b dB
   obtain⟨g1,g2⟩:=hr.toks k t gT
   refine⟨g1.lt dB,λD e=>?_,(g2 b dB).2,λM hd=>hd.tok k t b gT dB,(g2 b dB).1,λk' t' hk' hb'=>?_⟩
   ·rcases g1 with g1|⟨b',o0,n,c,cur,T,fr,hv,_,hh,_⟩
    ·simp[Tok.blk,g1]at dB
    ·simp[Tok.blk,hv]at dB;subst dB;rw[hh]at e;cases e
   ·rw[hr.tapart k' k t' t b hk' gT hb' dB];exact hk
  ·rcases q2 with⟨o,v,q2⟩|⟨e0,q2⟩
   ·obtain⟨q4,q5⟩:=Zfa q3
    have hs:=hr.sub b o v q2
    refine⟨hr.sub.lt q2,λD e=>?_,by rw[fm,iQ];exact q1,λM hd=>?_,λid x hx e=>?_,λk t gT dB=>?_⟩
    ·unfold World.cell? at hs
     rw[e]at hs
     simp at hs
    ·rcases hd.new b o v q2 with h6|h6
     ·rw[fm,iQ,q1]at h6;cases h6
     ·exact h6
    ·have ho:=hr.own id x hx
     cases hz:x.fz with
     | true=>exact q5 id x (hr.ids id x hx) hx hz e
     | false=>
      have:=ho.free hz o
      rw[e,q2]at this;cases this
    ·exact Classical.byContradiction λhn=>ZgM q4 k t (hr.tkeys k t gT) gT hn dB
   ·have hs:=hr.sub.k b e0 q2
    obtain⟨es,cl,g1,_⟩:=hs
    refine⟨(hr.sub.k b e0 q2).lt,λD e=>?_,by rw[fm,iQ];exact q1,λM hd=>?_,λid x hx e=>?_,λk t gT dB=>?_⟩
    ·rw[e]at g1;cases g1
    ·rcases hd.new.k b e0 q2 with h6|h6
     ·rw[fm,iQ,q1k]at h6;cases h6
     ·exact h6
    ·obtain⟨c,T,fr,h0⟩:=(hr.own id x hx).isC
     rw[e,g1]at h0;cases h0
    ·rcases(hr.toks k t gT).1 with q0|⟨b',o0,n,c,cur,T,fr,hv,_,hh,_⟩
     ·simp[Tok.blk,q0]at dB
     ·simp[Tok.blk,hv]at dB;subst dB;rw[hh]at g1;cases g1
 have dK:∀x∈bxs,Own m w x/\x.fz=false/\¬Y x.b:=λx hx=>by
  obtain⟨i,hi⟩:=List.getElem?_of_mem hx
  obtain⟨id,_,hL⟩:=cH i x hi
  exact⟨hr.own id x hL,by simpa using h1.1 x hx,λhy=>(iv _ hy).2.2.2.2.1 id x hL rfl⟩
 have lT:(bxs.map (·.b)).Nodup:=Ze6 hr.apart hb eJ
 have iw:ZuD tks:=λi j t t' b hi hj dT fJ=>by
  obtain⟨k,q1,q2⟩:=tmem i t hi
  obtain⟨k',q3,q4⟩:=tmem j t' hj
  have q2:S.tok k=some t:=q2.resolve_right λe=>by simp[Tok.blk,e]at dT
  have q4:S.tok k'=some t':=q4.resolve_right λe=>by simp[Tok.blk,e]at fJ
  have:=hr.tapart k k' t t' b q2 q4 dT fJ
  subst this
  have hi':=(zA0 q1).1
  exact(List.getElem?_inj (l:=kl) (i:=i) (j:=j) hi' tx).1 (by rw[q1,q3])
 refine⟨fM.1,(fM.2 w hr.sub dK lT (λt ht=>?_) iw (λb pO=>⟨(iv b pO).1,?_⟩)).mono ?_⟩
 ·refine⟨?_,c1 t ht⟩
  obtain⟨i,hi⟩:=List.getElem?_of_mem ht
  obtain⟨k,_,q2⟩:=tmem i t hi
  rcases q2 with q2|q2
  ·exact(hr.toks k t q2).1
  ·exact .inl q2
 ·obtain⟨M,hd⟩:=hr.dom
  exact hW _ _ _ hd.p b ((iv b pO).2.2.2.1 M hd)
 rintro e w' ⟨v,m',css,tvs,rfl,bU,dx,bJ,hu,fh,bL,gv,nb,qE,hR⟩
 have eG:∀u∈tvs,ZbT u=true:=λu hu=>by
  obtain⟨i,hi⟩:=List.getElem?_of_mem hu
  have aC:=(zA0 hi).1
  exact(nb i (tks[i]'(by omega)) u (zA3 (by omega)) hi).1
 have hk:=Zjr (ZfV (Shape.all_fits _ _ cR v (dX _ _ _ _ hR) m' bU (bJ.mono λb h=>h.imp_right λh o=>by
  cases he:m b o with
  | none=>rfl
  | some u=>have:=hr.sub.lt he;omega)) css (by omega)) tvs (by omega) eG hR
 refine⟨v,_,m',rfl,hk,?_⟩
 have nR:∀b,b < w.heap.size->¬Y b->∀o,m b o=none->m' b o=none:=λb aC hn o ho=>by
  cases he:m' b o with
  | none=>rfl
  | some u=>
   rcases bJ b o u he with h|h|h
   ·rw[ho]at h;cases h
   ·exact absurd h hn
   ·omega
 have eB:∀b,¬Y b->∀o u,m b o=some u->m' b o=some u:=λb hn o u h=>bU b o u (by rw[Mem.off_at hn];exact h)
 have nf:∀id y,(Zda S ids bxs css).L id=some y->∃x,S.L id=some x/\x.b=y.b:=λid y hy=>by
  rcases Zen (S:=S) eJ aH (by omega:css.length=ids.length) id with⟨_,h4⟩|⟨i,x,cs,h3,h4,h5,h6⟩
  ·exact⟨y,by rw[<-h4];exact hy,rfl⟩
  ·obtain⟨id',g1,g2⟩:=cH i x h4
   rw[h3]at g1;cases g1
   rw[h6]at hy;cases hy
   exact⟨x,g2,rfl⟩
 have pP:∀id x,S.L id=some x->∃y,(Zda S ids bxs css).L id=some y/\y.b=x.b:=λid x hx=>by
  rcases Zen (S:=S) eJ aH (by omega:css.length=ids.length) id with⟨_,h4⟩|⟨i,x',cs,h3,h4,h5,h6⟩
  ·exact⟨x,by rw[h4];exact hx,rfl⟩
  ·obtain⟨id',g1,g2⟩:=cH i x' h4
   rw[h3]at g1;cases g1
   rw[hx]at g2;cases g2
   exact⟨_,h6,rfl⟩
 have uV:∀M,Dom C S m a w M->∀b,b∈bxs.map (·.b)->M b:=λM hd b hb=>by
  obtain⟨z,hz,rfl⟩:=List.mem_map.1 hb
  obtain⟨i,hi⟩:=List.getElem?_of_mem hz
  obtain⟨id',_,g2⟩:=cH i z hi
  exact hd.own id' z g2
 have tz:∀b,b∈bxs.map (·.b)->∃id x,S.L id=some x/\x.b=b:=λb hb=>by
  obtain⟨z,hz,rfl⟩:=List.mem_map.1 hb
  obtain⟨i,hi⟩:=List.getElem?_of_mem hz
  obtain⟨id',_,g2⟩:=cH i z hi
  exact⟨id',z,g2,rfl⟩
 have iy:(Zda S ids bxs css).env=S.env/\(Zda S ids bxs css).ids=S.ids/\(Zda S ids bxs css).tkeys=S.tkeys/\(Zda S ids bxs css).gh=S.gh/\(Zda S ids bxs css).fo=S.fo:=by rw[ZcY];exact⟨rfl,rfl,rfl,rfl,rfl⟩
 have mh:∀k t,ZnW S.tok kl tks tvs k=some t->(k ∉ kl/\S.tok k=some t)\/∃(q:Nat)(t0:Tok)(tv:Value),kl[q]?=some k/\tks[q]?=some t0/\tvs[q]?=some tv/\t=⟨tv,t0.esz⟩:=λk t ht=>by
  rcases Zjt (tok:=S.tok) tx tlen (by omega:tvs.length=kl.length) k with⟨q1,q2⟩|⟨q,t0,tv,q1,q2,q3,q4⟩
  ·exact .inl ⟨q1,by rw[<-q2];exact ht⟩
  ·rw[ht]at q4;cases q4
   exact .inr ⟨q,t0,tv,q1,q2,q3,rfl⟩
 refine⟨?_,hr.size,λi sv he=>?_,λid y hy=>?_,λid id' y y' hy hy' e=>?_,λid y hy=>?_,λk t ht=>?_,λk t ht=>?_,λk k' t t' b ht ht' dT fJ=>?_,dx,⟨λb o u qF=>?_,λb e qG=>?_⟩,?_,λh'=>hr.fo (by simpa only[iy.2.2.2.2]using h')⟩
 ·obtain⟨ms,q1,q2,q3⟩:=hr.defers
  refine⟨ms,q1,q2,λD hD=>?_⟩
  rw[hu.block D (Array.getElem?_eq_some_iff.1 (q3 D hD)).1 (λhm=>?_)]
  ·exact q3 D hD
  ·rcases hm with hm|hm
   ·obtain⟨id,x,g1,g2⟩:=tz D hm
    obtain⟨sp,fr,g3,_⟩:=(hr.own id x g1).cells
    have:=q3 D hD
    rw[<-g2,g3]at this;cases this
   ·exact(iv D hm).2.1 _ (q3 D hD)
 ·simp only[iy.1]at he
  obtain⟨u,q1,q2⟩:=hr.env i sv he
  refine⟨u,?_,q2⟩
  cases sv with
  | v x=>exact q1
  | loc id off=>
   simp only[St.den]at q1 ⊢
   cases hx:S.L id with
   | none=>simp[hx]at q1
   | some x=>
    obtain⟨y,g1,g2⟩:=pP id x hx
    simp only[hx]at q1
    simp only[g1,g2];exact q1
  | sl id n c=>
   simp only[St.den]at q1 ⊢
   cases hx:S.L id with
   | none=>simp[hx]at q1
   | some x=>
    obtain⟨y,g1,g2⟩:=pP id x hx
    simp only[hx]at q1
    simp only[g1,g2];exact q1
 ·rcases Zen (S:=S) eJ aH (by omega:css.length=ids.length) id with⟨h3,h4⟩|⟨i,x,cs,h3,h4,h5,h6⟩
  ·have hy':S.L id=some y:=by rw[<-h4];exact hy
   have ho:=hr.own id y hy'
   have hn:¬Y y.b:=λhh=>(iv _ hh).2.2.2.2.1 id y hy' rfl
   have bY:w'.heap[y.b]?=w.heap[y.b]?:=hu.block _ ho.lt (λhm=>by
    rcases hm with hm|hm
    ·obtain⟨z,hz,qp⟩:=List.mem_map.1 hm
     obtain⟨i,hi⟩:=List.getElem?_of_mem hz
     obtain⟨id',g1,g2⟩:=cH i z hi
     have:=hr.apart _ _ _ _ g2 hy' qp
     subst this
     exact h3 (zA2 g1)
    ·exact hn hm)
   exact⟨by rw[bY];exact ho.cells,λhz o=>nR _ ho.lt hn o (ho.free hz o),λhz j u hu=>eB _ hn _ _ (ho.known hz j u hu),ho.whole⟩
  ·simp only[h6,Option.some.injEq]at hy
   subst hy
   exact bL i x cs h4 h5
 ·obtain⟨x,g1,g2⟩:=nf id y hy
  obtain⟨x',g3,g4⟩:=nf id' y' hy'
  exact hr.apart _ _ _ _ g1 g3 (by rw[g2,g4,e])
 ·obtain⟨x,g1,g2⟩:=nf id y hy
  simp only[iy.2.1];exact hr.ids id x g1
 ·rcases mh k t ht with⟨q1,q2⟩|⟨q,t0,tv,q1,q2,q3,rfl⟩
  ·obtain⟨g1,g2⟩:=hr.toks k t q2
   have hn:∀b,t.blk=some b->¬Y b:=λb hb hh=>q1 ((iv b hh).2.2.2.2.2 k t q2 hb)
   refine⟨g1.same (λb hb=>hu.block b (g1.lt hb) (λhm=>?_)) (λb o hb=>nR b (g1.lt hb) (hn b hb) o),λb hb=>⟨λid y hy=>?_,(g2 b hb).2⟩⟩
   ·rcases hm with hm|hm
    ·obtain⟨id,x,g3,g4⟩:=tz b hm
     exact(g2 b hb).1 id x g3 g4
    ·exact hn b hb hm
   ·obtain⟨x,g3,g4⟩:=nf id y hy
    rw[<-g4];exact(g2 b hb).1 id x g3
  ·obtain⟨g1,g2,g3⟩:=nb q t0 tv q2 q3
   refine⟨g2,λb hb=>⟨λid y hy=>?_,?_⟩⟩
   ·obtain⟨x,g4,g5⟩:=nf id y hy
    rw[<-g5]
    rcases(g3 b hb).1 with h|h
    ·exact(iv b h).2.2.2.2.1 id x g4
    ·have:=(hr.own id x g4).lt;omega
   ·rcases(g3 b hb).1 with h|h
    ·exact(iv b h).2.2.1
    ·intro o
     cases he:C.me b o with
     | none=>rfl
     | some u=>have:=hr.sub.lt (hr.le _ _ _ he);omega
 ·rcases mh k t ht with⟨q1,q2⟩|⟨q,t0,tv,q1,q2,q3,rfl⟩
  ·exact List.mem_append_right _ (hr.tkeys k t q2)
  ·exact List.mem_append_left _ (zA2 q1)
 ·have cross:∀(k k':Nat)(t t':Tok),(k ∉ kl/\S.tok k=some t)->(∃(q:Nat)(t0:Tok)(tv:Value),kl[q]?=some k'/\tks[q]?=some t0/\tvs[q]?=some tv/\t'=⟨tv,t0.esz⟩)->t.blk=some b->t'.blk=some b->False:=by
   rintro k k' t t' ⟨q1,q2⟩ ⟨q,t0,tv,q3,q4,q5,rfl⟩ e1 e2
   rcases((nb q t0 tv q4 q5).2.2 b e2).1 with h|h
   ·exact q1 ((iv b h).2.2.2.2.2 k t q2 e1)
   ·have:=(hr.toks k t q2).1.lt e1;omega
  rcases mh k t ht with h3|h3 <;> rcases mh k' t' ht' with h4|h4
  ·exact hr.tapart k k' t t' b h3.2 h4.2 dT fJ
  ·exact(cross k k' t t' h3 h4 dT fJ).elim
  ·exact(cross k' k t' t h4 h3 fJ dT).elim
  ·obtain⟨q,t0,tv,q1,q2,q3,rfl⟩:=h3
   obtain⟨q',t0',tv',q1',q2',q3',rfl⟩:=h4
   have hz:∀(q:Nat)(t0:Tok)(tv:Value),tks[q]?=some t0->tvs[q]?=some tv->((tks.zip tvs).map λq=>(⟨q.2,q.1.esz⟩:Tok))[q]?=some ⟨tv,t0.esz⟩:=λq t0 tv h5 h6=>by
    rw[List.getElem?_map,(List.getElem?_zip_eq_some (z:=(t0,tv))).2 ⟨h5,h6⟩];rfl
   have:=qE q q' _ _ b (hz q t0 tv q2 q3) (hz q' t0' tv' q2' q3') dT fJ
   subst this
   rw[q1]at q1';cases q1';rfl
 ·refine eB b (λhh=>?_) o u (hr.le b o u qF)
  rw[(iv b hh).2.2.1 o]at qF;cases qF
 ·have h5:=hr.le.k b e qG
  by_cases hh:Y b
  ·rcases c2 b hh with⟨t,ht,dB⟩|⟨⟨q1,q1k⟩,q2,q3⟩
   ·obtain⟨k,hk,gT⟩:=tk_of t ht b dB
    obtain⟨es,cl,g1,_⟩:=hr.sub.k b e h5
    rcases(hr.toks k t gT).1 with q0|⟨b',o0,n,c,cur,T,fr,hv,_,uW,_⟩
    ·simp[Tok.blk,q0]at dB
    ·simp[Tok.blk,hv]at dB;subst dB;rw[uW]at g1;cases g1
   ·rw[fm,iQ,q1k]at qG;cases qG
  ·exact bU.k b e (by rw[Mem.off_k hh];exact h5)
 ·obtain⟨M,hd⟩:=hr.dom
  have hu':Upd M w w':=⟨hu.os,hu.tape,hu.output,hu.size,λk hk hn=>hu.block k hk (λhm=>hn (by
   rcases hm with hm|hm
   ·exact uV M hd k hm
   ·exact(iv k hm).2.2.2.1 M hd)),hu.wr⟩
  have cA:=hd.step (m':=m') hu' ⟨λb o u h=>by
   rcases bJ b o u h with h|h|h
   ·exact .inl h
   ·exact .inr (.inl ((iv b h).2.2.2.1 M hd))
   ·exact .inr (.inr ⟨h.1,dx.lt (by assumption),h.2⟩),λb e h=>by
   rcases bJ.k b e h with h|h|h
   ·exact .inl h
   ·exact .inr (.inl ((iv b h).2.2.2.1 M hd))
   ·exact .inr (.inr ⟨h.1,(dx.k b e (by assumption)).lt,h.2⟩)⟩
  refine⟨_,by simpa only[iy.2.2.2.1]using cA.p,cA.lt,λid y hy=>?_,λk t b ht hb=>?_,cA.mks,cA.new⟩
  ·obtain⟨x,g1,g2⟩:=nf id y hy
   rw[<-g2];exact cA.own id x g1
  ·rcases mh k t ht with⟨q1,q2⟩|⟨q,t0,tv,q1,q2,q3,rfl⟩
   ·exact cA.tok k t b q2 hb
   ·obtain⟨g1,g2,g3⟩:=nb q t0 tv q2 q3
    rcases(g3 b hb).1 with h|h
    ·exact .inl ((iv b h).2.2.2.1 M hd)
    ·exact .inr ⟨h,g2.lt hb,g2.wr hb⟩
theorem Zoe{C:Ctx}{S:St}{m:Mem}{a:Act}{w:World}{E:Env}{rt:TypeId}{g:FuncId}{args:List Value}{K:Value->Int->Prop}(hY:YOk E C)(hr:Rel C S m a w)(h:ZxY E rt g args K S m):
  ZdC E.P g/\Calls E.P g args.toArray w λe w'=>∃v gh,e=.returned v/\K v gh/\Rel C { S with gh:=gh } m a w':=by
 unfold ZxY at h
 split at h
 ·exact h.elim
 rename_i Y fA
 obtain⟨l,xs,go,stop,i7,mj,dX,cR⟩:=h
 have uX:=hY.y Y fA
 obtain⟨M0,hd⟩:=hr.dom
 let at':Int->Int:=λj=>if j < 0 then -1 else S.gh+j
 let p:Int->(Nat->Prop)->World->Prop:=λj M w1=>C.p (at' j) (λk=>M0 k\/M k) w1/\(∀k,M k->w.heap.size<=k)/\w.heap.size<=w1.heap.size/\(∀k,M0 k->w1.heap[k]?=w.heap[k]?)/\Sub m w1
 have qH:∀b o v,m b o=some v->b < w.heap.size:=λb o v hv=>hr.sub.lt hv
 have hp:Zu0 p:=by
  rintro j M M' w1 w2 ⟨h1,h2,h3,h4,h5⟩ hu hM'
  have fe:∀k,M' k->w.heap.size<=k:=λk hk=>by
   rcases hM' k hk with hk|hk
   ·exact h2 k hk
   ·exact Nat.le_trans h3 hk.1
  have cA:∀k,k < w.heap.size->w2.heap[k]?=w1.heap[k]?:=λk hk=>hu.block k (Nat.lt_of_lt_of_le hk h3) λhm=>by have:=h2 k hm;omega
  refine⟨C.st _ _ _ _ _ h1 ⟨hu.os,hu.tape,hu.output,hu.size,λk hk hn=>hu.block k hk λhm=>hn (.inr hm),hu.wr⟩ (λk hk=>?_),fe,Nat.le_trans h3 hu.size,λk hk=>by rw[cA k (hd.lt k hk)];exact h4 k hk,⟨λb o v hv=>?_,λb e he=>(h5.k b e he).same (cA b (hr.sub.k b e he).lt)⟩⟩
  ·rcases hk with hk|hk
   ·exact .inl (.inl hk)
   ·rcases hM' k hk with hk|hk
    ·exact .inl (.inr hk)
    ·exact .inr hk
  ·rw[ZbB (cA b (qH b o v hv))];exact h5 b o v hv
 have qI:p 0 (λ_=>False) w:=by
  refine⟨?_,λ_ h=>h.elim,Nat.le_refl _,λ_ _=>rfl,hr.sub⟩
  have e1:at' 0=S.gh:=by simp[at']
  have e2:(λk=>M0 k\/False)=M0:=by funext k;simp
  rw[e1]
  show C.p S.gh (λk=>M0 k\/False) w
  rw[e2];exact hd.p
 have uY:Zjq E.P m p (λl' g v=>l'=l/\0<=g/\xs[g.toNat]?=some v):=by
  rintro F n l' j v M w1 hF nS ⟨rfl,hj,cI⟩ ⟨h1,h2,h3,h4,h5⟩ dx
  have e1:at' j=S.gh+((j.toNat:Nat):Int):=by
   show(if j < 0 then -1 else S.gh+j)=_
   rw[if_neg (by omega)];omega
  rw[e1]at h1
  have aC:∀k,M0 k\/M k->k < w1.heap.size:=λk hk=>by
   rcases hk with hk|hk
   ·exact Nat.lt_of_lt_of_le (hd.lt k hk) h3
   ·exact nS k hk
  have uZ:=uX F n l' _ v (λk=>M0 k\/M k) w1 hF aC (mj _ _ cI) h1 (dx.less hr.le)
  obtain⟨fn,tmps,asg,bdy,ml,fD⟩:=uZ
  refine⟨fn,tmps,asg,bdy,ml,fD.mono ?_⟩
  rintro e w2 ⟨b,rfl,pQ,ew⟩
  have kZ:Sub m w2:=⟨λb o v hv=>by
   rcases hd.new b o v hv with h6|h6
   ·exact ew.sub b o v h6
   ·have hb:=ew.block b (Nat.lt_of_lt_of_le (hd.lt b h6) h3) (.inl h6)
    rw[ZbB hb];exact dx b o v hv,λb e he=>by
   rcases hd.new.k b e he with h6|h6
   ·exact ew.sub.k b e h6
   ·exact(dx.k b e he).same (ew.block b (Nat.lt_of_lt_of_le (hd.lt b h6) h3) (.inl h6))⟩
  refine⟨b,rfl,⟨?_,h2,Nat.le_trans h3 ew.size,λk hk=>?_,kZ⟩,⟨ew.size,λk hk hm=>ew.block k hk (.inr hm),kZ⟩⟩
  ·cases b with
   | true=>
    have e2:at' (j+1)=S.gh+((j.toNat:Nat):Int)+1:=by
     show(if j+1 < 0 then -1 else S.gh+(j+1))=_
     rw[if_neg (by omega)];omega
    simp only[if_true]at pQ ⊢
    rw[e2];exact pQ
   | false=>
    simp only[Bool.false_eq_true,if_false]at pQ ⊢
    exact pQ
  ·rw[ew.block k (Nat.lt_of_lt_of_le (hd.lt k hk) h3) (.inl hk)];exact h4 k hk
 refine⟨i7.1,(i7.2 p hp w hr.sub qI uY).mono ?_⟩
 rintro e w' ⟨v,M,rfl,nS,j7⟩
 have fin:∀j,p j M w'->Rel C { S with gh:=at' j } m a w':=by
  rintro j ⟨h1,h2,h3,h4,h5⟩
  refine hr.yielded hd (C.st _ _ _ _ _ h1 (Upd.refl _ _) λk hk=>.inl (.inl hk)) ⟨h3,λk _ hk=>h4 k hk,h5.less hr.le⟩
 have hv:go v\/stop v:=by
  rcases j7 with h|h
  ·exact .inl h.1
  ·exact .inr h.1
 have hk:=Shape.all_fits _ _ cR v (dX v hv)
 rcases j7 with⟨h1,h2⟩|⟨h1,h2⟩
 ·have:=fin _ h2
  have e1:at' (xs.length:Int)=S.gh+(xs.length:Int):=by
   show(if((xs.length:Nat):Int) < 0 then -1 else S.gh+((xs.length:Nat):Int))=_
   rw[if_neg (by omega)]
  rw[e1]at this
  exact⟨v,_,rfl,hk.1 h1,this⟩
 ·have:=fin _ h2
  have e1:at' (-1)=-1:=rfl
  rw[e1]at this
  exact⟨v,_,rfl,hk.2 h1,this⟩
theorem ZqD{E:Env}(hE:E.ok){F:Fence}(hF:FOk F)(hY:YOk E C){o:Oper}(hd:∀t,o.dst=some t->t < C.n)(hr:Rel C S m a w){K:St->Mem->Prop}(h:opW E S m o K){n:Nat}{next:Act->World->Prop}{Q:Exit->Act->World->Prop}
  (hK:∀S' m' a' w',K S' m'->Rel C S' m' a' w'->next a' w'):o.uponIn F n E.P a next Q ((execOp a.eval o).run E.P w):=by
 obtain⟨dst,op,type,pos,after,guard⟩:=o
 cases op with
 | move x=>exact hK _ _ _ _ h (hr.putEv' dst hd x)
 | assign x=>exact hK _ _ _ _ h (hr.putEv' dst hd x)
 | pick c x y=>
  obtain⟨v,hv,h⟩:=Zav h
  obtain⟨h1,h2⟩:=Zag h
  have he:=hr.ev hv
  obtain⟨b,rfl⟩:∃b,v=.bool b:=⟨_,ZbC h1⟩
  have aR:(execOp a.eval ⟨dst,.pick c x y,type,pos,after,guard⟩).run E.P w=.ok (.value (if b then a.eval x else a.eval y)) w:=by
   simp[execOp,he,asBool]
  rw[aR]
  simp only[Zcx]at h2
  cases b
  ·exact hK _ _ _ _ h2 (hr.putEv' dst hd y)
  ·exact hK _ _ _ _ h2 (hr.putEv' dst hd x)
 | load T x=>
  have h':∃v,K (S.put dst (some (.v v))) m/\(Instr.loadAt T (a.eval x)).run E.P w=.ok v w:=by
   simp only[opW]at h
   cases ng:Zsh E dst with
   | none=>
    simp only[ng]at h
    exact Ze5 hE hr h
   | some y=>
    simp only[ng]at h
    obtain⟨v,hk,aR⟩:=Ze5 hE hr h
    exact⟨v,Zo7 hk,aR⟩
  obtain⟨v,hk,aR⟩:=h'
  have cQ:(execOp a.eval ⟨dst,.load T x,type,pos,after,guard⟩).run E.P w=.ok (.value v) w:=by simp[execOp,aR]
  rw[cQ]
  exact hK _ _ _ _ hk (hr.put dst hd rfl)
 | store T x y=>
  obtain⟨v,hv,h⟩:=Zav h
  have he:=hr.ev hv
  cases j8:Zl1 E x with
  | none=>
   simp only[j8]at h
   obtain⟨S',w',hk,aV,aR⟩:=Zkg hE hr h
   have cQ:(execOp a.eval ⟨dst,.store T x y,type,pos,after,guard⟩).run E.P w=.ok .skip w':=by simp[execOp,he,aR]
   rw[cQ]
   exact hK _ _ _ _ hk (aV.putNone dst _)
  | some key=>
   simp only[j8]at h
   cases cJ:E.fix with
   | some f=>simp[cJ]at h
   | none=>
    simp only[cJ,Option.isSome_none,cond_false]at h
    obtain⟨m',w',hk,aV,aR⟩:=Zf3 hE hY hr h
    have cQ:(execOp a.eval ⟨dst,.store T x y,type,pos,after,guard⟩).run E.P w=.ok .skip w':=by simp[execOp,he,aR]
    rw[cQ]
    exact hK _ _ _ _ hk (aV.putNone dst _)
 | alloc T=>
  simp only[opW,Zqz]at h
  cases dst with
  | none=>exact h.elim
  | some d=>
   simp only at h
   cases ht:E.tt T with
   | none=>simp[ht]at h
   | some i=>
    simp only[ht]at h
    cases hL:S.L d with
    | some x=>simp[hL]at h
    | none=>
     simp only[hL]at h
     have cE:=hE T i ht
     have hz:=cE.run_zero (w:=w)
     have gE:i.zero.cells.toList.length=i.size:=by simpa using cE.zsize
     have hb:=hr.newBox (d:=d) hL (x:={ b:=w.heap.size,cs:=i.zero.cells.toList,T:=T,cap:=i.size,fz:=false,full:=true }) (m':=m) [] rfl (by simpa using gE) (λ_=>gE) (.inl ⟨rfl,rfl⟩)
     simp only[List.append_nil,Array.toArray_toList]at hb
     have aR:(execOp a.eval ⟨some d,.alloc T,type,pos,after,guard⟩).run E.P w=.ok (.value (.pointer (some ⟨w.heap.size,0,none⟩))) (w.alloc (.cells i.zero.cells T (0,0))):=by
      simp[execOp,Instr.alloc,hz,newVar,newRow]
     rw[aR]
     exact hK _ _ _ _ (h w.heap.size) (hb.put (some d) hd (by simp[St.den,St.newL]))
 | box T x=>
  obtain⟨v,hv,h⟩:=Zav h
  have he:=hr.ev hv
  cases mo:Ze7 E dst with
  | true=>
   simp only[mo,cond_true]at h
   cases cJ:E.fix with
   | some f=>simp[cJ]at h
   | none=>
    simp only[cJ,Option.isSome_none,cond_false,ZwL]at h
    cases dst with
    | none=>exact h.elim
    | some d=>
     simp only at h
     cases ht:E.tt T with
     | none=>simp[ht]at h
     | some i=>
      simp only[ht]at h
      cases hL:S.L d with
      | some x=>simp[hL]at h
      | none=>
       simp only[hL]at h
       obtain⟨h1,h2⟩:=Zag h
       have bE:=Nat.eq_of_beq_eq_true h1
       have gE:v.cells.toList.length=i.size:=by simpa using bE
       have aU:m.free w.heap.size:=λo=>by
        cases he:m w.heap.size o with
        | none=>rfl
        | some v=>have:=hr.sub.lt he;omega
       have hb:=hr.newBox (d:=d) hL (x:={ b:=w.heap.size,cs:=v.cells.toList,T:=T,cap:=i.size,fz:=true,full:=true }) (m':=m.add w.heap.size v.cells.toList) [] rfl (by simpa using gE) (λ_=>gE) (.inr ⟨rfl,rfl⟩)
       simp only[List.append_nil,Array.toArray_toList]at hb
       have aR:(execOp a.eval ⟨some d,.box T x,type,pos,after,guard⟩).run E.P w=.ok (.value (.pointer (some ⟨w.heap.size,0,none⟩))) (w.alloc (.cells v.cells T (0,0))):=by
        simp[execOp,he,Instr.box,newVar,newRow]
       rw[aR]
       exact hK _ _ _ _ (Zn9 (h2 w.heap.size _ (Mem.le_add aU _) (λj v hv=>by rw[Mem.add_same];simpa using hv)) aU (λb' o u hu=>by
        by_cases e:b'=w.heap.size
        ·exact .inr e
        ·rw[Mem.add_other _ e]at hu;exact .inl hu) (by
        cases he:m.k w.heap.size with
        | none=>rfl
        | some e=>have:=(hr.sub.k _ e he).lt;omega)) (hb.put (some d) hd (by simp[St.den,St.newL]))
  | false=>
  simp only[mo,cond_false]at h
  simp only[ZyA]at h
  cases dst with
  | none=>exact h.elim
  | some d=>
   simp only at h
   cases ht:E.tt T with
   | none=>simp[ht]at h
   | some i=>
    simp only[ht]at h
    cases hL:S.L d with
    | some x=>simp[hL]at h
    | none=>
     simp only[hL]at h
     obtain⟨h1,h2⟩:=Zag h
     have bE:=Nat.eq_of_beq_eq_true h1
     have gE:v.cells.toList.length=i.size:=by simpa using bE
     have hb:=hr.newBox (d:=d) hL (x:={ b:=w.heap.size,cs:=v.cells.toList,T:=T,cap:=i.size,fz:=false,full:=true }) (m':=m) [] rfl (by simpa using gE) (λ_=>gE) (.inl ⟨rfl,rfl⟩)
     simp only[List.append_nil,Array.toArray_toList]at hb
     have aR:(execOp a.eval ⟨some d,.box T x,type,pos,after,guard⟩).run E.P w=.ok (.value (.pointer (some ⟨w.heap.size,0,none⟩))) (w.alloc (.cells v.cells T (0,0))):=by
      simp[execOp,he,Instr.box,newVar,newRow]
     rw[aR]
     exact hK _ _ _ _ (h2 w.heap.size) (hb.put (some d) hd (by simp[St.den,St.newL]))
 | buildSlice T len parts=>
  simp only[opW]at h
  cases gG:Zcz E dst with
  | some ke=>
   simp only[gG]at h
   cases cJ:E.fix with
   | some f=>simp[cJ]at h
   | none=>
    simp only[cJ,Option.isSome_none,cond_false]at h
    split at h
    ·rename_i hp
     have u0:parts=#[]:=by rw[<-Array.toArray_toList (xs:=parts),hp]
     subst u0
     obtain⟨S',v,w',hk,aV,_,hx⟩:=ZfZ hE (λm' e=>by cases e;rfl) hd hr h
     obtain⟨i,e,g1,g2,rfl,rfl⟩:=hx rfl
     have hu:=(hE T i g1).run_und (w:=w)
     rw[g2]at hu
     have bE:∃n,(Go.sizeOf e).run E.P w=.ok n w:=by
      unfold Zkj at h
      cases dst with
      | none=>exact h.elim
      | some d=>
       simp only at h
       cases hs:Zau E T with
       | none=>simp[hs]at h
       | some ej=>
        obtain⟨e',j⟩:=ej
        obtain⟨i',q1,q2,q3⟩:=ZaN hs
        rw[g1]at q1;cases q1
        rw[g2]at q2;cases q2
        exact⟨_,(hE _ j q3).run_size (w:=w)⟩
     obtain⟨n0,bE⟩:=bE
     have aR:(execOp a.eval ⟨dst,.buildSlice T 0 #[],type,pos,after,guard⟩).run E.P w=.ok (.value (.slice (some ⟨w.heap.size,0,none⟩) 0 0)) (w.alloc (.cells #[] e (0,0))):=by
      simp[execOp,Instr.buildSlice,hu,bE,newRow,Instr.fill]
      congr 2
      apply Array.ext'
      simp
     rw[aR]
     exact hK _ _ _ _ hk aV
    ·exact h.elim
  | none=>
  simp only[gG,ZdE]at h
  cases dst with
  | none=>exact h.elim
  | some d=>
   simp only at h
   cases ht:E.tt T with
   | none=>simp[ht]at h
   | some t=>
    simp only[ht]at h
    have eK:=hE T t ht
    cases qJ:t.d with
    | slice e=>
     simp only[qJ]at h
     cases hi:E.tt e with
     | none=>simp[hi]at h
     | some i=>
      simp only[hi]at h
      have cE:=hE e i hi
      cases hL:S.L d with
      | some x=>simp[hL]at h
      | none=>
       simp only[hL]at h
       obtain⟨h1,h2⟩:=Zag h
       simp only[zA7,Nat.ble_eq]at h1
       have h3:=ZbJ hr h2
       obtain⟨h4,h5⟩:=Zag h3
       generalize eC:List.map a.eval (List.map (λx=>x.2) parts.toList)=vs at *
       have aH:parts.toList.length=len:=Nat.eq_of_beq_eq_true h1.2.1
       have gY:vs.length=len:=by rw[<-eC];simpa using aH
       have fh:(Zbp vs).length=len*i.size:=by rw[ZlW h4,gY]
       have aU:m.free w.heap.size:=λo=>by
        cases he:m w.heap.size o with
        | none=>rfl
        | some v=>have:=hr.sub.lt he;omega
       have hb:=hr.newBox (d:=d) hL (x:={ b:=w.heap.size,cs:=Zbp vs,T:=e,cap:=len*i.size,fz:=true,full:=true }) (m':=m.add w.heap.size (Zbp vs)) [] rfl (by simpa using fh) (λ_=>fh) (.inr ⟨rfl,rfl⟩)
       simp only[List.append_nil]at hb
       have hu:=eK.run_und (w:=w)
       rw[qJ]at hu
       have bE:=cE.run_size (w:=w)
       have hz:=cE.run_zero (w:=w)
       have mq:(parts.map λx=>(x.1,a.eval x.2)).toList=(List.range' 0 vs.length).zip vs:=by
        have e1:=ZfW h1.1
        simp only[List.length_map]at e1
        rw[aH,<-gY]at e1
        rw[<-e1,<-eC,List.map_map,List.zip_map']
        simp
       have gE:i.zero.cells.toList.length=i.size:=by simpa using cE.zsize
       have u2:∀zz:Array Value,((Array.range (len*i.size)).map (λq=>zz[q % zz.size]!)).toList.length=vs.length*i.size:=λzz=>by simp[gY]
       have lb:∀zz:Array Value,Instr.fill (λq=>some (q*i.size,i.size)) ((Array.range (len*i.size)).map (λq=>zz[q % zz.size]!)) (parts.map λx=>(x.1,a.eval x.2)).toList=some (Zbp vs).toArray:=λzz=>by
        have:=Zju i.size vs 0 [] ((Array.range (len*i.size)).map (λq=>zz[q % zz.size]!)).toList h4 (by simp) (u2 zz)
        rw[mq]
        simpa only[List.nil_append,Array.toArray_toList]using this
       have bU:¬(16777216 < len*i.size):=by omega
       have aR:(execOp a.eval ⟨some d,.buildSlice T len parts,type,pos,after,guard⟩).run E.P w=.ok (.value (.slice (some ⟨w.heap.size,0,none⟩) len len)) (w.alloc (.cells (Zbp vs).toArray e (0,0))):=by
        by_cases h0:len*i.size=0
        ·have:=lb #[]
         simp only[h0]at this
         simp[execOp,Instr.buildSlice,hu,bE,h0,newRow]
         simp at this
         simp[this]
        ·have:=lb i.zero.cells
         simp[execOp,Instr.buildSlice,hu,bE,bU,h0,hz,newRow]
         simp at this
         simp[this]
       rw[aR]
       exact hK _ _ _ _ (h5 w.heap.size aU) (hb.put (some d) hd (by simp[St.den,St.newL]))
    | _=>simp[qJ]at h
 | makeSlice T l c=>
  have h':∃S' m' v w',K S' m'/\Rel C S' m' (a.put dst v) w'/\(Instr.makeSlice T (a.eval l) (a.eval c)).run E.P w=.ok v w':=by
   simp only[opW]at h
   cases gG:Zcz E dst with
   | none=>
    simp only[gG]at h
    obtain⟨S',v,w',g⟩:=ZlZ hE hd hr h
    exact⟨S',m,v,w',g⟩
   | some ke=>
    simp only[gG]at h
    cases cJ:E.fix with
    | some f=>simp[cJ]at h
    | none=>
     simp only[cJ,Option.isSome_none,cond_false]at h
     obtain⟨S',v,w',g1,g2,g3,_⟩:=ZfZ hE (λm' e=>by cases e) hd hr h
     exact⟨S',m,v,w',g1,g2,g3⟩
  obtain⟨S',m',v,w',hk,aV,aR⟩:=h'
  have cQ:(execOp a.eval ⟨dst,.makeSlice T l c,type,pos,after,guard⟩).run E.P w=.ok (.value v) w':=by simp[execOp,aR]
  rw[cQ]
  exact hK _ _ _ _ hk aV
 | lookup T x y ok=>
  simp only[opW]at h
  obtain⟨v,hk,aR⟩:=Zl4 hE hr h
  have cQ:(execOp a.eval ⟨dst,.lookup T x y ok,type,pos,after,guard⟩).run E.P w=.ok (.value v) w:=by simp[execOp,aR]
  rw[cQ]
  exact hK _ _ _ _ hk (hr.put dst hd rfl)
 | mapUpdate T x y z=>
  simp only[opW]at h
  cases cJ:E.fix with
  | some f=>simp[cJ]at h
  | none=>
   simp only[cJ,Option.isSome_none,Bool.false_or]at h
   cases fR:E.thaw with
   | false=>simp[fR]at h
   | true=>
   simp only[fR,Bool.not_true,cond_false]at h
   obtain⟨m',w',hk,aV,aR⟩:=Zko hE hY hr h
   have cQ:(execOp a.eval ⟨dst,.mapUpdate T x y z,type,pos,after,guard⟩).run E.P w=.ok .skip w':=by simp[execOp,aR]
   rw[cQ]
   exact hK _ _ _ _ hk (aV.putNone dst _)
 | makeMap T r=>
  simp only[opW]at h
  cases cJ:E.fix with
  | some f=>simp[cJ]at h
  | none=>
   simp only[cJ,Option.isSome_none,cond_false]at h
   obtain⟨S',m',v,w',hk,aV,aR⟩:=Zkp (E:=E) (T:=T) hd hr h
   have cQ:(execOp a.eval ⟨dst,.makeMap T r,type,pos,after,guard⟩).run E.P w=.ok (.value v) w':=by simp[execOp,aR]
   rw[cQ]
   exact hK _ _ _ _ hk aV
 | convert s d x=>
  simp only[opW]at h
  cases fj:Zcn E s d with
  | false=>
   simp only[fj,cond_false]at h
   cases nT:Zco E s d with
   | false=>
    simp only[nT,cond_false]at h
    exact Zf4 hE hd hr h hK
   | true=>
    simp only[nT,cond_true]at h
    obtain⟨v,hk,aR⟩:=Zf0 hE nT hr (Zob h)
    have cQ:(execOp a.eval ⟨dst,.convert s d x,type,pos,after,guard⟩).run E.P w=.ok (.value v) w:=by simp[execOp,aR]
    rw[cQ]
    exact hK _ _ _ _ hk (hr.put dst hd rfl)
  | true=>
   simp only[fj,cond_true]at h
   cases cJ:E.fix with
   | some f=>simp[cJ]at h
   | none=>
    simp only[cJ,Option.isSome_none,cond_false]at h
    obtain⟨S',m',v,w',hk,aV,aR⟩:=Zl0 hE fj hd hr h
    have cQ:(execOp a.eval ⟨dst,.convert s d x,type,pos,after,guard⟩).run E.P w=.ok (.value v) w':=by simp[execOp,aR]
    rw[cQ]
    exact hK _ _ _ _ hk aV
 | call c=>
  obtain⟨callee,args,argTypes⟩:=c
  cases callee with
  | value f=>
   simp only[opW]at h
   obtain⟨S,m,hr,h⟩:=ZgL hr h
   simp only[Zu4]at h
   cases he:S.ev f with
   | none=>simp[he]at h
   | some sv=>
    obtain⟨v,h1,h2,h3⟩:=hr.ev_val he
    cases sv with
    | v fv=>
     cases fv with
     | func fn first captured=>
      cases fn with
      | func g=>
       simp only[he]at h
       simp only[St.den,Option.some.injEq]at h1
       have ga:(first++Array.map a.eval args++captured)=(first.toList++List.map a.eval args.toList++captured.toList).toArray:=Array.ext' (by simp)
       cases j9:Zsi E dst with
       | true=>
        simp only[j9,cond_true]at h
        cases cJ:E.fix with
        | some f=>simp[cJ]at h
        | none=>
         simp only[cJ,Option.isSome_none,cond_false]at h
         obtain⟨v,hk,aR⟩:=Zod (w:=w) (ZbJ hr h)
         have cQ:(execOp a.eval ⟨dst,.call ⟨.value f,args,argTypes⟩,type,pos,after,guard⟩).run E.P w=.ok (.value v) w:=by
          simp only[execOp,resolve,h3,<-h1,Deferred.ofValue]
          simp only[Sem.run_bind,Sem.run_pure,Result.andThen_ok,invoke,ga]
          exact aR
         rw[cQ]
         exact hK _ _ _ _ hk (hr.put dst hd rfl)
       | false=>
       simp only[j9,cond_false]at h
       have u4:ZdC E.P g/\Calls E.P g (first.toList++List.map a.eval args.toList++captured.toList).toArray w λe w'=>∃v S' m',e=.returned v/\K (S'.put dst (some (.v v))) m'/\Rel C S' m' a w':=by
        cases i7:ZdD E dst with
        | some ks=>
         simp only[i7]at h
         cases cJ:E.fix with
         | some f=>simp[cJ]at h
         | none=>
          simp only[cJ,Option.isSome_none,cond_false]at h
          have h4:=ZbJ hr h
          exact Zkr hY hr h4
        | none=>
        simp only[i7]at h
        cases nh:Zse E dst with
        | true=>
         simp only[nh,cond_true]at h
         cases cJ:E.fix with
         | some f=>simp[cJ]at h
         | none=>
          simp only[cJ,Option.isSome_none,cond_false]at h
          have h4:=ZbJ hr h
          obtain⟨h5,h6⟩:=Zoe hY hr h4
          refine⟨h5,h6.mono ?_⟩
          rintro e w' ⟨v,gh,rfl,h7,h8⟩
          exact⟨v,_,m,rfl,h7,h8⟩
        | false=>
        simp only[nh,cond_false]at h
        cases gG:Zcz E dst with
        | none=>
         simp only[gG]at h
         have h4:=ZbJ hr h
         exact ZlT hr h4
        | some ke=>
         simp only[gG]at h
         split at h
         ·have h4:=ZbJ hr h
          exact Zkq hr h4
         ·exact h.elim
       obtain⟨gZ,nU⟩:=u4
       have aR:(execOp a.eval ⟨dst,.call ⟨.value f,args,argTypes⟩,type,pos,after,guard⟩).run E.P w=.ok (.enter g (first.toList++List.map a.eval args.toList++captured.toList).toArray) w:=by
        simp only[execOp,resolve,h3,<-h1,Deferred.ofValue]
        simp only[Sem.run_bind,Sem.run_pure,Result.andThen_ok,invoke,ga]
        exact gZ _ _
       rw[aR]
       refine⟨λhs=>by rw[hF.depth]at hs;simp at hs,?_⟩
       refine hF.calls (nU.mono ?_)
       rintro e w' ⟨v,S',m',rfl,hk,aV⟩
       exact hK _ _ _ _ hk (aV.put dst hd rfl)
      | yield l=>
       simp only[he]at h
       cases cJ:E.fix with
       | some f=>simp[cJ]at h
       | none=>
        simp only[cJ,Option.isSome_none,cond_false]at h
        cases fA:E.yl with
        | none=>
         cases ld:first.toList with
         | cons x l=>simp[fA,ld]at h
         | nil=>
          cases ni:captured.toList with
          | cons x l=>simp[fA,ld,ni]at h
          | nil=>
           simp only[fA,ld,ni]at h
        | some Y=>
         cases ld:first.toList with
         | cons x l=>simp[fA,ld]at h
         | nil=>
          cases ni:captured.toList with
          | cons x l=>simp[fA,ld,ni]at h
          | nil=>
           simp only[fA,ld,ni]at h
           obtain⟨hy,iP,i6⟩:=ZbJ hr h
           have qK:first=#[]:=by rw[<-Array.toArray_toList (xs:=first),ld]
           have qL:captured=#[]:=by rw[<-Array.toArray_toList (xs:=captured),ni]
           subst qK qL
           obtain⟨M,hd'⟩:=hr.dom
           obtain⟨fn,tmps,asg,bdy,ml,fD⟩:=hY.y Y fA F (n - 1) l S.gh _ M w hF hd'.lt hy hd'.p (hr.sub.less hr.le)
           simp only[St.den,Option.some.injEq]at h1
           have aR:(execOp a.eval ⟨dst,.call ⟨.value f,args,argTypes⟩,type,pos,after,guard⟩).run E.P w=.ok (.round l fn tmps asg bdy) w:=by
            have ga:(#[]++Array.map a.eval args)=(List.map a.eval args.toList).toArray:=Array.ext' (by simp)
            simp only[execOp,resolve,h3,<-h1,Deferred.ofValue]
            simp only[Sem.run_bind,Sem.run_pure,Result.andThen_ok,invoke,ga]
            simpa using ml
           rw[aR]
           refine⟨λhs=>by rw[hF.depth]at hs;simp at hs,fD.mono ?_⟩
           rintro e w' ⟨b,rfl,hp,ew⟩
           cases b with
           | true=>exact hK _ _ _ _ iP ((hr.yielded hd' hp ew).put dst hd rfl)
           | false=>exact hK _ _ _ _ i6 ((hr.yielded hd' hp ew).put dst hd rfl)
      | _=>simp[he]at h
     | _=>simp[he]at h
    | _=>simp[he]at h
  | invoke r m=>exact Zf4 hE hd hr h hK
  | builtin b=>
   cases b with
   | append=>
    simp only[opW]at h
    split at h
    ·rename_i s x T xT d hA hT
     obtain⟨S,m,hr,h⟩:=ZgL hr h
     obtain⟨vs,eC,h⟩:=Zav h
     obtain⟨vx,u5,h⟩:=Zav h
     have ha:args=#[s,x]:=by rw[<-Array.toArray_toList (xs:=args),hA]
     have eu:argTypes=#[T,xT]:=by rw[<-Array.toArray_toList (xs:=argTypes),hT]
     subst ha eu
     obtain⟨v,tk,m',w',hk,aV,aR⟩:=Zh9 (ty:=type) hE hr h
     have cQ:(execOp a.eval ⟨some d,.call ⟨.builtin .append,#[s,x],#[T,xT]⟩,type,pos,after,guard⟩).run E.P w=.ok (.value v) w':=by
      simp[execOp,resolve,invoke,builtin,hr.ev eC,hr.ev u5,aR]
     rw[cQ]
     exact hK _ _ _ _ hk (aV.put (some d) hd rfl)
    ·exact h.elim
   | copy=>
    simp only[opW]at h
    split at h
    ·rename_i d s T xT hA hT
     cases hh:ZeA E d with
     | none=>simp[hh]at h
     | some id=>
      simp only[hh]at h
      obtain⟨vd,qz,h⟩:=Zav h
      obtain⟨vs,eC,h⟩:=Zav h
      have ha:args=#[d,s]:=by rw[<-Array.toArray_toList (xs:=args),hA]
      have eu:argTypes=#[T,xT]:=by rw[<-Array.toArray_toList (xs:=argTypes),hT]
      subst ha eu
      obtain⟨n,S',w',hk,aV,aR⟩:=Zl2 (ty:=type) (xT:=xT) hE hr h
      have cQ:(execOp a.eval ⟨dst,.call ⟨.builtin .copy,#[d,s],#[T,xT]⟩,type,pos,after,guard⟩).run E.P w=.ok (.value (.int .i64 n)) w':=by
       simp[execOp,resolve,invoke,builtin,hr.ev qz,hr.ev eC,aR]
      rw[cQ]
      exact hK _ _ _ _ hk (aV.put dst hd rfl)
    ·exact h.elim
   | _=>exact Zf4 hE hd hr h hK
 | _=>exact Zf4 hE hd hr h hK
end
mutual
def Shape.ex:Shape->(Value->Prop)->Prop
 | .any,k=>∃v,k v
 | .int ki,k=>∃n:Int,k (.int ki n)
 | .bool,k=>∃b:Bool,k (.bool b)
 | .str,k=>∃s:ByteArray,k (.string s)
 | .slice,k=>∃(a:Option Addr)(n c:Nat),k (.slice a n c)
 | .agg l,k=>Shape.exL l λvs=>k (.agg vs.toArray)
 | .tup l,k=>Shape.exL l λvs=>k (.tuple vs.toArray)
 | .fn,k=>∃(g:Nat)(fi ca:List Value),k (.func (.func g) fi.toArray ca.toArray)
 | .cells,k=>∃cs:List Value,k (.agg cs.toArray)
 | .ptr,k=>∃b o:Nat,k (.pointer (some ⟨b,o,none⟩))
def Shape.exL:List Shape->(List Value->Prop)->Prop
 | [],k=>k []
 | s::l,k=>Shape.ex s λv=>Shape.exL l λvs=>k (v::vs)
end
mutual
theorem Shape.ex_elim:∀(s:Shape)(k:Value->Prop),s.ex k->∃v,k v
 | .any,k,h=>h
 | .int ki,k,h=>by simp only[Shape.ex]at h;obtain⟨n,h⟩:=h;exact⟨_,h⟩
 | .bool,k,h=>by simp only[Shape.ex]at h;obtain⟨n,h⟩:=h;exact⟨_,h⟩
 | .str,k,h=>by simp only[Shape.ex]at h;obtain⟨n,h⟩:=h;exact⟨_,h⟩
 | .slice,k,h=>by simp only[Shape.ex]at h;obtain⟨a,n,c,h⟩:=h;exact⟨_,h⟩
 | .agg l,k,h=>by
  simp only[Shape.ex]at h
  obtain⟨vs,_,h⟩:=Shape.exL_elim l _ h
  exact⟨_,h⟩
 | .tup l,k,h=>by
  simp only[Shape.ex]at h
  obtain⟨vs,_,h⟩:=Shape.exL_elim l _ h
  exact⟨_,h⟩
 | .fn,k,h=>by simp only[Shape.ex]at h;obtain⟨_,_,_,h⟩:=h;exact⟨_,h⟩
 | .cells,k,h=>by simp only[Shape.ex]at h;obtain⟨_,h⟩:=h;exact⟨_,h⟩
 | .ptr,k,h=>by simp only[Shape.ex]at h;obtain⟨_,_,h⟩:=h;exact⟨_,h⟩
theorem Shape.exL_elim:∀(l:List Shape)(k:List Value->Prop),Shape.exL l k->∃vs,vs.length=l.length/\k vs
 | [],k,h=>⟨[],rfl,h⟩
 | s::l,k,h=>by
  simp only[Shape.exL]at h
  obtain⟨v,h⟩:=Shape.ex_elim s _ h
  obtain⟨vs,hl,h⟩:=Shape.exL_elim l _ h
  exact⟨v::vs,by simp[hl],h⟩
end
def Zdb:Value->Bool
 | .tuple _=>true
 | _=>false
def opG(E:Env)(ops:Array Oper)(o:Oper)(S:St)(m:Mem)(K:St->Mem->Prop):Prop:=match o.guard with
 | none=>opW E S m o K
 | some (j,want)=>match ops.toList[j]? with
  | none=>False
  | some oj=>match oj.dst with
   | none=>False
   | some t=>match S.env t with
    | some (.v v)=>bif Zdb v then K (S.put o.dst (some (.v undef))) m else chk (ZfR v) (match want with
     | true=>br (Zcx v) (opW E S m o K) (K (S.put o.dst (some (.v undef))) m)
     | false=>br (Zcx v) (K (S.put o.dst (some (.v undef))) m) (opW E S m o K))
    | _=>False
def ZeE(ops:Array Oper)(o:Oper):Option Nat:=match o.guard with
 | none=>none
 | some (j,_)=>match ops.toList[j]? with
  | none=>none
  | some oj=>oj.dst
def Zxe(E:Env)(ops:Array Oper)(o:Oper)(S:St)(m:Mem)(K:St->Mem->Prop):Prop:=match ZeE ops o with
 | none=>opG E ops o S m K
 | some t=>match S.env t with
  | some (.v v)=>bif Zdb v then opG E ops o S m K else chk (ZfR v) (br (Zcx v) (opG E ops o (S.put (some t) (some (.v (.bool true)))) m K) (opG E ops o (S.put (some t) (some (.v (.bool false)))) m K))
  | _=>False
def Zwz(E:Env)(ops:Array Oper):List Nat->(St->Mem->Prop)->St->Mem->Prop
 | [],K,S,m=>K S m
 | i::l,K,S,m=>match ops.toList[i]? with
  | none=>False
  | some o=>Zxe E ops o S m (Zwz E ops l K)
def Zx0(n:Nat)(o:Oper):Bool:=match o.dst with
 | none=>true
 | some d=>Nat.blt d n
def ZnZ(n:Nat):List Oper->Bool
 | []=>true
 | o::l=>Zx0 n o&&ZnZ n l
def Zbi(n:Nat):Code->Bool
 | .region _ ops _=>ZnZ n ops.toList
 | .seq a b=>Zbi n a&&Zbi n b
 | .cond _ a b=>Zbi n a&&Zbi n b
 | .block _ a=>Zbi n a
 | .loop a=>Zbi n a
 | .scope a=>Zbi n a
 | .rangeFunc _ ps a b=>ps.toList.all (Nat.blt · n)&&(Zbi n a&&Zbi n b)
 | _=>true
def Zbe:List Oper->List Nat
 | []=>[]
 | o::l=>match o.dst with
  | none=>Zbe l
  | some d=>d::Zbe l
def Zg2:Code->List Nat
 | .region _ ops _=>Zbe ops.toList
 | .seq a b=>Zg2 a++Zg2 b
 | .cond _ a b=>Zg2 a++Zg2 b
 | .block _ a=>Zg2 a
 | .loop a=>Zg2 a
 | .scope a=>Zg2 a
 | .rangeFunc _ ps a b=>ps.toList++(Zg2 a++Zg2 b)
 | _=>[]
def ZaM:Code->Nat
 | .region id _ _=>id
 | .seq a _=>ZaM a
 | .cond _ a _=>ZaM a
 | .block _ a=>ZaM a
 | .loop a=>ZaM a
 | .scope a=>ZaM a
 | .rangeFunc _ _ a _=>ZaM a
 | _=>0
def Zfy(S:St):List (Nat×Shape)->(List Value->Prop)->Prop
 | [],k=>k []
 | (t,sh)::l,k=>wv S (.tmp t) λv=>chk (sh.fits v) (Zfy S l λvs=>k (v::vs))
def Zha(S:St):List Nat->(List (List Value)->Prop)->Prop
 | [],k=>k []
 | id::l,k=>match S.L id with
  | none=>False
  | some x=>Zha S l λcss=>k (x.cs::css)
def ZqE(S:St)(k:Nat):Value:=match S.tok k with
 | some t=>t.v
 | none=>.slice none 0 0
def ZeF(S:St):List (Nat×Nat)->(List Value->Prop)->Prop
 | [],k=>k []
 | (q,esz)::l,k=>chk (ZbT (ZqE S q)&&(match S.tok q with
  | some t=>Nat.beq t.esz esz
  | none=>true)) (ZeF S l λvs=>k (ZqE S q::vs))
def Zbt(e:Nat->Option SV):List (Nat×Shape)->List Value->(Nat->Option SV)
 | (t,_)::l,v::vs=>λi=>bif Nat.beq i t then some (.v v)else Zbt e l vs i
 | _,_=>e
def ZhG(L:Nat->Option Box):List Nat->List (List Value)->(Nat->Option Box)
 | id::l,cs::css=>λi=>bif Nat.beq i id then(match L i with
  | some x=>some { x with cs:=cs }
  | none=>none)else ZhG L l css i
 | _,_=>L
def Zep(tk:Nat->Option Tok):List (Nat×Nat)->List Value->(Nat->Option Tok)
 | (q,esz)::l,v::vs=>λi=>bif Nat.beq i q then some ⟨v,esz⟩ else Zep tk l vs i
 | _,_=>tk
def ZbF(S:St)(ds:List Nat)(A:LoopAnn)(g:Int)(xs:List Value)(css:List (List Value))(tvs:List Value):St:=
 {env:=Zbt (λi=>bif ds.any (Nat.beq i ·)then none else S.env i) A.slots xs
  L:=ZhG S.L A.boxes css
  ids:=S.ids
  tok:=Zep S.tok A.toks tvs
  tkeys:=A.toks.map (·.1)++S.tkeys
  gh:=g
  fo:=S.fo }
def ghs(b:Bool)(g:Int)(xs:List Value):List Value:=bif b then .int .i64 g::xs else xs
def ZwN(b:Bool)(g:Int)(k:Int->Prop):Prop:=bif b then ∀y,k y else k g
def Zjw(b:Bool)(x y:Int)(f g:Bool)(p:Prop):Prop:=bif Bool.xor f g then False else bif b then p else match x,y with
 | .ofNat 0,.ofNat 0=>p
 | x,y=>x=y/\p
theorem Zdo{b:Bool}{x y:Int}{f g:Bool}{p:Prop}(h:Zjw b x y f g p):(b=false->x=y)/\f=g/\p:=by
 unfold Zjw at h
 cases hx:Bool.xor f g with
 | true=>simp[hx]at h
 | false=>
 have nV:f=g:=by cases f <;> cases g <;> first|rfl|cases hx
 simp only[hx,cond_false]at h
 cases b with
 | true=>exact⟨λh=>(by cases h),nV,h⟩
 | false=>
  simp only[cond_false]at h
  split at h
  ·exact⟨λ_=>rfl,nV,h⟩
  ·exact⟨λ_=>h.1,nV,h.2⟩
theorem Zf5{b:Bool}{g:Int}{k:Int->Prop}(h:ZwN b g k){y:Int}(hy:b=false->y=g):k y:=by
 cases b with
 | true=>exact h y
 | false=>rw[hy rfl];exact h
def Zl5:List Nat->(List (List Value)->Prop)->Prop
 | [],k=>k []
 | _::l,k=>∀cs,Zl5 l λcss=>k (cs::css)
def Zl6:List (Nat×Nat)->(List Value->Prop)->Prop
 | [],k=>k []
 | _::l,k=>∀(a:Option Addr)(n c:Nat),Zl6 l λvs=>k (.slice a n c::vs)
def ZbL(S:St)(A:LoopAnn)(ids:List Nat):List (Option Box):=ids.map λid=>bif A.boxes.any (Nat.beq id ·)then(match S.L id with
 | some x=>some { x with cs:=[] }
 | none=>none)else S.L id
def Za1(S:St)(A:LoopAnn)(ks:List Nat):List (Option Tok):=ks.map λk=>bif A.toks.any (λq=>Nat.beq k q.1)then none else S.tok k
def Zlk(a b:List (Option Box))(p:Prop):Prop:=match a,b with
 | [],[]=>p
 | a,b=>a=b/\p
def Zll(a b:List (Option Tok))(p:Prop):Prop:=match a,b with
 | [],[]=>p
 | a,b=>a=b/\p
theorem ZcA{a b:List (Option Box)}{p:Prop}:Zlk a b p↔a=b/\p:=by
 unfold Zlk
 split
 ·simp
 ·exact Iff.rfl
theorem ZcB{a b:List (Option Tok)}{p:Prop}:Zll a b p↔a=b/\p:=by
 unfold Zll
 split
 ·simp
 ·exact Iff.rfl
abbrev KT:=Exit->St->Mem->Prop
def leT(th:Bool)(m m':Mem):Prop:=bif th then True else m.le m'
theorem leT.of{th:Bool}{m m':Mem}(h:m.le m'):leT th m m':=by
 cases th with
 | true=>trivial
 | false=>exact h
theorem leT.refl(th:Bool)(m:Mem):leT th m m:=.of (Mem.le_refl m)
theorem leT.trans{th:Bool}{a b c:Mem}(h:leT th a b)(k:leT th b c):leT th a c:=by
 cases th with
 | true=>trivial
 | false=>exact mLt h k
def Env.cold(E:Env):Env:={ E with thaw:=false }
def ZyB(th:Bool)(A:LoopAnn)(ds:List Nat)(body:KT->St->Mem->Prop)(K:KT)(S:St)(m:Mem):Prop:=
 ∃I:List Value->List (List Value)->List Value->Mem->Nat->Prop,
  (Zfy S A.slots λxs=>Zha S A.boxes λcss=>ZeF S A.toks λtvs=>∃n,I (ghs A.gh S.gh xs) css tvs m n)/\
  ZwN A.gh S.gh λy=>Shape.allL (A.slots.map (·.2)) λxs=>Zl5 A.boxes λcss=>Zl6 A.toks λtvs=>∀(m':Mem)(n:Nat),leT th m m'->I (ghs A.gh y xs) css tvs m' n->
   body (λe S' m''=>match e with
    | .normal=>Zjw A.gh S'.gh S.gh S'.fo S.fo (Zlk (ZbL S' A S.ids) (ZbL S A S.ids) (Zll (Za1 S' A S.tkeys) (Za1 S A S.tkeys) (Zfy S' A.slots λxs'=>Zha S' A.boxes λcss'=>ZeF S' A.toks λtvs'=>∃n',n' < n/\I (ghs A.gh S'.gh xs') css' tvs' m'' n')))
    | e=>K e S' m'') (ZbF S ds A y xs css tvs) m'
def ZzC(th:Bool)(A:LoopAnn)(ds:List Nat)(x y:KT->St->Mem->Prop)(K:KT)(S:St)(m:Mem):Prop:=
 ∃J:List Value->List (List Value)->List Value->Mem->Prop,
  x (λe S' m'=>match e with
   | .normal=>Zjw A.gh S'.gh S.gh S'.fo S.fo (Zlk (ZbL S' A S.ids) (ZbL S A S.ids) (Zll (Za1 S' A S.tkeys) (Za1 S A S.tkeys) (Zfy S' A.slots λxs=>Zha S' A.boxes λcss=>ZeF S' A.toks λtvs=>J (ghs A.gh S'.gh xs) css tvs m')))
   | e=>K e S' m') S m/\
  ZwN A.gh S.gh λg=>Shape.allL (A.slots.map (·.2)) λxs=>Zl5 A.boxes λcss=>Zl6 A.toks λtvs=>∀m':Mem,leT th m m'->J (ghs A.gh g xs) css tvs m'->y K (ZbF S ds A g xs css tvs) m'
def Zfe:LoopAnn:=⟨[],[],[],false⟩
def ZyC(outs:List (Nat×Shape))(ds:List Nat)(body:(St->Mem->Prop)->St->Mem->Prop)(K:St->Mem->Prop)(S:St)(m:Mem):Prop:=
 Shape.exL (outs.map (·.2)) λxs=>(body (λS' _=>Zjw false S'.gh S.gh S'.fo S.fo (Zlk (ZbL S' Zfe S.ids) (ZbL S Zfe S.ids) (Zll (Za1 S' Zfe S.tkeys) (Za1 S Zfe S.tkeys) (Zfy S' outs λxs'=>xs'=xs)))) S m)/\
  K { S with env:=Zbt (λi=>bif ds.any (Nat.beq i ·)then none else S.env i) outs xs } m
def IX(P:Program)(g:FuncId)(first captured:List Value)(m:Mem)(xs:List (List Value)):Prop:=
 ZdC P g/\∀(p:Int->(Nat->Prop)->World->Prop),Zu0 p->∀(l:Nat)(w:World),Sub m w->p 0 (λ_=>False) w->
  Zjq P m p (λl' g v=>l'=l/\0<=g/\xs[g.toNat]?=some v)->
  Calls P g (first++.func (.yield l) #[] #[]::captured).toArray w λe w'=>∃v M,e=.returned v/\(∀k,M k->k < w'.heap.size)/\(p xs.length M w'\/p (-1) M w')
def Zks:List Nat->List Nat->Bool
 | [],[]=>true
 | a::l,b::l'=>Nat.beq a b&&Zks l l'
 | _,_=>false
def Zl7(K:KT)(e:Exit)(S:St)(m:Mem):Prop:=match e with
 | .ret=>K .ret S m
 | .exit id=>K (.exit id) S m
 | .goto l=>K (.goto l) S m
 | _=>False
def ZyD(th:Bool)(m:Mem)(k:Mem->Prop):Prop:=bif th then ∃mi,Mem.le mi m/\k mi else k m
def Zys(th:Bool)(mi m:Mem)(p:Prop):Prop:=bif th then(mi.le m/\p)else p
theorem ZqF{th:Bool}{m:Mem}{k:Mem->Prop}(h:ZyD th m k):∃mi:Mem,mi.le m/\(th=false->mi=m)/\k mi:=by
 cases th with
 | true=>obtain⟨mi,h1,h2⟩:=h;exact⟨mi,h1,λe=>(by cases e),h2⟩
 | false=>exact⟨m,Mem.le_refl m,λ_=>rfl,h⟩
theorem ZqG{th:Bool}{mi m:Mem}{p:Prop}(h:Zys th mi m p):(th=true->mi.le m)/\p:=by
 cases th with
 | true=>exact⟨λ_=>h.1,h.2⟩
 | false=>exact⟨λe=>(by cases e),h⟩
theorem ZqH{th:Bool}{m:Mem}{k k':Mem->Prop}(h:∀mi:Mem,mi.le m->(th=false->mi=m)->k mi->k' mi)(hx:ZyD th m k):ZyD th m k':=by
 cases th with
 | true=>obtain⟨mi,h1,h2⟩:=hx;exact⟨mi,h1,h mi h1 (λe=>(by cases e)) h2⟩
 | false=>exact h m (Mem.le_refl m) (λ_=>rfl) hx
theorem ZqI{th:Bool}{mi m:Mem}{p q:Prop}(h:p->q)(hx:Zys th mi m p):Zys th mi m q:=by
 cases th with
 | true=>exact⟨hx.1,h hx.2⟩
 | false=>exact h hx
def Zl8(th:Bool)(P:Program)(A:LoopAnn)(f:Operand)(ps:List Nat)(assign body:KT->St->Mem->Prop)(K:KT)(S:St)(m:Mem):Prop:=match S.ev f with
 | some (.v (.func (.func g) first captured))=>chk (Zks ps (A.slots.map (·.1))&&ZbK ps) (ZyD th m λmi=>∃xs:List (List Value),IX P g first.toList captured.toList mi xs/\(∀x∈xs,Shape.fitsL (A.slots.map (·.2)) x=true)/\
   ∃I:List Value->List (List Value)->List Value->Mem->Nat->Prop,
    (Zha S A.boxes λcss=>ZeF S A.toks λtvs=>I (ghs A.gh S.gh []) css tvs m 0)/\
    (ZwN A.gh S.gh λy=>Shape.allL (A.slots.map (·.2)) λx=>Zl5 A.boxes λcss=>Zl6 A.toks λtvs=>∀(m':Mem)(n:Nat),mi.le m'->xs[n]?=some x->I (ghs A.gh y []) css tvs m' n->
     assign (λe S1 m1=>match e with
      | .normal=>body (λe S' m''=>Zys th mi m'' (Zjw A.gh S'.gh S.gh S'.fo S.fo (Zlk (ZbL S' A S.ids) (ZbL S A S.ids) (Zll (Za1 S' A S.tkeys) (Za1 S A S.tkeys) (Zha S' A.boxes λcss'=>ZeF S' A.toks λtvs'=>match e with
       | .normal=>I (ghs A.gh S'.gh []) css' tvs' m'' (n+1)
       | e=>Zl7 K e (ZbF S [] { A with slots:=[] } S'.gh [] css' tvs') m''))))) S1 m1
      | _=>False) (ZbF S [] A y x css tvs) m')/\
    (ZwN A.gh S.gh λy=>Zl5 A.boxes λcss=>Zl6 A.toks λtvs=>∀m':Mem,mi.le m'->I (ghs A.gh y []) css tvs m' xs.length->K .normal (ZbF S [] { A with slots:=[] } y [] css tvs) m'))
 | _=>False
def W(E:Env)(ZaW:Nat->Array Oper->(St->Mem->Prop)->St->Mem->Prop):Code->KT->St->Mem->Prop
 | .skip,K,S,m=>K .normal S m
 | .label _,K,S,m=>K .normal S m
 | .region id ops draw,K,S,m=>match E.joins id with
  | none=>bif draw then ZaW id ops (K .normal) S m else Zwz E ops (List.range ops.size) (K .normal) S m
  | some outs=>ZyC outs (Zbe ops.toList) (λk S m=>bif draw then(bif E.last id then False else ZaW id ops k S m)else Zwz E.cold ops (List.range ops.size) k S m) (K .normal) S m
 | .seq x y,K,S,m=>match E.cuts (ZaM y)with
  | none=>W E ZaW x (λe S' m'=>match e with
   | .normal=>W E ZaW y K S' m'
   | e=>K e S' m') S m
  | some A=>ZzC E.thaw A (Zg2 x) (W E ZaW x) (W E ZaW y) K S m
 | .cond c x y,K,S,m=>wv S c λv=>chk (ZfR v) (br (Zcx v) (W E ZaW x K S m) (W E ZaW y K S m))
 | .block id x,K,S,m=>W E ZaW x (λe S' m'=>match e with
  | .exit id'=>bif Nat.beq id' id then K .normal S' m' else K (.exit id') S' m'
  | e=>K e S' m') S m
 | .loop x,K,S,m=>ZyB E.thaw (E.loops (ZaM x)) (Zg2 x) (W E ZaW x) K S m
 | .exit id,K,S,m=>K (.exit id) S m
 | .ret,K,S,m=>K .ret S m
 | .rangeFunc f ps x y,K,S,m=>Zl8 E.thaw E.P (E.loops (ZaM y)) f ps.toList (W E ZaW x) (W E ZaW y) K S m
 | .scope x,K,S,m=>W E ZaW x (λe S' m'=>match e with
  | .goto _=>False
  | e=>K e S' m') S m
 | _,_,_,_=>False
section
variable {C:Ctx} {S:St} {m:Mem} {a:Act} {w:World}
theorem ZeG{E:Env}(hE:E.ok){F:Fence}(hF:FOk F)(hY:YOk E C){ops:Array Oper}{o:Oper}(hd:∀t,o.dst=some t->t < C.n)(hr:Rel C S m a w){K:St->Mem->Prop}(h:opG E ops o S m K){n:Nat}{next:Act->World->Prop}{Q:Exit->Act->World->Prop}
  (hK:∀S' m' a' w',K S' m'->Rel C S' m' a' w'->next a' w'):
  if Region.wanted o (yielded ops a.tmps)then o.wpIn F n E.P a w next Q else(∀f,o.about E.P w a.eval=some f->F.fn f)/\next (a.put o.dst undef) w:=by
 have j9:opW E S m o K->o.wpIn F n E.P a w next Q:=λhh=>by
  have hO:∀c,o.op≠.defer c:=λc e=>by
   obtain⟨dst,op,type,pos,after,guard⟩:=o
   simp only at e;subst e
   simp[opW,Zcc]at hh
  refine⟨λf _=>hF.fn f,?_⟩
  rw[Oper.semAt_eq _ _ _ hO]
  exact ZqD hE hF hY hd hr hh hK
 have j8:K (S.put o.dst (some (.v undef))) m->(∀f,o.about E.P w a.eval=some f->F.fn f)/\next (a.put o.dst undef) w:=λhh=>
  ⟨λf _=>hF.fn f,hK _ _ _ _ hh (hr.put o.dst hd rfl)⟩
 unfold opG at h
 cases hg:o.guard with
 | none=>
  simp only[hg]at h
  simp only[Region.wanted,hg,if_true]
  exact j9 h
 | some jw=>
  obtain⟨j,want⟩:=jw
  simp only[hg]at h
  cases hj:ops.toList[j]? with
  | none=>simp[hj]at h
  | some oj=>
   simp only[hj]at h
   have hj':ops[j]?=some oj:=by simpa using hj
   cases ht:oj.dst with
   | none=>simp[ht]at h
   | some t=>
    simp only[ht]at h
    cases he:S.env t with
    | none=>simp[he]at h
    | some sv=>
     cases sv with
     | loc id off=>simp[he]at h
     | sl id n' c=>simp[he]at h
     | v v=>
      simp only[he]at h
      obtain⟨v',h1,h2⟩:=hr.env t _ he
      simp only[St.den,Option.some.injEq]at h1
      subst h1
      cases hu:Zdb v with
      | true=>
       simp only[hu,cond_true]at h
       have:Region.wanted o (yielded ops a.tmps)=false:=by
        cases v <;> simp[Zdb]at hu
        simp[Region.wanted,hg,yielded,hj',ht,h2]
       simp only[this,Bool.false_eq_true,if_false]
       exact j8 h
      | false=>
       simp only[hu,cond_false]at h
       obtain⟨h3,h4⟩:=Zag h
       obtain⟨b,rfl⟩:∃b,v=.bool b:=⟨_,ZbC h3⟩
       have hw:Region.wanted o (yielded ops a.tmps)=(b == want):=by
        simp[Region.wanted,hg,yielded,hj',ht,h2]
       rw[hw]
       simp only[Zcx]at h4
       cases b <;> cases want <;> simp only[br]at h4 <;> simp <;> first
        | exact j9 h4
        | exact j8 h4
theorem Rel.refine{t:Nat}{v:Value}(hr:Rel C S m a w)(he:S.env t=some (.v v)):Rel C (S.put (some t) (some (.v v))) m a w:=by
 have:S.put (some t) (some (.v v))=S:=by
  unfold St.put
  have:(λi=>bif Nat.beq i t then some (SV.v v)else S.env i)=S.env:=by
   funext i
   by_cases hi:i=t
   ·subst hi;simp[he]
   ·simp[Zas hi]
  simp only[this]
 rw[this];exact hr
theorem Zjx{E:Env}(hE:E.ok){F:Fence}(hF:FOk F)(hY:YOk E C){ops:Array Oper}{o:Oper}(hd:∀t,o.dst=some t->t < C.n)(hr:Rel C S m a w){K:St->Mem->Prop}(h:Zxe E ops o S m K){n:Nat}{next:Act->World->Prop}{Q:Exit->Act->World->Prop}
  (hK:∀S' m' a' w',K S' m'->Rel C S' m' a' w'->next a' w'):
  if Region.wanted o (yielded ops a.tmps)then o.wpIn F n E.P a w next Q else(∀f,o.about E.P w a.eval=some f->F.fn f)/\next (a.put o.dst undef) w:=by
 unfold Zxe at h
 split at h
 ·exact ZeG hE hF hY hd hr h hK
 ·rename_i t _
  split at h
  ·rename_i v he
   cases hu:Zdb v with
   | true=>simp only[hu,cond_true]at h;exact ZeG hE hF hY hd hr h hK
   | false=>
    simp only[hu,cond_false]at h
    obtain⟨h1,h2⟩:=Zag h
    obtain⟨b,rfl⟩:∃b,v=.bool b:=⟨_,ZbC h1⟩
    have eH:=hr.refine he
    cases b
    ·exact ZeG hE hF hY hd eH h2 hK
    ·exact ZeG hE hF hY hd eH h2 hK
  ·exact h.elim
theorem ZeH{n:Nat}:∀{l:List Oper},ZnZ n l=true->∀(i:Nat) o,l[i]?=some o->∀t,o.dst=some t->t < n
 | [],_,i,o,h,_,_=>by simp at h
 | x::l,hl,i,o,h,t,ht=>by
  simp only[ZnZ,zA7]at hl
  cases i with
  | zero=>
   simp at h;subst h
   simp[Zx0,ht]at hl
   exact hl.1
  | succ i=>exact ZeH hl.2 i o (by simpa using h) t ht
theorem ZgN{E:Env}(hE:E.ok){F:Fence}(hF:FOk F)(hY:YOk E C){ops:Array Oper}(aC:ZnZ C.n ops.toList=true){n:Nat}{Q:Exit->Act->World->Prop}:∀(l:List Nat){K:St->Mem->Prop}{S:St}{m:Mem}{a:Act}{w:World},Rel C S m a w->Zwz E ops l K S m->
  (∀S' m' a' w',K S' m'->Rel C S' m' a' w'->Q .normal a' w')->wpOpsIn F n E.P ops Q l a w
 | [],K,S,m,a,w,hr,h,hK=>hK _ _ _ _ h hr
 | i::l,K,S,m,a,w,hr,h,hK=>by
  simp only[Zwz]at h
  cases ho:ops.toList[i]? with
  | none=>simp[ho]at h
  | some o=>
   simp only[ho]at h
   have ho':ops[i]?=some o:=by simpa using ho
   have:=Zjx hE hF hY (ZeH aC i o ho) hr h (n:=n) (Q:=Q) (next:=wpOpsIn F n E.P ops Q l) (λS' m' a' w' hk aV=>ZgN hE hF hY aC l aV hk hK)
   simp only[wpOpsIn,ho']
   exact this
end
def SameOut(ds:List Nat)(S S':St):Prop:=∀i,i ∉ ds->S'.env i=S.env i
theorem SameOut.refl(ds:List Nat)(S:St):SameOut ds S S:=λ_ _=>rfl
theorem SameOut.trans{ds:List Nat}{a b c:St}(h:SameOut ds a b)(k:SameOut ds b c):SameOut ds a c:=λi hi=>(k i hi).trans (h i hi)
theorem SameOut.mono{ds ds':List Nat}{a b:St}(h:SameOut ds a b)(k:∀i,i∈ds->i∈ds'):SameOut ds' a b:=λi hi=>h i (λhm=>hi (k i hm))
theorem SameOut.put{ds:List Nat}{S S':St}(h:SameOut ds S S'){d:Option Tmp}(hd:∀t,d=some t->t∈ds)(x:Option SV):SameOut ds S (S'.put d x):=by
 cases d with
 | none=>exact h
 | some d=>
  intro i hi
  have cS:i≠d:=λe=>hi (e ▸ hd d rfl)
  simp[St.put,Zas cS,h i hi]
theorem Zf6{b:Bool}{p q p' q':Prop}(h:p->p')(k:q->q')(x:br b p q):br b p' q':=by
 cases b
 ·exact k x
 ·exact h x
theorem Zah{b:Bool}{p p':Prop}(h:p->p')(x:chk b p):chk b p':=Zf6 h id x
theorem Zaw{S:St}{x:Operand}{k k':Value->Prop}(h:∀v,k v->k' v)(hx:wv S x k):wv S x k':=by
 unfold wv at *
 split at hx
 ·exact h _ hx
 ·exact hx
theorem Zcg{S:St}:∀{l:List Operand} {k k':List Value->Prop},(∀v,k v->k' v)->wvs S l k->wvs S l k'
 | [],k,k',h,hx=>h _ hx
 | x::l,k,k',h,hx=>Zaw (λv hv=>Zcg (λvs eC=>h _ eC) hv) hx
theorem ZeI{l:List Value}{n:Nat}{k k':Value->Prop}(h:∀v,k v->k' v)(hx:Zsd l n k):Zsd l n k':=by
 unfold Zsd at *
 split at hx
 ·exact h _ hx
 ·exact hx
theorem Zpc:∀{n:Nat} {k k':List Value->Prop},(∀v,k v->k' v)->exN n k->exN n k'
 | 0,k,k',h,hx=>h _ hx
 | n+1,k,k',h,⟨v,hx⟩=>⟨v,Zpc (λl hl=>h _ hl) hx⟩
theorem allL_mono:∀{n:Nat} {k k':List (List Value)->Prop},(∀v,k v->k' v)->allL n k->allL n k'
 | 0,k,k',h,hx=>h _ hx
 | n+1,k,k',h,hx=>λcs=>allL_mono (λl hl=>h _ hl) (hx cs)
mutual
theorem Shape.all_mono:∀(s:Shape){k k':Value->Prop},(∀v,k v->k' v)->s.all k->s.all k'
 | .any,k,k',h,hx=>by simp only[Shape.all]at *;exact λv=>h _ (hx v)
 | .int ki,k,k',h,hx=>by simp only[Shape.all]at *;exact λv=>h _ (hx v)
 | .bool,k,k',h,hx=>by simp only[Shape.all]at *;exact λv=>h _ (hx v)
 | .str,k,k',h,hx=>by simp only[Shape.all]at *;exact λv=>h _ (hx v)
 | .slice,k,k',h,hx=>by simp only[Shape.all]at *;exact λa n c=>h _ (hx a n c)
 | .agg l,k,k',h,hx=>by simp only[Shape.all]at *;exact Shape.allL_mono l (λvs eC=>h _ eC) hx
 | .tup l,k,k',h,hx=>by simp only[Shape.all]at *;exact Shape.allL_mono l (λvs eC=>h _ eC) hx
 | .fn,k,k',h,hx=>by simp only[Shape.all]at *;exact λg fi ca=>h _ (hx g fi ca)
 | .cells,k,k',h,hx=>by simp only[Shape.all]at *;exact λcs=>h _ (hx cs)
 | .ptr,k,k',h,hx=>by simp only[Shape.all]at *;exact λb o=>h _ (hx b o)
theorem Shape.allL_mono:∀(l:List Shape){k k':List Value->Prop},(∀v,k v->k' v)->Shape.allL l k->Shape.allL l k'
 | [],k,k',h,hx=>by simp only[Shape.allL]at *;exact h _ hx
 | s::l,k,k',h,hx=>by simp only[Shape.allL]at *;exact Shape.all_mono s (λv hv=>Shape.allL_mono l (λvs eC=>h _ eC) hv) hx
end
mutual
theorem Shape.ex_mono:∀(s:Shape){k k':Value->Prop},(∀v,k v->k' v)->s.ex k->s.ex k'
 | .any,k,k',h,hx=>by simp only[Shape.ex]at *;obtain⟨v,hx⟩:=hx;exact⟨v,h _ hx⟩
 | .int ki,k,k',h,hx=>by simp only[Shape.ex]at *;obtain⟨v,hx⟩:=hx;exact⟨v,h _ hx⟩
 | .bool,k,k',h,hx=>by simp only[Shape.ex]at *;obtain⟨v,hx⟩:=hx;exact⟨v,h _ hx⟩
 | .str,k,k',h,hx=>by simp only[Shape.ex]at *;obtain⟨v,hx⟩:=hx;exact⟨v,h _ hx⟩
 | .slice,k,k',h,hx=>by simp only[Shape.ex]at *;obtain⟨a,n,c,hx⟩:=hx;exact⟨a,n,c,h _ hx⟩
 | .agg l,k,k',h,hx=>by simp only[Shape.ex]at *;exact Shape.exL_mono l (λvs eC=>h _ eC) hx
 | .tup l,k,k',h,hx=>by simp only[Shape.ex]at *;exact Shape.exL_mono l (λvs eC=>h _ eC) hx
 | .fn,k,k',h,hx=>by simp only[Shape.ex]at *;obtain⟨g,fi,ca,hx⟩:=hx;exact⟨g,fi,ca,h _ hx⟩
 | .cells,k,k',h,hx=>by simp only[Shape.ex]at *;obtain⟨cs,hx⟩:=hx;exact⟨cs,h _ hx⟩
 | .ptr,k,k',h,hx=>by simp only[Shape.ex]at *;obtain⟨b,o,hx⟩:=hx;exact⟨b,o,h _ hx⟩
theorem Shape.exL_mono:∀(l:List Shape){k k':List Value->Prop},(∀v,k v->k' v)->Shape.exL l k->Shape.exL l k'
 | [],k,k',h,hx=>by simp only[Shape.exL]at *;exact h _ hx
 | s::l,k,k',h,hx=>by simp only[Shape.exL]at *;exact Shape.ex_mono s (λv hv=>Shape.exL_mono l (λvs eC=>h _ eC) hv) hx
end
theorem ZqJ{op:BinOp}{k:IntKind}{a b:Int}{r r':Value->Prop}(h:∀v,r v->r' v)(x:ZwH op k a b r):ZwH op k a b r':=by
 cases op <;> simp only[ZwH]at * <;> first
  | exact h _ x
  | exact⟨x.1,h _ x.2⟩
  | exact x
theorem Zl9{op:BinOp}{k:IntKind}{a b:Int}{r r':Value->Prop}(h:∀v,r v->r' v)(x:Zh1 op k a b r):Zh1 op k a b r':=by
 cases op <;> simp only[Zh1]at * <;> first
  | exact⟨x.1,h _ x.2⟩
  | exact x
theorem ZqK{op:BinOp}{a b:ByteArray}{r r':Value->Prop}(h:∀v,r v->r' v)(x:ZwI op a b r):ZwI op a b r':=by
 cases op <;> simp only[ZwI]at * <;> first
  | exact h _ x
  | exact⟨x.1,h _ x.2⟩
  | exact x
theorem Zic{op:BinOp}{b:Bool}{r r':Value->Prop}(h:∀v,r v->r' v)(x:Zr7 op b r):Zr7 op b r':=by
 cases op <;> simp only[Zr7]at * <;> first
  | exact h _ x
  | exact x
theorem Zma{E:Env}{op:BinOp}{T:TypeId}{x y:Value}{r r':Value->Prop}(h:∀v,r v->r' v)(hx:Zwy E op T x y r):Zwy E op T x y r':=by
 unfold Zwy at *
 cases ht:E.tt T with
 | none=>simp[ht]at hx
 | some i=>
  simp only[ht]at *
  cases hd:i.d <;> simp only[hd]at * <;> first
   | exact hx.elim
   | exact Zah (λy=>ZqK h y) hx
   | exact Zah (Zic h) hx
   | exact Zah (λ⟨b,hb,y⟩=>⟨b,hb,Zic h y⟩) hx
   | (cases hc:ZuZ op <;> simp only[hc,cond_true,cond_false]at * <;> exact hx.elim λv y=>⟨v,y.1,h _ y.2⟩)
   | (cases hs:ZhB op <;> simp only[hs,cond_true,cond_false]at * <;> first
     | exact Zah (ZqJ h) hx
     | exact Zah (Zl9 h) hx)
theorem Zjy{place:Nat->Option (Nat×Nat)}:∀{parts:List (Nat×Value)} {cs:List Value} {k k':List Value->Prop},(∀v,k v->k' v)->Zli place cs parts k->Zli place cs parts k'
 | [],cs,k,k',h,hx=>h _ hx
 | (i,v)::rest,cs,k,k',h,hx=>by
  simp only[Zli]at *
  cases hp:place i with
  | none=>simp[hp]at hx
  | some os=>simp only[hp]at *;exact Zah (Zjy h) hx
theorem Zbk{x:Option Value}{d y:Nat}{r r':Nat->Prop}(h:∀v,r v->r' v)(hx:ZfT x d y r):ZfT x d y r':=by
 cases x with
 | none=>exact h _ hx
 | some v=>exact Zah (λ⟨a,b⟩=>⟨a,h _ b⟩) hx
theorem Zid{S:St}{x:Option Operand}{r r':Option Value->Prop}(h:∀v,r v->r' v)(hx:ZwK S x r):ZwK S x r':=by
 cases x with
 | none=>exact h _ hx
 | some v=>exact Zaw (λv hv=>h _ hv) hx
theorem ZhH{E:Env}{T:TypeId}{v:Value}{lo hi mx:Option Value}{r r':Value->Prop}(h:∀v,r v->r' v)(hx:Zg9 E T v lo hi mx r):Zg9 E T v lo hi mx r':=by
 unfold Zg9 at *
 cases he:ZgJ E T with
 | some sz=>simp only[he]at *;exact Zah (λy=>Zbk (λm y=>Zbk (λh' y=>Zbk (λl y=>Zah (h _) y) y) y) y) hx
 | none=>
  simp only[he]at *
  cases hs:Zd2 E T <;> simp only[hs,cond_true,cond_false]at *
  exact Zah (λy=>Zbk (λh' y=>Zbk (λl y=>h _ y) y) y) hx
theorem Zjz{E:Env}{S:St}{o:Oper}{k k':SV->Prop}(h:∀v,k v->k' v)(hx:Zcc E S o k):Zcc E S o k':=by
 obtain⟨dst,op,type,pos,after,guard⟩:=o
 cases op <;> simp only[Zcc]at * <;> try exact hx.elim
 case unOp op T x=>
  refine Zaw (λv y=>?_) hx
  cases op <;> simp only at *
  ·split at y <;> first|exact Zah (h _) y|exact y.elim
  ·split at y <;> first|exact Zah (h _) y|exact y.elim
  ·exact Zah (h _) y
 case binOp=>exact Zaw (λv y=>Zaw (λv' y=>Zma (λr y=>h _ y) y) y) hx
 case convert=>
  refine Zaw (λv y=>?_) hx
  unfold Zqt at *
  (repeat' split at y) <;> first|exact(y:False).elim|exact Zah (h _) y|exact y.elim λu z=>⟨u,z.1,h _ z.2⟩
 case makeFunc=>exact Zcg (λv y=>Zcg (λv' y=>h _ y) y) hx
 case fieldAddr=>
  (repeat' split at hx) <;> first|exact hx.elim|exact h _ hx|exact Zah (h _) hx
 case indexAddr=>
  refine Zaw (λv y=>Zah (λy=>?_) y) hx
  split at y
  ·exact y.elim
  ·refine⟨y.1,?_⟩
   have y2:=y.2
   (repeat' split at y2) <;> first|exact y2.elim|exact h _ y2|exact Zah (h _) y2
  ·(repeat' split at y) <;> first
    | exact y.elim
    | exact⟨y.1,h _ y.2⟩
    | exact Zah (λ⟨b,o,h1,h2,h3⟩=>⟨b,o,h1,h2,h _ h3⟩) y
 case index=>
  refine Zaw (λv y=>Zaw (λv' y=>Zah (λy=>?_) y) y) hx
  cases hs:Zd2 E _ <;> simp only[hs,cond_true,cond_false]at *
  ·split at y
   ·exact Zah (λ⟨a,b⟩=>⟨a,ZeI (λu hu=>h _ hu) b⟩) y
   ·exact y.elim
  ·exact Zah (λ⟨a,b⟩=>⟨a,h _ b⟩) y
 case build=>
  split at hx
  ·exact hx.elim
  ·exact Zcg (λvs y=>Zjy (λr y=>h _ y) y) hx
 case field=>
  split at hx
  ·exact hx.elim
  ·exact Zaw (λv y=>Zah (λy=>ZeI (λu hu=>h _ hu) y) y) hx
 case extract=>exact Zaw (λv y=>Zah (λy=>ZeI (λu hu=>h _ hu) y) y) hx
 case makeInterface=>exact Zaw (λv y=>Zah (h _) y) hx
 case nilCheck=>(repeat' split at hx) <;> first|exact hx.elim|exact h _ hx|exact Zah (h _) hx
 case slice=>exact Zaw (λv y=>Zid (λl y=>Zid (λh' y=>Zid (λm y=>ZhH (λr y=>h _ y) y) y) y) y) hx
 case call c=>
  split at hx
  ·split at hx
   ·refine Zaw (λv y=>?_) hx
    unfold Zxb at *
    (repeat' split at y) <;> first|exact y.elim|exact Zah (h _) y|exact h _ y
   ·exact hx.elim
  ·split at hx
   ·refine Zaw (λv y=>Zaw (λv' y=>?_) y) hx
    split at y
    ·exact Zah (h _) y
    ·exact y.elim
   ·exact hx.elim
  ·split at hx
   ·refine Zaw (λv y=>Zaw (λv' y=>?_) y) hx
    split at y
    ·exact Zah (h _) y
    ·exact y.elim
   ·refine Zaw (λv y=>Zaw (λv' y=>Zaw (λv'' y=>?_) y) y) hx
    split at y
    ·exact Zah (h _) y
    ·exact y.elim
   ·exact hx.elim
  ·exact hx.elim
def dl(d:Option Tmp):List Nat:=match d with
 | none=>[]
 | some t=>[t]
theorem Zxf{d:Option Tmp}{t:Nat}(h:d=some t):t∈dl d:=by subst h;simp[dl]
theorem Zb0(S:St)(d:Option Tmp)(x:Option SV):SameOut (dl d) S (S.put d x):=(SameOut.refl _ S).put (λt ht=>Zxf ht) x
theorem ZdI{ds:List Nat}{S S':St}(h:S'.env=S.env):SameOut ds S S':=λi _=>by rw[h]
theorem Zkt{i:TI}{m:Mem}{b o:Nat}{k k':Value->Prop}(h:∀v,k v->k' v)(hx:Zem i m b o k):Zem i m b o k':=by
 unfold Zem at *
 cases ha:i.agg <;> simp only[ha,cond_true,cond_false]at *
 ·obtain⟨v,h1,h2⟩:=hx;exact⟨v,h1,h _ h2⟩
 ·cases hb:Nat.ble i.size 16 <;> simp only[hb,cond_true,cond_false]at *
  ·obtain⟨vs,h1,h2,h3⟩:=hx;exact⟨vs,h1,h2,h _ h3⟩
  ·exact Zpc (λvs ⟨a,b⟩=>⟨a,h _ b⟩) hx
theorem Zd5{i:TI}{x:Box}{off:Nat}{k k':Value->Prop}(h:∀v,k v->k' v)(hx:ZdB i x off k):ZdB i x off k':=by
 unfold ZdB at *
 cases ha:i.agg <;> simp only[ha,cond_true,cond_false]at *
 ·exact ZeI h hx
 ·cases hb:(x.full&&(Nat.beq x.cap i.size&&Nat.beq off 0)) <;> simp only[hb,cond_true,cond_false]at *
  ·exact Zah (h _) hx
  ·exact h _ hx
theorem ZcS{E:Env}{S:St}{m:Mem}{T:TypeId}{x:Operand}{k k':Value->Prop}(h:∀v,k v->k' v)(hx:ZeB E S m T x k):ZeB E S m T x k':=by
 unfold ZeB at *
 split at hx
 ·exact hx.elim
 ·split at hx
  ·split at hx
   ·exact hx.elim
   ·exact Zd5 h hx
  ·split at hx
   ·exact Zah (Zkt h) hx
   ·split at hx
    ·exact hx.elim
    ·exact Zah (λ⟨a,b⟩=>⟨a,Zd5 h b⟩) hx
  ·exact hx.elim
theorem ZjA{E:Env}{S:St}{m:Mem}{T:TypeId}{id:Nat}{vd vs:Value}{k k':Int->St->Prop}(h:∀n S',S'.env=S.env->k n S'->k' n S')(hx:ZnX E S m T id vd vs k):ZnX E S m T id vd vs k':=by
 unfold ZnX at *
 split at hx
 ·exact hx.elim
 ·split at hx
  ·exact hx.elim
  ·exact Zah (λg hf=>by
   obtain⟨o,xs,h1,h2,h3,h4,h5,h6⟩:=g hf
   exact⟨o,xs,h1,h2,h3,h4,h5,h _ _ rfl h6⟩) hx
theorem Zff{E:Env}{S:St}{T:TypeId}{x:Operand}{v:Value}{k k':St->Prop}(h:∀S',S'.env=S.env->k S'->k' S')(hx:Zfx E S T x v k):Zfx E S T x v k':=by
 unfold Zfx at *
 split at hx
 ·exact hx.elim
 ·split at hx
  ·split at hx
   ·exact hx.elim
   ·refine Zah (λy=>?_) hx
    cases hb:(_&&(Nat.beq _ _&&Nat.beq _ 0)) <;> simp only[hb,cond_true,cond_false]at *
    ·exact Zah (h _ rfl) y
    ·exact h _ rfl y
  ·split at hx
   ·exact hx.elim
   ·split at hx
    ·exact hx.elim
    ·exact Zah (λ⟨a,b,c⟩=>⟨a,b,h _ rfl c⟩) hx
  ·exact hx.elim
theorem Zmb(S:St)(ids:List Nat)(bxs:List Box)(css:List (List Value)):(Zda S ids bxs css).env=S.env:=by
 rw[ZcY]
theorem ZhI{E:Env}{S:St}{m:Mem}{rt:TypeId}{g:FuncId}{args:List Value}{key esz:Nat}{K K':Value->St->Mem->Prop}(h:∀v S' m',S'.env=S.env->m.le m'->K v S' m'->K' v S' m')(hx:Zh7 E S m rt g args key esz K):Zh7 E S m rt g args key esz K':=by
 obtain⟨R,hx⟩:=hx
 exact⟨R,Zqw (λ⟨h1,h2,h3⟩=>⟨h1,h2,Shape.all_mono _ (λv y m' hm hr=>h v _ m' rfl hm (y m' hm hr)) h3⟩) hx⟩
theorem ZjB{E:Env}{S:St}{m:Mem}{rt:TypeId}{g:FuncId}{args:List Value}{ids:List Nat}{K K':Value->St->Mem->Prop}(h:∀v S' m',S'.env=S.env->m.le m'->K v S' m'->K' v S' m')(hx:Zlj E S m rt g args ids K):Zlj E S m rt g args ids K':=by
 unfold Zlj at *
 split at hx
 ·exact hx.elim
 ·refine Zah (λ⟨R,h0,h1,h2,h3⟩=>⟨R,h0,h1,h2,Shape.all_mono _ (λv y m' hm=>allL_mono (λcss y hR=>h _ _ _ (Zmb _ _ _ _) hm (y hR)) (y m' hm)) h3⟩) hx
theorem Zmc{E:Env}{S:St}{m:Mem}{rt:TypeId}{g:FuncId}{args:List Value}{ids:List Nat}{ks:List (Nat×Nat)}{K K':Value->St->Mem->Prop}(h:∀v S' m',S'.env=S.env->K v S' m'->K' v S' m')(hx:ZlU E S m rt g args ids ks K):ZlU E S m rt g args ids ks K':=by
 unfold ZlU at *
 split at hx
 ·exact hx.elim
 ·split at hx
  ·exact hx.elim
  ·exact Zah (λ⟨Y,R,h1,h2,h3,h4,h5⟩=>⟨Y,R,h1,h2,h3,h4,Shape.all_mono _ (λv y m' hm hn=>allL_mono (λcss y=>Zjs (λtvs y hR=>h _ _ _ (Zmb S _ _ _) (y hR)) y) (y m' hm hn)) h5⟩) hx
theorem Zeq{S:St}{m:Mem}{x:Operand}{k k':Value->Prop}(h:∀v,k v->k' v)(hx:Zbs S m x k):Zbs S m x k':=by
 unfold Zbs at *
 split at hx
 ·split at hx
  ·exact hx.elim
  ·obtain⟨bs,h1,h2,h3⟩:=hx
   exact⟨bs,h1,h2,h _ h3⟩
 ·exact Zaw (λv y=>Zah (λ⟨bs,h1,h2,h3⟩=>⟨bs,h1,h2,h _ h3⟩) y) hx
theorem ZqL{E:Env}{rt:TypeId}{g:FuncId}{args:List Value}{K K':Value->Int->Prop}{S:St}{m:Mem}(h:∀v gh,K v gh->K' v gh)(hx:ZxY E rt g args K S m):ZxY E rt g args K' S m:=by
 unfold ZxY at *
 split at hx
 ·exact hx.elim
 ·obtain⟨l,xs,go,stop,h1,h2,h3,h4⟩:=hx
  exact⟨l,xs,go,stop,h1,h2,h3,Shape.all_mono _ (λv hv=>⟨λhg=>h _ _ (hv.1 hg),λhs=>h _ _ (hv.2 hs)⟩) h4⟩
theorem Zd6{E:Env}{S:St}{m:Mem}{T xT:TypeId}{key:Nat}{vs vx:Value}{K K':Value->(Nat->Option Tok)->Mem->Prop}(h:∀v tk m',m.le m'->K v tk m'->K' v tk m')(hx:ZdF E S m T xT key vs vx K):ZdF E S m T xT key vs vx K':=by
 unfold ZdF at *
 split at hx
 ·exact hx.elim
 ·split at hx
  ·exact hx.elim
  ·have hb:∀{j:TI},Zxd E S m j key vs vx K->Zxd E S m j key vs vx K':=λ⟨ht,xs,ys,a1,a2,a3,a4,a5,a6,a7,a8⟩=>⟨ht,xs,ys,a1,a2,a3,a4,a5,a6,a7,λa' c' m' h1 h2=>ZlX (h _ _ _ h1) (a8 a' c' m' h1 h2)⟩
   refine Zah (λy=>?_) hx
   exact hb y
theorem Zku{E:Env}{S:St}{m:Mem}{T xT:TypeId}{key:Nat}{z:Bool}{vs vx:Value}{K K':Value->(Nat->Option Tok)->Mem->Prop}(h:∀v tk m',m.le m'->K v tk m'->K' v tk m')(hx:ZfY E S m T xT key z vs vx K):ZfY E S m T xT key z vs vx K':=by
 unfold ZfY at *
 cases z with
 | false=>exact Zd6 h hx
 | true=>
  refine Zf6 (λy=>?_) (λy=>Zd6 h y) hx
  unfold Zu5 at *
  split at y
  ·exact y.elim
  ·split at y
   ·exact y.elim
   ·exact Zah (λq=>h _ _ _ (Mem.le_refl m) q) y
def Zmd(E:Env)(o:Oper):Prop:=(∀T x y,o.op=.store T x y->Zl1 E x=none)/\(∀f as ats,o.op=.call ⟨.value f,as,ats⟩->ZdD E o.dst=none)/\(∀T x y z,o.op=.mapUpdate T x y z->E.thaw=false)
theorem Zte(E:Env)(o:Oper):E.thaw=true\/Zmd E o:=by
 cases h:E.thaw with
 | true=>exact .inl rfl
 | false=>exact .inr ⟨λT x y _=>by simp[Zl1,h],λ_ _ _ _=>by simp[ZdD,h],λ_ _ _ _ _=>h⟩
theorem Zlv{th:Bool}{E:Env}{S:St}{m:Mem}{o:Oper}(fR:th=true\/Zmd E o){K K':St->Mem->Prop}(h0:∀S' m',SameOut (dl o.dst) S S'->leT th m m'->K S' m'->K' S' m')(hx:opW E S m o K):opW E S m o K':=by
 have h:∀S' m',SameOut (dl o.dst) S S'->m.le m'->K S' m'->K' S' m':=λS' m' hs hm=>h0 S' m' hs (.of hm)
 have hp:∀x,K (S.put o.dst x) m->K' (S.put o.dst x) m:=λx=>h _ _ (Zb0 S _ x) (Mem.le_refl m)
 have fE:∀(S1:St) x m',S1.env=S.env->m.le m'->K (S1.put o.dst x) m'->K' (S1.put o.dst x) m':=λS1 x m' he hm=>h _ _ ((ZdI he).trans (Zb0 S1 _ x)) hm
 obtain⟨dst,op,type,pos,after,guard⟩:=o
 simp only at hp fE
 have eP:∀(o:Oper),o.dst=dst->Zcc E S o (λsv=>K (S.put dst (some sv)) m)->Zcc E S o (λsv=>K' (S.put dst (some sv)) m):=λo ho y=>Zjz (λsv y=>hp _ y) y
 cases op with
 | move x=>exact hp _ hx
 | assign x=>exact hp _ hx
 | pick c x y=>exact Zaw (λv y=>Zah (λy=>Zf6 (hp _) (hp _) y) y) hx
 | load T x=>
  simp only[opW]at hx ⊢
  cases ng:Zsh E dst with
  | none=>simp only[ng]at hx ⊢;exact ZcS (λv y=>hp _ y) hx
  | some y=>
   simp only[ng]at hx ⊢
   exact ZcS (λv y=>Zo8 (λv y=>hp _ y) y) hx
 | store T x y=>
  refine Zaw (λv y=>?_) hx
  cases j8:Zl1 E x with
  | none=>
   simp only[j8]at y ⊢
   exact Zff (λS' he y=>fE S' _ _ he (Mem.le_refl m) y) y
  | some key=>
   simp only[j8]at y ⊢
   have fR:th=true:=by
    rcases fR with h|h
    ·exact h
    ·have:=h.1 T x _ rfl;rw[j8]at this;cases this
   cases cJ:E.fix with
   | some f=>simp[cJ]at y
   | none=>
    simp only[cJ,Option.isSome_none,cond_false]at y ⊢
    unfold Zf1 at *
    refine Zaw (λp y=>?_) y
    split at y
    ·exact y.elim
    ·split at y
     ·split at y
      ·exact y.elim
      ·exact Zah (λ⟨y1,y2,y3,y4⟩=>⟨y1,y2,y3,Zh8 (h0 _ _ (Zb0 S _ _) (by rw[fR];trivial)) y4⟩) y
     ·exact Zah (λ⟨y1,y2,y3⟩=>⟨y1,y2,h0 _ _ (Zb0 S _ _) (by rw[fR];trivial) y3⟩) y
 | alloc T=>
  simp only[opW,Zqz]at *
  split at hx
  ·exact hx.elim
  ·split at hx
   ·exact hx.elim
   ·split at hx
    ·exact hx.elim
    ·exact λb=>fE _ _ _ rfl (Mem.le_refl m) (hx b)
 | box T x=>
  refine Zaw (λv y=>?_) hx
  simp only at y ⊢
  cases mo:Ze7 E dst with
  | true=>
   simp only[mo,cond_true]at y ⊢
   cases cJ:E.fix with
   | some f=>simp[cJ]at y
   | none=>
    simp only[cJ,Option.isSome_none,cond_false,ZwL]at y ⊢
    split at y
    ·exact y.elim
    ·split at y
     ·exact y.elim
     ·split at y
      ·exact y.elim
      ·exact Zah (λy b m' hm hb=>Zoa (fE _ _ _ rfl hm) (y b m' hm hb)) y
  | false=>
  simp only[mo,cond_false]at y ⊢
  simp only[ZyA]at *
  split at y
  ·exact y.elim
  ·split at y
   ·exact y.elim
   ·split at y
    ·exact y.elim
    ·exact Zah (λy b=>fE _ _ _ rfl (Mem.le_refl m) (y b)) y
 | buildSlice T len parts=>
  cases gG:Zcz E dst with
  | some ke=>
   simp only[opW,gG]at hx ⊢
   cases cJ:E.fix with
   | some f=>simp[cJ]at hx
   | none=>
    simp only[cJ,Option.isSome_none,cond_false]at hx ⊢
    split at hx
    ·simp only[Zkj]at hx ⊢
     split at hx
     ·exact hx.elim
     ·split at hx
      ·exact hx.elim
      ·exact Zaw (λv y=>Zaw (λv' y=>Zah (λ⟨a,y⟩=>⟨a,λb=>Zpa (fE _ _ _ rfl (Mem.le_refl m)) (y b)⟩) y) y) hx
    ·exact hx.elim
  | none=>
  simp only[opW,gG,ZdE]at hx ⊢
  split at hx
  ·exact hx.elim
  ·split at hx
   ·exact hx.elim
   ·split at hx
    ·split at hx
     ·exact hx.elim
     ·split at hx
      ·exact hx.elim
      ·exact Zah (λy=>Zcg (λvs y=>Zah (λy b hf=>fE _ _ _ rfl (Mem.le_add hf _) (y b hf)) y) y) hx
    ·exact hx.elim
 | lookup T x y ok=>
  simp only[opW,ZuF]at hx ⊢
  refine Zaw (λv y=>Zaw (λv' y=>?_) y) hx
  split at y
  ·exact y
  ·obtain⟨b,es,u,o,h1,h2,h3,h4,h5⟩:=y
   exact⟨b,es,u,o,h1,h2,h3,h4,fE _ _ _ rfl (Mem.le_refl m) h5⟩
 | mapUpdate T x y z=>
  simp only[opW]at hx ⊢
  cases cJ:E.fix with
  | some f=>simp[cJ]at hx
  | none=>
   simp only[cJ,Option.isSome_none,Bool.false_or]at hx ⊢
   cases pR:E.thaw with
   | false=>simp[pR]at hx
   | true=>
    simp only[pR,Bool.not_true,cond_false,ZqC]at hx ⊢
    have qM:th=true:=by
     rcases fR with fR|fR
     ·exact fR
     ·rw[fR.2.2 T x y z rfl]at pR;cases pR
    refine Zaw (λv y=>Zaw (λv' y=>Zaw (λv2 y=>?_) y) y) hx
    split at y
    ·exact y
    ·split at y
     ·exact y
     ·refine Zah (λy=>?_) y
      obtain⟨b,es,es',h1,h2,h3,h4,h5,h6⟩:=y
      exact⟨b,es,es',h1,h2,h3,h4,h5,h0 _ _ (Zb0 S _ none) (by rw[qM];trivial) h6⟩
 | makeMap T r=>
  simp only[opW]at hx ⊢
  cases cJ:E.fix with
  | some f=>simp[cJ]at hx
  | none=>
   simp only[cJ,Option.isSome_none,cond_false,Ztc]at hx ⊢
   split at hx
   ·exact hx.elim
   ·exact λb h1 h2=>fE _ _ _ rfl (Mem.le_updK (Mem.le_refl m) h2 _) (hx b h1 h2)
 | makeSlice T l c=>
  simp only[opW]at hx ⊢
  cases gG:Zcz E dst with
  | none=>
   simp only[gG]at hx ⊢
   simp only[ZuE]at hx ⊢
   split at hx
   ·exact hx.elim
   ·split at hx
    ·exact hx.elim
    ·split at hx
     ·exact hx.elim
     ·exact Zaw (λv y=>Zaw (λv' y=>Zah (λ⟨a,y⟩=>⟨a,λb=>fE _ _ _ rfl (Mem.le_refl m) (y b)⟩) y) y) hx
  | some ke=>
   simp only[gG]at hx ⊢
   cases cJ:E.fix with
   | some f=>simp[cJ]at hx
   | none=>
    simp only[cJ,Option.isSome_none,cond_false,Zkj]at hx ⊢
    split at hx
    ·exact hx.elim
    ·split at hx
     ·exact hx.elim
     ·exact Zaw (λv y=>Zaw (λv' y=>Zah (λ⟨a,y⟩=>⟨a,λb=>Zpa (fE _ _ _ rfl (Mem.le_refl m)) (y b)⟩) y) y) hx
 | convert s d x=>
  simp only[opW]at *
  cases fj:Zcn E s d <;> simp only[fj,cond_true,cond_false]at *
  ·cases nT:Zco E s d <;> simp only[nT,cond_true,cond_false]at *
   ·exact eP _ rfl hx
   ·unfold Zkk at *
    cases cJ:E.fix.isSome with
    | true=>simp only[cJ,cond_true]at hx ⊢;exact Zkl (λv y=>hp _ y) hx
    | false=>simp only[cJ,cond_false]at hx ⊢;exact Zeq (λv y=>hp _ y) hx
  ·cases cJ:E.fix with
   | some f=>simp[cJ]at hx
   | none=>
    simp only[cJ,Option.isSome_none,cond_false]at hx ⊢
    exact Zaw (λv y=>Zah (λy b c hf hc=>fE _ _ _ rfl (Mem.le_add hf _) (y b c hf hc)) y) hx
 | call c=>
  obtain⟨callee,args,argTypes⟩:=c
  cases callee with
  | value f=>
   simp only[opW]at *
   refine Zh6 (λS2 m2 dI aJ hx=>?_) hx
   simp only[Zu4]at hx ⊢
   split at hx
   ·cases j9:Zsi E dst with
    | true=>
     simp only[j9,cond_true]at hx ⊢
     cases cJ:E.fix with
     | some f=>simp[cJ]at hx
     | none=>
      simp only[cJ,Option.isSome_none,cond_false]at hx ⊢
      exact Zcg (λvs y=>Zqy (λsv y=>fE _ _ _ dI aJ y) y) hx
    | false=>
    simp only[j9,cond_false]at hx ⊢
    cases i7:ZdD E dst with
    | some ks=>
     simp only[i7]at hx ⊢
     have fR:th=true:=by
      rcases fR with h|h
      ·exact h
      ·have:=h.2.1 _ _ _ rfl;simp only at this;rw[i7]at this;cases this
     cases cJ:E.fix with
     | some f=>simp[cJ]at hx
     | none=>
      simp only[cJ,Option.isSome_none,cond_false]at hx ⊢
      exact Zcg (λvs y=>Zmc (λv S' m' he y=>h0 _ _ ((ZdI (he.trans dI)).trans (Zb0 S' _ _)) (by rw[fR];trivial) y) y) hx
    | none=>
    simp only[i7]at hx ⊢
    cases nh:Zse E dst with
    | true=>
     simp only[nh,cond_true]at hx ⊢
     cases cJ:E.fix with
     | some f=>simp[cJ]at hx
     | none=>
      simp only[cJ,Option.isSome_none,cond_false]at hx ⊢
      exact Zcg (λvs y=>ZqL (λv gh y=>fE _ _ _ dI aJ y) y) hx
    | false=>
    simp only[nh,cond_false]at hx ⊢
    split at hx
    ·exact Zcg (λvs y=>ZjB (λv S' m' he hm y=>fE S' _ _ (he.trans dI) (mLt aJ hm) y) y) hx
    ·split at hx
     ·exact Zcg (λvs y=>ZhI (λv S' m' he hm y=>fE S' _ _ (he.trans dI) (mLt aJ hm) y) y) hx
     ·exact hx.elim
   ·cases cJ:E.fix with
    | some f=>simp[cJ]at hx
    | none=>
     simp only[cJ,Option.isSome_none,cond_false]at hx ⊢
     split at hx
     ·exact Zcg (λvs ⟨y1,y2,y3⟩=>⟨y1,fE _ _ _ dI aJ y2,fE _ _ _ dI aJ y3⟩) hx
     ·exact hx.elim
   ·exact hx.elim
  | invoke r mm=>
   simp only[opW]at *
   exact eP _ rfl hx
  | builtin b=>
   cases b with
   | append=>
    simp only[opW]at *
    split at hx
    ·exact Zh6 (λS2 m2 dI aJ hx=>Zaw (λv y=>Zaw (λv' y=>Zku (λv tk m' hm y=>fE _ _ _ dI (mLt aJ hm) y) y) y) hx) hx
    ·exact hx.elim
   | copy=>
    simp only[opW]at *
    split at hx
    ·split at hx
     ·exact hx.elim
     ·exact Zaw (λv y=>Zaw (λv' y=>ZjA (λn S' he y=>fE S' _ _ he (Mem.le_refl m) y) y) y) hx
    ·exact hx.elim
   | _=>
    simp only[opW]at *
    exact eP _ rfl hx
 | _=>
  simp only[opW]at *
  exact eP _ rfl hx
theorem ZgO{th:Bool}{E:Env}{ops:Array Oper}{S:St}{m:Mem}{o:Oper}(fR:th=true\/Zmd E o){K K':St->Mem->Prop}(h:∀S' m',SameOut (dl o.dst) S S'->leT th m m'->K S' m'->K' S' m')(hx:opG E ops o S m K):opG E ops o S m K':=by
 unfold opG at *
 have hs:K (S.put o.dst (some (.v undef))) m->K' (S.put o.dst (some (.v undef))) m:=h _ _ (Zb0 S _ _) (leT.refl _ m)
 split at hx
 ·exact Zlv fR h hx
 ·split at hx
  ·exact hx.elim
  ·split at hx
   ·exact hx.elim
   ·split at hx
    ·rename_i v _
     cases hu:Zdb v <;> simp only[hu,cond_true,cond_false]at *
     ·refine Zah (λy=>?_) hx
      split at y
      ·exact Zf6 (Zlv fR h) hs y
      ·exact Zf6 hs (Zlv fR h) y
     ·exact hs hx
    ·exact hx.elim
theorem Zcp:∀{l:List Oper} {i:Nat} {o:Oper} {t:Nat},l[i]?=some o->o.dst=some t->t∈Zbe l
 | [],i,o,t,h,_=>by simp at h
 | x::l,0,o,t,h,ht=>by simp at h;subst h;simp[Zbe,ht]
 | x::l,i+1,o,t,h,ht=>by
  have:=Zcp (l:=l) (by simpa using h) ht
  simp only[Zbe]
  cases x.dst with
  | none=>exact this
  | some d=>simp[this]
theorem Zie{ops:Array Oper}{o:Oper}{t:Nat}(h:ZeE ops o=some t):t∈Zbe ops.toList:=by
 unfold ZeE at h
 split at h
 ·cases h
 ·split at h
  ·cases h
  ·rename_i hj;exact Zcp hj h
theorem Zme{E:Env}{ops:Array Oper}{S:St}{m:Mem}{o:Oper}(ho:∀t,o.dst=some t->t∈Zbe ops.toList){K K':St->Mem->Prop}(h:∀S' m',SameOut (Zbe ops.toList) S S'->leT E.thaw m m'->K S' m'->K' S' m')(hx:Zxe E ops o S m K):Zxe E ops o S m K':=by
 have hm:∀{S':St},SameOut (dl o.dst) S S'->SameOut (Zbe ops.toList) S S':=λhs=>hs.mono λq hq=>by
  cases hd:o.dst with
  | none=>simp[hd,dl]at hq
  | some t=>simp[hd,dl]at hq;subst hq;exact ho _ hd
 unfold Zxe at *
 split at hx
 ·exact ZgO (Zte E o) (λS' m' hs hm' y=>h _ _ (hm hs) hm' y) hx
 ·rename_i t ht
  have u6:=Zie ht
  have hb:∀b:Bool,opG E ops o (S.put (some t) (some (.v (.bool b)))) m K->opG E ops o (S.put (some t) (some (.v (.bool b)))) m K':=λb=>ZgO (Zte E o) (λS' m' hs hm' y=>h _ _ (by
   have h1:SameOut (Zbe ops.toList) S (S.put (some t) (some (.v (.bool b)))):=(SameOut.refl _ S).put (λt' e=>by cases e;exact u6) _
   refine h1.trans (hs.mono λq hq=>?_)
   cases hd:o.dst with
   | none=>simp[hd,dl]at hq
   | some t=>simp[hd,dl]at hq;subst hq;exact ho _ hd) hm' y)
  split at hx
  ·rename_i v _
   cases hu:Zdb v with
   | true=>simp only[hu,cond_true]at hx ⊢;exact ZgO (Zte E o) (λS' m' hs hm' y=>h _ _ (hm hs) hm' y) hx
   | false=>simp only[hu,cond_false]at hx ⊢;exact Zah (Zf6 (hb true) (hb false)) hx
  ·exact hx.elim
theorem Zif{E:Env}{ops:Array Oper}:∀{l:List Nat} {S:St} {m:Mem} {K K':St->Mem->Prop},(∀S' m',SameOut (Zbe ops.toList) S S'->leT E.thaw m m'->K S' m'->K' S' m')->Zwz E ops l K S m->Zwz E ops l K' S m
 | [],S,m,K,K',h,hx=>h _ _ (SameOut.refl _ S) (leT.refl _ m) hx
 | i::l,S,m,K,K',h,hx=>by
  simp only[Zwz]at *
  cases ho:ops.toList[i]? with
  | none=>simp[ho]at hx
  | some o=>
   simp only[ho]at hx ⊢
   exact Zme (λt ht=>Zcp ho ht) (λS' m' hs hm y=>Zif (λS'' m'' hs' hm' y=>h _ _ (SameOut.trans hs hs') (leT.trans hm hm') y) y) hx
theorem Zmf{S:St}:∀{l:List Nat} {k k':List (List Value)->Prop},(∀v,k v->k' v)->Zha S l k->Zha S l k'
 | [],k,k',h,hx=>h _ hx
 | id::l,k,k',h,hx=>by
  simp only[Zha]at *
  split at hx
  ·exact hx.elim
  ·exact Zmf (λvs eC=>h _ eC) hx
theorem ZhJ{S:St}:∀{l:List (Nat×Nat)} {k k':List Value->Prop},(∀v,k v->k' v)->ZeF S l k->ZeF S l k'
 | [],k,k',h,hx=>h _ hx
 | (q,e)::l,k,k',h,hx=>Zah (λy=>ZhJ (λvs eC=>h _ eC) y) hx
theorem Zdp:∀{l:List Nat} {k k':List (List Value)->Prop},(∀v,k v->k' v)->Zl5 l k->Zl5 l k'
 | [],k,k',h,hx=>h _ hx
 | _::l,k,k',h,hx=>λcs=>Zdp (λvs eC=>h _ eC) (hx cs)
theorem Zdq:∀{l:List (Nat×Nat)} {k k':List Value->Prop},(∀v,k v->k' v)->Zl6 l k->Zl6 l k'
 | [],k,k',h,hx=>h _ hx
 | _::l,k,k',h,hx=>λa n c=>Zdq (λvs eC=>h _ eC) (hx a n c)
theorem ZhK:∀{A:List (Nat×Shape)} {xs:List Value} {e:Nat->Option SV} {i:Nat},(∀q∈A,q.1≠i)->Zbt e A xs i=e i
 | [],xs,e,i,h=>by simp[Zbt]
 | (t,s)::A,[],e,i,h=>by simp[Zbt]
 | (t,s)::A,v::xs,e,i,h=>by
  have h1:i≠t:=λe=>h (t,s) (by simp) e.symm
  simp only[Zbt,Zas h1,cond_false]
  exact ZhK (λq hq=>h q (by simp[hq]))
theorem Zer{ds:List Nat}{i:Nat}:ds.any (Nat.beq i ·)=true↔i∈ds:=by
 rw[List.any_eq_true]
 constructor
 ·rintro⟨x,hx,he⟩;rw[Nat.eq_of_beq_eq_true he];exact hx
 ·intro h;exact⟨i,h,Nat.beq_refl i⟩
theorem Zfg{ds:List Nat}{i:Nat}(h:i ∉ ds):ds.any (Nat.beq i ·)=false:=by
 cases hh:ds.any (Nat.beq i ·)with
 | false=>rfl
 | true=>exact absurd (Zer.1 hh) h
def ZuG(ds:List Nat)(A:List (Nat×Shape)):Bool:=A.all λq=>ds.any (Nat.beq q.1 ·)
theorem Zc1{ds:List Nat}{A:List (Nat×Shape)}(hA:ZuG ds A=true){S S':St}{xs:List Value}(h:S'.env=Zbt (λi=>bif ds.any (Nat.beq i ·)then none else S.env i) A xs):SameOut ds S S':=by
 intro i hi
 rw[h,ZhK]
 ·simp[Zfg hi]
 ·intro q hq e
  simp only[ZuG,List.all_eq_true]at hA
  exact hi (e ▸ Zer.1 (hA q hq))
def Zar(E:Env):Code->Bool
 | .region id ops draw=>(match E.joins id with
  | none=>true
  | some outs=>ZuG (Zbe ops.toList) outs)
 | .seq a b=>Zar E a&&Zar E b&&(match E.cuts (ZaM b)with
  | none=>true
  | some A=>ZuG (Zg2 a) A.slots)
 | .cond _ a b=>Zar E a&&Zar E b
 | .block _ a=>Zar E a
 | .loop a=>Zar E a&&ZuG (Zg2 a) (E.loops (ZaM a)).slots
 | .rangeFunc _ _ a b=>Zar E a&&Zar E b
 | .scope a=>Zar E a
 | _=>true
def leD(E:Env)(id:Nat)(m m':Mem):Prop:=match E.last id with
 | true=>leT E.thaw m m'
 | false=>m.le m'
theorem leD.leT{E:Env}{id:Nat}{m m':Mem}(h:leD E id m m'):leT E.thaw m m':=by
 unfold leD at h
 cases hl:E.last id with
 | true=>rw[hl]at h;exact h
 | false=>rw[hl]at h;exact .of h
theorem leD.le{E:Env}{id:Nat}{m m':Mem}(hl:E.last id=false)(h:leD E id m m'):m.le m':=by
 unfold leD at h;rw[hl]at h;exact h
def Zdl(E:Env)(ZaW:Nat->Array Oper->(St->Mem->Prop)->St->Mem->Prop):Prop:=
 ∀(id:Nat)(ops:Array Oper)(K K':St->Mem->Prop)(S:St)(m:Mem),(∀S' m',SameOut (Zbe ops.toList) S S'->leD E id m m'->K S' m'->K' S' m')->ZaW id ops K S m->ZaW id ops K' S m
theorem Zf7{b:Bool}{g:Int}{k k':Int->Prop}(h:∀y,k y->k' y)(hx:ZwN b g k):ZwN b g k':=by
 cases b with
 | true=>exact λy=>h y (hx y)
 | false=>exact h g hx
theorem Zof{b:Bool}{x y:Int}{f g:Bool}{p q:Prop}(h:p->q)(hx:Zjw b x y f g p):Zjw b x y f g q:=by
 unfold Zjw at *
 cases hf:Bool.xor f g with
 | true=>simp[hf]at hx
 | false=>
 simp only[hf,cond_false]at *
 cases b with
 | true=>exact h hx
 | false=>
  simp only[cond_false]at *
  split at hx
  ·exact h hx
  ·exact⟨hx.1,h hx.2⟩
theorem Zog{a b:List (Option Box)}{p q:Prop}(h:p->q)(hx:Zlk a b p):Zlk a b q:=ZcA.2 ⟨(ZcA.1 hx).1,h (ZcA.1 hx).2⟩
theorem Zoh{a b:List (Option Tok)}{p q:Prop}(h:p->q)(hx:Zll a b p):Zll a b q:=ZcB.2 ⟨(ZcB.1 hx).1,h (ZcB.1 hx).2⟩
theorem Zkv{K K':KT}{e:Exit}{S:St}{m:Mem}(h:∀e,K e S m->K' e S m)(hx:Zl7 K e S m):Zl7 K' e S m:=by
 cases e with
 | ret=>exact h _ hx
 | exit id=>exact h _ hx
 | goto l=>exact h _ hx
 | _=>exact hx
theorem leT.up{th:Bool}{mi m m':Mem}(hc:th=false->mi=m)(h:mi.le m'):leT th m m':=by
 cases th with
 | true=>trivial
 | false=>rw[hc rfl]at h;exact h
theorem Zmg{th:Bool}{P:Program}{A:LoopAnn}{f:Operand}{ps:List Nat}{assign body:KT->St->Mem->Prop}{ds:List Nat}
  (ha:∀{S:St} {m:Mem} {K K':KT},(∀e S' m',leT th m m'->K e S' m'->K' e S' m')->assign K S m->assign K' S m)
  (hb:∀{S:St} {m:Mem} {K K':KT},(∀e S' m',leT th m m'->K e S' m'->K' e S' m')->body K S m->body K' S m)
  {S:St} {m:Mem} {K K':KT} (h:∀e S' m',SameOut ds S S'->leT th m m'->K e S' m'->K' e S' m') (hx:Zl8 th P A f ps assign body K S m):Zl8 th P A f ps assign body K' S m:=by
 unfold Zl8 at *
 split at hx
 ·refine Zah (ZqH λmi i9 lf ⟨xs,h1,h2,I,h3,h4,h5⟩=>⟨xs,h1,h2,I,h3,?_,?_⟩) hx
  all_goals have up:∀{m':Mem},mi.le m'->leT th m m':=λhm=>leT.up lf hm
  ·refine Zf7 (λy z=>Shape.allL_mono _ (λx z=>Zdp (λcss z=>Zdq (λtvs z m' n hm hn hI=>?_) z) z) z) h4
   refine ha (λe S1 m1 aG k=>?_) (z m' n hm hn hI)
   cases e with
   | normal=>
    refine hb (λe S' m'' aJ k=>ZqI (Zof (Zog (Zoh (Zmf λcss' k=>?_ )))) k) k
    refine ZhJ (λtvs' k=>?_) k
    cases e with
    | normal=>exact k
    | _=>exact Zkv (λe=>h e _ _ (SameOut.refl _ _) (leT.trans (up hm) (leT.trans aG aJ))) k
   | _=>exact k
  ·exact Zf7 (λy z=>Zdp (λcss z=>Zdq (λtvs z m' hm hI=>h _ _ _ (SameOut.refl _ _) (up hm) (z m' hm hI)) z) z) h5
 ·exact hx.elim
theorem Zdi{E:Env}{ZaW:Nat->Array Oper->(St->Mem->Prop)->St->Mem->Prop}(hD:Zdl E ZaW):∀(c:Code),Zar E c=true->∀{S:St} {m:Mem} {K K':KT},(∀e S' m',SameOut (Zg2 c) S S'->leT E.thaw m m'->K e S' m'->K' e S' m')->W E ZaW c K S m->W E ZaW c K' S m
 | .skip,_,S,m,K,K',h,hx=>h _ _ _ (SameOut.refl _ S) (leT.refl _ m) hx
 | .label _,_,S,m,K,K',h,hx=>h _ _ _ (SameOut.refl _ S) (leT.refl _ m) hx
 | .exit _,_,S,m,K,K',h,hx=>h _ _ _ (SameOut.refl _ S) (leT.refl _ m) hx
 | .ret,_,S,m,K,K',h,hx=>h _ _ _ (SameOut.refl _ S) (leT.refl _ m) hx
 | .region id ops draw,hc,S,m,K,K',h,hx=>by
  simp only[W]at *
  cases hj:E.joins id with
  | none=>
   simp only[hj]at hx ⊢
   cases draw with
   | true=>simp only[cond_true]at *;exact hD _ _ _ _ _ _ (λS' m' hs hm y=>h _ _ _ hs (leD.leT hm) y) hx
   | false=>
    simp only[cond_false]at *
    exact Zif (λS' m' hs hm y=>h _ _ _ hs hm y) hx
  | some outs=>
   simp only[hj]at hx ⊢
   refine Shape.exL_mono _ (λxs ⟨h1,h2⟩=>⟨h1,h _ _ _ ?_ (leT.refl _ m) h2⟩) hx
   simp only[Zar,hj]at hc
   exact Zc1 hc rfl
 | .seq x y,hc,S,m,K,K',h,hx=>by
  simp only[Zar,zA7]at hc
  simp only[W,Zg2]at *
  cases jk:E.cuts (ZaM y)with
  | none=>
   simp only[jk]at hx ⊢
   refine Zdi hD x hc.1.1 (λe S' m' hs hm hy=>?_) hx
   have hs':SameOut (Zg2 x++Zg2 y) S S':=hs.mono (λi hi=>by simp[hi])
   cases e with
   | normal=>exact Zdi hD y hc.1.2 (λe S'' m'' iS aJ hy=>h _ _ _ (hs'.trans (iS.mono (λi hi=>by simp[hi]))) (leT.trans hm aJ) hy) hy
   | _=>exact h _ _ _ hs' hm hy
  | some A=>
   simp only[jk]at hx ⊢ hc
   obtain⟨J,h1,h2⟩:=hx
   refine⟨J,Zdi hD x hc.1.1 (λe S' m' hs hm hy=>?_) h1,Zf7 (λg z=>Shape.allL_mono _ (λxs z=>Zdp (λcss z=>Zdq (λtvs z m' hm hJ=>?_) z) z) z) h2⟩
   ·cases e with
    | normal=>exact hy
    | _=>exact h _ _ _ (hs.mono (λi hi=>by simp[hi])) hm hy
   ·refine Zdi hD y hc.1.2 (λe S' m'' hs aJ hy=>h _ _ _ ?_ (leT.trans hm aJ) hy) (z m' hm hJ)
    have h3:SameOut (Zg2 x) S (ZbF S (Zg2 x) A g xs css tvs):=Zc1 (S':=ZbF S (Zg2 x) A g xs css tvs) hc.2 rfl
    exact(h3.mono (λi hi=>by simp[hi])).trans (hs.mono (λi hi=>by simp[hi]))
 | .cond c x y,hc,S,m,K,K',h,hx=>by
  simp only[Zar,zA7]at hc
  simp only[W,Zg2]at *
  exact Zaw (λv hy=>Zah (λhy=>Zf6 (Zdi hD x hc.1 (λe S' m' hs hm hy=>h _ _ _ (hs.mono (λi hi=>by simp[hi])) hm hy)) (Zdi hD y hc.2 (λe S' m' hs hm hy=>h _ _ _ (hs.mono (λi hi=>by simp[hi])) hm hy)) hy) hy) hx
 | .block id x,hc,S,m,K,K',h,hx=>by
  simp only[Zar]at hc
  simp only[W,Zg2]at *
  refine Zdi hD x hc (λe S' m' hs hm hy=>?_) hx
  cases e with
  | exit id'=>
   simp only at *
   cases hb:Nat.beq id' id <;> simp only[hb,cond_true,cond_false]at *
   ·exact h _ _ _ hs hm hy
   ·exact h _ _ _ hs hm hy
  | _=>exact h _ _ _ hs hm hy
 | .loop x,hc,S,m,K,K',h,hx=>by
  simp only[Zar,zA7]at hc
  simp only[W,Zg2]at *
  obtain⟨I,h1,h2⟩:=hx
  refine⟨I,h1,Zf7 (λg y=>Shape.allL_mono _ (λxs y=>Zdp (λcss y=>Zdq (λtvs y m' n hm hI=>?_) y) y) y) h2⟩
  refine Zdi hD x hc.1 (λe S' m'' hs aJ hy=>?_) (y m' n hm hI)
  have hs':SameOut (Zg2 x) S S':=(Zc1 (S':=ZbF S (Zg2 x) (E.loops (ZaM x)) g xs css tvs) hc.2 rfl).trans hs
  cases e with
  | normal=>exact hy
  | _=>exact h _ _ _ hs' (leT.trans hm aJ) hy
 | .goto _,_,S,m,K,K',h,hx=>by simp[W]at hx
 | .scope x,hc,S,m,K,K',h,hx=>by
  simp only[Zar]at hc
  simp only[W,Zg2]at *
  refine Zdi hD x hc (λe S' m' hs hm hy=>?_) hx
  cases e with
  | goto l=>exact hy
  | _=>exact h _ _ _ hs hm hy
 | .rangeFunc f ps x y,hc,S,m,K,K',h,hx=>by
  simp only[Zar,zA7]at hc
  simp only[W]at *
  exact Zmg (assign:=W E ZaW x) (body:=W E ZaW y) (λh'=>Zdi hD x hc.1 λe S' m' _ hm hy=>h' e S' m' hm hy) (λh'=>Zdi hD y hc.2 λe S' m' _ hm hy=>h' e S' m' hm hy) (λe S' m' hs hm=>h e S' m' hs hm) hx
 | .refuse _,_,S,m,K,K',h,hx=>by simp[W]at hx
section
variable {C:Ctx} {m:Mem} {a:Act} {w:World}
theorem Rel.restrict{S S2:St}(h:Rel C S m a w)(hg:S2.gh=S.gh)(hf:S2.fo=S.fo)(hL:∀id x,S2.L id=some x->S.L id=some x)(hT:∀k t,S2.tok k=some t->S.tok k=some t\/t.v=.slice none 0 0)
  (dI:∀i sv,S2.env i=some sv->∃v,S2.den sv=some v/\a.tmps[i]?=some v) (dR:∀id x,S2.L id=some x->id∈S2.ids) (nW:∀k t,S2.tok k=some t->k∈S2.tkeys):Rel C S2 m a w:=by
 refine⟨h.defers,h.size,dI,λid x hx=>h.own id x (hL id x hx),λid id' x x' hx hx'=>h.apart id id' x x' (hL _ _ hx) (hL _ _ hx'),dR,?_,nW,?_,h.sub,h.le,h.dom.imp λM d=>d.cut hg (λid x hx=>⟨id,x,hL id x hx,rfl⟩) (λk t b ht hb=>?_) rfl (Mem.le_refl _),λh'=>h.fo (hf ▸ h')⟩
 ·intro k t ht
  rcases hT k t ht with h1|h1
  ·obtain⟨h2,h3⟩:=h.toks k t h1
   exact⟨h2,λb hb=>⟨λid x hx=>(h3 b hb).1 id x (hL _ _ hx),(h3 b hb).2⟩⟩
  ·exact⟨.inl h1,λb hb=>by simp[Tok.blk,h1]at hb⟩
 ·intro k k' t t' b ht ht' hb hb'
  rcases hT k t ht with h1|h1
  ·rcases hT k' t' ht' with h2|h2
   ·exact h.tapart k k' t t' b h1 h2 hb hb'
   ·simp[Tok.blk,h2]at hb'
  ·simp[Tok.blk,h1]at hb
 ·rcases hT k t ht with h1|h1
  ·exact⟨k,t,h1,hb⟩
  ·simp[Tok.blk,h1]at hb
theorem Rel.forget{S:St}{m':Mem}(h:Rel C S m' a w)(hm:m.le m')(h0:C.me.le m)(hz:∀id x,S.L id=some x->x.fz=true->m.reads x.b 0 x.cs):Rel C S m a w:=by
 have hn:∀b o,m' b o=none->m b o=none:=λb o ho=>by
  cases he:m b o with
  | none=>rfl
  | some v=>rw[hm _ _ _ he]at ho;cases ho
 refine⟨h.defers,h.size,h.env,λid x hx=>?_,h.apart,h.ids,λk t ht=>?_,h.tkeys,h.tapart,h.sub.less hm,h0,h.dom.imp λM d=>d.cut rfl (λid x hx=>⟨id,x,hx,rfl⟩) (λk t b ht hb=>⟨k,t,ht,hb⟩) rfl hm,h.fo⟩
 ·have h1:=h.own id x hx
  exact⟨h1.cells,λhf o=>hn _ _ (h1.free hf o),hz id x hx,h1.whole⟩
 ·obtain⟨h1,h2⟩:=h.toks k t ht
  exact⟨h1.same (λ_ _=>rfl) (λb o _ ho=>hn _ _ ho),h2⟩
theorem Zcq{S:St}(hr:Rel C S m a w):∀{l:List (Nat×Shape)} {k:List Value->Prop},Zfy S l k->∃xs,Shape.fitsL (l.map (·.2)) xs=true/\(∀(i:Nat) t sh v,l[i]?=some (t,sh)->xs[i]?=some v->a.tmps[t]?=some v)/\xs.length=l.length/\k xs
 | [],k,h=>⟨[],rfl,by simp,rfl,h⟩
 | (t,sh)::l,k,h=>by
  obtain⟨v,hv,h⟩:=Zav h
  obtain⟨h1,h2⟩:=Zag h
  obtain⟨xs,g1,g2,g3,g4⟩:=Zcq hr h2
  refine⟨v::xs,by simp[Shape.fitsL,h1,g1],?_,by simp[g3],g4⟩
  intro i t' sh' v' hi hx
  cases i with
  | zero=>
   simp at hi hx
   obtain⟨rfl,rfl⟩:=hi
   subst hx
   simp only[St.val,St.ev]at hv
   cases he:S.env t with
   | none=>simp[he]at hv
   | some sv=>
    simp only[he]at hv
    obtain⟨u,h3,h4⟩:=hr.env t sv he
    rw[hv]at h3;cases h3;exact h4
  | succ i=>exact g2 i t' sh' v' (by simpa using hi) (by simpa using hx)
theorem ZcT{S:St}:∀{l:List Nat} {k:List (List Value)->Prop},Zha S l k->∃css,css.length=l.length/\(∀(i:Nat) id cs,l[i]?=some id->css[i]?=some cs->∃x,S.L id=some x/\x.cs=cs)/\k css
 | [],k,h=>⟨[],rfl,by simp,h⟩
 | id::l,k,h=>by
  simp only[Zha]at h
  cases hx:S.L id with
  | none=>simp[hx]at h
  | some x=>
   simp only[hx]at h
   obtain⟨css,g1,g2,g3⟩:=ZcT h
   refine⟨x.cs::css,by simp[g1],?_,g3⟩
   intro i id' cs hi hc
   cases i with
   | zero=>simp at hi hc;subst hi hc;exact⟨x,hx,rfl⟩
   | succ i=>exact g2 i id' cs (by simpa using hi) (by simpa using hc)
theorem Zb1{S:St}:∀{l:List (Nat×Nat)} {k:List Value->Prop},ZeF S l k->∃vs,vs.length=l.length/\(∀(i:Nat) q e v,l[i]?=some (q,e)->vs[i]?=some v->ZbT v=true/\(S.tok q=some ⟨v,e⟩\/v=.slice none 0 0))/\k vs
 | [],k,h=>⟨[],rfl,by simp,h⟩
 | (q,e)::l,k,h=>by
  obtain⟨h1,h2⟩:=Zag h
  simp only[zA7]at h1
  obtain⟨vs,g1,g2,g3⟩:=Zb1 h2
  refine⟨ZqE S q::vs,by simp[g1],?_,g3⟩
  intro i q' e' v hi hv
  cases i with
  | zero=>
   simp at hi hv
   obtain⟨rfl,rfl⟩:=hi
   subst hv
   refine⟨h1.1,?_⟩
   unfold ZqE
   cases ht:S.tok q with
   | none=>exact .inr rfl
   | some t=>
    left
    have:t.esz=e:=by have:=h1.2;simp only[ht]at this;exact Nat.eq_of_beq_eq_true this
    cases t;simp at this ⊢;exact this
  | succ i=>exact g2 i q' e' v (by simpa using hi) (by simpa using hv)
theorem Zdr:∀{l:List Nat} {k:List (List Value)->Prop},Zl5 l k->∀css,css.length=l.length->k css
 | [],k,h,css,hl=>by cases css <;> simp_all [Zl5]
 | _::l,k,h,css,hl=>by
  cases css with
  | nil=>simp at hl
  | cons c css=>exact Zdr (h c) css (by simpa using hl)
theorem Zds:∀{l:List (Nat×Nat)} {k:List Value->Prop},Zl6 l k->∀vs,vs.length=l.length->(∀v∈vs,ZbT v=true)->k vs
 | [],k,h,vs,hl,_=>by cases vs <;> simp_all [Zl6]
 | _::l,k,h,vs,hl,hs=>by
  cases vs with
  | nil=>simp at hl
  | cons v vs=>
   have:=Zbh (hs v (by simp))
   rw[this]
   exact Zds (h _ _ _) vs (by simpa using hl) (λu hu=>hs u (by simp[hu]))
theorem ZjC:∀{A:List (Nat×Shape)} {xs:List Value} {e:Nat->Option SV} {i:Nat} {sv:SV},Zbt e A xs i=some sv->e i=some sv\/∃(q:Nat)(sh:Shape)(v:Value),A[q]?=some (i,sh)/\xs[q]?=some v/\sv=.v v
 | [],xs,e,i,sv,h=>.inl (by simpa[Zbt]using h)
 | (t,s)::A,[],e,i,sv,h=>.inl (by simpa[Zbt]using h)
 | (t,s)::A,v::xs,e,i,sv,h=>by
  by_cases hi:i=t
  ·subst hi
   simp[Zbt]at h
   exact .inr ⟨0,s,v,by simp,by simp,h.symm⟩
  ·simp only[Zbt,Zas hi,cond_false]at h
   rcases ZjC h with h1|⟨q,sh,u,h1,h2,h3⟩
   ·exact .inl h1
   ·exact .inr ⟨q+1,sh,u,by simpa using h1,by simpa using h2,h3⟩
theorem ZeJ:∀{l:List Nat} {css:List (List Value)} {L:Nat->Option Box} {id:Nat} {y:Box},ZhG L l css id=some y->(∃(i:Nat)(x:Box)(cs:List Value),l[i]?=some id/\css[i]?=some cs/\L id=some x/\y={ x with cs:=cs })\/((∀i,l[i]?=some id->css.length<=i)/\L id=some y)
 | [],css,L,id,y,h=>.inr ⟨by simp,by simpa[ZhG]using h⟩
 | d::l,[],L,id,y,h=>.inr ⟨λi _=>by simp,by simpa[ZhG]using h⟩
 | d::l,cs::css,L,id,y,h=>by
  by_cases cZ:id=d
  ·subst cZ
   simp only[ZhG,ZgG,cond_true]at h
   cases hx:L id with
   | none=>simp[hx]at h
   | some x=>simp[hx]at h;exact .inl ⟨0,x,cs,by simp,by simp,rfl,h.symm⟩
  ·simp only[ZhG,Zas cZ,cond_false]at h
   rcases ZeJ h with⟨i,x,c,h1,h2,h3,h4⟩|⟨h1,h2⟩
   ·exact .inl ⟨i+1,x,c,by simpa using h1,by simpa using h2,h3,h4⟩
   ·refine .inr ⟨λi hi=>?_,h2⟩
    cases i with
    | zero=>simp at hi;exact absurd hi.symm cZ
    | succ i=>have:=h1 i (by simpa using hi);simp;omega
theorem Zdt:∀{l:List Nat} {css:List (List Value)} {L:Nat->Option Box} {id:Nat} {x:Box},L id=some x->∃y,ZhG L l css id=some y/\y.b=x.b
 | [],css,L,id,x,h=>⟨x,by simpa[ZhG]using h,rfl⟩
 | d::l,[],L,id,x,h=>⟨x,by simpa[ZhG]using h,rfl⟩
 | d::l,cs::css,L,id,x,h=>by
  by_cases cZ:id=d
  ·subst cZ
   exact⟨{ x with cs:=cs },by simp[ZhG,h],rfl⟩
  ·simp only[ZhG,Zas cZ,cond_false]
   exact Zdt h
theorem Zc2:∀{l:List (Nat×Nat)} {vs:List Value} {tk:Nat->Option Tok} {k:Nat} {t:Tok},Zep tk l vs k=some t->(∃(i:Nat)(e:Nat)(v:Value),l[i]?=some (k,e)/\vs[i]?=some v/\t=⟨v,e⟩)\/((∀i q,l[i]?=some q->q.1=k->vs.length<=i)/\tk k=some t)
 | [],vs,tk,k,t,h=>.inr ⟨by simp,by simpa[Zep]using h⟩
 | (q,e)::l,[],tk,k,t,h=>.inr ⟨λi _ _ _=>by simp,by simpa[Zep]using h⟩
 | (q,e)::l,v::vs,tk,k,t,h=>by
  by_cases hk:k=q
  ·subst hk
   simp[Zep]at h
   exact .inl ⟨0,e,v,by simp,by simp,h.symm⟩
  ·simp only[Zep,Zas hk,cond_false]at h
   rcases Zc2 h with⟨i,e',u,h1,h2,h3⟩|⟨h1,h2⟩
   ·exact .inl ⟨i+1,e',u,by simpa using h1,by simpa using h2,h3⟩
   ·refine .inr ⟨λi p hi hp=>?_,h2⟩
    cases i with
    | zero=>simp at hi;subst hi;exact absurd hp.symm hk
    | succ i=>have:=h1 i p (by simpa using hi) hp;simp;omega
structure StOk (S:St):Prop where
 env:∀i sv,S.env i=some sv->∃v,S.den sv=some v
 ids:∀id x,S.L id=some x->id∈S.ids
 tkeys:∀k t,S.tok k=some t->k∈S.tkeys
theorem Rel.ok{S:St}(h:Rel C S m a w):StOk S:=⟨λi sv he=>(h.env i sv he).imp λv hv=>hv.1,h.ids,h.tkeys⟩
theorem ZdJ{S S':St}(hS:StOk S){ds:List Nat}{A:LoopAnn}(hr:Rel C S' m a w)(jj:S'.fo=S.fo)(eM:SameOut ds S S')(lg:ZbL S' A S.ids=ZbL S A S.ids)(aN:Za1 S' A S.tkeys=Za1 S A S.tkeys)
  {xs:List Value} {css:List (List Value)} {tvs:List Value} (hx:∀(i:Nat) t sh v,A.slots[i]?=some (t,sh)->xs[i]?=some v->a.tmps[t]?=some v)
  (fh:css.length=A.boxes.length) (hc:∀(i:Nat) id cs,A.boxes[i]?=some id->css[i]?=some cs->∃x,S'.L id=some x/\x.cs=cs)
  (gv:tvs.length=A.toks.length) (ht:∀(i:Nat) q e v,A.toks[i]?=some (q,e)->tvs[i]?=some v->ZbT v=true/\(S'.tok q=some ⟨v,e⟩\/v=.slice none 0 0)):Rel C (ZbF S ds A S'.gh xs css tvs) m a w:=by
 have hL:∀id y,ZhG S.L A.boxes css id=some y->S'.L id=some y:=by
  intro id y hy
  have eF:∀id,id∈S.ids->(bif A.boxes.any (Nat.beq id ·)then(match S'.L id with
    | some x=>some { x with cs:=[] }
    | none=>none)else S'.L id)=(bif A.boxes.any (Nat.beq id ·)then(match S.L id with
    | some x=>some { x with cs:=[] }
    | none=>none)else S.L id):=λid cZ=>by
   simp only[ZbL]at lg
   exact(List.map_inj_left.1 lg) id cZ
  rcases ZeJ hy with⟨i,x,cs,h1,h2,h3,h4⟩|⟨h1,h2⟩
  ·obtain⟨x',g1,g2⟩:=hc i id cs h1 h2
   have:=eF id (hS.ids id x h3)
   have hm:A.boxes.any (Nat.beq id ·)=true:=Zer.2 (zA2 h1)
   simp only[hm,cond_true,g1,h3,Option.some.injEq,Box.mk.injEq,true_and]at this
   rw[g1,h4]
   obtain⟨e1,e2,e3,e4,e5⟩:=this
   cases x;cases x'
   simp_all
  ·have hm:A.boxes.any (Nat.beq id ·)=false:=Zfg (λcH=>by
    obtain⟨i,hi⟩:=List.getElem?_of_mem cH
    have h3:=h1 i hi
    have h4:=(zA0 hi).1
    omega)
   have:=eF id (hS.ids id y h2)
   simp only[hm,cond_false]at this
   rw[this,h2]
 have mh:∀k t,Zep S.tok A.toks tvs k=some t->S'.tok k=some t\/t.v=.slice none 0 0:=by
  intro k t hk
  have eF:∀k,k∈S.tkeys->(bif A.toks.any (λq=>Nat.beq k q.1)then none else S'.tok k)=(bif A.toks.any (λq=>Nat.beq k q.1)then none else S.tok k):=λk hk=>by
   simp only[Za1]at aN
   exact(List.map_inj_left.1 aN) k hk
  rcases Zc2 hk with⟨i,e,v,h1,h2,h3⟩|⟨h1,h2⟩
  ·obtain⟨g1,g2⟩:=ht i k e v h1 h2
   subst h3
   exact g2.imp id id
  ·left
   have hm:A.toks.any (λq=>Nat.beq k q.1)=false:=by
    cases hh:A.toks.any (λq=>Nat.beq k q.1)with
    | false=>rfl
    | true=>
     obtain⟨q,hq,he⟩:=List.any_eq_true.1 hh
     obtain⟨i,hi⟩:=List.getElem?_of_mem hq
     have h3:=h1 i q hi (Nat.eq_of_beq_eq_true he).symm
     have h4:=(zA0 hi).1
     omega
   have:=eF k (hS.tkeys k t h2)
   simp only[hm,cond_false]at this
   rw[this,h2]
 refine hr.restrict rfl jj.symm hL mh ?_ ?_ ?_
 ·intro i sv he
  simp only[ZbF]at he
  rcases ZjC he with h1|⟨q,sh,v,h1,h2,h3⟩
  ·cases hi:ds.any (Nat.beq i ·)with
   | true=>simp[hi]at h1
   | false=>
    simp only[hi,cond_false]at h1
    have u9:i ∉ ds:=λhm=>by rw[Zer.2 hm]at hi;cases hi
    have h2:S'.env i=some sv:=by rw[eM i u9,h1]
    obtain⟨v,h3,h4⟩:=hr.env i sv h2
    refine⟨v,?_,h4⟩
    cases sv with
    | v u=>exact h3
    | loc id off=>
     obtain⟨v0,h5⟩:=hS.env i _ h1
     simp only[St.den]at h5
     cases hx:S.L id with
     | none=>simp[hx]at h5
     | some x=>
      obtain⟨y,hy,_⟩:=Zdt (l:=A.boxes) (css:=css) hx
      have:=hL id y hy
      simp only[St.den,this]at h3
      simp only[St.den,ZbF,hy];exact h3
    | sl id n c=>
     obtain⟨v0,h5⟩:=hS.env i _ h1
     simp only[St.den]at h5
     cases hx:S.L id with
     | none=>simp[hx]at h5
     | some x=>
      obtain⟨y,hy,_⟩:=Zdt (l:=A.boxes) (css:=css) hx
      have:=hL id y hy
      simp only[St.den,this]at h3
      simp only[St.den,ZbF,hy];exact h3
  ·subst h3
   exact⟨v,rfl,hx q i sh v h1 h2⟩
 ·intro id y hy
  simp only[ZbF]at hy ⊢
  rcases ZeJ hy with⟨i,x,cs,h1,h2,h3,h4⟩|⟨h1,h2⟩
  ·exact hS.ids id x h3
  ·exact hS.ids id y h2
 ·intro k t hk
  simp only[ZbF]at hk ⊢
  rcases Zc2 hk with⟨i,e,v,h1,h2,h3⟩|⟨h1,h2⟩
  ·exact List.mem_append_left _ (List.mem_map.2 ⟨(k,e),zA2 h1,rfl⟩)
  ·exact List.mem_append_right _ (hS.tkeys k t h2)
end
theorem Rel.lessMem{C:Ctx}{S:St}{m m1:Mem}{a:Act}{w:World}(h:Rel C S m a w)(hm:m1.le m)(h0:C.me.le m1)(hk:∀id x,S.L id=some x->x.fz=true->∀o,m1 x.b o=m x.b o):Rel C S m1 a w:=by
 have eN:∀b o,m b o=none->m1 b o=none:=λb o hn=>by
  cases he:m1 b o with
  | none=>rfl
  | some v=>have:=hm _ _ _ he;rw[hn]at this;cases this
 refine⟨h.defers,h.size,h.env,λid x hx=>?_,h.apart,h.ids,λk t ht=>?_,h.tkeys,h.tapart,h.sub.less hm,h0,?_,h.fo⟩
 ·obtain⟨g1,g2,g3,g4⟩:=h.own id x hx
  exact⟨g1,λhz o=>eN _ _ (g2 hz o),λhz j u hu=>by rw[hk id x hx hz];exact g3 hz j u hu,g4⟩
 ·obtain⟨g1,g2⟩:=h.toks k t ht
  exact⟨g1.same (λb _=>rfl) (λb o _=>eN b o),g2⟩
 ·obtain⟨M,hd⟩:=h.dom
  exact⟨M,hd.p,hd.lt,hd.own,hd.tok,hd.mks,hd.new.less hm⟩
theorem Rel.acqB{E:Env}{C:Ctx}(hY:YOk E C){mm:Mem}(eD:E.m0=some mm){S:St}{m:Mem}{a:Act}{w:World}(hr:Rel C S m a w)(jj:S.fo=false){q b:Nat}{cs:List Value}(hq:S.L q=none)(cS:cs≠[])(cD:m.reads b 0 cs)(ew:mm.free b)
  (h2:nfz S b S.ids (ntk S b [] S.tkeys)):∃T cap,Rel C (S.newL q ⟨b,cs,T,cap,false,false⟩) (m.off λk=>k=b) a w:=by
 obtain⟨iQ,hW⟩:=hY.m0 mm eD
 have iQ:C.me=mm:=(hr.fo jj).trans iQ
 obtain⟨q1,q2⟩:=Zfa h2
 have bV:∀(o:Nat)(v:Value),cs[o]?=some v->w.cell? ⟨b,o,none⟩=some v:=λo v hv=>by
  have:=hr.sub _ _ _ (cD o v hv);rwa [Nat.zero_add]at this
 obtain⟨v0,lh⟩:∃v,cs[0]?=some v:=by
  cases cs with
  | nil=>exact absurd rfl cS
  | cons v l=>exact⟨v,rfl⟩
 have nX:m b 0=some v0:=by have:=cD 0 v0 lh;rwa [Nat.zero_add]at this
 obtain⟨cur,T,fr,hh⟩:∃cur T fr,w.heap[b]?=some (.cells cur T fr):=by
  have hv:=bV 0 v0 lh
  unfold World.cell? at hv
  cases hh:w.heap[b]? with
  | none=>simp[hh]at hv
  | some ob=>
   cases ob <;> simp[hh]at hv
   exact⟨_,_,_,rfl⟩
 have nY:∀b',b'≠b->∀o,(m.off λk=>k=b) b' o=m b' o:=λb' hb o=>Mem.off_at (Y:=λk=>k=b) hb o
 have aU:(m.off λk=>k=b).free b:=Mem.off_free (Y:=λk=>k=b) rfl
 have jP:∀id x,S.L id=some x->x.b≠b:=λid x hx e=>by
  have ho:=hr.own id x hx
  cases hz:x.fz with
  | true=>exact q2 id x (hr.ids id x hx) hx hz e
  | false=>
   have:=ho.free hz 0
   rw[e,nX]at this;cases this
 have bU:C.me.le (m.off λk=>k=b):=⟨λb' o v hv=>by
  by_cases hb:b'=b
  ·subst hb;rw[iQ]at hv;rw[ew o]at hv;cases hv
  ·rw[nY b' hb];exact hr.le _ _ _ hv,λb' e he=>by
  by_cases hb:b'=b
  ·subst hb
   obtain⟨es,cl,h8,_⟩:=hr.sub.k b' e (hr.le.k _ _ he)
   rw[hh]at h8;cases h8
  ·rw[Mem.off_k (Y:=λk=>k=b) hb];exact hr.le.k _ _ he⟩
 have eI:Rel C S (m.off λk=>k=b) a w:=hr.lessMem (Mem.off_le _ _) bU (λid x hx _ o=>nY _ (jP id x hx) o)
 obtain⟨M,hd⟩:=hr.dom
 have hM:M b:=(hd.new b 0 v0 nX).resolve_left λh=>by rw[iQ,ew 0]at h;cases h
 have gt:Wr w b:=hW _ _ _ hd.p b hM
 obtain⟨sp,mr⟩:∃sp,cur.toList=cs++sp:=by
  refine⟨cur.toList.drop cs.length,?_⟩
  refine(List.take_append_drop cs.length cur.toList).symm.trans (congrArg (·++_) ?_)
  refine List.ext_getElem? λi=>?_
  by_cases hi:i < cs.length
  ·rw[List.getElem?_take_of_lt hi]
   have:=bV i _ (zA3 hi)
   simp only[World.cell?,hh,Option.isSome_none,Bool.false_eq_true,if_false]at this
   rw[zA3 hi,<-this];simp
  ·rw[List.getElem?_eq_none (l:=cur.toList.take cs.length) (by rw[List.length_take];omega),List.getElem?_eq_none (by omega)]
 have fO:cur=(cs++sp).toArray:=by rw[<-mr]
 have dK:Own (m.off λk=>k=b) w ⟨b,cs,T,cur.size,false,false⟩:=⟨⟨sp,fr,by rw[<-fO];exact hh,by rw[fO];simp,gt cur T fr hh⟩,λ_=>aU,λh=>(by cases h),λh=>(by cases h)⟩
 have hL:∀i y,(S.newL q ⟨b,cs,T,cur.size,false,false⟩).L i=some y->(i=q/\y=⟨b,cs,T,cur.size,false,false⟩)\/(i≠q/\S.L i=some y):=λi y hy=>by
  simp only[St.newL]at hy
  cases e:Nat.beq i q with
  | true=>rw[e]at hy;exact .inl ⟨Nat.eq_of_beq_eq_true e,(Option.some.inj hy).symm⟩
  | false=>rw[e]at hy;exact .inr ⟨(λh=>by subst h;rw[Nat.beq_refl]at e;cases e),hy⟩
 refine⟨T,cur.size,eI.defers,eI.size,λi sv he=>?_,λi y hy=>?_,λi j y z hy hz hb=>?_,λi y hy=>?_,λk t ht=>⟨(eI.toks k t ht).1,λb' hb'=>⟨λi y hy=>?_,((eI.toks k t ht).2 b' hb').2⟩⟩,eI.tkeys,eI.tapart,eI.sub,eI.le,⟨M,hd.p,hd.lt,λi y hy=>?_,hd.tok,hd.mks,hd.new.less (Mem.off_le _ _)⟩,eI.fo⟩
 ·obtain⟨v,h1,h2⟩:=eI.env i sv he
  refine⟨v,?_,h2⟩
  have key:∀id x,S.L id=some x->(S.newL q ⟨b,cs,T,cur.size,false,false⟩).L id=some x:=λid x hx=>by
   simp only[St.newL]
   have:Nat.beq id q=false:=by
    cases e:Nat.beq id q with
    | false=>rfl
    | true=>rw[Nat.eq_of_beq_eq_true e,hq]at hx;cases hx
   rw[this];exact hx
  cases sv with
  | v u=>exact h1
  | loc id off=>
   simp only[St.den]at h1 ⊢
   cases hx:S.L id with
   | none=>simp[hx]at h1
   | some x=>rw[key id x hx];simpa[hx]using h1
  | sl id n c=>
   simp only[St.den]at h1 ⊢
   cases hx:S.L id with
   | none=>simp[hx]at h1
   | some x=>rw[key id x hx];simpa[hx]using h1
 ·rcases hL i y hy with⟨_,rfl⟩|⟨_,hy⟩
  ·exact dK
  ·exact eI.own i y hy
 ·rcases hL i y hy with⟨e1,e2⟩|⟨_,hy'⟩ <;> rcases hL j z hz with⟨e3,e4⟩|⟨_,hz'⟩
  ·rw[e1,e3]
  ·rw[e2]at hb;exact absurd hb.symm (jP j z hz')
  ·rw[e4]at hb;exact absurd hb (jP i y hy')
  ·exact eI.apart i j y z hy' hz' hb
 ·rcases hL i y hy with⟨rfl,rfl⟩|⟨_,hy⟩
  ·exact List.mem_cons_self
  ·exact List.mem_cons_of_mem _ (eI.ids i y hy)
 ·rcases hL i y hy with⟨rfl,rfl⟩|⟨_,hy⟩
  ·exact λe=>ZgM q1 k t (hr.tkeys k t ht) ht (by simp) (by rw[hb'];exact congrArg some e.symm)
  ·exact((eI.toks k t ht).2 b' hb').1 i y hy
 ·rcases hL i y hy with⟨rfl,rfl⟩|⟨_,hy⟩
  ·exact hM
  ·exact hd.own i y hy
theorem ZhL:∀{A:List (Nat×Shape)} {xs:List Value} {e:Nat->Option SV} {i:Nat} {sv:SV},xs.length=A.length->Zbt e A xs i=some sv->(e i=some sv/\i ∉ A.map (·.1))\/∃(q:Nat)(sh:Shape)(v:Value),A[q]?=some (i,sh)/\xs[q]?=some v/\sv=.v v
 | [],xs,e,i,sv,_,h=>.inl ⟨by simpa[Zbt]using h,by simp⟩
 | (t,s)::A,[],e,i,sv,hl,h=>by simp at hl
 | (t,s)::A,v::xs,e,i,sv,hl,h=>by
  by_cases hi:i=t
  ·subst hi
   simp[Zbt]at h
   exact .inr ⟨0,s,v,by simp,by simp,h.symm⟩
  ·simp only[Zbt,Zas hi,cond_false]at h
   rcases ZhL (by simpa using hl) h with⟨h1,h2⟩|⟨q,sh,u,h1,h2,h3⟩
   ·exact .inl ⟨h1,by simp only[List.map_cons,List.mem_cons,not_or];exact⟨hi,h2⟩⟩
   ·exact .inr ⟨q+1,sh,u,by simpa using h1,by simpa using h2,h3⟩
theorem ZhM:∀(ps:List Nat)(vs:List Value)(t:Array Value),vs.length=ps.length->ps.Nodup->
  ((ps.zip vs).foldl (λ(t:Array Value)(x:Nat×Value)=>t.setIfInBounds x.1 x.2) t).size=t.size/\
  (∀i,i ∉ ps->((ps.zip vs).foldl (λ(t:Array Value)(x:Nat×Value)=>t.setIfInBounds x.1 x.2) t)[i]?=t[i]?)/\
  (∀(q i:Nat)(v:Value),ps[q]?=some i->vs[q]?=some v->i < t.size->((ps.zip vs).foldl (λ(t:Array Value)(x:Nat×Value)=>t.setIfInBounds x.1 x.2) t)[i]?=some v)
 | [],vs,t,_,_=>⟨rfl,λ_ _=>rfl,λq i v h=>by simp at h⟩
 | p::ps,[],t,h,_=>by simp at h
 | p::ps,v::vs,t,h,hn=>by
  obtain⟨hp,hn⟩:=List.nodup_cons.1 hn
  obtain⟨h1,h2,h3⟩:=ZhM ps vs (t.setIfInBounds p v) (by simpa using h) hn
  simp only[List.zip_cons_cons,List.foldl_cons]
  refine⟨by simpa using h1,λi hi=>?_,λq i u hq hu aC=>?_⟩
  ·simp only[List.mem_cons,not_or]at hi
   rw[h2 i hi.2,Array.getElem?_setIfInBounds_ne (Ne.symm hi.1)]
  ·cases q with
   | zero=>
    simp at hq hu
    subst hq hu
    rw[h2 p hp]
    simp[aC]
   | succ q=>exact h3 q i u (by simpa using hq) (by simpa using hu) (by simpa using aC)
theorem ZhN:∀{a b:List Nat},Zks a b=true->a=b
 | [],[],_=>rfl
 | [],_::_,h=>by simp[Zks]at h
 | _::_,[],h=>by simp[Zks]at h
 | x::a,y::b,h=>by
  simp only[Zks,zA7]at h
  rw[Nat.eq_of_beq_eq_true h.1,ZhN h.2]
theorem Zd7:∀{l:List Shape} {x:List Value},Shape.fitsL l x=true->x.length=l.length
 | [],[],_=>rfl
 | [],_::_,h=>by simp[Shape.fitsL]at h
 | _::_,[],h=>by simp[Shape.fitsL]at h
 | _::l,_::x,h=>by
  simp only[Shape.fitsL,zA7]at h
  simp[Zd7 h.2]
section
variable {C:Ctx} {S:St} {m:Mem} {a:Act} {w w':World} {M M':Nat->Prop}
structure Apart (M':Nat->Prop)(S:St)(m:Mem)(a:Act):Prop where
 box:∀id x,S.L id=some x->¬M' x.b
 tok:∀k t b,S.tok k=some t->t.blk=some b->¬M' b
 mks:∀D,Zg8 D∈a.defers->¬M' D
 mem:∀b o v,m b o=some v->¬M' b
 kn:∀b e,m.k b=some e->¬M' b
theorem Rel.markAt(h:Rel C S m a w){D:Nat}(hD:Zg8 D∈a.defers):w.heap[D]?=some (.deferred (some [])):=by
 obtain⟨ms,h1,h2,h3⟩:=h.defers
 rw[h1]at hD
 obtain⟨D',h4,h5⟩:=List.mem_map.1 hD
 have:D'=D:=by simpa[Zg8]using h5
 exact this ▸ h3 D' h4
theorem Rel.foreign(h:Rel C S m a w)(hd:Dom C S m a w M)(hM:∀k,M' k->M k)(dG:Apart M' S m a)(hu:Upd M' w w'):Rel C S m a w'/\Dom C S m a w' (ZuX M w w'):=by
 have hd':Dom C S m a w' (ZuX M w w'):=hd.step ⟨hu.os,hu.tape,hu.output,hu.size,λk hk hn=>hu.block k hk (λhm=>hn (hM k hm)),hu.wr⟩ (NewM.refl _ _)
 refine⟨⟨?_,h.size,h.env,λid x hx=>?_,h.apart,h.ids,λk t ht=>?_,h.tkeys,h.tapart,⟨λb o v hv=>?_,λb e he=>(h.sub.k b e he).same (hu.block b (h.sub.k b e he).lt (dG.kn b e he))⟩,h.le,⟨_,hd'⟩,h.fo⟩,hd'⟩
 ·obtain⟨ms,h1,h2,h3⟩:=h.defers
  refine⟨ms,h1,h2,λD hD=>?_⟩
  rw[hu.block D (Array.getElem?_eq_some_iff.1 (h3 D hD)).1 (dG.mks D (by rw[h1];exact List.mem_map.2 ⟨D,hD,rfl⟩))];exact h3 D hD
 ·exact(h.own id x hx).same (hu.block _ (h.own id x hx).lt (dG.box id x hx)) (Mem.le_refl m) (h.own id x hx).free
 ·obtain⟨h1,h2⟩:=h.toks k t ht
  exact⟨h1.same (λb hb=>hu.block b (h1.lt hb) (dG.tok k t b ht hb)) (λ_ _ _ hn=>hn),h2⟩
 ·rw[ZbB (hu.block b (h.sub.lt hv) (dG.mem b o v hv))];exact h.sub b o v hv
def Zu8:Obj->Bool
 | .cells _ _ _=>true
 | .map _ _=>true
 | _=>false
theorem ZcU{w:World}{k l:Nat}{o:Obj}{r:Loop}(h:w.heap[k]?=some o)(hm:Zu8 o=true)(hl:w.heap[l]?=some (.loop r)):k≠l:=λe=>by subst e;rw[h]at hl;cases hl;cases hm
theorem Rel.swap{C2:Ctx}{S2:St}{a2:Act}(h:Rel C S m a w)(hn:C2.n=C.n)(hm:C2.me.le m)(hL:S2.L=S.L)(dR:S2.ids=S.ids)(aN:S2.tok=S.tok)(eK:S2.tkeys=S.tkeys)
  (dI:∀i sv,S2.env i=some sv->∃v,S2.den sv=some v/\a2.tmps[i]?=some v) (bE:a2.tmps.size=C2.n)
  (hO:∃ms:List Nat,a2.defers=ms.map Zg8/\ms.Nodup/\∀D∈ms,w'.heap[D]?=some (.deferred (some [])))
  (dk:∀(k:Nat)(o:Obj),w.heap[k]?=some o->Zu8 o=true->w'.heap[k]?=w.heap[k]?) (aU:∀k t b,S.tok k=some t->t.blk=some b->C2.me.free b) (jj:S2.fo=false->C2.me=C2.m0) (hd:∃M,Dom C2 S2 m a2 w' M):Rel C2 S2 m a2 w':=by
 refine⟨hO,bE,dI,λid x hx=>?_,λid id' x x' hx hx'=>?_,λid x hx=>?_,λk t ht=>?_,λk t ht=>?_,λk k' t t' b ht ht'=>?_,⟨λb o v hv=>?_,λb e he=>?_⟩,hm,hd,jj⟩
 ·rw[hL]at hx
  have ho:=h.own id x hx
  obtain⟨sp,fr,hc,_⟩:=ho.cells
  exact ho.same (dk _ _ hc rfl) (Mem.le_refl m) ho.free
 ·rw[hL]at hx hx';exact h.apart id id' x x' hx hx'
 ·rw[hL]at hx;rw[dR];exact h.ids id x hx
 ·rw[aN]at ht
  obtain⟨h1,h2⟩:=h.toks k t ht
  refine⟨h1.same (λb hb=>?_) (λ_ _ _ hn=>hn),λb hb=>⟨λid x hx=>?_,?_⟩⟩
  ·rcases h1 with h1|⟨b',o0,n,c,cur,T,fr,hv,_,hh,_⟩
   ·simp[Tok.blk,h1]at hb
   ·simp[Tok.blk,hv]at hb;subst hb;exact dk _ _ hh rfl
  ·rw[hL]at hx;exact(h2 b hb).1 id x hx
  ·exact aU k t b ht hb
 ·rw[aN]at ht;rw[eK];exact h.tkeys k t ht
 ·rw[aN]at ht ht';exact h.tapart k k' t t' b ht ht'
 ·have h1:=h.sub b o v hv
  have:∃c T fr,w.heap[b]?=some (Obj.cells c T fr):=by
   unfold World.cell? at h1
   split at h1
   ·rename_i c T fr hc;exact⟨c,T,fr,hc⟩
   ·cases h1
  obtain⟨c,T,fr,hc⟩:=this
  rw[ZbB (dk _ _ hc rfl)];exact h1
 ·obtain⟨es,cl,h1,h2⟩:=h.sub.k b e he
  exact⟨es,cl,(dk _ _ h1 rfl).trans h1,h2⟩
end
def ZuH(C:Ctx)(X:Nat->Prop)(h:Nat->Option Obj)(B:Nat)(me:Mem)(fm:C.m0.le me):Ctx where
 n:=C.n
 m0:=C.m0
 me:=me
 mle:=fm
 p:=λg Mr w=>∃M,C.p g M w/\(∀k,M k->k < w.heap.size)/\(∀k,Mr k->M k)/\(∀k,X k->M k/\¬Mr k/\w.heap[k]?=h k)/\B<=w.heap.size
 st:=by
  rintro g Mr M2 w w' ⟨M,h1,h2,h3,h4,h5⟩ hu hg
  refine⟨ZuX M w w',C.st g M _ w w' h1 ⟨hu.os,hu.tape,hu.output,hu.size,λk hk hn=>hu.block k hk (λhm=>hn (h3 k hm)),hu.wr⟩ (λ_ hk=>hk),?_,?_,?_,Nat.le_trans h5 hu.size⟩
  ·rintro k (hk|hk)
   ·exact Nat.lt_of_lt_of_le (h2 k hk) hu.size
   ·exact hk.2.1
  ·intro k hk
   exact(hg k hk).imp_left (h3 k)
  ·intro k hk
   obtain⟨g1,g2,g3⟩:=h4 k hk
   have aC:=h2 k g1
   refine⟨.inl g1,λhm=>?_,?_⟩
   ·rcases hg k hm with h|h
    ·exact g2 h
    ·omega
   ·rw[hu.block k aC g2];exact g3
abbrev ZyE(C:Ctx)(X:Nat->Prop)(h:Nat->Option Obj)(B:Nat):Ctx:=ZuH C X h B C.me C.mle
theorem Zpd{E:Env}{C:Ctx}{X:Nat->Prop}{h:Nat->Option Obj}{B:Nat}(hY:YOk E C){me:Mem}{fm:C.m0.le me}(bU:C.me.le me)(li:NewM C.me me X):YOk E (ZuH C X h B me fm):=by
 have key:∀{M:Nat->Prop} {w w':World},(∀k,M k->k < w.heap.size)->(∀k,X k->M k/\True)->Sub me w->Frn C.me M w w'->Sub me w':=λ{M w w'} h2 h4 hs hf=>⟨λb o v hv=>by
  rcases li.c b o v hv with h|h
  ·exact hf.sub.c b o v h
  ·rw[ZbB (hf.block b (h2 b (h4 b h).1) (h4 b h).1)];exact hs.c b o v hv,λb e he=>by
  rcases li.k b e he with h|h
  ·exact hf.sub.k b e h
  ·exact(hs.k b e he).same (hf.block b (h2 b (h4 b h).1) (h4 b h).1)⟩
 refine⟨?_,λmm fq=>⟨(hY.m0 mm fq).1,λg Mr w ⟨M,h1,h2,h3,h4,h5⟩ k hk=>(hY.m0 mm fq).2 g M w h1 k (h3 k hk)⟩⟩
 rintro Y vb F n l g v Mr w hF aC hy ⟨M,h1,h2,h3,h4,h5⟩ hs
 obtain⟨fn,tmps,asg,bdy,ml,fD⟩:=hY.y Y vb F n l g v M w hF h2 hy h1 (hs.less bU)
 refine⟨fn,tmps,asg,bdy,ml,fD.mono ?_⟩
 rintro e w' ⟨b,rfl,hp,hf⟩
 refine⟨b,rfl,⟨M,hp,λk hk=>Nat.lt_of_lt_of_le (h2 k hk) hf.size,h3,λk hk=>?_,Nat.le_trans h5 hf.size⟩,hf.size,λk hk hm=>hf.block k hk (h3 k hm),key h2 (λk hk=>⟨(h4 k hk).1,trivial⟩) hs hf⟩
 obtain⟨g1,g2,g3⟩:=h4 k hk
 exact⟨g1,g2,by rw[hf.block k (h2 k g1) g1];exact g3⟩
def ROk(F:Fence)(C:Ctx):Prop:=∀l,F.round=some l->∀g M w,C.p g M w->∃r,w.heap[l]?=some (.loop r)
def Zig:Obj->Bool
 | .cells _ _ _=>false
 | _=>true
theorem Zmh{o:Obj}(h:Zig o=true):Zsc o:=λc T fr e=>by subst e;simp[Zig]at h
theorem ZeK{M:Nat->Prop}{w:World}{l:Nat}{o:Obj}(ho:Zig o=true)(hl:M l):Upd M w (w.putObj l o):=
 ⟨rfl,rfl,rfl,by simp[World.putObj],λk hk hn=>World.putObj_heap_other (λe=>hn (e ▸ hl)),λk _ hk c T fr hh i hi=>by
  by_cases e:k=l
  ·subst e
   by_cases aC:k < w.heap.size
   ·rw[World.putObj_heap_same aC]at hh
    exact Zmh ho c T fr (Option.some.inj hh) i hi
   ·have h1:=(Array.getElem?_eq_some_iff.1 hh).1
    have h2:(w.putObj k o).heap.size=w.heap.size:=by simp[World.putObj]
    omega
  ·rw[World.putObj_heap_other e]at hh;exact hk c T fr hh i hi⟩
theorem ZcV(w:World)(l:Nat)(o:Obj):(w.putObj l o).heap.size=w.heap.size:=by simp[World.putObj]
theorem FOk.inRound{F:Fence}(h:FOk F)(l:Nat):FOk (F.inRound l):=by
 rcases h with rfl|⟨l',rfl⟩
 ·exact .inr ⟨l,rfl⟩
 ·exact .inr ⟨l,rfl⟩
section
variable {C:Ctx} {S:St} {m:Mem} {a:Act} {w w':World} {M M':Nat->Prop}
theorem Rel.alloc(h:Rel C S m a w)(hd:Dom C S m a w M){o:Obj}(ho:Zig o=true):Rel C S m a (w.alloc o)/\Dom C S m a (w.alloc o) (ZuX M w (w.alloc o)):=by
 have hk:Keep w.heap.size [] w (w.alloc o):=Keep.alloc (Nat.le_refl _) (Zmh ho)
 refine⟨h.world hk (h.sub.alloc _) (Mem.le_refl m) (NewM.refl _ _),hd.step (hk.upd (by simp)) (NewM.refl _ _)⟩
theorem ZeL(M:Nat->Prop)(w:World)(o:Obj)(ho:Zsc o):ZuX M w (w.alloc o) w.heap.size:=.inr ⟨Nat.le_refl _,by simp,Wr.new ho⟩
theorem Rel.enter{P:Program}(hr:Rel C S m a w){F:Fence}(hR:ROk F C)(fn:FuncId)(ps:Array Tmp)(asg bdy:Code):
  ∃l mk w1 D,(Instr.enterLoop fn a.tmps ps asg bdy F.round).run P w=.ok (l,mk) w1/\Rel C S m { a with defers:=mk++a.defers } w1/\(∃M,Dom C S m { a with defers:=mk++a.defers } w1 M/\M l)/\
   w1.heap[l]?=some (.loop { state:=.ready,pending:=none,fn,tmps:=a.tmps,params:=ps,assign:=asg,body:=bdy,defers:=D }):=by
 obtain⟨M,hd⟩:=hr.dom
 cases qN:F.round with
 | none=>
  obtain⟨h1,d1⟩:=hr.alloc hd (o:=.deferred (some [])) rfl
  obtain⟨h2,d2⟩:=h1.alloc d1 (o:=.loop { state:=.ready,pending:=none,fn,tmps:=a.tmps,params:=ps,assign:=asg,body:=bdy,defers:=w.heap.size }) rfl
  have e1:(w.alloc (.deferred (some []))).heap.size=w.heap.size+1:=by simp
  have g1:((w.alloc (.deferred (some []))).alloc (.loop { state:=.ready,pending:=none,fn,tmps:=a.tmps,params:=ps,assign:=asg,body:=bdy,defers:=w.heap.size })).heap[w.heap.size]?=some (.deferred (some [])):=by
   rw[Below.heap_alloc _ _ _ (by simp)];exact heap_alloc_new w _
  refine⟨_,_,_,w.heap.size,run_enterLoop_outer _ _ _ _ _,?_,?_,?_⟩
  ·obtain⟨ms,k1,k2,k3⟩:=h2.defers
   have hD:∃M,Dom C S m { a with defers:=[Zg8 w.heap.size]++a.defers } ((w.alloc (.deferred (some []))).alloc (.loop { state:=.ready,pending:=none,fn,tmps:=a.tmps,params:=ps,assign:=asg,body:=bdy,defers:=w.heap.size })) M:=
    ⟨_,d2.p,d2.lt,d2.own,d2.tok,λD hD=>by
     simp only[List.singleton_append,List.mem_cons]at hD
     rcases hD with hD|hD
     ·have:D=w.heap.size:=by simpa[Zg8]using hD
      subst this
      exact .inl (ZeL _ _ _ (λc T fr e=>by cases e))
     ·exact d2.mks D hD,d2.new⟩
   refine⟨⟨w.heap.size::ms,by simp[k1,Zg8],?_,?_⟩,h2.size,h2.env,h2.own,h2.apart,h2.ids,h2.toks,h2.tkeys,h2.tapart,h2.sub,h2.le,hD,h2.fo⟩
   ·refine List.nodup_cons.2 ⟨λhm=>?_,k2⟩
    obtain⟨ms',q1,q2,q3⟩:=hr.defers
    have:w.heap.size∈ms':=by
     have e:Zg8 w.heap.size∈a.defers:=by
      have:a.defers=ms.map Zg8:=k1
      rw[this];exact List.mem_map.2 ⟨_,hm,rfl⟩
     rw[q1]at e
     obtain⟨D',r1,r2⟩:=List.mem_map.1 e
     have:D'=w.heap.size:=by simpa[Zg8]using r2
     exact this ▸ r1
    have:=(Array.getElem?_eq_some_iff.1 (q3 _ this)).1
    omega
   ·intro D hD
    rcases List.mem_cons.1 hD with rfl|hD
    ·exact g1
    ·exact k3 D hD
  ·refine⟨_,⟨d2.p,d2.lt,d2.own,d2.tok,λD hD=>?_,d2.new⟩,by rw[<-e1];exact ZeL _ _ _ (λc T fr e=>by cases e)⟩
   simp only[List.singleton_append,List.mem_cons]at hD
   rcases hD with hD|hD
   ·have:D=w.heap.size:=by simpa[Zg8]using hD
    subst this
    exact .inl (ZeL _ _ _ (λc T fr e=>by cases e))
   ·exact d2.mks D hD
  ·rw[<-e1];exact heap_alloc_new _ _
 | some l0=>
  obtain⟨r0,h0⟩:=hR l0 qN _ _ _ hd.p
  obtain⟨h1,d1⟩:=hr.alloc hd (o:=.loop { state:=.ready,pending:=none,fn,tmps:=a.tmps,params:=ps,assign:=asg,body:=bdy,defers:=r0.defers }) rfl
  exact⟨_,_,_,r0.defers,run_enterLoop_inner h0 _ _ _ _ _,h1,⟨_,d1,ZeL _ _ _ (λc T fr e=>by cases e)⟩,heap_alloc_new _ _⟩
theorem Zmi{S:St}{ds:List Nat}{A:LoopAnn}{g:Int}{xs:List Value}{css:List (List Value)}{tvs:List Value}{sv:SV}{v:Value}(h:S.den sv=some v):(ZbF S ds A g xs css tvs).den sv=some v:=by
 cases sv with
 | v u=>exact h
 | loc id off=>
  simp only[St.den]at h ⊢
  cases hx:S.L id with
  | none=>simp[hx]at h
  | some x=>
   obtain⟨y,hy,hb⟩:=Zdt (l:=A.boxes) (css:=css) hx
   simp only[hx]at h
   simp only[ZbF,hy,hb];exact h
 | sl id n c=>
  simp only[St.den]at h ⊢
  cases hx:S.L id with
  | none=>simp[hx]at h
  | some x=>
   obtain⟨y,hy,hb⟩:=Zdt (l:=A.boxes) (css:=css) hx
   simp only[hx]at h
   simp only[ZbF,hy,hb];exact h
end
def ZqM(E:Env)(T:KT->St->Mem->Prop)(c:Code):Prop:=
 ∀{F:Fence} (_:FOk F) {C:Ctx} (_:YOk E C) (_:ROk F C) (n:Nat),Zbi C.n c=true->∀{S:St} {m:Mem} {a:Act} {w:World} {K:KT} {Q:Exit->Act->World->Prop},Rel C S m a w->T K S m->
  (∀e S' m' a' w',K e S' m'->Rel C S' m' a' w'->Q e a' w')->c.wpIn F n E.P Q a w
def Zpe(tvs:List Value):Prop:=∀v∈tvs,ZbT v=true
def Zu9(K:KT)(c:Code)(S:St)(m:Mem):Prop:=match c with
 | .ret=>K .ret S m
 | .exit id=>K (.exit id) S m
 | .goto l=>K (.goto l) S m
 | _=>False
section
variable {C:Ctx} {S:St} {m:Mem} {a:Act} {w w':World} {M M':Nat->Prop}
def ZfQ(fn:FuncId)(tmps:Array Value)(ps:Array Tmp)(x y:Code)(D:Nat)(st:LoopState)(pe:Option Code):Loop:=
 {state:=st,pending:=pe,fn,tmps,params:=ps,assign:=x,body:=y,defers:=D }
def ZqN(C:Ctx)(S:St)(m:Mem)(A:LoopAnn)(I:List Value->List (List Value)->List Value->Mem->Nat->Prop)(K:KT)(a1:Act)(l:Nat)(rec:LoopState->Option Code->Loop)(k:Int)(M':Nat->Prop)(W:World):Prop:=
 ∃(g:Int) (css:List (List Value)) (tvs:List Value) (m':Mem),css.length=A.boxes.length/\tvs.length=A.toks.length/\Zpe tvs/\(A.gh=false->g=S.gh)/\m.le m'/\
  Rel C (ZbF S [] { A with slots:=[] } g [] css tvs) m' a1 W/\
  (∃M,Dom C (ZbF S [] { A with slots:=[] } g [] css tvs) m' a1 W M/\M l/\¬M' l/\(∀k,M' k->M k)/\Apart M' (ZbF S [] { A with slots:=[] } g [] css tvs) m' a1)/\
  ((0<=k/\I (ghs A.gh g []) css tvs m' k.toNat/\W.heap[l]?=some (.loop (rec .ready none)))\/
   (k=-1/\∃c,W.heap[l]?=some (.loop (rec .done (some c)))/\Zu9 K c (ZbF S [] { A with slots:=[] } g [] css tvs) m'))
theorem Zkw{A:LoopAnn}{I:List Value->List (List Value)->List Value->Mem->Nat->Prop}{K:KT}{a1:Act}{l:Nat}{rec:LoopState->Option Code->Loop}:Zu0 (ZqN C S m A I K a1 l rec):=by
 rintro k M' M2 W W' ⟨g,css,tvs,m',h1,h2,h3,h4,h5,hr,⟨M,hd,hl,hl',hM,dG⟩,hc⟩ hu hg
 obtain⟨eH,qO⟩:=hr.foreign hd hM dG hu
 have fS:=hd.lt l hl
 have ve:W'.heap[l]?=W.heap[l]?:=hu.block l fS hl'
 have key:∀k,k < W.heap.size->¬M' k->¬M2 k:=λk hk hn h=>by
  rcases hg k h with h|h
  ·exact hn h
  ·omega
 refine⟨g,css,tvs,m',h1,h2,h3,h4,h5,eH,⟨_,qO,.inl hl,key l fS hl',λk hk=>?_,?_⟩,?_⟩
 ·rcases hg k hk with h|h
  ·exact .inl (hM k h)
  ·exact .inr h
 ·refine⟨λid x hx=>key _ (hr.own id x hx).lt (dG.box id x hx),λk t b ht hb=>key _ ((hr.toks k t ht).1.lt hb) (dG.tok k t b ht hb),λD hD=>key _ (hd.lt D (hd.mks D hD)) (dG.mks D hD),λb o v hv=>key _ (hr.sub.lt hv) (dG.mem b o v hv),λb e he=>key _ (hr.sub.k b e he).lt (dG.kn b e he)⟩
 ·rw[ve];exact hc
end
section
variable {C:Ctx} {S:St} {m:Mem} {a:Act} {w w':World} {M M':Nat->Prop}
theorem Zva{a b:Nat}(h:Nat.blt a b=true):a < b:=by simpa[Nat.blt_eq]using h
theorem Zfh{w:World}{k l:Nat}{c T fr}{r:Loop}(h:w.heap[k]?=some (.cells c T fr))(hl:w.heap[l]?=some (.loop r)):k≠l:=λe=>by subst e;rw[h]at hl;cases hl
theorem Zf8{w:World}{k l:Nat}{c T fr d}(h:w.heap[k]?=some (.cells c T fr))(hl:w.heap[l]?=some (.deferred d)):k≠l:=λe=>by subst e;rw[h]at hl;cases hl
theorem Own.isCells{m:Mem}{w:World}{x:Box}(h:Own m w x):∃c T fr,w.heap[x.b]?=some (.cells c T fr):=by
 obtain⟨sp,fr,hh,_⟩:=h.cells
 exact⟨_,_,_,hh⟩
theorem TokOk.isCells{m:Mem}{w:World}{t:Tok}(h:TokOk m w t){b:Nat}(hb:t.blk=some b):∃c T fr,w.heap[b]?=some (.cells c T fr):=by
 rcases h with h|⟨b',o0,n,c,cur,T,fr,hv,_,hh,_⟩
 ·simp[Tok.blk,h]at hb
 ·simp[Tok.blk,hv]at hb;subst hb;exact⟨_,_,_,hh⟩
theorem Sub.isCells{m:Mem}{w:World}(h:Sub m w){b o:Nat}{v:Value}(hv:m b o=some v):∃c T fr,w.heap[b]?=some (.cells c T fr):=by
 have h1:=h b o v hv
 unfold World.cell? at h1
 split at h1
 ·rename_i c T fr hc;exact⟨c,T,fr,hc⟩
 ·cases h1
theorem Rel.intoRound{S0 S1:St}{a1:Act}{l:Nat}{r:Loop}{tm:Array Value}(hr:Rel C S0 m a1 w)(hd:Dom C S0 m a1 w M)(hl:M l)(hl':¬M' l)(hM:∀k,M' k->M k)(dG:Apart M' S0 m a1)(dM:w.heap[l]?=some (.loop r))
  (hL:S1.L=S0.L) (dR:S1.ids=S0.ids) (aN:S1.tok=S0.tok) (eK:S1.tkeys=S0.tkeys) (hg:S1.gh=S0.gh) (hf:S1.fo=S0.fo) (bE:tm.size=C.n) (dI:∀i sv,S1.env i=some sv->∃v,S1.den sv=some v/\tm[i]?=some v):
  Rel (ZyE C (λk=>M' k\/k=l\/Zg8 k∈a1.defers) (λk=>w.heap[k]?) w.heap.size) S1 m { tmps:=tm,defers:=[] } w:=by
 have hX:∀k,(∃c T fr,w.heap[k]?=some (.cells c T fr))->¬M' k->¬(M' k\/k=l\/Zg8 k∈a1.defers):=by
  rintro k ⟨c,T,fr,hk⟩ hn (h|h|h)
  ·exact hn h
  ·exact Zfh hk dM h
  ·exact Zf8 hk (hr.markAt h) rfl
 refine hr.swap rfl hr.le hL dR aN eK dI bE ⟨[],rfl,List.nodup_nil,by simp⟩ (λ_ _ _ _=>rfl) (λk t b ht hb=>((hr.toks k t ht).2 b hb).2) (λh=>hr.fo (hf ▸ h)) ⟨λk=>M k/\¬(M' k\/k=l\/Zg8 k∈a1.defers),?_,λk hk=>hd.lt k hk.1,λid x hx=>?_,λk t b ht hb=>?_,by simp,⟨λb o v hv=>?_,λb e he=>?_⟩⟩
 ·rw[hg]
  refine⟨M,hd.p,hd.lt,λk hk=>hk.1,λk hk=>⟨?_,λh=>h.2 hk,rfl⟩,Nat.le_refl _⟩
  rcases hk with h|h|h
  ·exact hM k h
  ·exact h ▸ hl
  ·exact hd.mks k h
 ·rw[hL]at hx
  exact⟨hd.own id x hx,hX _ (hr.own id x hx).isCells (dG.box id x hx)⟩
 ·rw[aN]at ht
  exact⟨hd.tok k t b ht hb,hX _ ((hr.toks k t ht).1.isCells hb) (dG.tok k t b ht hb)⟩
 ·exact(hd.new b o v hv).imp_right λh=>⟨h,hX _ (hr.sub.isCells hv) (dG.mem b o v hv)⟩
 ·refine(hd.new.k b e he).imp_right λh=>⟨h,?_⟩
  obtain⟨es,cl,h1,_⟩:=hr.sub.k b e he
  rintro(h|h|h)
  ·exact dG.kn b e he h
  ·exact ZcU h1 rfl dM h
  ·have:=hr.markAt h
   rw[h1]at this;cases this
theorem Rel.beginRound{X:Nat->Prop}{h1:Nat->Option Obj}{B:Nat}{me:Mem}{fm:C.m0.le me}{S1:St}{ar:Act}{l:Nat}{r r':Loop}(hr:Rel (ZuH C X h1 B me fm) S1 m ar w)(hl:X l)(dM:w.heap[l]?=some (.loop r)):
  Rel (ZuH C X (λk=>(w.putObj l (.loop r')).heap[k]?) B me fm) S1 m ar (w.putObj l (.loop r')):=by
 have cS:∀(k:Nat)(o:Obj),w.heap[k]?=some o->Zu8 o=true->(w.putObj l (.loop r')).heap[k]?=w.heap[k]?:=λk o hk hm=>World.putObj_heap_other (ZcU hk hm dM)
 obtain⟨ms,q1,q2,q3⟩:=hr.defers
 refine hr.swap rfl hr.le rfl rfl rfl rfl hr.env hr.size ⟨ms,q1,q2,λD hD=>?_⟩ cS (λk t b ht hb=>((hr.toks k t ht).2 b hb).2) hr.fo ?_
 ·rw[World.putObj_heap_other (λe=>by have:=q3 D hD;rw[e,dM]at this;cases this)];exact q3 D hD
 ·obtain⟨Mr,hd⟩:=hr.dom
  obtain⟨M,p1,p2,p3,p4,p5⟩:=hd.p
  refine⟨Mr,⟨M,C.st _ M M _ _ p1 (ZeK rfl (p4 l hl).1) (λk hk=>.inl hk),λk hk=>by rw[ZcV];exact p2 k hk,p3,λk hk=>⟨(p4 k hk).1,(p4 k hk).2.1,rfl⟩,by rw[ZcV];exact p5⟩,λk hk=>by rw[ZcV];exact hd.lt k hk,hd.own,hd.tok,hd.mks,hd.new⟩
theorem Rel.outOfRound{X:Nat->Prop}{h1:Nat->Option Obj}{B:Nat}{S' S2:St}{a3 a1:Act}{l:Nat}{r r':Loop}(hr:Rel (ZyE C X h1 B) S' m a3 w)(hl:X l)(dM:w.heap[l]?=some (.loop r))
  (eD:∀b o v,C.me b o=some v->¬X b) (qP:∀b e,C.me.k b=some e->¬X b) (vg:∀D,Zg8 D∈a1.defers->X D) (hX':∀k,M' k->X k) (nj:∀D,Zg8 D∈a1.defers->¬M' D)
  (hL:S2.L=S'.L) (dR:S2.ids=S'.ids) (aN:S2.tok=S'.tok) (eK:S2.tkeys=S'.tkeys) (hg:S2.gh=S'.gh) (hf:S2.fo=S'.fo) (bE:a1.tmps.size=C.n) (dI:∀i sv,S2.env i=some sv->∃v,S2.den sv=some v/\a1.tmps[i]?=some v)
  (hO:∃ms:List Nat,a1.defers=ms.map Zg8/\ms.Nodup/\∀D∈ms,w.heap[D]?=some (.deferred (some []))):
  Rel C S2 m a1 (w.putObj l (.loop r'))/\∃M,Dom C S2 m a1 (w.putObj l (.loop r')) M/\M l/\(∀k,M' k->M k)/\Apart M' S2 m a1:=by
 have cS:∀(k:Nat)(o:Obj),w.heap[k]?=some o->Zu8 o=true->(w.putObj l (.loop r')).heap[k]?=w.heap[k]?:=λk o hk hm=>World.putObj_heap_other (ZcU hk hm dM)
 obtain⟨ms,q1,q2,q3⟩:=hO
 obtain⟨Mr,hd⟩:=hr.dom
 obtain⟨M,p1,p2,p3,p4,p5⟩:=hd.p
 have hD:Dom C S2 m a1 (w.putObj l (.loop r')) M:=by
  refine⟨hg ▸ C.st _ M M _ _ p1 (ZeK rfl (p4 l hl).1) (λk hk=>.inl hk),λk hk=>by rw[ZcV];exact p2 k hk,λid x hx=>p3 _ (hd.own id x (hL ▸ hx)),λk t b ht hb=>p3 _ (hd.tok k t b (aN ▸ ht) hb),λD hD=>(p4 D (vg D hD)).1,hd.new.mono p3⟩
 refine⟨hr.swap rfl hr.le hL dR aN eK dI bE ⟨ms,q1,q2,λD hD=>?_⟩ cS (λk t b ht hb=>((hr.toks k t ht).2 b hb).2) (λh=>hr.fo (hf ▸ h)) ⟨M,hD⟩,?_⟩
 ·rw[World.putObj_heap_other (λe=>by have:=q3 D hD;rw[e,dM]at this;cases this)];exact q3 D hD
 ·refine⟨M,hD,(p4 l hl).1,λk hk=>(p4 k (hX' k hk)).1,?_⟩
  refine⟨λid x hx h=>(p4 _ (hX' _ h)).2.1 (hd.own id x (hL ▸ hx)),λk t b ht hb h=>(p4 _ (hX' _ h)).2.1 (hd.tok k t b (aN ▸ ht) hb),nj,λb o v hv h=>?_,λb e he h=>?_⟩
  ·rcases hd.new b o v hv with h2|h2
   ·exact eD b o v h2 (hX' b h)
   ·exact(p4 b (hX' b h)).2.1 h2
  ·rcases hd.new.k b e he with h2|h2
   ·exact qP b e h2 (hX' b h)
   ·exact(p4 b (hX' b h)).2.1 h2
theorem Rel.atX{X:Nat->Prop}{h1:Nat->Option Obj}{B:Nat}{me:Mem}{fm:C.m0.le me}{S':St}{a3:Act}(hr:Rel (ZuH C X h1 B me fm) S' m a3 w):B<=w.heap.size/\∀k,X k->w.heap[k]?=h1 k:=by
 obtain⟨Mr,hd⟩:=hr.dom
 obtain⟨M,p1,p2,p3,p4,p5⟩:=hd.p
 exact⟨p5,λk hk=>(p4 k hk).2.2⟩
theorem Zkx{th:Bool}{E:Env}{A:LoopAnn}{I:List Value->List (List Value)->List Value->Mem->Nat->Prop}{K:KT}{a1:Act}{l:Nat}{fn:FuncId}{ps:Array Tmp}{x y:Code}{D:Nat}{Tx Ty:KT->St->Mem->Prop}{xs:List (List Value)}
  (qQ:ZqM E Tx x) (qR:ZqM E Ty y) (qS:∀{K:KT} {S:St} {m:Mem},Tx K S m->Tx (λe S' m'=>K e S' m'/\leT th m m') S m) (qT:∀{K:KT} {S:St} {m:Mem},Ty K S m->Ty (λe S' m'=>K e S' m'/\leT th m m') S m) (pS:YOk E C) (qU:Zbi C.n x=true) (qV:Zbi C.n y=true) (qW:ps.toList.all (Nat.blt · C.n)=true) (hS:StOk S) (bE:a1.tmps.size=C.n) (dI:∀i sv,S.env i=some sv->∃v,S.den sv=some v/\a1.tmps[i]?=some v)
  (pT:Zks ps.toList (A.slots.map (·.1))=true) (nk:ZbK ps.toList=true) (dX:∀v∈xs,Shape.fitsL (A.slots.map (·.2)) v=true)
  (hb:ZwN A.gh S.gh λy=>Shape.allL (A.slots.map (·.2)) λx=>Zl5 A.boxes λcss=>Zl6 A.toks λtvs=>∀(m':Mem)(n:Nat),m.le m'->xs[n]?=some x->I (ghs A.gh y []) css tvs m' n->
     Tx (λe S1 m1=>match e with
      | .normal=>Ty (λe S' m''=>Zys th m m'' (Zjw A.gh S'.gh S.gh S'.fo S.fo (Zlk (ZbL S' A S.ids) (ZbL S A S.ids) (Zll (Za1 S' A S.tkeys) (Za1 S A S.tkeys) (Zha S' A.boxes λcss'=>ZeF S' A.toks λtvs'=>match e with
       | .normal=>I (ghs A.gh S'.gh []) css' tvs' m'' (n+1)
       | e=>Zl7 K e (ZbF S [] { A with slots:=[] } S'.gh [] css' tvs') m''))))) S1 m1
      | _=>False) (ZbF S [] A y x css tvs) m'):
  Zjq E.P m (ZqN C S m A I K a1 l (ZfQ fn a1.tmps ps x y D)) (λl' g v=>l'=l/\0<=g/\xs[g.toNat]?=some v):=by
 rintro F n l' k v M' w hF aC ⟨rfl,nX,pU⟩ ⟨g,css,tvs,m',h1,h2,h3,h4,h5,hr,⟨M,hd,hl,hl',hM,dG⟩,hc⟩ dx
 rcases hc with⟨_,hI,dM⟩|⟨iP,_⟩
 rotate_left
 ·omega
 have kj:=ZhN pT
 have qX:=dX v (zA2 pU)
 have gY:v.length=ps.toList.length:=by rw[kj,Zd7 qX];simp
 have eJ:=ZaS nk
 have hy:=run_yield (P:=E.P) (args:=v.toArray) dM (by simpa[ZfQ]using gY)
 simp only[ZfQ]at hy
 refine⟨_,_,_,_,hy,roundIn_of_wpIn (hF.fn _) ?_⟩
 have nZ:((ps.zip v.toArray).foldl (λtmps (x:Tmp×Value)=>tmps.setIfInBounds x.1 x.2) a1.tmps)=((ps.toList.zip v).foldl (λ(t:Array Value)(x:Nat×Value)=>t.setIfInBounds x.1 x.2) a1.tmps):=by
  rw[<-Array.foldl_toList,Array.toList_zip]
 obtain⟨f1,f2,f3⟩:=ZhM ps.toList v a1.tmps gY eJ
 have tA:=hF.inRound l'
 have eI:=hr.intoRound (S1:=ZbF S [] A g v css tvs) (tm:=(ps.toList.zip v).foldl (λ(t:Array Value)(x:Nat×Value)=>t.setIfInBounds x.1 x.2) a1.tmps) hd hl hl' hM dG dM rfl rfl rfl rfl rfl rfl (by rw[f1];exact bE) (by
  intro i sv he
  simp only[ZbF]at he
  rcases ZhL (by rw[Zd7 qX];simp) he with⟨g1,g2⟩|⟨q,sh,u,g1,g2,g3⟩
  ·simp only[List.any_nil,cond_false]at g1
   obtain⟨u,g3,g4⟩:=dI i sv g1
   exact⟨u,Zmi g3,by rw[f2 i (by rw[kj];exact g2)];exact g4⟩
  ·subst g3
   refine⟨u,rfl,f3 q i u ?_ g2 ?_⟩
   ·rw[kj,List.getElem?_map,g1];rfl
   ·have:i∈ps.toList:=by rw[kj];exact List.mem_map.2 ⟨_,zA2 g1,rfl⟩
    have:=List.all_eq_true.1 qW i this
    rw[bE];exact Zva this)
 rw[nZ]
 have vh:∀b o v,C.me b o=some v->¬(M' b\/b=l'\/Zg8 b∈a1.defers):=by
  intro b o v hv
  have hv':m' b o=some v:=hr.le b o v hv
  obtain⟨c,T,fr,hc⟩:=hr.sub.isCells hv'
  rintro(h|h|h)
  ·exact dG.mem b o v hv' h
  ·exact Zfh hc dM h
  ·exact Zf8 hc (hr.markAt h) rfl
 have qY:∀b e,C.me.k b=some e->¬(M' b\/b=l'\/Zg8 b∈a1.defers):=by
  intro b e he
  have he':m'.k b=some e:=hr.le.k b e he
  obtain⟨es,cl,h1,_⟩:=hr.sub.k b e he'
  rintro(h|h|h)
  ·exact dG.kn b e he' h
  ·exact ZcU h1 rfl dM h
  ·have:=hr.markAt h
   rw[h1]at this;cases this
 have dT:=Zds (Zdr (Shape.allL_fits _ _ (Zf5 hb h4) v qX) css h1) tvs h2 h3 m' k.toNat h5 pU hI
 refine qQ tA (Zpd pS (Mem.le_refl _) (NewM.refl _ _)) ?_ n qU eI (qS dT) ?_
 ·intro l2 jl g2 Mr w2 hp
  have:l2=l':=by simpa using jl.symm
  subst this
  obtain⟨M2,_,_,_,p4,_⟩:=hp
  exact⟨_,by rw[(p4 l2 (.inr (.inl rfl))).2.2];exact dM⟩
 rintro e S1 m1 a2 w1 ⟨hk,qZ⟩ eH
 cases e with
 | normal=>
  obtain⟨z1,z2⟩:=eH.atX
  have jm:w1.heap[l']?=some (.loop (ZfQ fn a1.tmps ps x y D .ready none)):=by rw[z2 l' (.inr (.inl rfl))];exact dM
  refine⟨_,run_beginRound jm rfl,?_⟩
  have jV:=eH.beginRound (r':={ ZfQ fn a1.tmps ps x y D .ready none with state:=.busy }) (.inr (.inl rfl)) jm
  have iz:l' < w1.heap.size:=(Array.getElem?_eq_some_iff.1 jm).1
  have fl:(w1.putObj l' (.loop { ZfQ fn a1.tmps ps x y D .ready none with state:=.busy })).heap[l']?=some (.loop { ZfQ fn a1.tmps ps x y D .ready none with state:=.busy }):=World.putObj_heap_same iz
  refine qR tA (Zpd pS (Mem.le_refl _) (NewM.refl _ _)) ?_ n qV jV (qT hk) ?_
  ·intro l2 jl g2 Mr w2 hp
   have:l2=l':=by simpa using jl.symm
   subst this
   obtain⟨M2,_,_,_,p4,_⟩:=hp
   exact⟨_,by rw[(p4 l2 (.inr (.inl rfl))).2.2];exact fl⟩
  rintro e S' m'' a3 w3 ⟨hk,jo⟩ pV
  obtain⟨q0,hk⟩:=ZqG hk
  obtain⟨q1,qf,hk⟩:=Zdo hk
  obtain⟨q2,hk⟩:=ZcA.1 hk
  obtain⟨q3,hk⟩:=ZcB.1 hk
  obtain⟨css',g1,g2,hk⟩:=ZcT hk
  obtain⟨tvs',k1,k2,hk⟩:=Zb1 hk
  obtain⟨y1,y2⟩:=pV.atX
  have iA:w3.heap[l']?=some (.loop { ZfQ fn a1.tmps ps x y D .ready none with state:=.busy }):=by rw[y2 l' (.inr (.inl rfl))];exact fl
  have i9:m.le m'':=by
   cases th with
   | true=>exact q0 rfl
   | false=>exact mLt h5 (mLt qZ jo)
  have hx:Rel (ZyE C (λk=>M' k\/k=l'\/Zg8 k∈a1.defers) (λk=>(w1.putObj l' (.loop { ZfQ fn a1.tmps ps x y D .ready none with state:=.busy })).heap[k]?) w.heap.size) (ZbF { S with env:=λ_=>none } [] { A with slots:=[] } S'.gh [] css' tvs') m'' a3 w3:=by
   have hh:Rel (ZyE C (λk=>M' k\/k=l'\/Zg8 k∈a1.defers) (λk=>(w1.putObj l' (.loop { ZfQ fn a1.tmps ps x y D .ready none with state:=.busy })).heap[k]?) w.heap.size) { S' with env:=λ_=>none } m'' a3 w3:=
    pV.restrict rfl rfl (λ_ _ h=>h) (λ_ _ h=>.inl h) (λi sv h=>(by cases h)) pV.ids pV.tkeys
   exact ZdJ (S:={ S with env:=λ_=>none }) (S':={ S' with env:=λ_=>none }) (A:={ A with slots:=[] }) ⟨λi sv h=>(by cases h),hS.ids,hS.tkeys⟩ hh qf (λ_ _=>rfl) q2 q3 (by simp) g1 g2 k1 k2
  have hO:∃ms:List Nat,a1.defers=ms.map Zg8/\ms.Nodup/\∀D∈ms,w3.heap[D]?=some (.deferred (some [])):=by
   obtain⟨ms,r1,r2,r3⟩:=hr.defers
   refine⟨ms,r1,r2,λD' hD'=>?_⟩
   have hm:Zg8 D'∈a1.defers:=by rw[r1];exact List.mem_map.2 ⟨_,hD',rfl⟩
   rw[y2 D' (.inr (.inr hm)),World.putObj_heap_other (λe=>by have:=r3 D' hD';rw[e,dM]at this;cases this),z2 D' (.inr (.inr hm))];exact r3 D' hD'
  have eM:=λ(r':Loop)=>hx.outOfRound (S2:=ZbF S [] { A with slots:=[] } S'.gh [] css' tvs') (a1:=a1) (M':=M') (r':=r') (.inr (.inl rfl)) iA vh qY (λD' hD'=>.inr (.inr hD')) (λk hk=>.inl hk) dG.mks rfl rfl rfl rfl rfl rfl bE (by
   intro i sv he
   simp only[ZbF,Zbt,List.any_nil,cond_false]at he
   obtain⟨u,g3,g4⟩:=dI i sv he
   exact⟨u,Zmi g3,g4⟩) hO
  have q6:l' < w3.heap.size:=(Array.getElem?_eq_some_iff.1 iA).1
  have oa:∀r',Frn m M' w (w3.putObj l' (.loop r')):=λr'=>by
   refine⟨by rw[ZcV];exact y1,λk hk q7=>?_,(eM r').1.sub.less i9⟩
   ·have cS:k≠l':=λe=>hl' (e ▸ q7)
    rw[World.putObj_heap_other cS,y2 k (.inl q7),World.putObj_heap_other cS,z2 k (.inl q7)]
  have eG:Zpe tvs':=by
   intro u hu
   obtain⟨i,hi⟩:=List.getElem?_of_mem hu
   have aC:=(zA0 hi).1
   obtain⟨qe,jp⟩:∃qe,A.toks[i]?=some qe:=⟨_,zA3 (by omega)⟩
   exact(k2 i qe.1 qe.2 u jp hi).1
  have fin:∀(c:Code) ,Zu9 K c (ZbF S [] { A with slots:=[] } S'.gh [] css' tvs') m''->∃v w',(Instr.endRound l' (some c)).run E.P w3=.ok v w'/\∃b,Ending.returned v=Ending.returned (.bool b)/\ZqN C S m A I K a1 l' (ZfQ fn a1.tmps ps x y D) (if b then k+1 else -1) M' w'/\Frn m M' w w':=by
   intro c hc
   refine⟨_,_,run_endRound (some c) iA,false,rfl,?_,oa _⟩
   obtain⟨o1,M3,o2,o3,o4,o5⟩:=eM (ZfQ fn a1.tmps ps x y D .done (some c))
   exact⟨S'.gh,css',tvs',m'',g1,k1,eG,q1,i9,o1,⟨M3,o2,o3,hl',o4,o5⟩,.inr ⟨rfl,c,World.putObj_heap_same q6,hc⟩⟩
  cases e with
  | normal=>
   refine⟨_,_,run_endRound none iA,true,rfl,?_,oa _⟩
   obtain⟨o1,M3,o2,o3,o4,o5⟩:=eM (ZfQ fn a1.tmps ps x y D .ready none)
   refine⟨S'.gh,css',tvs',m'',g1,k1,eG,q1,i9,o1,⟨M3,o2,o3,hl',o4,o5⟩,.inl ⟨by simp;omega,?_,World.putObj_heap_same q6⟩⟩
   have:(k+1).toNat=k.toNat+1:=by omega
   simp only[if_true,this]
   exact hk
  | ret=>exact fin _ hk
  | exit id=>exact fin _ hk
  | goto t=>exact fin _ hk
  | panic ch=>exact hk.elim
  | outgrown=>exact hk.elim
 | exit id=>exact hk.elim
 | goto t=>exact hk.elim
 | ret=>exact hk.elim
 | panic ch=>exact hk.elim
 | outgrown=>exact hk.elim
end
section
variable {C:Ctx} {S:St} {m:Mem} {a:Act} {w w':World}
theorem Rel.afterRange{S2:St}{a1:Act}{l:Nat}{r r':Loop}{M:Nat->Prop}(hr:Rel C S2 m a1 w)(hd:Dom C S2 m a1 w M)(hl:M l)(dM:w.heap[l]?=some (.loop r)):Rel C S2 m a1 (w.putObj l (.loop r')):=by
 obtain⟨ms,q1,q2,q3⟩:=hr.defers
 refine hr.swap rfl hr.le rfl rfl rfl rfl hr.env hr.size ⟨ms,q1,q2,λD hD=>?_⟩ (λk o hk hm=>World.putObj_heap_other (ZcU hk hm dM)) (λk t b ht hb=>((hr.toks k t ht).2 b hb).2) hr.fo ⟨_,hd.step (ZeK rfl hl) (NewM.refl _ _)⟩
 rw[World.putObj_heap_other (λe=>by have:=q3 D hD;rw[e,dM]at this;cases this)];exact q3 D hD
theorem Zmj{th:Bool}{E:Env}{F:Fence}(hF:FOk F)(pS:YOk E C)(hR:ROk F C)(n:Nat){A:LoopAnn}{f:Operand}{ps:Array Tmp}{x y:Code}{Tx Ty:KT->St->Mem->Prop}
  (qQ:ZqM E Tx x) (qR:ZqM E Ty y) (qS:∀{K:KT} {S:St} {m:Mem},Tx K S m->Tx (λe S' m'=>K e S' m'/\leT th m m') S m) (qT:∀{K:KT} {S:St} {m:Mem},Ty K S m->Ty (λe S' m'=>K e S' m'/\leT th m m') S m)
  (qU:Zbi C.n x=true) (qV:Zbi C.n y=true) (qW:ps.toList.all (Nat.blt · C.n)=true)
  {K:KT} {Q:Exit->Act->World->Prop} (hr:Rel C S m a w) (h:Zl8 th E.P A f ps.toList Tx Ty K S m) (hK:∀e S' m' a' w',K e S' m'->Rel C S' m' a' w'->Q e a' w'):(Code.rangeFunc f ps x y).wpIn F n E.P Q a w:=by
 unfold Zl8 at h
 split at h
 rotate_left
 ·exact h.elim
 rename_i g first captured kP
 obtain⟨hc,i9⟩:=Zag h
 obtain⟨mi,eA,lf,xs,tB,dX,I,h0,hb,jq⟩:=ZqF i9
 simp only[zA7]at hc
 obtain⟨v,e1,_,e2⟩:=hr.ev_val kP
 simp only[St.den,Option.some.injEq]at e1
 refine wpIn_rangeFunc λfn mo=>?_
 obtain⟨l,mk,w1,D,gZ,eI,⟨M1,km,iz⟩,dM⟩:=hr.enter (P:=E.P) hR fn ps x y
 obtain⟨a1,gw⟩:∃a1,a1=({ a with defers:=mk++a.defers }:Act):=⟨_,rfl⟩
 rw[<-gw]at eI km
 have eu:a1.tmps=a.tmps:=by rw[gw]
 have og:w1.heap[l]?=some (.loop (ZfQ fn a1.tmps ps x y D .ready none)):=by rw[eu];exact dM
 refine⟨l,mk,w1,{ target:=.fn (.func g) captured,args:=first++#[.func (.yield l) #[] #[]] },w1,g,(first.toList++.func (.yield l) #[] #[]::captured.toList).toArray,w1,gZ,?_,λf' _=>hF.fn f',?_,λhs=>by rw[hF.depth]at hs;simp at hs,?_⟩
 ·simp only[resolve,e2,<-e1,Deferred.ofValue]
  simp[go_sem]
 ·have ga:first++#[Value.func (.yield l) #[] #[]]++captured=(first.toList++Value.func (.yield l) #[] #[]::captured.toList).toArray:=Array.ext' (by simp)
  simp only[invoke,ga]
  exact tB.1 _ _
 ·obtain⟨css,g1,g2,h0⟩:=ZcT h0
  obtain⟨tvs,k1,k2,hI⟩:=Zb1 h0
  have eG:Zpe tvs:=by
   intro u hu
   obtain⟨i,hi⟩:=List.getElem?_of_mem hu
   have aC:=(zA0 hi).1
   obtain⟨qe,jp⟩:∃qe,A.toks[i]?=some qe:=⟨_,zA3 (by omega)⟩
   exact(k2 i qe.1 qe.2 u jp hi).1
  have q9:Rel C (ZbF S [] { A with slots:=[] } S.gh [] css tvs) m a1 w1:=ZdJ eI.ok eI rfl (SameOut.refl _ _) rfl rfl (by simp) g1 g2 k1 k2
  have re:ZqN C S mi A I K a1 l (ZfQ fn a1.tmps ps x y D) 0 (λ_=>False) w1:=by
   refine⟨S.gh,css,tvs,m,g1,k1,eG,λ_=>rfl,eA,q9,?_,.inl ⟨Int.le_refl _,hI,og⟩⟩
   have qO:Dom C (ZbF S [] { A with slots:=[] } S.gh [] css tvs) m a1 w1 M1:=by
    refine⟨km.p,km.lt,λid y hy=>?_,λk t b ht hb=>?_,km.mks,km.new⟩
    ·simp only[ZbF]at hy
     rcases ZeJ hy with⟨i,x',cs,q1,q2,q3,q4⟩|⟨q1,q2⟩
     ·rw[q4];exact km.own id x' q3
     ·exact km.own id y q2
    ·simp only[ZbF]at ht
     rcases Zc2 ht with⟨i,e,u,q1,q2,q3⟩|⟨q1,q2⟩
     ·obtain⟨_,q5⟩:=k2 i k e u q1 q2
      subst q3
      rcases q5 with q5|q5
      ·exact km.tok k _ b q5 hb
      ·simp[Tok.blk,q5]at hb
     ·exact km.tok k t b q2 hb
   exact⟨M1,qO,iz,λh=>h,λ_ h=>h.elim,⟨λ_ _ _ h=>h,λ_ _ _ _ _ h=>h,λ_ _ h=>h,λ_ _ _ _ h=>h,λ_ _ _ h=>h⟩⟩
  have dI:∀i sv,S.env i=some sv->∃v,S.den sv=some v/\a1.tmps[i]?=some v:=λi sv he=>eI.env i sv he
  have mt:=Zkx (th:=th) (E:=E) (S:=S) (m:=mi) (K:=K) (l:=l) (fn:=fn) (D:=D) qQ qR qS qT pS qU qV qW hr.ok eI.size dI hc.1 hc.2 dX hb
  refine hF.calls ((tB.2 _ Zkw l w1 (eI.sub.less eA) re mt).mono ?_)
  rintro e w2 ⟨v,M2,rfl,aC,fh⟩
  rw[<-gw]
  rcases fh with fh|fh
  all_goals obtain⟨gg,css2,tvs2,m2,y1,y2,y3,y4,y5,y6,⟨M3,y7,y8,y9,y10,y11⟩,y12⟩:=fh
  ·rcases y12 with⟨_,vj,gO⟩|⟨hk,_⟩
   ·refine⟨none,_,run_endLoop gO (by simp[ZfQ]),?_⟩
    have:=Zds (Zdr (Zf5 jq y4) css2 y1) tvs2 y2 y3 m2 y5 (by simpa using vj)
    exact hK _ _ _ _ _ this (y6.afterRange y7 y8 gO)
   ·omega
  ·rcases y12 with⟨hk,_⟩|⟨_,c,gO,gc⟩
   ·omega
   ·refine⟨some c,_,run_endLoop gO (by simp[ZfQ]),?_⟩
    have hR:=λr'=>y6.afterRange (r':=r') y7 y8 gO
    cases c with
    | ret=>exact wpIn_ret (hK _ _ _ _ _ gc (hR _))
    | exit id=>exact wpIn_exit (hK _ _ _ _ _ gc (hR _))
    | goto t=>exact wpIn_goto (hK _ _ _ _ _ gc (hR _))
    | _=>exact gc.elim
end
end Go.Eng