/- The engine: a reckoner over the code of a program in Lean, with its soundness; it names no program. No condition. -/
import Derived.WalkKit
import Derived.OwnWalkIn
import Derived.RangeFuncCalls
import Derived.Laws.CopyRow
import Derived.Laws.Cover3
set_option linter.unusedVariables false
set_option linter.unusedSimpArgs false
set_option linter.unusedSectionVars false
namespace Go
universe u
theorem zA0 {α : Type u} {l : List α} {i : Nat} {a : α} (h : l[i]? = some a) : ∃ h : i < l.length, l[i] = a := List.getElem?_eq_some_iff.1 h
theorem zA1 {α : Type u} {a b : List α} : (a ++ b).length = a.length + b.length := List.length_append 
theorem zA2 {α : Type u} {l : List α} {i : Nat} {a : α} (h : l[i]? = some a) : a ∈ l := List.mem_of_getElem? h
theorem zA3 {α : Type u} {l : List α} {i : Nat} (h : i < l.length) : l[i]? = some l[i] := List.getElem?_eq_getElem h
theorem zA4 {α : Type u} {a b : List α} {i : Nat} (h : a.length ≤ i) : (a ++ b)[i]? = b[i - a.length]? := List.getElem?_append_right h
theorem zA5 {α : Type u} {a b : List α} {i : Nat} (h : i < a.length) : (a ++ b)[i]? = a[i]? := List.getElem?_append_left h
theorem zA6 {p : Prop} [Decidable p] (h : decide p = true) : p := of_decide_eq_true h
theorem zA7 (a b : Bool) : ((a && b) = true) = (a = true ∧ b = true) := Bool.and_eq_true a b
theorem zA8 (n : Nat) : Int.toNat (n : Int) = n := Int.toNat_natCast n
end Go
namespace Go.Eng
open Go Go.RowKit
theorem Zam{i d:Nat}(h:i≠d):Nat.beq i d=false:=by
 cases h':Nat.beq i d with
 | false=>rfl
 | true=>exact absurd (Nat.eq_of_beq_eq_true h') h
@[simp] theorem ZbO (i:Nat):Nat.beq i i=true:=Nat.beq_refl i
abbrev Mem:=Nat->Nat->Option Value
def Mem.le(m m':Mem):Prop:=∀b o v,m b o=some v->m' b o=some v
theorem Mem.le_refl(m:Mem):m.le m:=λ_ _ _ h=>h
theorem Mem.le_trans{a b c:Mem}(h:a.le b)(k:b.le c):a.le c:=λ_ _ _ x=>k _ _ _ (h _ _ _ x)
theorem mLt{a b c:Mem}(h:a.le b)(k:b.le c):a.le c:=Mem.le_trans h k
def rg(a n:Nat):List Nat:=List.range' a n
def Mem.free(m:Mem)(b:Nat):Prop:=∀o,m b o=none
def Mem.add(m:Mem)(b:Nat)(cs:List Value):Mem:=λb' o=>if b'=b then cs[o]? else m b' o
theorem Mem.le_add{m:Mem}{b:Nat}(h:m.free b)(cs:List Value):m.le (m.add b cs):=λb' o v hv=>by
 by_cases e:b'=b
 ·subst e;rw[h o]at hv;cases hv
 ·simpa[Mem.add,e]using hv
theorem Mem.add_same(m:Mem)(b:Nat)(cs:List Value)(o:Nat):m.add b cs b o=cs[o]?:=by simp[Mem.add]
theorem Mem.add_other(m:Mem){b b':Nat}(h:b'≠b)(cs:List Value)(o:Nat):m.add b cs b' o=m b' o:=by simp[Mem.add,h]
def Mem.reads(m:Mem)(b o:Nat)(vs:List Value):Prop:=∀j v,vs[j]?=some v->m b (o+j)=some v
theorem Mem.reads.mono{m m':Mem}{b o:Nat}{vs:List Value}(h:m.reads b o vs)(k:m.le m'):m'.reads b o vs:=λj v hv=>k _ _ _ (h j v hv)
def Sub(m:Mem)(w:World):Prop:=∀b o v,m b o=some v->w.cell? ⟨b,o,none⟩=some v
theorem ZaY{w w':World}{b:Nat}(h:w'.heap[b]?=w.heap[b]?)(o:Nat):w'.cell? ⟨b,o,none⟩=w.cell? ⟨b,o,none⟩:=by
 simp[World.cell?,h]
theorem Sub.lt{m:Mem}{w:World}(h:Sub m w){b o:Nat}{v:Value}(hv:m b o=some v):b < w.heap.size:=by
 have:=block_lt_of_cell (h b o v hv);simpa using this
def Wr(w:World)(k:Nat):Prop:=∀c T fr,w.heap[k]?=some (.cells c T fr)->∀o,o < c.size->¬(fr.1<=o/\o < fr.2)
def Zp8(o:Obj):Prop:=∀c T fr,o=.cells c T fr->∀i,i < c.size->¬(fr.1<=i/\i < fr.2)
theorem ZdJ(c:Array Value)(T:TypeId):Zp8 (.cells c T (0,0)):=λc' T' fr e i hi h=>by
 simp only[Obj.cells.injEq]at e
 obtain⟨rfl,rfl,rfl⟩:=e
 simp only at h;omega
theorem Wr.of_eq{w w':World}{k:Nat}(h:w'.heap[k]?=w.heap[k]?):Wr w k->Wr w' k:=λhw c T fr hh=>hw c T fr (h ▸ hh)
theorem Wr.of_none{w:World}{k:Nat}(h:w.heap.size<=k):Wr w k:=λc T fr hh=>by
 have:=(Array.getElem?_eq_some_iff.1 hh).1;omega
def Zfd(m m':Mem)(w w':World):Prop:=∀b o v,m' b o=some v->m b o=some v\/(w.heap.size<=b/\Wr w' b)
structure Keep (B:Nat)(bs:List Nat)(w w':World):Prop where
 os:w'.os=w.os
 tape:w'.tape=w.tape
 output:w'.output=w.output
 size:w.heap.size<=w'.heap.size
 block:∀k,k < B->k ∉ bs->w'.heap[k]?=w.heap[k]?
 wr:∀k,k < w.heap.size->Wr w k->Wr w' k
theorem Keep.refl(B:Nat)(bs:List Nat)(w:World):Keep B bs w w:=⟨rfl,rfl,rfl,Nat.le_refl _,λ_ _ _=>rfl,λ_ _ h=>h⟩
theorem Keep.trans{B:Nat}{bs:List Nat}{a b c:World}(h:Keep B bs a b)(k:Keep B bs b c):Keep B bs a c:=
 ⟨k.os.trans h.os,k.tape.trans h.tape,k.output.trans h.output,Nat.le_trans h.size k.size,λi hi hn=>(k.block i hi hn).trans (h.block i hi hn),λi hl hi=>k.wr i (Nat.lt_of_lt_of_le hl h.size) (h.wr i hl hi)⟩
theorem Keep.mono{B B':Nat}{bs bs':List Nat}{w w':World}(h:Keep B bs w w')(hB:B'<=B)(hs:∀k,k < B'->k∈bs->k∈bs'):Keep B' bs' w w':=
 ⟨h.os,h.tape,h.output,h.size,λk hk hn=>h.block k (Nat.lt_of_lt_of_le hk hB) (λhm=>hn (hs k hk hm)),h.wr⟩
theorem Keep.below{B:Nat}{w w':World}(h:Keep B [] w w'):Below B w w':=⟨h.os,h.tape,h.output,h.size,λk hk=>h.block k hk (by simp)⟩
theorem Keep.of_below{B:Nat}{bs:List Nat}{w w':World}(h:Below B w w')(hw:∀k,k < w.heap.size->Wr w k->Wr w' k):Keep B bs w w':=⟨h.os,h.tape,h.output,h.size,λk hk _=>h.block k hk,hw⟩
theorem Keep.drew{B:Nat}{bs:List Nat}(w:World):Keep B bs w w.drew:=⟨rfl,rfl,rfl,Nat.le_refl _,λ_ _ _=>rfl,λ_ _ h=>h⟩
theorem Wr.alloc{w:World}{o:Obj}(ho:Zp8 o){k:Nat}(h:Wr w k):Wr (w.alloc o) k:=λc T fr hh i hi=>by
 rcases Nat.lt_trichotomy k w.heap.size with hk|rfl|hk
 ·rw[Below.heap_alloc w o k hk]at hh;exact h c T fr hh i hi
 ·rw[heap_alloc_new w o]at hh;exact ho c T fr (Option.some.inj hh) i hi
 ·have:=(Array.getElem?_eq_some_iff.1 hh).1
  simp at this;omega
theorem Keep.alloc{B:Nat}{bs:List Nat}{w:World}(hB:B<=w.heap.size){o:Obj}(ho:Zp8 o):Keep B bs w (w.alloc o):=
 Keep.of_below ((Below.refl B w).alloc hB o) (λ_ _ h=>h.alloc ho)
theorem Wr.new{w:World}{o:Obj}(ho:Zp8 o):Wr (w.alloc o) w.heap.size:=(Wr.of_none (Nat.le_refl _)).alloc ho
structure Box where
 b:Nat
 cs:List Value
 T:TypeId
 cap:Nat
 fz:Bool
 full:Bool
structure Own (m:Mem)(w:World)(x:Box):Prop where
 cells:∃sp fr,w.heap[x.b]?=some (.cells (x.cs++sp).toArray x.T fr)/\(x.cs++sp).length=x.cap/\(fr.1=fr.2\/x.cap<=fr.1)
 free:x.fz=false->m.free x.b
 known:x.fz=true->m.reads x.b 0 x.cs
 whole:x.full=true->x.cs.length=x.cap
theorem Own.lt{m:Mem}{w:World}{x:Box}(h:Own m w x):x.b < w.heap.size:=by
 obtain⟨sp,fr,hh,_⟩:=h.cells
 exact(Array.getElem?_eq_some_iff.1 hh).1
theorem Own.wr{m:Mem}{w:World}{x:Box}(h:Own m w x):Wr w x.b:=λc T fr hh i hi hf=>by
 obtain⟨sp,fr',h1,h2,h3⟩:=h.cells
 rw[h1]at hh
 simp only[Option.some.injEq,Obj.cells.injEq]at hh
 obtain⟨rfl,rfl,rfl⟩:=hh
 have hi':i < x.cap:=by rw[<-h2];simpa using hi
 omega
theorem Own.cell{m:Mem}{w:World}{x:Box}(h:Own m w x){o:Nat}{v:Value}(hv:x.cs[o]?=some v):w.cell? ⟨x.b,o,none⟩=some v:=by
 obtain⟨sp,fr,hh,_⟩:=h.cells
 have hl:o < x.cs.length:=(zA0 hv).1
 simp[World.cell?,hh,zA5 hl,hv]
theorem Own.same{m m':Mem}{w w':World}{x:Box}(h:Own m w x)(hb:w'.heap[x.b]?=w.heap[x.b]?)(hm:m.le m')(hf:x.fz=false->m'.free x.b):Own m' w' x:=
 ⟨by rw[hb];exact h.cells,hf,λhz=>(h.known hz).mono hm,h.whole⟩
structure Tok where
 v:Value
 esz:Nat
def Tok.blk(t:Tok):Option Nat:=match t.v with
 | .slice (some a) _ _=>some a.block
 | _=>none
def TokOk(m:Mem)(w:World)(t:Tok):Prop:=
 t.v=.slice none 0 0\/∃b o0 n c cur T fr,t.v=.slice (some ⟨b,o0,none⟩) n c/\n<=c/\w.heap[b]?=some (.cells cur T fr)/\o0+c*t.esz<=cur.size/\
  (∀o,o < cur.size->¬(fr.1<=o/\o < fr.2))/\(∀o,o0+n*t.esz<=o->o < o0+c*t.esz->m b o=none)
theorem TokOk.lt{m:Mem}{w:World}{t:Tok}(h:TokOk m w t){b:Nat}(hb:t.blk=some b):b < w.heap.size:=by
 rcases h with h|⟨b',o0,n,c,cur,T,fr,h,_,hh,_⟩
 ·simp[Tok.blk,h]at hb
 ·simp[Tok.blk,h]at hb;subst hb;exact(Array.getElem?_eq_some_iff.1 hh).1
theorem TokOk.wr{m:Mem}{w:World}{t:Tok}(h:TokOk m w t){b:Nat}(hb:t.blk=some b):Wr w b:=λc1 T1 fr1 hh o ho=>by
 rcases h with h|⟨b',o0,n,c,cur,T,fr,h,_,hh',_,hf,_⟩
 ·simp[Tok.blk,h]at hb
 ·simp[Tok.blk,h]at hb;subst hb
  rw[hh']at hh
  simp only[Option.some.injEq,Obj.cells.injEq]at hh
  obtain⟨rfl,_,rfl⟩:=hh
  exact hf o ho
theorem TokOk.same{m m':Mem}{w w':World}{t:Tok}(h:TokOk m w t)(hb:∀b,t.blk=some b->w'.heap[b]?=w.heap[b]?)(hm:∀b o,t.blk=some b->m b o=none->m' b o=none):TokOk m' w' t:=by
 rcases h with h|⟨b',o0,n,c,cur,T,fr,h,h1,hh,h2,h3,h4⟩
 ·exact .inl h
 ·have hk:t.blk=some b':=by simp[Tok.blk,h]
  exact .inr ⟨b',o0,n,c,cur,T,fr,h,h1,by rw[hb _ hk];exact hh,h2,h3,λo ho h9=>hm _ _ hk (h4 o ho h9)⟩
inductive SV where
 | v (x:Value)
 | loc (id off:Nat)
 | sl (id n c:Nat)
structure St where
 env:Nat->Option SV
 L:Nat->Option Box
 ids:List Nat
 tok:Nat->Option Tok
 tkeys:List Nat
 gh:Int
def St.den(S:St):SV->Option Value
 | .v x=>some x
 | .loc id off=>match S.L id with
  | some x=>some (.pointer (some ⟨x.b,off,none⟩))
  | none=>none
 | .sl id n c=>match S.L id with
  | some x=>some (.slice (some ⟨x.b,0,none⟩) n c)
  | none=>none
def St.ev(S:St):Operand->Option SV
 | .tmp t=>S.env t
 | .const v=>some (.v v)
 | .global g=>some (.v (.pointer (some ⟨g,0,none⟩)))
 | .func f=>some (.v (.func (.func f) #[] #[]))
def St.val(S:St)(x:Operand):Option Value:=match S.ev x with
 | some sv=>S.den sv
 | none=>none
def St.put(S:St)(d:Option Tmp)(sv:Option SV):St:=match d with
 | some d=>{ S with env:=λi=>bif Nat.beq i d then sv else S.env i }
 | none=>S
def St.setL(S:St)(id:Nat)(x:Option Box):St:={ S with L:=λi=>bif Nat.beq i id then x else S.L i }
def St.newL(S:St)(id:Nat)(x:Box):St:={ S with L:=λi=>bif Nat.beq i id then some x else S.L i,ids:=id::S.ids }
structure Upd (M:Nat->Prop)(w w':World):Prop where
 os:w'.os=w.os
 tape:w'.tape=w.tape
 output:w'.output=w.output
 size:w.heap.size<=w'.heap.size
 block:∀k,k < w.heap.size->¬M k->w'.heap[k]?=w.heap[k]?
 wr:∀k,k < w.heap.size->Wr w k->Wr w' k
theorem Upd.refl(M:Nat->Prop)(w:World):Upd M w w:=⟨rfl,rfl,rfl,Nat.le_refl _,λ_ _ _=>rfl,λ_ _ h=>h⟩
theorem Keep.upd{bs:List Nat}{w w':World}(h:Keep w.heap.size bs w w'){M:Nat->Prop}(hb:∀b∈bs,M b):Upd M w w':=
 ⟨h.os,h.tape,h.output,h.size,λk hk hn=>h.block k hk (λhm=>hn (hb k hm)),h.wr⟩
def ZrV(M:Nat->Prop)(w w':World):Nat->Prop:=λk=>M k\/(w.heap.size<=k/\k < w'.heap.size/\Wr w' k)
structure Ctx where
 n:Nat
 m0:Mem
 p:Int->(Nat->Prop)->World->Prop
 st:∀g M M' w w',p g M w->Upd M w w'->(∀k,M' k->ZrV M w w' k)->p g M' w'
def Zhz(D:Nat):Deferred:={ target:=.collected D,args:=#[] }
structure Dom (C:Ctx)(S:St)(m:Mem)(a:Act)(w:World)(M:Nat->Prop):Prop where
 p:C.p S.gh M w
 lt:∀k,M k->k < w.heap.size
 own:∀id x,S.L id=some x->M x.b
 tok:∀k t b,S.tok k=some t->t.blk=some b->M b
 mks:∀D,Zhz D∈a.defers->M D
 new:∀b o v,m b o=some v->C.m0 b o=some v\/M b
structure Rel (C:Ctx)(S:St)(m:Mem)(a:Act)(w:World):Prop where
 defers:∃ms:List Nat,a.defers=ms.map Zhz/\ms.Nodup/\∀D∈ms,w.heap[D]?=some (.deferred (some []))
 size:a.tmps.size=C.n
 env:∀i sv,S.env i=some sv->∃v,S.den sv=some v/\a.tmps[i]?=some v
 own:∀id x,S.L id=some x->Own m w x
 apart:∀id id' x x',S.L id=some x->S.L id'=some x'->x.b=x'.b->id=id'
 ids:∀id x,S.L id=some x->id∈S.ids
 toks:∀k t,S.tok k=some t->TokOk m w t/\(∀b,t.blk=some b->(∀id x,S.L id=some x->x.b≠b)/\C.m0.free b)
 tkeys:∀k t,S.tok k=some t->k∈S.tkeys
 tapart:∀k k' t t' b,S.tok k=some t->S.tok k'=some t'->t.blk=some b->t'.blk=some b->k=k'
 sub:Sub m w
 le:C.m0.le m
 dom:∃M,Dom C S m a w M
theorem Dom.env{C:Ctx}{S:St}{m:Mem}{a:Act}{w:World}{M:Nat->Prop}(h:Dom C S m a w M)(d:Option Tmp)(v:Option SV){u:Value}:Dom C (S.put d v) m (a.put d u) w M:=by
 cases d with
 | none=>exact h
 | some d=>exact⟨h.p,h.lt,h.own,h.tok,h.mks,h.new⟩
theorem Dom.cut{C:Ctx}{S S':St}{m m':Mem}{a a':Act}{w:World}{M:Nat->Prop}(h:Dom C S m a w M)(hg:S'.gh=S.gh)(hL:∀id x',S'.L id=some x'->∃id x,S.L id=some x/\x.b=x'.b)
  (hT:∀k t b,S'.tok k=some t->t.blk=some b->∃k t,S.tok k=some t/\t.blk=some b) (hd:a'.defers=a.defers) (hm:∀b o v,m' b o=some v->m b o=some v):Dom C S' m' a' w M:=
 ⟨hg ▸ h.p,h.lt,λid x' hx=>by obtain⟨i,x,h1,h2⟩:=hL id x' hx;rw[<-h2];exact h.own i x h1,λk t b ht hb=>by obtain⟨k',t',h1,h2⟩:=hT k t b ht hb;exact h.tok k' t' b h1 h2,λD hD=>h.mks D (hd ▸ hD),λb o v hv=>h.new b o v (hm b o v hv)⟩
theorem Dom.step{C:Ctx}{S:St}{m m':Mem}{a:Act}{w w':World}{M:Nat->Prop}(h:Dom C S m a w M)(hu:Upd M w w')(hn:∀b o v,m' b o=some v->m b o=some v\/ZrV M w w' b):Dom C S m' a w' (ZrV M w w'):=
 ⟨C.st _ _ _ _ _ h.p hu (λ_ hk=>hk),λk hk=>by
  rcases hk with hk|hk
  ·exact Nat.lt_of_lt_of_le (h.lt k hk) hu.size
  ·exact hk.2.1,λid x hx=>.inl (h.own id x hx),λk t b ht hb=>.inl (h.tok k t b ht hb),λD hD=>.inl (h.mks D hD),λb o v hv=>by
  rcases hn b o v hv with hv|hv
  ·exact(h.new b o v hv).imp_right .inl
  ·exact .inr hv⟩
section
variable {C:Ctx} {S:St} {m:Mem} {a:Act} {w:World}
theorem Rel.ev(h:Rel C S m a w){x:Operand}{v:Value}(hv:S.val x=some v):a.eval x=v:=by
 cases x with
 | tmp t=>
  simp only[St.val,St.ev]at hv
  cases he:S.env t with
  | none=>simp[he]at hv
  | some sv=>
   simp only[he]at hv
   obtain⟨v',h1,h2⟩:=h.env t sv he
   rw[hv]at h1;cases h1
   simp[Act.eval,h2]
 | const c=>simp[St.val,St.ev,St.den]at hv;simpa[Act.eval]using hv
 | global g=>simp[St.val,St.ev,St.den]at hv;simpa[Act.eval]using hv
 | func f=>simp[St.val,St.ev,St.den]at hv;simpa[Act.eval]using hv
theorem Zi5(S:St)(e:Nat->Option SV)(sv:SV):({ S with env:=e }:St).den sv=S.den sv:=by cases sv <;> rfl
theorem Rel.put(h:Rel C S m a w)(d:Option Tmp)(hd:∀t,d=some t->t < C.n){sv:SV}{v:Value}(hv:S.den sv=some v):Rel C (S.put d (some sv)) m (a.put d v) w:=by
 cases d with
 | none=>exact h
 | some d=>
  have aH:=hd d rfl
  refine⟨h.defers,by simpa[Act.put]using h.size,?_,h.own,h.apart,h.ids,h.toks,h.tkeys,h.tapart,h.sub,h.le,h.dom.imp λM d=>d.env _ _⟩
  intro i sv' he
  simp only[St.put]at he
  simp only[St.put,Zi5]
  by_cases hi:i=d
  ·subst hi
   simp at he;subst he
   exact⟨v,hv,by simp[Act.put,h.size,aH]⟩
  ·have:Nat.beq i d=false:=Zam hi
   simp[this]at he
   obtain⟨v',h1,h2⟩:=h.env i sv' he
   exact⟨v',h1,by simp[Act.put,Array.getElem?_setIfInBounds_ne (Ne.symm hi),h2]⟩
theorem Rel.putNone(h:Rel C S m a w)(d:Option Tmp)(v:Value):Rel C (S.put d none) m (a.put d v) w:=by
 cases d with
 | none=>exact h
 | some d=>
  refine⟨h.defers,by simpa[Act.put]using h.size,?_,h.own,h.apart,h.ids,h.toks,h.tkeys,h.tapart,h.sub,h.le,h.dom.imp λM d=>d.env _ _⟩
  intro i sv' he
  simp only[St.put]at he
  simp only[St.put,Zi5]
  by_cases hi:i=d
  ·subst hi;simp at he
  ·have:Nat.beq i d=false:=Zam hi
   simp[this]at he
   obtain⟨v',h1,h2⟩:=h.env i sv' he
   exact⟨v',h1,by simp[Act.put,Array.getElem?_setIfInBounds_ne (Ne.symm hi),h2]⟩
theorem Rel.putEv(h:Rel C S m a w)(d:Option Tmp)(hd:∀t,d=some t->t < C.n)(x:Operand)(hx:(S.ev x).isSome->(S.val x).isSome):Rel C (S.put d (S.ev x)) m (a.put d (a.eval x)) w:=by
 cases he:S.ev x with
 | none=>exact h.putNone d _
 | some sv=>
  have:=hx (by simp[he])
  obtain⟨v,hv⟩:=Option.isSome_iff_exists.1 this
  rw[h.ev hv]
  simp only[St.val,he]at hv
  exact h.put d hd hv
theorem Rel.ev_val(h:Rel C S m a w){x:Operand}{sv:SV}(he:S.ev x=some sv):∃v,S.den sv=some v/\S.val x=some v/\a.eval x=v:=by
 cases x with
 | tmp t=>
  obtain⟨v,h1,h2⟩:=h.env t sv he
  refine⟨v,h1,by simp[St.val,he,h1],?_⟩
  simp[Act.eval,h2]
 | const c=>simp[St.ev]at he;subst he;exact⟨c,rfl,rfl,rfl⟩
 | global g=>simp[St.ev]at he;subst he;exact⟨_,rfl,rfl,rfl⟩
 | func f=>simp[St.ev]at he;subst he;exact⟨_,rfl,rfl,rfl⟩
theorem Rel.putEv'(h:Rel C S m a w)(d:Option Tmp)(hd:∀t,d=some t->t < C.n)(x:Operand):Rel C (S.put d (S.ev x)) m (a.put d (a.eval x)) w:=
 h.putEv d hd x λhs=>by
  obtain⟨sv,he⟩:=Option.isSome_iff_exists.1 hs
  obtain⟨v,_,h2,_⟩:=h.ev_val he
  simp[h2]
theorem Rel.world(h:Rel C S m a w){w':World}{m':Mem}(hk:Keep w.heap.size [] w w')(hs:Sub m' w')(hm:m.le m')(hn:Zfd m m' w w'):Rel C S m' a w':=by
 have hb:∀k,k < w.heap.size->w'.heap[k]?=w.heap[k]?:=λk hk'=>hk.block k hk' (by simp)
 have bO:∀b,b < w.heap.size->∀o,m b o=none->m' b o=none:=λb aH o ho=>by
  cases he:m' b o with
  | none=>rfl
  | some v=>
   rcases hn _ _ _ he with he|he
   ·rw[ho]at he;cases he
   ·have:=he.1;omega
 obtain⟨M,hd⟩:=h.dom
 refine⟨?_,h.size,h.env,?_,h.apart,h.ids,?_,h.tkeys,h.tapart,hs,mLt h.le hm,⟨_,hd.step (hk.upd (by simp)) (λb o v hv=>(hn b o v hv).imp_right λh=>.inr ⟨h.1,hs.lt hv,h.2⟩)⟩⟩
 ·obtain⟨ms,h1,h2,h3⟩:=h.defers
  refine⟨ms,h1,h2,λD hD=>?_⟩
  rw[hb D (Array.getElem?_eq_some_iff.1 (h3 D hD)).1];exact h3 D hD
 ·intro id x hx
  have ho:=h.own id x hx
  exact ho.same (hb _ ho.lt) hm (λhz o=>bO _ ho.lt o (ho.free hz o))
 ·intro k t ht
  obtain⟨ho,hB⟩:=h.toks k t ht
  exact⟨ho.same (λb cZ=>hb _ (ho.lt cZ)) (λb o cZ=>bO _ (ho.lt cZ) o),hB⟩
theorem Rel.drew(h:Rel C S m a w):Rel C S m a w.drew:=
 h.world (Keep.drew w) (λb o v hv=>h.sub b o v hv) (Mem.le_refl m) (λ_ _ _ hv=>.inl hv)
end
abbrev RT:=Value->Mem->List (List Value)->Prop
abbrev RTY:=Value->Mem->List (List Value)->List Value->Prop
abbrev IT:=List Value->List (List Value)->List Value->Mem->Nat->Prop
abbrev JT:=List Value->List (List Value)->List Value->Mem->Prop
structure TI where
 d:TypeDesc
 size:Nat
 zero:Value
 bytes:Nat
def TI.agg(i:TI):Bool:=match i.d with
 | .struct _=>true
 | .array _ _=>true
 | _=>false
structure TOk (P:Program)(t:TypeId)(i:TI):Prop where
 und:P.underlying t=some i.d
 info:∃x:TypeInfo,P.info? t=some x/\x.size=i.size/\x.zero=some i.zero/\x.bytes=i.bytes
 zsize:i.zero.cells.size=i.size
 zone:i.zero.cells.all (·.oneCell')=true
 one:i.agg=false->i.size=1
inductive Shape where
 | any
 | int (k:IntKind)
 | bool
 | str
 | slice
 | agg (l:List Shape)
 | tup (l:List Shape)
 | fn
 | cells
 | ptr
structure LoopAnn where
 slots:List (Nat×Shape)
 boxes:List Nat
 toks:List (Nat×Nat)
 gh:Bool
structure DOp where
 i:Nat
 rs:List Nat
 ws:List Nat
 tk:Option Nat
 an:List Nat
 vw:List Nat
structure Env where
 P:Program
 loops:Nat->LoopAnn
 cuts:Nat->Option LoopAnn
 joins:Nat->Option (List (Nat×Shape))
 dr:Nat->List DOp
 tt:Nat->Option TI
 sh:Nat->Shape
 hint:Nat->Option Nat
 borrow:Nat->List Nat
 tokOf:Nat->Nat
 frz:List Nat
 fix:Option (List Value->Mem->Value->Mem->List (List Value)->Prop)
 yl:Option (Nat->Int->List Value->Prop)
 frzNew:List Nat
 frzAt:Nat->List Nat
 thaw:Bool
 stAt:Nat->Option Nat
 tokC:Nat->Option (Nat×Nat):=λ_=>none
 gb:Bool:=false
 last:Nat->Bool:=λ_=>false
 lastK:Nat->Nat:=λ_=>1
 eff:Nat->Bool:=λ_=>false
 effN:Bool:=false
 ldF:Nat->Option (Option Bool):=λ_=>none
 capF:Bool:=false
 m0:Option (Nat->Nat->Option Value):=none
 lentC:Nat->Option (List (Nat×Nat)):=λ_=>none
 hot:Nat->Bool:=λ_=>false
 ptrAt:Nat->List Nat:=λ_=>[]
 mkM:Nat->Bool:=λ_=>false
 acq:Nat->Option (Nat×Nat):=λ_=>none
 tails:Bool:=false
 ext:Nat->Bool:=λ_=>false
def Env.ok(E:Env):Prop:=∀t i,E.tt t=some i->TOk E.P t i
mutual
def Shape.fits:Shape->Value->Bool
 | .any,_=>true
 | .int k,v=>match v with
  | .int k' _=>decide (k'=k)
  | _=>false
 | .bool,v=>match v with
  | .bool _=>true
  | _=>false
 | .str,v=>match v with
  | .string _=>true
  | _=>false
 | .slice,v=>match v with
  | .slice _ _ _=>true
  | _=>false
 | .agg l,v=>match v with
  | .agg cs=>Shape.fitsL l cs.toList
  | _=>false
 | .tup l,v=>match v with
  | .tuple cs=>Shape.fitsL l cs.toList
  | _=>false
 | .fn,v=>match v with
  | .func (.func _) _ _=>true
  | _=>false
 | .cells,v=>match v with
  | .agg _=>true
  | _=>false
 | .ptr,v=>match v with
  | .pointer (some ⟨_,_,none⟩)=>true
  | _=>false
def Shape.fitsL:List Shape->List Value->Bool
 | [],[]=>true
 | s::l,v::vs=>Shape.fits s v&&Shape.fitsL l vs
 | _,_=>false
end
mutual
def Shape.all:Shape->(Value->Prop)->Prop
 | .any,k=>∀v,k v
 | .int ki,k=>∀n:Int,k (.int ki n)
 | .bool,k=>∀b:Bool,k (.bool b)
 | .str,k=>∀s:ByteArray,k (.string s)
 | .slice,k=>∀(a:Option Addr)(n c:Nat),k (.slice a n c)
 | .agg l,k=>Shape.allL l λvs=>k (.agg vs.toArray)
 | .tup l,k=>Shape.allL l λvs=>k (.tuple vs.toArray)
 | .fn,k=>∀(g:Nat)(fi ca:List Value),k (.func (.func g) fi.toArray ca.toArray)
 | .cells,k=>∀cs:List Value,k (.agg cs.toArray)
 | .ptr,k=>∀b o:Nat,k (.pointer (some ⟨b,o,none⟩))
def Shape.allL:List Shape->(List Value->Prop)->Prop
 | [],k=>k []
 | s::l,k=>Shape.all s λv=>Shape.allL l λvs=>k (v::vs)
end
mutual
theorem Shape.all_fits:∀(s:Shape)(k:Value->Prop),s.all k->∀v,s.fits v=true->k v
 | .any,k,h,v,_=>by simpa[Shape.all]using h v
 | .int ki,k,h,v,hf=>by
  cases v <;> simp[Shape.fits]at hf
  subst hf;simp only[Shape.all]at h;exact h _
 | .bool,k,h,v,hf=>by
  cases v <;> simp[Shape.fits]at hf
  simp only[Shape.all]at h;exact h _
 | .str,k,h,v,hf=>by
  cases v <;> simp[Shape.fits]at hf
  simp only[Shape.all]at h;exact h _
 | .slice,k,h,v,hf=>by
  cases v <;> simp[Shape.fits]at hf
  simp only[Shape.all]at h;exact h _ _ _
 | .agg l,k,h,v,hf=>by
  cases v <;> simp[Shape.fits]at hf
  simp only[Shape.all]at h
  have:=Shape.allL_fits l _ h _ hf
  simpa using this
 | .tup l,k,h,v,hf=>by
  cases v <;> simp[Shape.fits]at hf
  simp only[Shape.all]at h
  have:=Shape.allL_fits l _ h _ hf
  simpa using this
 | .fn,k,h,v,hf=>by
  cases v with
  | func f fi ca=>
   cases f with
   | func g=>simp only[Shape.all]at h;simpa using h g fi.toList ca.toList
   | _=>simp[Shape.fits]at hf
  | _=>simp[Shape.fits]at hf
 | .cells,k,h,v,hf=>by
  cases v <;> simp[Shape.fits]at hf
  simp only[Shape.all]at h
  rename_i cs
  simpa using h cs.toList
 | .ptr,k,h,v,hf=>by
  cases v with
  | pointer a=>
   cases a with
   | none=>simp[Shape.fits]at hf
   | some a=>
    obtain⟨b,o,s⟩:=a
    cases s with
    | none=>simp only[Shape.all]at h;exact h b o
    | some s=>simp[Shape.fits]at hf
  | _=>simp[Shape.fits]at hf
theorem Shape.allL_fits:∀(l:List Shape)(k:List Value->Prop),Shape.allL l k->∀vs,Shape.fitsL l vs=true->k vs
 | [],k,h,vs,hf=>by
  cases vs with
  | nil=>simpa[Shape.allL]using h
  | cons v vs=>simp[Shape.fitsL]at hf
 | s::l,k,h,vs,hf=>by
  cases vs with
  | nil=>simp[Shape.fitsL]at hf
  | cons v vs=>
   simp[Shape.fitsL]at hf
   simp only[Shape.allL]at h
   exact Shape.allL_fits l _ (Shape.all_fits s _ h v hf.1) vs hf.2
end
def br(b:Bool)(p q:Prop):Prop:=match b with
 | true=>p
 | false=>q
def chk(b:Bool)(p:Prop):Prop:=br b p False
theorem Zab{b:Bool}{p q:Prop}(h:b=true->p)(k:b=false->q):br b p q:=by
 cases b
 ·exact k rfl
 ·exact h rfl
theorem ZbZ{b:Bool}{p q:Prop}(h:b=true)(k:p):br b p q:=by subst h;exact k
theorem ZaZ{b:Bool}{p q:Prop}(h:b=false)(k:q):br b p q:=by subst h;exact k
theorem Zaa{b:Bool}{p:Prop}(h:b=true)(k:p):chk b p:=by subst h;exact k
theorem Zad{b:Bool}{p:Prop}(h:chk b p):b=true/\p:=by
 cases b
 ·exact h.elim
 ·exact⟨rfl,h⟩
def Zbw(k:IntKind):Value->Bool
 | .int k' _=>decide (k'=k)
 | _=>false
def Za9:Value->Bool
 | .int _ _=>true
 | _=>false
def ZeN:Value->Bool
 | .bool _=>true
 | _=>false
def Zb2:Value->Bool
 | .bool b=>b
 | _=>false
def Zmz:Value->Bool
 | .string _=>true
 | _=>false
def ZcF:Value->ByteArray
 | .string s=>s
 | _=>.empty
def ZrI(s:ByteArray)(n:Nat):Int:=((s.data.toList.getD n 0).toNat:Int)
def ZdK:Value->Bool
 | .slice _ _ _=>true
 | _=>false
def slA:Value->Option Addr
 | .slice a _ _=>a
 | _=>none
def slN:Value->Nat
 | .slice _ n _=>n
 | _=>0
def slC:Value->Nat
 | .slice _ _ c=>c
 | _=>0
def Zds:Value->Bool
 | .pointer (some ⟨_,_,none⟩)=>true
 | _=>false
def ZkL:Value->Nat
 | .pointer (some a)=>a.block
 | _=>0
def Zkz:Value->Nat
 | .pointer (some a)=>a.off
 | _=>0
def ZoI:Value->Bool
 | .agg _=>true
 | _=>false
def Zs5:Value->Bool
 | .tuple _=>true
 | _=>false
def Zuy:Value->List Value
 | .tuple vs=>vs.toList
 | _=>[]
def Zcg(v:Value):List Value:=v.cells.toList
def ptr(b o:Nat):Value:=.pointer (some ⟨b,o,none⟩)
theorem ZaQ{k:IntKind}{v:Value}(h:Zbw k v=true):v=.int k (RowKit.intOf v):=by
 cases v <;> simp[Zbw]at h;subst h;rfl
theorem ZaM{v:Value}(h:Za9 v=true):∃k,v=.int k (RowKit.intOf v):=by
 cases v <;> simp[Za9]at h;exact⟨_,rfl⟩
theorem Zby{v:Value}(h:ZeN v=true):v=.bool (Zb2 v):=by
 cases v <;> simp[ZeN]at h;rfl
theorem Zch{v:Value}(h:Zmz v=true):v=.string (ZcF v):=by
 cases v <;> simp[Zmz]at h;rfl
theorem ZbD{v:Value}(h:ZdK v=true):v=.slice (slA v) (slN v) (slC v):=by
 cases v <;> simp[ZdK]at h;rfl
theorem ZbP{v:Value}(h:Zds v=true):v=ptr (ZkL v) (Zkz v):=by
 cases v with
 | pointer a=>
  cases a with
  | none=>simp[Zds]at h
  | some a=>
   obtain⟨b,o,s⟩:=a
   cases s with
   | none=>rfl
   | some s=>simp[Zds]at h
 | _=>simp[Zds]at h
theorem ZmF{v:Value}(h:Zs5 v=true):v=.tuple (Zuy v).toArray:=by
 cases v <;> simp[Zs5]at h;simp[Zuy]
def wv(S:St)(x:Operand)(k:Value->Prop):Prop:=match S.val x with
 | some v=>k v
 | none=>False
theorem Zay{S:St}{x:Operand}{k:Value->Prop}(h:wv S x k):∃v,S.val x=some v/\k v:=by
 unfold wv at h
 split at h
 ·exact⟨_,‹_›,h⟩
 ·exact h.elim
def wvs(S:St):List Operand->(List Value->Prop)->Prop
 | [],k=>k []
 | x::l,k=>wv S x λv=>wvs S l λvs=>k (v::vs)
def Zcr:List Value->Bool
 | []=>true
 | v::l=>v.oneCell'&&Zcr l
theorem ZkM:∀{l:List Value},Zcr l=true->∀v∈l,v.oneCell'=true
 | [],_,v,h=>by simp at h
 | x::l,h,v,hv=>by
  simp only[Zcr,zA7]at h
  rcases List.mem_cons.1 hv with rfl|hv
  ·exact h.1
  ·exact ZkM h.2 v hv
theorem ZeO{a:Array Value}(h:Zcr a.toList=true):a.all (·.oneCell')=true:=by
 rw[Array.all_eq_true_iff_forall_mem]
 exact λv hv=>ZkM h v (by simpa using hv)
section runs
variable {P:Program} {w:World}
theorem TOk.run_und{t:TypeId}{i:TI}(h:TOk P t i):(underlying t).run P w=.ok i.d w:=run_underlying h.und w
theorem TOk.run_info{t:TypeId}{i:TI}(h:TOk P t i):∃x:TypeInfo,(typeInfo t).run P w=.ok x w/\x.size=i.size/\x.zero=some i.zero/\x.bytes=i.bytes:=by
 obtain⟨x,h1,h2,h3,h4⟩:=h.info
 exact⟨x,by simp[typeInfo,h1],h2,h3,h4⟩
theorem TOk.run_size{t:TypeId}{i:TI}(h:TOk P t i):(sizeOf t).run P w=.ok i.size w:=by
 obtain⟨x,h1,h2,_⟩:=h.run_info (w:=w)
 simp[sizeOf,h1,h2]
theorem TOk.run_zero{t:TypeId}{i:TI}(h:TOk P t i):(zeroValue t).run P w=.ok i.zero w:=by
 obtain⟨x,h1,_,h3,_⟩:=h.run_info (w:=w)
 simp[zeroValue,h1,h3]
theorem TOk.run_agg{t:TypeId}{i:TI}(h:TOk P t i):(Go.isAgg t).run P w=.ok i.agg w:=by
 have:=h.run_und (w:=w)
 simp only[Go.isAgg,Sem.run_bind,this,Result.andThen_ok]
 unfold TI.agg
 cases i.d <;> rfl
end runs
section memory
variable {P:Program} {w:World}
theorem Zbz(b o n:Nat):(⟨b,o,none⟩:Addr).add n=⟨b,o+n,none⟩:=by unfold Addr.add;split <;> simp_all
theorem Zdd(b o:Nat)(vs:List Value)(h:∀j v,vs[j]?=some v->w.cell? ⟨b,o+j,none⟩=some v):
  (loadCells ⟨b,o,none⟩ vs.length).run P w=.ok vs.toArray w:=by
 have:=run_loadCells_list (P:=P) (w:=w) ⟨b,o,none⟩ vs (λj v hv=>by rw[Zbz];exact h j v hv)
 simpa using this
theorem Zcs{t:TypeId}{i:TI}(ht:TOk P t i)(ha:i.agg=true)(b o:Nat)(vs:List Value)(hl:vs.length=i.size)(h:∀j v,vs[j]?=some v->w.cell? ⟨b,o+j,none⟩=some v):
  (loadVar t ⟨b,o,none⟩).run P w=.ok (.agg vs.toArray) w:=by
 have h1:=ht.run_agg (w:=w)
 have h2:=ht.run_size (w:=w)
 have h3:=Zdd (P:=P) b o vs h
 rw[hl]at h3
 simp[loadVar,h1,ha,h2,h3]
theorem ZdL{t:TypeId}{i:TI}(ht:TOk P t i)(ha:i.agg=false)(a:Addr)(v:Value)(h:w.cell? a=some v):
  (loadVar t a).run P w=.ok v w:=by
 have h1:=ht.run_agg (w:=w)
 simp[loadVar,h1,ha,h]
theorem Zbp(g o:Nat)(t:TypeId)(fr:Nat×Nat):∀(vs:List Value)(i:Nat)(cur:Array Value)(w:World),w.heap[g]?=some (.cells cur t fr)->(∀j,j < cur.size->¬(fr.1<=j/\j < fr.2))->o+i+vs.length<=cur.size->(∀v∈vs,v.oneCell'=true)->
  (storeCells ⟨g,o,none⟩ vs i).run P w=.ok () (w.setRow g (cur.toList.take (o+i)++vs++cur.toList.drop (o+i+vs.length)).toArray)
 | [],i,cur,w,hg,_,_,_=>by
  simp only[storeCells,List.append_nil,List.length_nil,Nat.add_zero,List.take_append_drop,Array.toArray_toList]
  rw[setRow_self w g cur t fr hg]
  rfl
 | v::rest,i,cur,w,hg,jo,hl,h1=>by
  have hi:o+i < cur.size:=by simp at hl;omega
  have cH:w.cell? ⟨g,o+i,none⟩=some cur[o+i]:=by simp[World.cell?,hg,hi]
  have eI:w.frozen? ⟨g,o+i,none⟩=false:=by
   have:=jo (o+i) hi
   obtain⟨lo,hi'⟩:=fr
   simp only[World.frozen?,hg,Bool.and_eq_false_iff,decide_eq_false_iff_not]
   simp only at this
   omega
  have bV:(store ((⟨g,o,none⟩:Addr).add i) v).run P w=.ok () (w.setRow g (cur.setIfInBounds (o+i) v)):=by
   rw[Zbz,run_store P w _ v _ (h1 v (by simp)),cH]
   simp[eI,setCell_eq_setRow w g (o+i) cur t fr v hg]
  have ih:=Zbp g o t fr rest (i+1) (cur.setIfInBounds (o+i) v) (w.setRow g (cur.setIfInBounds (o+i) v)) (setRow_heap w g cur _ t _ hg) (by simpa using jo) (by simp at hl ⊢;omega) (λx hx=>h1 x (by simp[hx]))
  simp only[storeCells,Sem.run_bind,bV,Result.andThen_ok,ih,setRow_setRow]
  congr 3
  have e:=list_seg_step cur.toList (o+i) v rest (by simp at hl ⊢;omega)
  simpa[Array.toList_setIfInBounds,Nat.add_assoc]using e
def Zaw(cs:List Value)(o:Nat)(vs:List Value):List Value:=cs.take o++vs++cs.drop (o+vs.length)
theorem ZbQ{cs:List Value}{o:Nat}{vs:List Value}(h:o+vs.length<=cs.length):(Zaw cs o vs).length=cs.length:=by
 simp[Zaw];omega
theorem Zfe{cs sp:List Value}{o:Nat}{vs:List Value}(h:o+vs.length<=cs.length):Zaw (cs++sp) o vs=Zaw cs o vs++sp:=by
 simp only[Zaw]
 rw[List.take_append_of_le_length (by omega),List.drop_append_of_le_length (by omega)]
 simp
theorem ZjN{cs vs:List Value}(h:vs.length=cs.length):Zaw cs 0 vs=vs:=by
 simp[Zaw,h]
theorem ZdM{t:TypeId}{i:TI}(ht:TOk P t i){m:Mem}{x:Box}(hx:Own m w x)(o:Nat)(v:Value)(hs:v.cells.size=i.size)(h1:v.cells.all (·.oneCell')=true)(hb:o+i.size<=x.cs.length):
  ∃w',(storeVar t ⟨x.b,o,none⟩ v).run P w=.ok () w'/\w'.os=w.os/\w'.tape=w.tape/\w'.output=w.output/\w'.heap.size=w.heap.size/\(∀k,k≠x.b->w'.heap[k]?=w.heap[k]?)/\
   (x.fz=false->Own m w' { x with cs:=Zaw x.cs o v.cells.toList }):=by
 obtain⟨sp,fr,hh,hc,hf⟩:=hx.cells
 have h2:=ht.run_size (w:=w)
 have bG:v.cells.toList.length=i.size:=by simpa using hs
 have h3:=Zbp (P:=P) x.b o x.T fr v.cells.toList 0 _ w hh (λo ho=>by have ho':o < x.cap:=(by simpa[hc]using ho);omega) (by simp at hc ⊢;omega) (λu hu=>by
  rw[Array.all_eq_true_iff_forall_mem]at h1;exact h1 u (by simpa using hu))
 have h4:(storeVar t ⟨x.b,o,none⟩ v).run P w=.ok () (w.setRow x.b (Zaw (x.cs++sp) o v.cells.toList).toArray):=by
  simp only[storeVar,Sem.run_bind,h2,Result.andThen_ok,hs,ne_eq,not_true_eq_false,if_false]
  rw[h3]
  simp[Zaw]
 refine⟨_,h4,rfl,rfl,rfl,by simp,λk hk=>setRow_other w x.b k _ hk,λhz=>?_⟩
 refine⟨⟨sp,fr,?_,?_,hf⟩,λ_=>hx.free hz,λhz'=>by simp[hz]at hz',λgO=>?_⟩
 ·rw[setRow_heap w x.b _ _ x.T fr hh,Zfe (by omega)]
 ·have:=ZbQ (cs:=x.cs) (o:=o) (vs:=v.cells.toList) (by omega)
  simp only[zA1]at hc ⊢
  omega
 ·have:=hx.whole gO
  show(Zaw x.cs o v.cells.toList).length=x.cap
  rw[ZbQ (by omega)];exact this
end memory
def Zp3(l:List Value)(n:Nat)(k:Value->Prop):Prop:=match l[n]? with
 | some v=>k v
 | none=>False
theorem Zal{l:List Value}{n:Nat}{k:Value->Prop}{v:Value}(h:l[n]?=some v)(hk:k v):Zp3 l n k:=by simp[Zp3,h,hk]
theorem ZfT{l:List Value}{n:Nat}{k:Value->Prop}(h:Zp3 l n k):∃v,l[n]?=some v/\k v:=by
 unfold Zp3 at h
 split at h
 ·exact⟨_,‹_›,h⟩
 ·exact h.elim
def EqIs(P:Program)(T:TypeId)(x y:Value)(r:Bool):Prop:=
 (∀w,(Op.equal T x y).run P w=.ok r w)/\(∀(op:BinOp)(ox oy:Operand) w,(eqGuard op T ox oy x y).run P w=.ok () w)
def Zs6(op:BinOp)(k:IntKind)(a b:Int)(r:Value->Prop):Prop:=match op with
 | .add=>r (.int k (k.wrap (a+b)))
 | .sub=>r (.int k (k.wrap (a - b)))
 | .mul=>r (.int k (k.wrap (a*b)))
 | .quo=>b≠0/\r (.int k (k.wrap (a.tdiv b)))
 | .rem=>b≠0/\r (.int k (a.tmod b))
 | .and=>r (.int k (k.wrap (BitVec.ofInt k.bits a&&&BitVec.ofInt k.bits b).toNat))
 | .or=>r (.int k (k.wrap (BitVec.ofInt k.bits a|||BitVec.ofInt k.bits b).toNat))
 | .xor=>r (.int k (k.wrap (BitVec.ofInt k.bits a ^^^ BitVec.ofInt k.bits b).toNat))
 | .andNot=>r (.int k (k.wrap (BitVec.ofInt k.bits a&&&~~~(BitVec.ofInt k.bits b)).toNat))
 | .eql=>r (.bool (a == b))
 | .neq=>r (.bool (a != b))
 | .lss=>r (.bool (decide (a < b)))
 | .leq=>r (.bool (decide (a<=b)))
 | .gtr=>r (.bool (decide (a > b)))
 | .geq=>r (.bool (decide (a ≥ b)))
 | _=>False
def Zh9(op:BinOp)(k:IntKind)(a b:Int)(r:Value->Prop):Prop:=match op with
 | .shl=>0<=b/\r (.int k (k.wrap (a*2 ^ (min b.toNat k.bits))))
 | .shr=>0<=b/\r (.int k (a.fdiv (2 ^ (min b.toNat k.bits))))
 | _=>False
def Zs7(op:BinOp)(a b:ByteArray)(r:Value->Prop):Prop:=match op with
 | .eql=>r (.bool (a.toList == b.toList))
 | .neq=>r (.bool (!(a.toList == b.toList)))
 | .add=>((a.size+b.size:Nat):Int)<=IntKind.i64.max/\r (.string (a++b))
 | .lss=>r (.bool (Op.bytesLess a.toList b.toList))
 | _=>False
def ZhA:BinOp->Bool
 | .shl=>true
 | .shr=>true
 | _=>false
def Zs8:Value->Bool
 | .slice none 0 0=>true
 | _=>false
def ZqV:Value->Bool
 | .pointer none=>true
 | _=>false
def ZkA:Value->Bool
 | .pointer _=>true
 | _=>false
def ZrZ:Value->Bool
 | .pointer a=>a.isNone
 | _=>false
def Zp4(op:BinOp)(b:Bool)(r:Value->Prop):Prop:=match op with
 | .eql=>r (.bool b)
 | .neq=>r (.bool (!b))
 | _=>False
def Zs3(E:Env)(op:BinOp)(T:TypeId)(x y:Value)(r:Value->Prop):Prop:=
 match E.tt T with
 | none=>False
 | some i=>match i.d with
  | .int k=>bif ZhA op then chk (Zbw k x&&Za9 y) (Zh9 op k (RowKit.intOf x) (RowKit.intOf y) r)
   else chk (Zbw k x&&Zbw k y) (Zs6 op k (RowKit.intOf x) (RowKit.intOf y) r)
  | .bool=>chk (ZeN x&&ZeN y) (Zp4 op (Zb2 x == Zb2 y) r)
  | .string=>chk (Zmz x&&Zmz y) (Zs7 op (ZcF x) (ZcF y) r)
  | .slice _=>chk (ZdK x&&Zs8 y) (Zp4 op (slA x).isNone r)
  | .pointer _=>chk (ZkA x&&ZqV y) (Zp4 op (ZrZ x) r)
  | .struct _=>chk (ZoI x&&ZoI y) (∃b,EqIs E.P T x y b/\Zp4 op b r)
  | .array _ _=>chk (ZoI x&&ZoI y) (∃b,EqIs E.P T x y b/\Zp4 op b r)
  | _=>False
theorem ZmG{P:Program}{w:World}{op:BinOp}{T:TypeId}{k:IntKind}{a b:Int}{r:Value->Prop}(ly:ZhA op=false)(h:Zs6 op k a b r):
  ∃v,r v/\(binOp op T (.int k a) (.int k b)).run P w=.ok v w:=by
 cases op <;> simp only[Zs6,ZhA]at h ly <;> first
  | exact h.elim
  | (simp at ly;done)
  | exact⟨_,h,by simp[binOp,Op.intArith,Op.intBits,Op.intCmp]⟩
  | exact⟨_,h.2,by simp[binOp,Op.intDiv,h.1]⟩
theorem ZjO{P:Program}{w:World}{op:BinOp}{T:TypeId}{k yk:IntKind}{a b:Int}{r:Value->Prop}(h:Zh9 op k a b r):
  ∃v,r v/\(binOp op T (.int k a) (.int yk b)).run P w=.ok v w:=by
 cases op <;> simp only[Zh9]at h <;> first
  | exact h.elim
  | (obtain⟨h0,h1⟩:=h
     have hn:¬b < 0:=by omega
     exact⟨_,h1,by simp[binOp,Op.shift,hn]⟩)
theorem ZmH{P:Program}{w:World}{op:BinOp}{T:TypeId}{a b:ByteArray}{r:Value->Prop}(h:Zs7 op a b r):
  ∃v,r v/\(binOp op T (.string a) (.string b)).run P w=.ok v w:=by
 cases op <;> simp only[Zs7]at h <;> first
  | exact h.elim
  | exact⟨_,h,by simp[binOp,Op.stringOp]⟩
  | (obtain⟨h0,h1⟩:=h
     have hn:¬(((a.size+b.size:Nat):Int) > IntKind.i64.max):=by omega
     exact⟨_,h1,by simp only[binOp,Op.stringOp,if_neg hn];rfl⟩)
theorem Zdx{v:Value}(h:ZoI v=true):∃cs,v=.agg cs:=by
 cases v <;> simp[ZoI]at h;exact⟨_,rfl⟩
theorem ZmI{v:Value}(h:Zs8 v=true):v=.slice none 0 0:=by
 unfold Zs8 at h
 split at h
 ·rfl
 ·cases h
theorem ZkN{v:Value}(h:ZqV v=true):v=.pointer none:=by
 unfold ZqV at h
 split at h
 ·rfl
 ·cases h
theorem Zia{v:Value}(h:ZkA v=true):∃a,v=.pointer a:=by
 cases v <;> simp[ZkA]at h;exact⟨_,rfl⟩
theorem ZmJ{E:Env}(hE:E.ok){w:World}{op:BinOp}{T:TypeId}{ox oy:Operand}{x y:Value}{r:Value->Prop}(h:Zs3 E op T x y r):
  ∃v,r v/\(do eqGuard op T ox oy x y;binOp op T x y:Sem Value).run E.P w=.ok v w:=by
 unfold Zs3 at h
 cases ht:E.tt T with
 | none=>simp[ht]at h
 | some i=>
  have bX:=hE T i ht
  have hu:=bX.und
  simp only[ht]at h
  cases hd:i.d with
  | int k=>
   simp only[hd]at h
   cases hs:ZhA op with
   | true=>
    simp only[hs,cond_true]at h
    obtain⟨h1,h2⟩:=Zad h
    simp only[zA7]at h1
    rw[ZaQ h1.1]
    obtain⟨yk,hy⟩:=ZaM h1.2
    rw[hy]
    obtain⟨v,hv,hr⟩:=ZjO (P:=E.P) (w:=w) (T:=T) (yk:=yk) h2
    refine⟨v,hv,?_⟩
    have:(eqGuard op T ox oy (.int k (RowKit.intOf x)) (.int yk (RowKit.intOf y))).run E.P w=.ok () w:=by
     cases op <;> simp[eqGuard]
    simp[this,hr]
   | false=>
    simp only[hs,cond_false]at h
    obtain⟨h1,h2⟩:=Zad h
    simp only[zA7]at h1
    rw[ZaQ h1.1,ZaQ h1.2]
    obtain⟨v,hv,hr⟩:=ZmG (P:=E.P) (w:=w) (T:=T) hs h2
    refine⟨v,hv,?_⟩
    have:(eqGuard op T ox oy (.int k (RowKit.intOf x)) (.int k (RowKit.intOf y))).run E.P w=.ok () w:=by
     cases op <;> simp[eqGuard]
    simp[this,hr]
  | bool=>
   simp only[hd]at h
   obtain⟨h1,h2⟩:=Zad h
   simp only[zA7]at h1
   rw[Zby h1.1,Zby h1.2]
   have he:=run_equal_bool (P:=E.P) (w:=w) T (Zb2 x) (Zb2 y) (hd ▸ hu)
   cases op <;> simp only[Zp4]at h2 <;> first
    | exact h2.elim
    | exact⟨_,h2,by simp[eqGuard,binOp,he]⟩
  | string=>
   simp only[hd]at h
   obtain⟨h1,h2⟩:=Zad h
   simp only[zA7]at h1
   rw[Zch h1.1,Zch h1.2]
   obtain⟨v,hv,hr⟩:=ZmH (P:=E.P) (w:=w) (T:=T) h2
   refine⟨v,hv,?_⟩
   have:(eqGuard op T ox oy (.string (ZcF x)) (.string (ZcF y))).run E.P w=.ok () w:=by
    cases op <;> simp[eqGuard]
   simp[this,hr]
  | slice e=>
   simp only[hd]at h
   obtain⟨h1,h2⟩:=Zad h
   simp only[zA7]at h1
   rw[ZbD h1.1,ZmI h1.2]
   have he:=run_equal_slice_nil (P:=E.P) (w:=w) T e (slA x) (slN x) (slC x) (hd ▸ hu)
   cases op <;> simp only[Zp4]at h2 <;> first
    | exact h2.elim
    | exact⟨_,h2,by simp[eqGuard,binOp,he]⟩
  | pointer e=>
   simp only[hd]at h
   obtain⟨h1,h2⟩:=Zad h
   simp only[zA7]at h1
   obtain⟨a,rfl⟩:=Zia h1.1
   rw[ZkN h1.2]
   have hp:E.P.pointee T=e:=by simp[Program.pointee,hu,hd]
   have he:=run_equal_pointer_nil (P:=E.P) (w:=w) T a (by rw[hp,hu,hd])
   cases op <;> simp only[Zp4]at h2 <;> first
    | exact h2.elim
    | exact⟨_,h2,by simp[eqGuard,binOp,he,ZrZ]⟩
  | struct fs=>
   simp only[hd]at h
   obtain⟨h1,b,h3,h4⟩:=Zad h
   simp only[zA7]at h1
   obtain⟨xs,rfl⟩:=Zdx h1.1
   obtain⟨ys,rfl⟩:=Zdx h1.2
   have he:=h3.1 w
   have hg:=h3.2 op ox oy w
   cases op <;> simp only[Zp4]at h4 <;> first
    | exact h4.elim
    | exact⟨_,h4,by simp[hg,binOp,he]⟩
  | array n e=>
   simp only[hd]at h
   obtain⟨h1,b,h3,h4⟩:=Zad h
   simp only[zA7]at h1
   obtain⟨xs,rfl⟩:=Zdx h1.1
   obtain⟨ys,rfl⟩:=Zdx h1.2
   have he:=h3.1 w
   have hg:=h3.2 op ox oy w
   cases op <;> simp only[Zp4]at h4 <;> first
    | exact h4.elim
    | exact⟨_,h4,by simp[hg,binOp,he]⟩
  | _=>simp[hd]at h
def ZgJ(E:Env)(T:TypeId)(f:Nat):Option Nat:=match E.tt T with
 | none=>none
 | some i=>match i.d with
  | .struct fs=>match fs.toList[f]? with
   | none=>none
   | some fd=>match E.tt fd.type with
    | none=>none
    | some j=>bif Nat.beq j.size 0 then none else some fd.offset
  | _=>none
theorem ZhB{E:Env}(hE:E.ok){w:World}{T:TypeId}{f fo b o:Nat}(h:ZgJ E T f=some fo):
  (Instr.fieldAt T (ptr b o) f).run E.P w=.ok (ptr b (o+fo)) w:=by
 unfold ZgJ at h
 cases ht:E.tt T with
 | none=>simp[ht]at h
 | some i=>
  simp only[ht]at h
  have hu:=(hE T i ht).run_und (w:=w)
  cases hd:i.d with
  | struct fs=>
   simp only[hd]at h hu
   cases hf:fs.toList[f]? with
   | none=>simp[hf]at h
   | some fd=>
    simp only[hf]at h
    cases hj:E.tt fd.type with
    | none=>simp[hj]at h
    | some j=>
     simp only[hj]at h
     have hs:=(hE _ j hj).run_size (w:=w)
     have hf':fs[f]?=some fd:=by simpa using hf
     cases hz:Nat.beq j.size 0 with
     | true=>simp[hz]at h
     | false=>
      simp only[hz,cond_false,Option.some.injEq]at h
      subst h
      have cE:j.size≠0:=λe=>by rw[e]at hz;simp at hz
      simp[Instr.fieldAt,hu,hf',Instr.sureAddr,ptr,fieldPlace,hs,cE,Zbz]
  | _=>simp[hd]at h
inductive Ix where
 | arr (len esz:Nat)
 | sl (esz:Nat)
def Ztp(E:Env)(T:TypeId):Option Ix:=match E.tt T with
 | none=>none
 | some i=>match i.d with
  | .array len e=>match E.tt e with
   | none=>none
   | some j=>some (.arr len j.size)
  | .slice e=>match E.tt e with
   | none=>none
   | some j=>some (.sl j.size)
  | _=>none
def Zaf(i:Int)(n:Nat):Prop:=0<=i/\i < n
theorem ZdN{E:Env}(hE:E.ok){w:World}{T:TypeId}{len esz b o:Nat}{k:IntKind}{i:Int}(h:Ztp E T=some (.arr len esz))(hi:Zaf i len):
  (Instr.indexAt T (ptr b o) (.int k i)).run E.P w=.ok (ptr b (o+i.toNat*esz)) w:=by
 unfold Ztp at h
 cases ht:E.tt T with
 | none=>simp[ht]at h
 | some x=>
  simp only[ht]at h
  have hu:=(hE T x ht).run_und (w:=w)
  cases hd:x.d with
  | array n e=>
   simp only[hd]at h hu
   cases hj:E.tt e with
   | none=>simp[hj]at h
   | some j=>
    simp only[hj,Option.some.injEq,Ix.arr.injEq]at h
    obtain⟨rfl,rfl⟩:=h
    have hs:=(hE _ j hj).run_size (w:=w)
    simp[Instr.indexAt,asIntOf,hu,Instr.sureAddr,ptr,hi.1,hi.2,hs,Zbz]
  | slice e=>
   simp only[hd]at h
   cases hj:E.tt e <;> simp[hj]at h
  | _=>simp[hd]at h
theorem ZeF{E:Env}(hE:E.ok){w:World}{T:TypeId}{esz b o n c:Nat}{k:IntKind}{i:Int}(h:Ztp E T=some (.sl esz))(hi:Zaf i n):
  (Instr.indexAt T (.slice (some ⟨b,o,none⟩) n c) (.int k i)).run E.P w=.ok (ptr b (o+i.toNat*esz)) w:=by
 unfold Ztp at h
 cases ht:E.tt T with
 | none=>simp[ht]at h
 | some x=>
  simp only[ht]at h
  have hu:=(hE T x ht).run_und (w:=w)
  cases hd:x.d with
  | slice e=>
   simp only[hd]at h hu
   cases hj:E.tt e with
   | none=>simp[hj]at h
   | some j=>
    simp only[hj,Option.some.injEq,Ix.sl.injEq]at h
    subst h
    have hs:=(hE _ j hj).run_size (w:=w)
    simp[Instr.indexAt,asIntOf,hu,ptr,hi.1,hi.2,hs,Zbz]
  | array n e=>
   simp only[hd]at h
   cases hj:E.tt e <;> simp[hj]at h
  | _=>simp[hd]at h
def Zku(place:Nat->Option (Nat×Nat))(cs:List Value):List (Nat×Value)->(List Value->Prop)->Prop
 | [],k=>k cs
 | (i,v)::rest,k=>match place i with
  | none=>False
  | some (off,size)=>chk (Nat.beq v.cells.size size&&Nat.ble (off+size) cs.length) (Zku place (Zaw cs off v.cells.toList) rest k)
theorem ZkB(off:Nat):∀(vs:List Value)(j:Nat)(cs:List Value),off+j+vs.length<=cs.length->
  (vs.zipIdx j).foldl (λ(a:Array Value)(c,i)=>a.setIfInBounds (off+i) c) cs.toArray=(cs.take (off+j)++vs++cs.drop (off+j+vs.length)).toArray
 | [],j,cs,h=>by simp[List.zipIdx]
 | v::vs,j,cs,h=>by
  simp only[List.length_cons]at h
  simp only[List.zipIdx_cons,List.foldl_cons,List.setIfInBounds_toArray]
  rw[ZkB off vs (j+1) (cs.set (off+j) v) (by rw[List.length_set];omega)]
  congr 1
  have e:=list_seg_step cs (off+j) v vs (by omega)
  simpa[Nat.add_assoc]using e
theorem ZhC{place:Nat->Option (Nat×Nat)}:∀{parts:List (Nat×Value)} {cs:List Value} {k:List Value->Prop},Zku place cs parts k->
  ∃r,k r/\Instr.fill place cs.toArray parts=some r.toArray
 | [],cs,k,h=>⟨cs,h,rfl⟩
 | (i,v)::rest,cs,k,h=>by
  simp only[Zku]at h
  cases hp:place i with
  | none=>simp[hp]at h
  | some os=>
   obtain⟨off,size⟩:=os
   simp only[hp]at h
   obtain⟨h1,h2⟩:=Zad h
   simp only[zA7,Nat.ble_eq]at h1
   have hs:v.cells.size=size:=Nat.eq_of_beq_eq_true h1.1
   obtain⟨r,hk,hr⟩:=ZhC h2
   refine⟨r,hk,?_⟩
   have cA:¬(off+v.cells.size > cs.length):=by omega
   have e:=ZkB off v.cells.toList 0 cs (by simp;omega)
   have e2:v.cells.zipIdx.foldl (λ(cs:Array Value)(c,j)=>cs.setIfInBounds (off+j) c) cs.toArray=(Zaw cs off v.cells.toList).toArray:=by
    rw[<-Array.foldl_toList]
    simp only[Array.toList_zipIdx]
    simpa[Zaw]using e
   have hc:(decide (v.cells.size≠size)||decide (off+v.cells.size > cs.toArray.size))=false:=by
    simp[hs];omega
   simp only[Instr.fill,hp]
   rw[if_neg (by simp only[Bool.not_eq_true];exact hc)]
   rw[<-hr,<-e2]
def ZgK(E:Env)(T:TypeId):Option (Nat->Option (Nat×Nat)):=match E.tt T with
 | none=>none
 | some i=>match i.d with
  | .struct fs=>bif fs.toList.all (λf=>(E.tt f.type).isSome)then some λn=>match fs.toList[n]? with
    | none=>none
    | some f=>match E.tt f.type with
     | none=>none
     | some j=>some (f.offset,j.size)
   else none
  | .array _ e=>match E.tt e with
   | none=>none
   | some j=>some λn=>some (n*j.size,j.size)
  | _=>none
def ZqW(E:Env)(T:TypeId):List Value:=match E.tt T with
 | none=>[]
 | some i=>i.zero.cells.toList
theorem Zi6{E:Env}(hE:E.ok){w:World}:∀(fs:List Field),fs.all (λf=>(E.tt f.type).isSome)=true->
  (fs.mapM (m:=Sem) λf=>do pure (f.offset,<-sizeOf f.type)).run E.P w=.ok (fs.map λf=>(f.offset,match E.tt f.type with|some j=>j.size|none=>0)) w
 | [],_=>rfl
 | f::fs,h=>by
  simp only[List.all_cons,zA7]at h
  obtain⟨j,hj⟩:=Option.isSome_iff_exists.1 h.1
  have hs:=(hE _ j hj).run_size (w:=w)
  have ih:=Zi6 hE fs h.2 (w:=w)
  simp only[List.mapM_cons,Sem.run_bind,hs,Result.andThen_ok,Sem.run_pure,ih,List.map_cons,hj]
theorem ZoJ{E:Env}(hE:E.ok){w:World}{T:TypeId}{parts:List (Nat×Value)}{place:Nat->Option (Nat×Nat)}{k:List Value->Prop}(hp:ZgK E T=some place)(h:Zku place (ZqW E T) parts k):
  ∃r,k r/\(Instr.build T parts.toArray).run E.P w=.ok (.agg r.toArray) w:=by
 unfold ZgK at hp
 unfold ZqW at h
 cases ht:E.tt T with
 | none=>simp[ht]at hp
 | some i=>
  simp only[ht]at hp h
  have bX:=hE T i ht
  have hu:=bX.run_und (w:=w)
  have hz:=bX.run_zero (w:=w)
  obtain⟨r,hk,hr⟩:=ZhC h
  refine⟨r,hk,?_⟩
  cases hd:i.d with
  | struct fs=>
   simp only[hd]at hp hu
   cases ha:fs.toList.all (λf=>(E.tt f.type).isSome)with
   | false=>simp[ha]at hp
   | true=>
    simp only[ha,cond_true,Option.some.injEq]at hp
    have hm:=Zi6 hE fs.toList ha (w:=w)
    have hm':(fs.mapM (m:=Sem) λf=>do pure (f.offset,<-sizeOf f.type)).run E.P w=.ok (fs.toList.map λf=>(f.offset,match E.tt f.type with|some j=>j.size|none=>0)).toArray w:=by
     rw[Array.mapM_eq_mapM_toList]
     simp only[Sem.run_map,hm,Result.andThen_ok]
    have lz:(λn=>(fs.toList.map λf=>(f.offset,match E.tt f.type with|some j=>j.size|none=>0)).toArray[n]?)=place:=by
     rw[<-hp]
     funext n
     simp only[List.getElem?_toArray,List.getElem?_map]
     cases hf:fs.toList[n]? with
     | none=>simp
     | some f=>
      have:(E.tt f.type).isSome=true:=by
       rw[List.all_eq_true]at ha
       exact ha f (zA2 hf)
      obtain⟨j,hj⟩:=Option.isSome_iff_exists.1 this
      simp[hj]
    rw[<-lz]at hr
    simp only[Array.toArray_toList]at hr
    simp only[Instr.build,Sem.run_bind,hz,Result.andThen_ok,hu,hm',hr]
    rfl
  | array n e=>
   simp only[hd]at hp hu
   cases hj:E.tt e with
   | none=>simp[hj]at hp
   | some j=>
    simp only[hj,Option.some.injEq]at hp
    have hs:=(hE _ j hj).run_size (w:=w)
    rw[<-hp]at hr
    simp only[Array.toArray_toList]at hr
    simp only[Instr.build,Sem.run_bind,hz,Result.andThen_ok,hu,hs,hr]
    rfl
  | _=>simp[hd]at hp
def Zbq(a:Option Addr)(l m sz:Nat):Option Addr:=bif Nat.beq l 0 then a else bif Nat.beq m l then a else a.map (·.add (l*sz))
def ZoK(E:Env)(s d:TypeId)(v:Value)(r:Value->Prop):Prop:=match E.tt s with
 | none=>False
 | some i=>match E.tt d with
  | none=>False
  | some j=>match i.d,j.d with
   | .int k,.int k'=>chk (Zbw k v) (r (.int k' (k'.wrap (RowKit.intOf v))))
   | .string,.string=>chk (Zmz v) (r v)
   | _,_=>False
def Ztq(E:Env)(T:TypeId)(v:Value)(r:Value->Prop):Prop:=match E.tt T with
 | none=>False
 | some i=>match i.d with
  | .slice _=>chk (ZdK v) (r (.int .i64 (slN v)))
  | .string=>chk (Zmz v) (r (.int .i64 (ZcF v).size))
  | .array n _=>r (.int .i64 n)
  | _=>False
def ZbE(E:Env)(T:TypeId):Option IntKind:=match E.tt T with
 | none=>none
 | some i=>match i.d with
  | .int k=>some k
  | _=>none
def Zef(E:Env)(T:TypeId):Bool:=match E.tt T with
 | none=>false
 | some i=>match i.d with
  | .string=>true
  | _=>false
def ZfU(x:Option Value)(d y:Nat)(r:Nat->Prop):Prop:=match x with
 | none=>r d
 | some v=>chk (Za9 v) ((0<=RowKit.intOf v/\RowKit.intOf v<=y)/\r (RowKit.intOf v).toNat)
def Zs9(S:St)(x:Option Operand)(r:Option Value->Prop):Prop:=match x with
 | none=>r none
 | some x=>wv S x λv=>r (some v)
def ZgL(E:Env)(T:TypeId):Option Nat:=match E.tt T with
 | none=>none
 | some i=>match i.d with
  | .slice e=>match E.tt e with
   | none=>none
   | some j=>some j.size
  | _=>none
def Zhd(E:Env)(T:TypeId)(v:Value)(lo hi mx:Option Value)(r:Value->Prop):Prop:=
 match ZgL E T with
 | some sz=>chk (ZdK v) (ZfU mx (slC v) (slC v) λm=>ZfU hi (slN v) m λh=>ZfU lo 0 h λl=>
   chk (match mx,hi with
    | some _,none=>false
    | _,_=>true) (r (.slice (Zbq (slA v) l m sz) (h - l) (m - l))))
 | none=>bif Zef E T then chk (Zmz v&&mx.isNone) (ZfU hi (ZcF v).size (ZcF v).size λh=>ZfU lo 0 h λl=>r (.string ((ZcF v).extract l h)))else False
def ZmK(E:Env)(T:TypeId):Option Nat:=match E.tt T with
 | none=>none
 | some i=>match i.d with
  | .array len e=>match E.tt e with
   | none=>none
   | some j=>bif j.agg then none else some len
  | _=>none
theorem ZkO{E:Env}{T:TypeId}{len:Nat}(h:ZmK E T=some len):∃i e j,E.tt T=some i/\i.d=.array len e/\E.tt e=some j/\j.agg=false:=by
 unfold ZmK at h
 cases ht:E.tt T with
 | none=>simp[ht]at h
 | some i=>
  simp only[ht]at h
  cases hd:i.d with
  | array n e=>
   simp only[hd]at h
   cases hj:E.tt e with
   | none=>simp[hj]at h
   | some j=>
    cases ha:j.agg with
    | true=>simp[hj,ha]at h
    | false=>
     simp[hj,ha]at h
     subst h
     exact⟨i,e,j,rfl,hd,hj,ha⟩
  | _=>simp[hd]at h
def ZkP(E:Env)(T:TypeId):Bool:=match E.tt T with
 | none=>false
 | some i=>match i.d with
  | .interface _=>false
  | _=>true
def Zco(E:Env)(S:St)(o:Oper)(k:SV->Prop):Prop:=match o.op with
 | .unOp op T x=>wv S x λv=>match op with
  | .not=>chk (ZeN v) (k (.v (.bool (!Zb2 v))))
  | .neg=>match ZbE E T with
   | some kk=>chk (Zbw kk v) (k (.v (.int kk (kk.wrap (0 - RowKit.intOf v)))))
   | none=>False
  | .xor=>match ZbE E T with
   | some kk=>chk (Zbw kk v) (k (.v (.int kk (kk.wrap (BitVec.ofInt kk.bits (if kk.signed then -1 else kk.max) ^^^ BitVec.ofInt kk.bits (RowKit.intOf v)).toNat))))
   | none=>False
  | .plus=>False
 | .binOp op T x y _=>wv S x λvx=>wv S y λvy=>Zs3 E op T vx vy λr=>k (.v r)
 | .convert s d x=>wv S x λv=>ZoK E s d v λr=>k (.v r)
 | .makeFunc fn first captured=>wvs S first.toList λfs=>wvs S captured.toList λcs=>k (.v (.func fn fs.toArray cs.toArray))
 | .fieldAddr T x f=>match ZgJ E T f with
  | none=>False
  | some fo=>match S.ev x with
   | some (.loc id off)=>k (.loc id (off+fo))
   | some (.v v)=>chk (Zds v) (k (.v (ptr (ZkL v) (Zkz v+fo))))
   | _=>False
 | .indexAddr T x i=>wv S i λvi=>chk (Za9 vi) (match Ztp E T with
  | none=>False
  | some (.arr len esz)=>Zaf (RowKit.intOf vi) len/\(match S.ev x with
   | some (.loc id off)=>k (.loc id (off+(RowKit.intOf vi).toNat*esz))
   | some (.v v)=>chk (Zds v) (k (.v (ptr (ZkL v) (Zkz v+(RowKit.intOf vi).toNat*esz))))
   | _=>False)
  | some (.sl esz)=>match S.ev x with
   | some (.sl id n _)=>Zaf (RowKit.intOf vi) n/\k (.loc id ((RowKit.intOf vi).toNat*esz))
   | some (.v v)=>chk (ZdK v) (∃b o,slA v=some ⟨b,o,none⟩/\Zaf (RowKit.intOf vi) (slN v)/\k (.v (ptr b (o+(RowKit.intOf vi).toNat*esz))))
   | _=>False)
 | .index T x i=>wv S x λv=>wv S i λvi=>chk (Za9 vi) (bif Zef E T
  then chk (Zmz v) (Zaf (RowKit.intOf vi) (ZcF v).size/\k (.v (.int .u8 (ZrI (ZcF v) (RowKit.intOf vi).toNat))))
  else match ZmK E T with
   | some len=>chk (ZoI v) (Zaf (RowKit.intOf vi) len/\Zp3 (Zcg v) (RowKit.intOf vi).toNat λu=>k (.v u))
   | none=>False)
 | .build T parts=>match ZgK E T with
  | none=>False
  | some place=>wvs S (parts.toList.map (·.2)) λvs=>Zku place (ZqW E T) ((parts.toList.map (·.1)).zip vs) λr=>k (.v (.agg r.toArray))
 | .extract x n=>wv S x λv=>chk (Zs5 v) (Zp3 (Zuy v) n λu=>k (.v u))
 | .makeInterface T x=>wv S x λv=>chk (ZkP E T) (k (.v (.iface T v)))
 | .nilCheck x=>match S.ev x with
  | some (.loc id off)=>k (.loc id off)
  | some (.v v)=>chk (Zds v) (k (.v v))
  | _=>False
 | .slice T x lo hi mx=>wv S x λv=>Zs9 S lo λl=>Zs9 S hi λh=>Zs9 S mx λm=>Zhd E T v l h m λr=>k (.v r)
 | .call c=>match c.callee with
  | .builtin .len=>match c.args.toList,c.argTypes.toList with
   | [x],[T]=>wv S x λv=>Ztq E T v λr=>k (.v r)
   | _,_=>False
  | .builtin .min=>match c.args.toList,c.argTypes.toList with
   | [x,y],T::_=>wv S x λvx=>wv S y λvy=>match ZbE E T with
    | some kk=>chk (Zbw kk vx&&Zbw kk vy) (k (.v (.int kk (if RowKit.intOf vy < RowKit.intOf vx then RowKit.intOf vy else RowKit.intOf vx))))
    | none=>False
   | _,_=>False
  | .builtin .max=>match c.args.toList,c.argTypes.toList with
   | [x,y],T::_=>wv S x λvx=>wv S y λvy=>match ZbE E T with
    | some kk=>chk (Zbw kk vx&&Zbw kk vy) (k (.v (.int kk (if RowKit.intOf vy > RowKit.intOf vx then RowKit.intOf vy else RowKit.intOf vx))))
    | none=>False
   | [x,y,z],T::_=>wv S x λvx=>wv S y λvy=>wv S z λvz=>match ZbE E T with
    | some kk=>chk (Zbw kk vx&&(Zbw kk vy&&Zbw kk vz)) (k (.v (.int kk (if RowKit.intOf vz > (if RowKit.intOf vy > RowKit.intOf vx then RowKit.intOf vy else RowKit.intOf vx)then RowKit.intOf vz else(if RowKit.intOf vy > RowKit.intOf vx then RowKit.intOf vy else RowKit.intOf vx)))))
    | none=>False
   | _,_=>False
  | _=>False
 | _=>False
section sound
variable {C:Ctx} {S:St} {m:Mem} {a:Act} {w:World}
theorem ZbF(hr:Rel C S m a w):∀{l:List Operand} {k:List Value->Prop},wvs S l k->k (l.map a.eval)
 | [],k,h=>h
 | x::l,k,h=>by
  simp only[wvs]at h
  obtain⟨v,hv,h2⟩:=Zay h
  have:=ZbF hr h2
  simpa[hr.ev hv]using this
theorem Zci{P:Program}{w:World}{x:Option Value}{d y:Nat}{r:Nat->Prop}(h:ZfU x d y r)(c:BoundsCode):∃n,r n/\
  (x=none->n=d)/\(∀v,x=some v->(Instr.sliceBound v y c).run P w=.ok n w):=by
 cases x with
 | none=>exact⟨d,h,λ_=>rfl,λv hv=>by cases hv⟩
 | some v=>
  obtain⟨h1,h2,h3⟩:=Zad h
  refine⟨_,h3,λhv=>(by cases hv),λu hu=>?_⟩
  cases hu
  obtain⟨kk,hk⟩:=ZaM h1
  rw[hk]
  simp only[RowKit.intOf]at h2 ⊢
  simp[Instr.sliceBound,asIntOf,h2.1,h2.2]
theorem ZgM(hr:Rel C S m a w){x:Option Operand}{r:Option Value->Prop}(h:Zs9 S x r):r (x.map a.eval):=by
 cases x with
 | none=>exact h
 | some x=>
  obtain⟨v,hv,h2⟩:=Zay h
  simpa[hr.ev hv]using h2
theorem ZjP{E:Env}(hE:E.ok){w:World}{T:TypeId}{v:Value}{lo hi mx:Option Value}{r:Value->Prop}(h:Zhd E T v lo hi mx r):
  ∃u,r u/\(Instr.sliceAt T v lo hi mx).run E.P w=.ok u w:=by
 unfold Zhd at h
 cases he:ZgL E T with
 | some sz=>
  simp only[he]at h
  obtain⟨h1,h2⟩:=Zad h
  unfold ZgL at he
  cases ht:E.tt T with
  | none=>simp[ht]at he
  | some i=>
   simp only[ht]at he
   have hu:=(hE T i ht).run_und (w:=w)
   cases hd:i.d with
   | slice e=>
    simp only[hd]at he hu
    cases hj:E.tt e with
    | none=>simp[hj]at he
    | some j=>
     simp only[hj,Option.some.injEq]at he
     subst he
     have hs:=(hE _ j hj).run_size (w:=w)
     rw[ZbD h1]
     obtain⟨m,h2,m1,m2⟩:=Zci (P:=E.P) (w:=w) h2 .slice3Acap
     obtain⟨hh,h2,g1,g2⟩:=Zci (P:=E.P) (w:=w) h2 (if mx.isSome then .slice3B else .sliceAcap)
     obtain⟨l,h2,l1,l2⟩:=Zci (P:=E.P) (w:=w) h2 (if mx.isSome then .slice3C else .sliceB)
     obtain⟨h3,h4⟩:=Zad h2
     refine⟨_,h4,?_⟩
     have gP:(if m=l then slA v else(slA v).map (·.add (l*j.size)))=Zbq (slA v) l m j.size:=by
      unfold Zbq
      by_cases hl:l=0
      ·subst hl
       cases slA v <;> simp[Addr.add]
      ·by_cases qI:m=l
       ·subst qI;simp
       ·simp[qI,Zam hl,Zam qI]
     have hb:(Instr.sliceBounds true (slN v) (slC v) lo hi mx).run E.P w=.ok (l,hh,m) w:=by
      cases mx with
      | none=>
       have:=m1 rfl;subst this
       cases hi with
       | none=>
        have:=g1 rfl;subst this
        cases lo with
        | none=>have:=l1 rfl;subst this;simp[Instr.sliceBounds]
        | some lv=>have:=l2 lv rfl;simp at this;simp[Instr.sliceBounds,this]
       | some hv=>
        have hg:=g2 hv rfl;simp at hg
        cases lo with
        | none=>have:=l1 rfl;subst this;simp[Instr.sliceBounds,hg]
        | some lv=>have:=l2 lv rfl;simp at this;simp[Instr.sliceBounds,hg,this]
      | some mv=>
       have hm:=m2 mv rfl
       cases hi with
       | none=>simp at h3
       | some hv=>
        have hg:=g2 hv rfl;simp at hg
        cases lo with
        | none=>have:=l1 rfl;subst this;simp[Instr.sliceBounds,hm,hg]
        | some lv=>have:=l2 lv rfl;simp at this;simp[Instr.sliceBounds,hm,hg,this]
     simp only[Instr.sliceAt,Sem.run_bind,hu,Result.andThen_ok,Instr.slice,hb,hs,gP]
     rfl
   | _=>simp[hd]at he
 | none=>
  simp only[he]at h
  cases hs:Zef E T with
  | false=>simp[hs]at h
  | true=>
   simp only[hs,cond_true]at h
   unfold Zef at hs
   cases ht:E.tt T with
   | none=>simp[ht]at hs
   | some i=>
    simp only[ht]at hs
    have hu:=(hE T i ht).run_und (w:=w)
    cases hd:i.d <;> simp[hd]at hs
    rw[hd]at hu
    obtain⟨h1,h2⟩:=Zad h
    simp only[zA7]at h1
    rw[Zch h1.1]
    have je:mx=none:=by cases mx <;> simp at h1 ⊢
    subst je
    obtain⟨hh,h2,g1,g2⟩:=Zci (P:=E.P) (w:=w) h2 .sliceAlen
    obtain⟨l,h2,l1,l2⟩:=Zci (P:=E.P) (w:=w) h2 .sliceB
    refine⟨_,h2,?_⟩
    have hb:(Instr.sliceBounds false (ZcF v).size (ZcF v).size lo hi none).run E.P w=.ok (l,hh,(ZcF v).size) w:=by
     cases hi with
     | none=>
      have:=g1 rfl;subst this
      cases lo with
      | none=>have:=l1 rfl;subst this;simp[Instr.sliceBounds]
      | some lv=>have:=l2 lv rfl;simp[Instr.sliceBounds,this]
     | some hv=>
      have hg:=g2 hv rfl
      cases lo with
      | none=>have:=l1 rfl;subst this;simp[Instr.sliceBounds,hg]
      | some lv=>have:=l2 lv rfl;simp[Instr.sliceBounds,hg,this]
    simp[Instr.sliceAt,hu,Instr.slice,hb]
theorem Zff{E:Env}{T:TypeId}(h:Zef E T=true):∃i,E.tt T=some i/\i.d=.string:=by
 unfold Zef at h
 cases ht:E.tt T with
 | none=>simp[ht]at h
 | some i=>
  simp only[ht]at h
  cases hd:i.d <;> simp[hd]at h
  exact⟨i,rfl,hd⟩
def Ztr(E:Env)(S:St)(a:Act)(w:World)(o:Oper)(k:SV->Prop):Prop:=
 ∃sv v,k sv/\S.den sv=some v/\(execOp a.eval o).run E.P w=.ok (.value v) w
theorem ZkQ{E:Env}(hE:E.ok){o:Oper}{k:SV->Prop}(hr:Rel C S m a w)(h:Zco E S o k):Ztr E S a w o k:=by
 obtain⟨dst,op,type,pos,after,guard⟩:=o
 cases op with
 | unOp op T x=>
  obtain⟨v,hv,h⟩:=Zay h
  have he:=hr.ev hv
  cases op with
  | not=>
   obtain⟨h1,h2⟩:=Zad h
   refine⟨_,_,h2,rfl,?_⟩
   simp only[execOp,he];rw[Zby h1];simp[Op.unary,Zb2]
  | neg=>
   simp only at h
   cases hk:ZbE E T with
   | none=>simp[hk]at h
   | some kk=>
    simp only[hk]at h
    obtain⟨h1,h2⟩:=Zad h
    refine⟨_,_,h2,rfl,?_⟩
    simp only[execOp,he];rw[ZaQ h1];simp[Op.unary,Op.intArith,RowKit.intOf]
  | xor=>
   simp only at h
   cases hk:ZbE E T with
   | none=>simp[hk]at h
   | some kk=>
    simp only[hk]at h
    obtain⟨h1,h2⟩:=Zad h
    refine⟨_,_,h2,rfl,?_⟩
    simp only[execOp,he];rw[ZaQ h1];simp[Op.unary,Op.intBits,RowKit.intOf]
  | plus=>exact h.elim
 | binOp op T x y yT=>
  obtain⟨vx,hx,h⟩:=Zay h
  obtain⟨vy,hy,h⟩:=Zay h
  obtain⟨v,hv,bH⟩:=ZmJ hE (w:=w) (ox:=x) (oy:=y) h
  refine⟨_,_,hv,rfl,?_⟩
  simp only[execOp,hr.ev hx,hr.ev hy]
  rw[Sem.run_bind,bH];rfl
 | convert s d x=>
  obtain⟨v,hv,h⟩:=Zay h
  have he:=hr.ev hv
  unfold ZoK at h
  cases hs:E.tt s with
  | none=>simp[hs]at h
  | some i=>
   cases hd:E.tt d with
   | none=>simp[hs,hd]at h
   | some j=>
    simp only[hs,hd]at h
    have hi:=(hE s i hs).run_und (w:=w)
    have hj:=(hE d j hd).run_und (w:=w)
    cases cI:i.d <;> cases gI:j.d <;> simp only[cI,gI]at h <;> first
     | exact h.elim
     | (obtain⟨h1,h2⟩:=Zad h
        refine⟨_,_,h2,rfl,?_⟩
        simp only[execOp,he];rw[ZaQ h1];simp[convert,hi,hj,cI,gI,Conv.intToInt,RowKit.intOf])
     | (obtain⟨h1,h2⟩:=Zad h
        refine⟨_,_,h2,rfl,?_⟩
        simp only[execOp,he];rw[Zch h1];simp[convert,hi,hj,cI,gI])
 | makeFunc fn first captured=>
  have h1:=ZbF hr h
  have h2:=ZbF hr h1
  refine⟨_,_,h2,rfl,?_⟩
  have e1:(first.map a.eval)=(List.map a.eval first.toList).toArray:=by simp[<-Array.toList_map]
  have e2:(captured.map a.eval)=(List.map a.eval captured.toList).toArray:=by simp[<-Array.toList_map]
  simp[execOp,Instr.makeFunc,e1,e2]
 | fieldAddr T x f=>
  simp only[Zco]at h
  cases hf:ZgJ E T f with
  | none=>simp[hf]at h
  | some fo=>
   simp only[hf]at h
   cases he:S.ev x with
   | none=>simp[he]at h
   | some sv=>
    obtain⟨v,h1,h2,h3⟩:=hr.ev_val he
    cases sv with
    | v u=>
     simp only[he]at h
     obtain⟨h4,h5⟩:=Zad h
     simp only[St.den,Option.some.injEq]at h1
     subst h1
     refine⟨_,_,h5,rfl,?_⟩
     have:=ZhB hE (w:=w) (b:=ZkL u) (o:=Zkz u) hf
     rw[<-ZbP h4]at this
     simp[execOp,h3,this]
    | loc id off=>
     simp only[he]at h
     simp only[St.den]at h1
     cases hx:S.L id with
     | none=>simp[hx]at h1
     | some bx=>
      simp only[hx,Option.some.injEq]at h1
      refine⟨_,ptr bx.b (off+fo),h,by simp[St.den,hx,ptr],?_⟩
      have:=ZhB hE (w:=w) (b:=bx.b) (o:=off) hf
      rw[ptr,h1]at this
      simp[execOp,h3,this]
    | sl id n c=>simp[he]at h
 | indexAddr T x i=>
  obtain⟨vi,qJ,h⟩:=Zay h
  obtain⟨gQ,h⟩:=Zad h
  obtain⟨ki,lA⟩:=ZaM gQ
  have lB:=hr.ev qJ
  cases hx:Ztp E T with
  | none=>simp[hx]at h
  | some ix=>
   cases ix with
   | arr len esz=>
    simp only[hx]at h
    obtain⟨eW,h⟩:=h
    cases he:S.ev x with
    | none=>simp[he]at h
    | some sv=>
     obtain⟨v,h1,h2,h3⟩:=hr.ev_val he
     cases sv with
     | v u=>
      simp only[he]at h
      obtain⟨h4,h5⟩:=Zad h
      simp only[St.den,Option.some.injEq]at h1
      subst h1
      refine⟨_,_,h5,rfl,?_⟩
      have:=ZdN hE (w:=w) (b:=ZkL u) (o:=Zkz u) (k:=ki) hx eW
      rw[<-ZbP h4,<-lA]at this
      simp[execOp,h3,lB,this]
     | loc id off=>
      simp only[he]at h
      simp only[St.den]at h1
      cases hb:S.L id with
      | none=>simp[hb]at h1
      | some bx=>
       simp only[hb,Option.some.injEq]at h1
       refine⟨_,ptr bx.b (off+(RowKit.intOf vi).toNat*esz),h,by simp[St.den,hb,ptr],?_⟩
       have:=ZdN hE (w:=w) (b:=bx.b) (o:=off) (k:=ki) hx eW
       rw[ptr,h1,<-lA]at this
       simp[execOp,h3,lB,this]
     | sl id n c=>simp[he]at h
   | sl esz=>
    simp only[hx]at h
    cases he:S.ev x with
    | none=>simp[he]at h
    | some sv=>
     obtain⟨v,h1,h2,h3⟩:=hr.ev_val he
     cases sv with
     | v u=>
      simp only[he]at h
      obtain⟨h4,b,o,h5,h6,h7⟩:=Zad h
      simp only[St.den,Option.some.injEq]at h1
      subst h1
      refine⟨_,_,h7,rfl,?_⟩
      have:=ZeF hE (w:=w) (b:=b) (o:=o) (k:=ki) (c:=slC u) hx h6
      rw[<-h5,<-ZbD h4,<-lA]at this
      simp[execOp,h3,lB,this]
     | loc id off=>simp[he]at h
     | sl id n c=>
      simp only[he]at h
      simp only[St.den]at h1
      cases hb:S.L id with
      | none=>simp[hb]at h1
      | some bx=>
       simp only[hb,Option.some.injEq]at h1
       refine⟨_,ptr bx.b ((RowKit.intOf vi).toNat*esz),h.2,by simp[St.den,hb,ptr],?_⟩
       subst h1
       have:=ZeF hE (w:=w) (b:=bx.b) (o:=0) (k:=ki) (c:=c) hx h.1
       rw[<-lA,Nat.zero_add]at this
       simp[execOp,h3,lB,this]
 | index T x i=>
  obtain⟨v,hv,h⟩:=Zay h
  obtain⟨vi,qJ,h⟩:=Zay h
  obtain⟨gQ,h⟩:=Zad h
  obtain⟨ki,lA⟩:=ZaM gQ
  have jp:=hr.ev hv
  have lB:=hr.ev qJ
  cases hs:Zef E T with
  | true=>
   simp only[hs,cond_true]at h
   obtain⟨h1,h2,h3⟩:=Zad h
   obtain⟨i,ht,hd⟩:=Zff hs
   have hu:=(hE T i ht).run_und (w:=w)
   refine⟨_,_,h3,rfl,?_⟩
   have aH:(RowKit.intOf vi).toNat < (ZcF v).size:=by have:=h2.1;have:=h2.2;omega
   have jq:(ZcF v)[(RowKit.intOf vi).toNat]?=some ((ZcF v).data.toList.getD (RowKit.intOf vi).toNat 0):=by
    have aF:(RowKit.intOf vi).toNat < (ZcF v).data.size:=aH
    rw[getElem?_pos (ZcF v) (RowKit.intOf vi).toNat aH]
    congr 1
    show(ZcF v).data[(RowKit.intOf vi).toNat]=_
    rw[List.getD_eq_getElem?_getD,Array.getElem?_toList,getElem?_pos (ZcF v).data (RowKit.intOf vi).toNat aF]
    rfl
   obtain⟨n,rfl⟩:∃n,vi=.int ki n:=⟨_,lA⟩
   obtain⟨st,rfl⟩:∃st,v=.string st:=⟨_,Zch h1⟩
   simp only[RowKit.intOf,ZcF]at h2 jq ⊢
   have h0:=h2.1
   simp[execOp,jp,lB,Instr.index,asIntOf,hu,hd,h0,jq,ZrI]
  | false=>
   simp only[hs,cond_false]at h
   cases hx:ZmK E T with
   | none=>simp[hx]at h
   | some len=>
    simp only[hx]at h
    obtain⟨h1,h2,h3⟩:=Zad h
    obtain⟨u,fR,h4⟩:=ZfT h3
    obtain⟨cs,rfl⟩:=Zdx h1
    obtain⟨i,e,j,ht,hd,hj,tP⟩:=ZkO hx
    have hu:=(hE T i ht).run_und (w:=w)
    have qK:=hE e j hj
    have bU:=qK.run_size (w:=w)
    have lC:=qK.run_agg (w:=w)
    have h1':=qK.one tP
    obtain⟨n,rfl⟩:∃n,vi=.int ki n:=⟨_,lA⟩
    simp only[RowKit.intOf]at h2 fR
    have h0:=h2.1
    have hl:=h2.2
    simp only[Zcg,Value.cells,Array.getElem?_toList]at fR
    refine⟨_,_,h4,rfl,?_⟩
    simp[execOp,jp,lB,Instr.index,asIntOf,hu,hd,h0,hl,bU,h1',part,lC,tP,fR]
 | build T parts=>
  simp only[Zco]at h
  cases hp:ZgK E T with
  | none=>simp[hp]at h
  | some place=>
   simp only[hp]at h
   have h1:=ZbF hr h
   obtain⟨r,hk,bH⟩:=ZoJ hE (w:=w) hp h1
   refine⟨_,_,hk,rfl,?_⟩
   have e:(parts.map λx=>(x.1,a.eval x.2))=((List.map (λx=>x.fst) parts.toList).zip (List.map a.eval (List.map (λx=>x.snd) parts.toList))).toArray:=by
    rw[List.map_map,List.zip_map']
    exact Array.ext' (by simp)
   simp only[execOp,e]
   rw[Sem.run_bind,bH];rfl
 | extract x n=>
  obtain⟨v,hv,h⟩:=Zay h
  obtain⟨h1,h2⟩:=Zad h
  obtain⟨u,hu,h3⟩:=ZfT h2
  refine⟨_,_,h3,rfl,?_⟩
  simp only[execOp,hr.ev hv]
  rw[ZmF h1]
  simp[Instr.extract,hu]
 | makeInterface T x=>
  obtain⟨v,hv,h⟩:=Zay h
  obtain⟨h1,h2⟩:=Zad h
  refine⟨_,_,h2,rfl,?_⟩
  unfold ZkP at h1
  cases ht:E.tt T with
  | none=>simp[ht]at h1
  | some i=>
   simp only[ht]at h1
   have hu:=(hE T i ht).run_und (w:=w)
   simp only[execOp,hr.ev hv,Instr.makeInterface]
   cases hd:i.d <;> simp[hd]at h1 <;> simp[hu,hd]
 | nilCheck x=>
  simp only[Zco]at h
  cases he:S.ev x with
  | none=>simp[he]at h
  | some sv=>
   obtain⟨v,h1,h2,h3⟩:=hr.ev_val he
   cases sv with
   | v u=>
    simp only[he]at h
    obtain⟨h4,h5⟩:=Zad h
    simp only[St.den,Option.some.injEq]at h1
    subst h1
    refine⟨_,_,h5,rfl,?_⟩
    simp only[execOp,h3]
    rw[ZbP h4]
    simp[ptr]
   | loc id off=>
    simp only[he]at h
    simp only[St.den]at h1
    cases hx:S.L id with
    | none=>simp[hx]at h1
    | some bx=>
     simp only[hx,Option.some.injEq]at h1
     refine⟨_,v,h,by simp[St.den,hx,h1],?_⟩
     subst h1
     simp[execOp,h3]
   | sl id n c=>simp[he]at h
 | slice T x lo hi mx=>
  obtain⟨v,hv,h⟩:=Zay h
  have h1:=ZgM hr h
  have h2:=ZgM hr h1
  have h3:=ZgM hr h2
  obtain⟨u,hu,bH⟩:=ZjP hE (w:=w) h3
  refine⟨_,_,hu,rfl,?_⟩
  simp only[execOp,hr.ev hv]
  rw[Sem.run_bind,bH];rfl
 | call c=>
  obtain⟨callee,args,argTypes⟩:=c
  cases callee with
  | builtin b=>
   cases b with
   | len=>
    simp only[Zco]at h
    cases hA:args.toList with
    | nil=>simp[hA]at h
    | cons x l=>
     cases l with
     | cons y l=>simp[hA]at h
     | nil=>
      cases hT:argTypes.toList with
      | nil=>simp[hA,hT]at h
      | cons T l=>
       cases l with
       | cons y l=>simp[hA,hT]at h
       | nil=>
        simp only[hA,hT]at h
        obtain⟨v,hv,h⟩:=Zay h
        have ha:args=#[x]:=by rw[<-Array.toArray_toList (xs:=args),hA]
        have eP:argTypes=#[T]:=by rw[<-Array.toArray_toList (xs:=argTypes),hT]
        subst ha eP
        unfold Ztq at h
        cases ht:E.tt T with
        | none=>simp[ht]at h
        | some i=>
         simp only[ht]at h
         have hu:=(hE T i ht).run_und (w:=w)
         have jp:=hr.ev hv
         cases hd:i.d <;> simp only[hd]at h <;> first
          | exact h.elim
          | (obtain⟨h1,h2⟩:=Zad h
             refine⟨_,_,h2,rfl,?_⟩
             simp only[execOp,resolve,invoke,builtin,List.map_toArray,List.map,jp]
             rw[ZbD h1]
             simp[Builtin.len_,hu,hd,goInt,slN])
          | (obtain⟨h1,h2⟩:=Zad h
             refine⟨_,_,h2,rfl,?_⟩
             simp only[execOp,resolve,invoke,builtin,List.map_toArray,List.map,jp]
             rw[Zch h1]
             simp[Builtin.len_,hu,hd,goInt,ZcF])
          | (refine⟨_,_,h,rfl,?_⟩
             simp[execOp,resolve,invoke,builtin,jp,Builtin.len_,hu,hd,goInt])
   | min=>
    simp only[Zco]at h
    split at h
    ·rename_i x y T l hA hT
     obtain⟨vx,hx,h⟩:=Zay h
     obtain⟨vy,hy,h⟩:=Zay h
     cases hk:ZbE E T with
     | none=>simp[hk]at h
     | some kk=>
      simp only[hk]at h
      obtain⟨h1,h2⟩:=Zad h
      simp only[zA7]at h1
      refine⟨_,_,h2,rfl,?_⟩
      have ha:args=#[x,y]:=by rw[<-Array.toArray_toList (xs:=args),hA]
      subst ha
      have ex:=hr.ev hx
      have ey:=hr.ev hy
      obtain⟨nx,rfl⟩:∃n,vx=.int kk n:=⟨_,ZaQ h1.1⟩
      obtain⟨ny,rfl⟩:∃n,vy=.int kk n:=⟨_,ZaQ h1.2⟩
      simp[execOp,resolve,ex,ey,invoke,builtin,Builtin.min_,Builtin.min2,RowKit.intOf]
      by_cases hc:ny < nx <;> simp[hc]
    ·exact h.elim
   | max=>
    simp only[Zco]at h
    split at h
    ·rename_i x y T l hA hT
     obtain⟨vx,hx,h⟩:=Zay h
     obtain⟨vy,hy,h⟩:=Zay h
     cases hk:ZbE E T with
     | none=>simp[hk]at h
     | some kk=>
      simp only[hk]at h
      obtain⟨h1,h2⟩:=Zad h
      simp only[zA7]at h1
      refine⟨_,_,h2,rfl,?_⟩
      have ha:args=#[x,y]:=by rw[<-Array.toArray_toList (xs:=args),hA]
      subst ha
      have ex:=hr.ev hx
      have ey:=hr.ev hy
      obtain⟨nx,rfl⟩:∃n,vx=.int kk n:=⟨_,ZaQ h1.1⟩
      obtain⟨ny,rfl⟩:∃n,vy=.int kk n:=⟨_,ZaQ h1.2⟩
      simp[execOp,resolve,ex,ey,invoke,builtin,Builtin.max_,Builtin.max2,RowKit.intOf]
    ·rename_i x y z T l hA hT
     obtain⟨vx,hx,h⟩:=Zay h
     obtain⟨vy,hy,h⟩:=Zay h
     obtain⟨vz,hz,h⟩:=Zay h
     cases hk:ZbE E T with
     | none=>simp[hk]at h
     | some kk=>
      simp only[hk]at h
      obtain⟨h1,h2⟩:=Zad h
      simp only[zA7]at h1
      refine⟨_,_,h2,rfl,?_⟩
      have ha:args=#[x,y,z]:=by rw[<-Array.toArray_toList (xs:=args),hA]
      subst ha
      have ex:=hr.ev hx
      have ey:=hr.ev hy
      have ez:=hr.ev hz
      obtain⟨nx,rfl⟩:∃n,vx=.int kk n:=⟨_,ZaQ h1.1⟩
      obtain⟨ny,rfl⟩:∃n,vy=.int kk n:=⟨_,ZaQ h1.2.1⟩
      obtain⟨nz,rfl⟩:∃n,vz=.int kk n:=⟨_,ZaQ h1.2.2⟩
      simp[execOp,resolve,ex,ey,ez,invoke,builtin,Builtin.max_,Builtin.max2,RowKit.intOf]
    ·exact h.elim
   | _=>simp[Zco]at h
  | _=>simp[Zco]at h
 | _=>simp[Zco]at h
end sound
section
variable {C:Ctx} {S:St} {m:Mem} {a:Act} {w:World}
theorem Rel.upd(h:Rel C S m a w){w':World}{m':Mem}{L':Nat->Option Box}(bl:List Nat)(hk:Keep w.heap.size bl w w')(hs:Sub m' w')(hm:m.le m')(hn:Zfd m m' w w')
  (hL:∀id,(L' id).map (·.b)=(S.L id).map (·.b)) (eS:∀id x,L' id=some x->(S.L id=some x/\x.b ∉ bl)\/Own m' w' x) (qL:∀b∈bl,∃id x,S.L id=some x/\x.b=b):
  Rel C { S with L:=L' } m' a w':=by
 have hb:∀k,k < w.heap.size->k ∉ bl->w'.heap[k]?=w.heap[k]?:=λk h1 h2=>hk.block k h1 h2
 have bO:∀b,b < w.heap.size->∀o,m b o=none->m' b o=none:=λb aH o ho=>by
  cases he:m' b o with
  | none=>rfl
  | some v=>
   rcases hn _ _ _ he with he|he
   ·rw[ho]at he;cases he
   ·have:=he.1;omega
 have old:∀id x',L' id=some x'->∃x,S.L id=some x/\x.b=x'.b:=λid x' hx=>by
  have:=hL id
  rw[hx]at this
  cases hS:S.L id with
  | none=>simp[hS]at this
  | some x=>simp[hS]at this;exact⟨x,rfl,this.symm⟩
 refine⟨?_,h.size,?_,?_,?_,?_,?_,h.tkeys,h.tapart,hs,mLt h.le hm,?_⟩
 ·obtain⟨ms,h1,h2,h3⟩:=h.defers
  refine⟨ms,h1,h2,λD hD=>?_⟩
  rw[hb D (Array.getElem?_eq_some_iff.1 (h3 D hD)).1]
  ·exact h3 D hD
  ·intro cD
   obtain⟨id,x,hx,rfl⟩:=qL D cD
   obtain⟨sp,fr,hc,_⟩:=(h.own id x hx).cells
   rw[h3 _ hD]at hc;cases hc
 ·intro i sv he
  obtain⟨v,h1,h2⟩:=h.env i sv he
  refine⟨v,?_,h2⟩
  cases sv with
  | v u=>exact h1
  | loc id off=>
   simp only[St.den]at h1 ⊢
   have:=hL id
   cases hS:S.L id with
   | none=>simp[hS]at h1
   | some x=>
    simp only[hS]at h1 this
    cases hl:L' id with
    | none=>simp[hl]at this
    | some x'=>simp[hl]at this;simp[this]at h1 ⊢;exact h1
  | sl id n c=>
   simp only[St.den]at h1 ⊢
   have:=hL id
   cases hS:S.L id with
   | none=>simp[hS]at h1
   | some x=>
    simp only[hS]at h1 this
    cases hl:L' id with
    | none=>simp[hl]at this
    | some x'=>simp[hl]at this;simp[this]at h1 ⊢;exact h1
 ·intro id x' hx
  obtain⟨x,tQ,nv⟩:=old id x' hx
  rcases eS id x' hx with⟨h1,h2⟩|h1
  ·have ho:=(h.own id x' h1)
   exact ho.same (hb _ ho.lt h2) hm (λhz o=>bO _ ho.lt o (ho.free hz o))
  ·exact h1
 ·intro id id' x x' hx hx' he
  obtain⟨y,hy,gd⟩:=old id x hx
  obtain⟨y',hy',qM⟩:=old id' x' hx'
  exact h.apart id id' y y' hy hy' (by rw[gd,qM,he])
 ·intro id x hx
  obtain⟨y,hy,_⟩:=old id x hx
  exact h.ids id y hy
 ·intro k t ht
  obtain⟨ho,hB⟩:=h.toks k t ht
  have qN:∀b,t.blk=some b->b ∉ bl:=λb cZ cD=>by
   obtain⟨id,x,hx,rfl⟩:=qL b cD
   exact(hB _ cZ).1 id x hx rfl
  refine⟨ho.same (λb cZ=>hb _ (ho.lt cZ) (qN b cZ)) (λb o cZ=>bO _ (ho.lt cZ) o),λb cZ=>⟨λid x hx=>?_,(hB b cZ).2⟩⟩
  obtain⟨y,hy,gd⟩:=old id x hx
  rw[<-gd];exact(hB b cZ).1 id y hy
 ·obtain⟨M,hd⟩:=h.dom
  have h1:=hd.step (m':=m') (hk.upd (M:=M) λb hb=>by obtain⟨id,x,hx,rfl⟩:=qL b hb;exact hd.own id x hx) (λb o v hv=>(hn b o v hv).imp_right λh=>.inr ⟨h.1,hs.lt hv,h.2⟩)
  exact⟨_,h1.cut rfl (λid x' hx=>by obtain⟨x,h2,h3⟩:=old id x' hx;exact⟨id,x,h2,h3⟩) (λk t b ht hb=>⟨k,t,ht,hb⟩) rfl (λ_ _ _ hv=>hv)⟩
theorem Rel.newBox(h:Rel C S m a w){d:Nat}(hd:S.L d=none){x:Box}{m':Mem}(sp:List Value)(hb:x.b=w.heap.size)(cS:(x.cs++sp).length=x.cap)(gO:x.full=true->x.cs.length=x.cap)
  (hm:(x.fz=false/\m'=m)\/(x.fz=true/\m'=m.add x.b x.cs)):
  Rel C (S.newL d x) m' a (w.alloc (.cells (x.cs++sp).toArray x.T (0,0))):=by
 have bO:m.free x.b:=λo=>by
  cases he:m x.b o with
  | none=>rfl
  | some v=>have:=h.sub.lt he;omega
 have cH:∀o v,x.cs[o]?=some v->(w.alloc (.cells (x.cs++sp).toArray x.T (0,0))).cell? ⟨x.b,o,none⟩=some v:=λo v hv=>by
  have hl:o < x.cs.length:=(zA0 hv).1
  have hn:=heap_alloc_new w (.cells (x.cs++sp).toArray x.T (0,0))
  rw[hb]
  simp only[World.cell?,hn]
  simp[zA5 hl,hv]
 have cA:m.le m':=by
  rcases hm with⟨_,rfl⟩|⟨_,rfl⟩
  ·exact Mem.le_refl _
  ·exact Mem.le_add bO _
 have kL:Sub m (w.alloc (.cells (x.cs++sp).toArray x.T (0,0))):=λb o v hv=>by
  have:=h.sub.lt hv
  rw[ZaY (Below.heap_alloc w _ b this)];exact h.sub b o v hv
 have cW:Sub m' (w.alloc (.cells (x.cs++sp).toArray x.T (0,0))):=by
  rcases hm with⟨_,rfl⟩|⟨_,rfl⟩
  ·exact kL
  ·intro b o v hv
   by_cases nw:b=x.b
   ·subst nw;rw[Mem.add_same]at hv;exact cH o v hv
   ·rw[Mem.add_other _ nw]at hv;exact kL b o v hv
 have cF:Zfd m m' w (w.alloc (.cells (x.cs++sp).toArray x.T (0,0))):=by
  rcases hm with⟨_,rfl⟩|⟨_,rfl⟩
  ·exact λ_ _ _ hv=>.inl hv
  ·intro b o v hv
   by_cases nw:b=x.b
   ·exact .inr ⟨by omega,by rw[nw,hb];exact Wr.new (ZdJ _ _)⟩
   ·rw[Mem.add_other _ nw]at hv;exact .inl hv
 have h1:=h.world (w':=w.alloc (.cells (x.cs++sp).toArray x.T (0,0))) (Keep.alloc (Nat.le_refl _) (ZdJ _ _)) cW cA cF
 have aH:∀id y,S.L id=some y->y.b < w.heap.size:=λid y hy=>(h.own id y hy).lt
 refine⟨h1.defers,h1.size,?_,?_,?_,?_,?_,h1.tkeys,h1.tapart,h1.sub,h1.le,?_⟩
 ·intro i sv he
  obtain⟨v,h2,h3⟩:=h1.env i sv he
  refine⟨v,?_,h3⟩
  cases sv with
  | v u=>exact h2
  | loc id off=>
   have cE:id≠d:=λe=>by subst e;simp[St.den,hd]at h2
   simpa[St.den,St.newL,Zam cE]using h2
  | sl id n c=>
   have cE:id≠d:=λe=>by subst e;simp[St.den,hd]at h2
   simpa[St.den,St.newL,Zam cE]using h2
 ·intro id y hy
  by_cases cI:id=d
  ·subst cI
   simp[St.newL]at hy
   subst hy
   refine⟨⟨sp,(0,0),?_,cS,.inl rfl⟩,λhz=>?_,λhz=>?_,gO⟩
   ·rw[hb];exact heap_alloc_new w _
   ·rcases hm with⟨_,rfl⟩|⟨hz',_⟩
    ·exact bO
    ·simp[hz]at hz'
   ·rcases hm with⟨hz',_⟩|⟨_,rfl⟩
    ·simp[hz]at hz'
    ·intro j v hv;rw[Mem.add_same];simpa using hv
  ·have:S.L id=some y:=by simpa[St.newL,Zam cI]using hy
   exact h1.own id y this
 ·intro id id' y y' hy hy' he
  by_cases cI:id=d <;> by_cases j9:id'=d
  ·rw[cI,j9]
  ·subst cI
   have e':S.L id'=some y':=by simpa[St.newL,Zam j9]using hy'
   simp[St.newL]at hy;subst hy
   have:=aH _ _ e';omega
  ·subst j9
   have e':S.L id=some y:=by simpa[St.newL,Zam cI]using hy
   simp[St.newL]at hy';subst hy'
   have:=aH _ _ e';omega
  ·exact h.apart id id' y y' (by simpa[St.newL,Zam cI]using hy) (by simpa[St.newL,Zam j9]using hy') he
 ·intro id y hy
  by_cases cI:id=d
  ·subst cI;simp[St.newL]
  ·have:S.L id=some y:=by simpa[St.newL,Zam cI]using hy
   simp[St.newL,h.ids id y this]
 ·intro k t ht
  obtain⟨ho,hB⟩:=h1.toks k t ht
  refine⟨ho,λb cZ=>⟨λid y hy=>?_,(hB b cZ).2⟩⟩
  by_cases cI:id=d
  ·subst cI
   simp[St.newL]at hy;subst hy
   have:=((h.toks k t ht).1).lt cZ
   omega
  ·exact(hB b cZ).1 id y (by simpa[St.newL,Zam cI]using hy)
 ·obtain⟨M,hd'⟩:=h.dom
  have hk:Keep w.heap.size [] w (w.alloc (.cells (x.cs++sp).toArray x.T (0,0))):=Keep.alloc (Nat.le_refl _) (ZdJ _ _)
  have h2:=hd'.step (m':=m') (hk.upd (by simp)) (λb o v hv=>(cF b o v hv).imp_right λh=>.inr ⟨h.1,cW.lt hv,h.2⟩)
  refine⟨_,h2.p,h2.lt,λid y hy=>?_,h2.tok,h2.mks,h2.new⟩
  by_cases cI:id=d
  ·subst cI
   simp[St.newL]at hy;subst hy
   exact .inr ⟨by omega,by rw[hb];exact(Array.getElem?_eq_some_iff.1 (heap_alloc_new w (.cells (x.cs++sp).toArray x.T (0,0)))).1,by rw[hb];exact Wr.new (ZdJ _ _)⟩
  ·exact h2.own id y (by simpa[St.newL,Zam cI]using hy)
theorem Rel.store(h:Rel C S m a w){id:Nat}{x x':Box}{w':World}(hx:S.L id=some x)(hz:x.fz=false)(hb:x'.b=x.b)(nA:w'.os=w.os)(nB:w'.tape=w.tape)(eT:w'.output=w.output)(tR:w'.heap.size=w.heap.size)
  (bT:∀k,k≠x.b->w'.heap[k]?=w.heap[k]?) (eS:Own m w' x'):Rel C (S.setL id (some x')) m a w':=by
 have bO:=(h.own id x hx).free hz
 refine h.upd [x.b] ⟨nA,nB,eT,by omega,λk _ hk=>bT k (by simpa using hk),λk _ hk=>by
  by_cases gD:k=x.b
  ·subst gD;rw[<-hb];exact eS.wr
  ·exact hk.of_eq (bT k gD)⟩ ?_ (Mem.le_refl m) (λ_ _ _ hv=>.inl hv) ?_ ?_ ?_
 ·intro b o v hv
  have cE:b≠x.b:=λe=>by subst e;rw[bO o]at hv;cases hv
  rw[ZaY (bT b cE)];exact h.sub b o v hv
 ·intro i
  by_cases hi:i=id
  ·subst hi;simp[hx,hb]
  ·simp[Zam hi]
 ·intro i y hy
  by_cases hi:i=id
  ·subst hi;simp at hy;subst hy;exact .inr eS
  ·simp[Zam hi]at hy
   refine .inl ⟨hy,?_⟩
   simp only[List.mem_singleton]
   exact λe=>hi (h.apart i id y x hy hx e)
 ·intro b hb'
  simp only[List.mem_singleton]at hb'
  exact⟨id,x,hx,hb'.symm⟩
end
def exN:Nat->(List Value->Prop)->Prop
 | 0,k=>k []
 | n+1,k=>∃v,exN n λl=>k (v::l)
theorem ZgN:∀{n:Nat} {k:List Value->Prop},exN n k->∃l,l.length=n/\k l
 | 0,k,h=>⟨[],rfl,h⟩
 | n+1,k,h=>by
  obtain⟨v,h⟩:=h
  obtain⟨l,hl,hk⟩:=ZgN h
  exact⟨v::l,by simp[hl],hk⟩
theorem Zib:∀{n:Nat} {k:List Value->Prop} (l:List Value),l.length=n->k l->exN n k
 | 0,k,l,hl,h=>by cases l <;> simp_all [exN]
 | n+1,k,l,hl,h=>by
  cases l with
  | nil=>simp at hl
  | cons v l=>exact⟨v,Zib l (by simpa using hl) h⟩
def Zct(i:TI)(m:Mem)(b o:Nat)(k:Value->Prop):Prop:=
 bif i.agg then(bif Nat.ble i.size 16 then exN i.size λvs=>m.reads b o vs/\k (.agg vs.toArray)else ∃vs:List Value,vs.length=i.size/\m.reads b o vs/\k (.agg vs.toArray))
 else ∃v,m b o=some v/\k v
def Zb6(i:TI)(x:Box)(off:Nat)(k:Value->Prop):Prop:=
 bif i.agg then(bif x.full&&(Nat.beq x.cap i.size&&Nat.beq off 0)then k (.agg x.cs.toArray)else chk (Nat.ble (off+i.size) x.cs.length) (k (.agg ((x.cs.drop off).take i.size).toArray)))
 else Zp3 x.cs off k
def Zeg(E:Env)(x:Operand):Option Nat:=match x with
 | .tmp t=>E.hint t
 | _=>none
def ZeP(E:Env)(S:St)(m:Mem)(T:TypeId)(x:Operand)(k:Value->Prop):Prop:=match E.tt T with
 | none=>False
 | some i=>match S.ev x with
  | some (.loc id off)=>match S.L id with
   | none=>False
   | some bx=>Zb6 i bx off k
  | some (.v v)=>match Zeg E x with
   | none=>chk (Zds v) (Zct i m (ZkL v) (Zkz v) k)
   | some id=>match S.L id with
    | none=>False
    | some bx=>chk (Zds v) (ZkL v=bx.b/\Zb6 i bx (Zkz v) k)
  | _=>False
theorem Zic{P:Program}{w:World}{m:Mem}{T:TypeId}{i:TI}(ht:TOk P T i)(hs:Sub m w){b o:Nat}{k:Value->Prop}(h:Zct i m b o k):∃v,k v/\(loadVar T ⟨b,o,none⟩).run P w=.ok v w:=by
 unfold Zct at h
 cases ha:i.agg with
 | true=>
  simp only[ha,cond_true]at h
  have:∃vs:List Value,vs.length=i.size/\m.reads b o vs/\k (.agg vs.toArray):=by
   cases hc:Nat.ble i.size 16 with
   | true=>simp only[hc,cond_true]at h;exact ZgN h
   | false=>simpa only[hc,cond_false]using h
  obtain⟨vs,hl,hr,hk⟩:=this
  exact⟨_,hk,Zcs ht ha b o vs hl (λj v hv=>hs _ _ _ (hr j v hv))⟩
 | false=>
  simp only[ha,cond_false]at h
  obtain⟨v,hv,hk⟩:=h
  exact⟨v,hk,ZdL ht ha _ v (hs _ _ _ hv)⟩
theorem Zfg{P:Program}{w:World}{m:Mem}{T:TypeId}{i:TI}(ht:TOk P T i){x:Box}(hx:Own m w x){off:Nat}{k:Value->Prop}(h:Zb6 i x off k):∃v,k v/\(loadVar T ⟨x.b,off,none⟩).run P w=.ok v w:=by
 unfold Zb6 at h
 cases ha:i.agg with
 | true=>
  simp only[ha,cond_true]at h
  cases hc:(x.full&&(Nat.beq x.cap i.size&&Nat.beq off 0))with
  | true=>
   simp only[hc,cond_true]at h
   simp only[zA7]at hc
   have h0:off=0:=Nat.eq_of_beq_eq_true hc.2.2
   subst h0
   have hl:=hx.whole hc.1
   have cS:=Nat.eq_of_beq_eq_true hc.2.1
   exact⟨_,h,Zcs ht ha x.b 0 x.cs (by omega) (λj v hv=>by rw[Nat.zero_add];exact hx.cell hv)⟩
  | false=>
   simp only[hc,cond_false]at h
   obtain⟨h1,h2⟩:=Zad h
   simp only[Nat.ble_eq]at h1
   refine⟨_,h2,Zcs ht ha x.b off _ (by simp;omega) (λj v hv=>?_)⟩
   rw[List.getElem?_take]at hv
   split at hv
   ·rw[List.getElem?_drop]at hv;exact hx.cell hv
   ·cases hv
 | false=>
  simp only[ha,cond_false]at h
  obtain⟨v,hv,hk⟩:=ZfT h
  exact⟨v,hk,ZdL ht ha _ v (hx.cell hv)⟩
theorem Zfh{E:Env}(hE:E.ok){C:Ctx}{S:St}{m:Mem}{a:Act}{w:World}(hr:Rel C S m a w){T:TypeId}{x:Operand}{k:Value->Prop}(h:ZeP E S m T x k):
  ∃v,k v/\(Instr.loadAt T (a.eval x)).run E.P w=.ok v w:=by
 unfold ZeP at h
 cases ht:E.tt T with
 | none=>simp[ht]at h
 | some i=>
  simp only[ht]at h
  have bX:=hE T i ht
  cases he:S.ev x with
  | none=>simp[he]at h
  | some sv=>
   obtain⟨v,h1,h2,h3⟩:=hr.ev_val he
   cases sv with
   | v u=>
    simp only[he]at h
    simp only[St.den,Option.some.injEq]at h1
    subst h1
    cases hh:Zeg E x with
    | none=>
     simp only[hh]at h
     obtain⟨h4,h5⟩:=Zad h
     obtain⟨r,hk,bH⟩:=Zic bX hr.sub h5
     refine⟨r,hk,?_⟩
     rw[h3,ZbP h4]
     simp[Instr.loadAt,Instr.sureAddr,ptr,bH]
    | some id=>
     simp only[hh]at h
     cases hb:S.L id with
     | none=>simp[hb]at h
     | some bx=>
      simp only[hb]at h
      obtain⟨h4,h5,h6⟩:=Zad h
      obtain⟨r,hk,bH⟩:=Zfg bX (hr.own id bx hb) h6
      refine⟨r,hk,?_⟩
      rw[h3,ZbP h4,h5]
      simp[Instr.loadAt,Instr.sureAddr,ptr,bH]
   | loc id off=>
    simp only[he]at h
    simp only[St.den]at h1
    cases hb:S.L id with
    | none=>simp[hb]at h1
    | some bx=>
     simp only[hb,Option.some.injEq]at h1 h
     obtain⟨r,hk,bH⟩:=Zfg bX (hr.own id bx hb) h
     refine⟨r,hk,?_⟩
     rw[h3,<-h1]
     simp[Instr.loadAt,Instr.sureAddr,bH]
   | sl id n c=>simp[he]at h
def ZfF(E:Env)(S:St)(T:TypeId)(x:Operand)(v:Value)(k:St->Prop):Prop:=match E.tt T with
 | none=>False
 | some i=>match S.ev x with
  | some (.loc id off)=>match S.L id with
   | none=>False
   | some bx=>chk (!bx.fz&&(Nat.beq v.cells.size i.size&&Zcr v.cells.toList)) (
     bif bx.full&&(Nat.beq bx.cap i.size&&Nat.beq off 0)then k (S.setL id (some { bx with cs:=v.cells.toList }))
     else chk (Nat.ble (off+i.size) bx.cs.length) (k (S.setL id (some { bx with cs:=Zaw bx.cs off v.cells.toList }))))
  | some (.v u)=>match Zeg E x with
   | none=>False
   | some id=>match S.L id with
    | none=>False
    | some bx=>chk (Zds u&&(!bx.fz&&(Nat.beq v.cells.size i.size&&Zcr v.cells.toList))) (
      ZkL u=bx.b/\Zkz u+i.size<=bx.cs.length/\k (S.setL id (some { bx with cs:=Zaw bx.cs (Zkz u) v.cells.toList })))
  | _=>False
theorem ZjQ{E:Env}(hE:E.ok){C:Ctx}{S:St}{m:Mem}{a:Act}{w:World}(hr:Rel C S m a w){T:TypeId}{x:Operand}{v:Value}{k:St->Prop}(h:ZfF E S T x v k):
  ∃S' w',k S'/\Rel C S' m a w'/\(Instr.storeAt T (a.eval x) v).run E.P w=.ok () w':=by
 unfold ZfF at h
 cases ht:E.tt T with
 | none=>simp[ht]at h
 | some i=>
  simp only[ht]at h
  have bX:=hE T i ht
  cases he:S.ev x with
  | none=>simp[he]at h
  | some sv=>
   obtain⟨va,h1,h2,h3⟩:=hr.ev_val he
   cases sv with
   | v u=>
    simp only[he]at h
    cases hh:Zeg E x with
    | none=>simp[hh]at h
    | some id=>
     simp only[hh]at h
     cases hb:S.L id with
     | none=>simp[hb]at h
     | some bx=>
      simp only[hb]at h
      obtain⟨h4,h5,h6,h7⟩:=Zad h
      simp only[zA7,Bool.not_eq_true']at h4
      simp only[St.den,Option.some.injEq]at h1
      subst h1
      obtain⟨w',bH,e1,e2,e3,e4,e5,e6⟩:=ZdM (P:=E.P) bX (hr.own id bx hb) (Zkz u) v (Nat.eq_of_beq_eq_true h4.2.2.1) (ZeO h4.2.2.2) h6
      refine⟨_,w',h7,hr.store hb h4.2.1 rfl e1 e2 e3 e4 e5 (e6 h4.2.1),?_⟩
      rw[h3,ZbP h4.1,h5]
      simp[Instr.storeAt,Instr.sureAddr,ptr,bH]
   | loc id off=>
    simp only[he]at h
    simp only[St.den]at h1
    cases hb:S.L id with
    | none=>simp[hb]at h1
    | some bx=>
     simp only[hb,Option.some.injEq]at h1 h
     obtain⟨h4,h5⟩:=Zad h
     simp only[zA7,Bool.not_eq_true']at h4
     have bU:=Nat.eq_of_beq_eq_true h4.2.1
     have lD:=(hr.own id bx hb)
     have key:∃cs',off+i.size<=bx.cs.length/\cs'=Zaw bx.cs off v.cells.toList/\k (S.setL id (some { bx with cs:=cs' })):=by
      cases hc:(bx.full&&(Nat.beq bx.cap i.size&&Nat.beq off 0))with
      | true=>
       simp only[hc,cond_true]at h5
       simp only[zA7]at hc
       have h0:off=0:=Nat.eq_of_beq_eq_true hc.2.2
       have hl:=lD.whole hc.1
       have cS:=Nat.eq_of_beq_eq_true hc.2.1
       refine⟨_,by omega,?_,h5⟩
       rw[h0,ZjN (by simp;omega)]
      | false=>
       simp only[hc,cond_false]at h5
       obtain⟨h6,h7⟩:=Zad h5
       simp only[Nat.ble_eq]at h6
       exact⟨_,h6,rfl,h7⟩
     obtain⟨cs',cA,bZ,hk⟩:=key
     obtain⟨w',bH,e1,e2,e3,e4,e5,e6⟩:=ZdM (P:=E.P) bX lD off v bU (ZeO h4.2.2) cA
     refine⟨_,w',hk,hr.store hb h4.1 rfl e1 e2 e3 e4 e5 (by rw[bZ];exact e6 h4.1),?_⟩
     rw[h3,<-h1]
     simp[Instr.storeAt,Instr.sureAddr,bH]
   | sl id n c=>simp[he]at h
def Zeh(P:Program)(g:FuncId):Prop:=∀args w,(callFunc g args).run P w=.ok (.enter g args) w
theorem ZfV{P:Program}{g:FuncId}{fn:Func}(h:P.funcs[g]?=some fn)(hn:(fn.name == "runtime.NumGoroutine")=false) (hb:fn.body.isNone=false):Zeh P g:=λargs w=>by
 have h1:¬((fn.name == "runtime.NumGoroutine")=true):=by rw[hn];simp
 have h2:¬(fn.body.isNone=true):=by rw[hb];simp
 simp only[callFunc,Sem.run_bind,run_program,Result.andThen_ok,h,if_neg h1,if_neg h2];rfl
def CX(P:Program)(g:FuncId)(args:Array Value)(m:Mem)(X:List Box)(R:Value->Mem->List (List Value)->Prop):Prop:=
 Zeh P g/\∀w,Sub m w->(∀x∈X,Own m w x/\x.fz=false)->(X.map (·.b)).Nodup->Calls P g args w λe w'=>∃v m' css,e=.returned v/\m.le m'/\Sub m' w'/\Zfd m m' w w'/\
  Keep w.heap.size (X.map (·.b)) w w'/\css.length=X.length/\(∀(i:Nat)(x:Box)(cs:List Value),X[i]?=some x->css[i]?=some cs->Own m' w' { x with cs:=cs })/\R v m' css
def CXT(P:Program)(g:FuncId)(args:Array Value)(m:Mem)(esz:Nat)(R:Value->Mem->List (List Value)->Prop):Prop:=
 Zeh P g/\∀w,Sub m w->Calls P g args w λe w'=>∃v m',e=.returned v/\m.le m'/\Sub m' w'/\Zfd m m' w w'/\
  Keep w.heap.size [] w w'/\TokOk m' w' ⟨v,esz⟩/\(∀b,(Tok.mk v esz).blk=some b->w.heap.size<=b)/\R v m' []
theorem CX.mono{P:Program}{g:FuncId}{args:Array Value}{m:Mem}{X:List Box}{R R':Value->Mem->List (List Value)->Prop}(h:CX P g args m X R)(k:∀v m' css,m.le m'->R v m' css->R' v m' css):CX P g args m X R':=
 ⟨h.1,λw h1 h2 h3=>(h.2 w h1 h2 h3).mono λ_ _ ⟨v,m',css,a1,a2,a3,a4,a5,a6,a7,a8⟩=>⟨v,m',css,a1,a2,a3,a4,a5,a6,a7,k _ _ _ a2 a8⟩⟩
def Za2(S:St):List Nat->Option (List Box)
 | []=>some []
 | id::l=>match S.L id with
  | none=>none
  | some x=>match Za2 S l with
   | none=>none
   | some xs=>some (x::xs)
def ZaU:List Nat->Bool
 | []=>true
 | a::l=>!(l.any (Nat.beq a ·))&&ZaU l
def allL:Nat->(List (List Value)->Prop)->Prop
 | 0,k=>k []
 | n+1,k=>∀cs,allL n λl=>k (cs::l)
theorem ZfW:∀{n:Nat} {k:List (List Value)->Prop},allL n k->∀l,l.length=n->k l
 | 0,k,h,l,hl=>by cases l <;> simp_all [allL]
 | n+1,k,h,l,hl=>by
  cases l with
  | nil=>simp at hl
  | cons c l=>exact ZfW (h c) l (by simpa using hl)
def Zcp(S:St):List Nat->List Box->List (List Value)->St
 | id::ids,x::xs,cs::css=>(Zcp S ids xs css).setL id (some { x with cs:=cs })
 | _,_,_=>S
def Zui(f:Option (List Value->Mem->Value->Mem->List (List Value)->Prop))(args:List Value)(m:Mem)(R:Value->Mem->List (List Value)->Prop):Prop:=match f with
 | none=>True
 | some f=>R=f args m
def Zkv(E:Env)(S:St)(m:Mem)(rt:TypeId)(g:FuncId)(args:List Value)(ids:List Nat)(K:Value->St->Mem->Prop):Prop:=
 match Za2 S ids with
 | none=>False
 | some bxs=>chk (bxs.all (λx=>!x.fz)&&ZaU ids) (∃R,Zui E.fix args m R/\CX E.P g args.toArray m bxs R/\(∀v m' css,R v m' css->(E.sh rt).fits v=true)/\
   (E.sh rt).all λv=>∀m',m.le m'->allL ids.length λcss=>R v m' css->K v (Zcp S ids bxs css) m')
theorem ZaC:∀{l:List Nat},ZaU l=true->l.Nodup
 | [],_=>List.nodup_nil
 | a::l,h=>by
  simp only[ZaU,zA7,Bool.not_eq_true']at h
  refine List.nodup_cons.2 ⟨λhm=>?_,ZaC h.2⟩
  have:l.any (Nat.beq a ·)=true:=List.any_eq_true.2 ⟨a,hm,Nat.beq_refl a⟩
  rw[this]at h;simp at h
theorem ZbL{S:St}:∀{ids:List Nat} {bxs:List Box},Za2 S ids=some bxs->bxs.length=ids.length/\∀(i:Nat)(x:Box),bxs[i]?=some x->∃id:Nat,ids[i]?=some id/\S.L id=some x
 | [],bxs,h=>by simp[Za2]at h;subst h;simp
 | id::l,bxs,h=>by
  simp only[Za2]at h
  cases hx:S.L id with
  | none=>simp[hx]at h
  | some x=>
   simp only[hx]at h
   cases hb:Za2 S l with
   | none=>simp[hb]at h
   | some xs=>
    simp only[hb,Option.some.injEq]at h
    subst h
    obtain⟨h1,h2⟩:=ZbL hb
    refine⟨by simp[h1],λi y hy=>?_⟩
    cases i with
    | zero=>simp at hy;subst hy;exact⟨id,by simp,hx⟩
    | succ i=>simpa using h2 i y (by simpa using hy)
theorem Zfi{S:St}(dP:∀id id' x x',S.L id=some x->S.L id'=some x'->x.b=x'.b->id=id'):∀{ids:List Nat} {bxs:List Box},Za2 S ids=some bxs->ids.Nodup->(bxs.map (·.b)).Nodup
 | [],bxs,h,_=>by simp[Za2]at h;subst h;simp
 | id::l,bxs,h,hn=>by
  simp only[Za2]at h
  cases hx:S.L id with
  | none=>simp[hx]at h
  | some x=>
   simp only[hx]at h
   cases hb:Za2 S l with
   | none=>simp[hb]at h
   | some xs=>
    simp only[hb,Option.some.injEq]at h
    subst h
    obtain⟨h1,h2⟩:=List.nodup_cons.1 hn
    rw[List.map_cons,List.nodup_cons]
    refine⟨λhm=>?_,Zfi dP hb h2⟩
    obtain⟨y,hy,gd⟩:=List.mem_map.1 hm
    obtain⟨i,hi⟩:=List.getElem?_of_mem hy
    obtain⟨id',g1,g2⟩:=(ZbL hb).2 i y hi
    have:=dP _ _ _ _ g2 hx gd
    subst this
    exact h1 (zA2 g1)
theorem Zcu(S:St):∀(ids:List Nat)(bxs:List Box) (css:List (List Value)),Zcp S ids bxs css={ S with L:=(Zcp S ids bxs css).L }
 | [],_,_=>by simp[Zcp]
 | id::ids,[],_=>by simp[Zcp]
 | id::ids,x::xs,[]=>by simp[Zcp]
 | id::ids,x::xs,cs::css=>by
  have:=Zcu S ids xs css
  simp only[Zcp,St.setL]
  rw[this]
theorem ZdO{S:St}:∀{ids:List Nat} {bxs:List Box} {css:List (List Value)},ids.Nodup->bxs.length=ids.length->css.length=ids.length->∀id,
  (id ∉ ids/\(Zcp S ids bxs css).L id=S.L id)\/∃(i:Nat)(x:Box)(cs:List Value),ids[i]?=some id/\bxs[i]?=some x/\css[i]?=some cs/\(Zcp S ids bxs css).L id=some { x with cs:=cs }
 | [],bxs,css,_,h1,h2,id=>.inl ⟨by simp,by simp[Zcp]⟩
 | d::ids,[],css,_,h1,h2,id=>by simp at h1
 | d::ids,x::xs,[],_,h1,h2,id=>by simp at h2
 | d::ids,x::xs,cs::css,hn,h1,h2,id=>by
  obtain⟨iZ,kb⟩:=List.nodup_cons.1 hn
  by_cases cI:id=d
  ·subst cI
   exact .inr ⟨0,x,cs,by simp,by simp,by simp,by simp[Zcp,St.setL]⟩
  ·rcases ZdO (S:=S) kb (by simpa using h1) (by simpa using h2) id with⟨h3,h4⟩|⟨i,y,c,h3,h4,h5,h6⟩
   ·exact .inl ⟨by simp[cI,h3],by simp[Zcp,St.setL,Zam cI,h4]⟩
   ·exact .inr ⟨i+1,y,c,by simpa using h3,by simpa using h4,by simpa using h5,by simp[Zcp,St.setL,Zam cI,h6]⟩
section
variable {C:Ctx} {S:St} {m:Mem} {a:Act} {w:World}
theorem ZkR{E:Env}{rt:TypeId}{g:FuncId}{args:List Value}{ids:List Nat}{K:Value->St->Mem->Prop}(hr:Rel C S m a w)(h:Zkv E S m rt g args ids K):
  Zeh E.P g/\Calls E.P g args.toArray w λe w'=>∃v S' m',e=.returned v/\K v S' m'/\Rel C S' m' a w':=by
 unfold Zkv at h
 cases hb:Za2 S ids with
 | none=>simp[hb]at h
 | some bxs=>
  simp only[hb]at h
  obtain⟨h1,R,_,gJ,dF,bR⟩:=Zad h
  simp only[zA7,List.all_eq_true]at h1
  obtain⟨bG,cD⟩:=ZbL hb
  have dQ:=ZaC h1.2
  have eS:∀x∈bxs,Own m w x/\x.fz=false:=λx hx=>by
   obtain⟨i,hi⟩:=List.getElem?_of_mem hx
   obtain⟨id,_,hL⟩:=cD i x hi
   exact⟨(hr.own id x hL),by simpa using h1.1 x hx⟩
  have lF:(bxs.map (·.b)).Nodup:=Zfi hr.apart hb dQ
  refine⟨gJ.1,(gJ.2 w hr.sub eS lF).mono ?_⟩
  rintro e w' ⟨v,m',css,rfl,cA,cW,cF,eC,eQ,bZ,hR⟩
  have hk:=ZfW (Shape.all_fits _ _ bR v (dF _ _ _ hR) m' cA) css (by omega) hR
  refine⟨v,_,m',rfl,hk,?_⟩
  rw[Zcu]
  refine hr.upd (bxs.map (·.b)) eC cW cA cF ?_ ?_ ?_
  ·intro id
   rcases ZdO (S:=S) dQ bG (by omega:css.length=ids.length) id with⟨_,h4⟩|⟨i,x,cs,h3,h4,h5,h6⟩
   ·rw[h4]
   ·obtain⟨id',g1,g2⟩:=cD i x h4
    rw[h3]at g1;cases g1
    rw[h6,g2];rfl
  ·intro id y hy
   rcases ZdO (S:=S) dQ bG (by omega:css.length=ids.length) id with⟨h3,h4⟩|⟨i,x,cs,h3,h4,h5,h6⟩
   ·rw[h4]at hy
    refine .inl ⟨hy,λhm=>?_⟩
    obtain⟨z,hz,qO⟩:=List.mem_map.1 hm
    obtain⟨i,hi⟩:=List.getElem?_of_mem hz
    obtain⟨id',g1,g2⟩:=cD i z hi
    have:=hr.apart _ _ _ _ g2 hy qO
    subst this
    exact h3 (zA2 g1)
   ·rw[h6]at hy;cases hy
    exact .inr (bZ i x cs h4 h5)
  ·intro b hb'
   obtain⟨z,hz,rfl⟩:=List.mem_map.1 hb'
   obtain⟨i,hi⟩:=List.getElem?_of_mem hz
   obtain⟨id',_,g2⟩:=cD i z hi
   exact⟨id',z,g2,rfl⟩
end
def FOk(F:Fence):Prop:=F=Fence.wide\/∃l,F=Fence.wide.inRound l
theorem FOk.fn{F:Fence}(h:FOk F)(f:FuncId):F.fn f:=by
 rcases h with rfl|⟨l,rfl⟩ <;> trivial
theorem FOk.depth{F:Fence}(h:FOk F):F.depth=none:=by
 rcases h with rfl|⟨l,rfl⟩ <;> rfl
theorem FOk.calls{F:Fence}(h:FOk F){n:Nat}{P:Program}{f:FuncId}{args:Array Value}{w:World}{R:Ending->World->Prop}(hc:Calls P f args w R):CallsIn F n P f args w R:=by
 rcases h with rfl|⟨l,rfl⟩
 ·exact callsIn_wide.2 hc
 ·exact CallsIn.inRound l (callsIn_wide.2 hc)
def Zr0(p:Int->(Nat->Prop)->World->Prop):Prop:=∀g M M' w w',p g M w->Upd M w w'->(∀k,M' k->ZrV M w w' k)->p g M' w'
structure Frn (m:Mem)(M:Nat->Prop)(w w':World):Prop where
 size:w.heap.size<=w'.heap.size
 block:∀k,k < w.heap.size->M k->w'.heap[k]?=w.heap[k]?
 sub:Sub m w'
def Zi7(P:Program)(m:Mem)(p:Int->(Nat->Prop)->World->Prop)(Y:Nat->Int->List Value->Prop):Prop:=
 ∀(F:Fence)(n:Nat)(l:Nat)(g:Int)(v:List Value)(M:Nat->Prop)(w:World),FOk F->(∀k,M k->k < w.heap.size)->Y l g v->p g M w->Sub m w->
  YieldAt F n P l v.toArray w λe w'=>∃b,e=.returned (.bool b)/\p (if b then g+1 else -1) M w'/\Frn m M w w'
structure YOk (E:Env)(C:Ctx):Prop where
 y:∀Y,E.yl=some Y->Zi7 E.P C.m0 C.p Y
 m0:∀mm,E.m0=some mm->C.m0=mm/\∀g M w,C.p g M w->∀k,M k->Wr w k
def CY(P:Program)(g:FuncId)(args:List Value)(m:Mem)(l:Nat)(xs:List (List Value))(go stop:Value->Prop):Prop:=
 Zeh P g/\∀(p:Int->(Nat->Prop)->World->Prop),Zr0 p->∀(w:World),Sub m w->p 0 (λ_=>False) w->
  Zi7 P m p (λl' g v=>l'=l/\0<=g/\xs[g.toNat]?=some v)->
  Calls P g args.toArray w λe w'=>∃v M,e=.returned v/\(∀k,M k->k < w'.heap.size)/\((go v/\p xs.length M w')\/(stop v/\p (-1) M w'))
def Zp9(E:Env)(d:Option Tmp):Bool:=match d with
 | none=>E.effN
 | some d=>E.eff d
def ZtL(E:Env)(rt:TypeId)(g:FuncId)(args:List Value)(K:Value->Int->Prop)(S:St)(m:Mem):Prop:=match E.yl with
 | none=>False
 | some Y=>∃(l:Nat) (xs:List (List Value)) (go stop:Value->Prop),CY E.P g args m l xs go stop/\(∀(j:Nat)(v:List Value),xs[j]?=some v->Y l (S.gh+(j:Int)) v)/\
  (∀v,go v\/stop v->(E.sh rt).fits v=true)/\(E.sh rt).all λv=>(go v->K v (S.gh+(xs.length:Int)))/\(stop v->K v (-1))
theorem YOk.none{E:Env}{C:Ctx}(h:E.yl=none)(h0:∀mm,E.m0=some mm->C.m0=mm/\∀g M w,C.p g M w->∀k,M k->Wr w k):YOk E C:=
 ⟨λY hY=>(by rw[h]at hY;simp at hY),h0⟩
theorem Rel.yielded{C:Ctx}{S:St}{m:Mem}{a:Act}{w w':World}{g:Int}(h:Rel C S m a w){M:Nat->Prop}(hd:Dom C S m a w M)(hp:C.p g M w')(hf:Frn C.m0 M w w'):Rel C { S with gh:=g } m a w':=by
 have eS:∀id x,S.L id=some x->w'.heap[x.b]?=w.heap[x.b]?:=λid x hx=>hf.block _ (h.own id x hx).lt (hd.own id x hx)
 refine⟨?_,h.size,λi sv he=>?_,λid x hx=>(h.own id x hx).same (eS id x hx) (Mem.le_refl m) (h.own id x hx).free,h.apart,h.ids,λk t ht=>?_,h.tkeys,h.tapart,λb o v hv=>?_,h.le,⟨M,hp,λk hk=>Nat.lt_of_lt_of_le (hd.lt k hk) hf.size,hd.own,hd.tok,hd.mks,hd.new⟩⟩
 ·obtain⟨ms,h1,h2,h3⟩:=h.defers
  refine⟨ms,h1,h2,λD hD=>?_⟩
  rw[hf.block D (Array.getElem?_eq_some_iff.1 (h3 D hD)).1 (hd.mks D (by rw[h1];exact List.mem_map.2 ⟨D,hD,rfl⟩))];exact h3 D hD
 ·obtain⟨v,h1,h2⟩:=h.env i sv he
  exact⟨v,by cases sv <;> exact h1,h2⟩
 ·obtain⟨h1,h2⟩:=h.toks k t ht
  exact⟨h1.same (λb hb=>hf.block b (h1.lt hb) (hd.tok k t b ht hb)) (λ_ _ _ hn=>hn),h2⟩
 ·rcases hd.new b o v hv with h1|h1
  ·exact hf.sub b o v h1
  ·rw[ZaY (hf.block b (h.sub.lt hv) h1)];exact h.sub b o v hv
def Zcv(S:St):List Operand->List Nat
 | []=>[]
 | x::l=>match S.ev x with
  | some (.loc id _)=>bif (Zcv S l).any (Nat.beq id ·)||(match S.L id with
   | some x=>x.fz
   | none=>false)then Zcv S l else id::Zcv S l
  | _=>Zcv S l
def ZcV(E:Env)(d:Option Tmp):List Nat:=match d with
 | some d=>E.borrow d
 | none=>[]
def Zqa(S:St):List Nat->Mem->Mem
 | [],m=>m
 | id::l,m=>match S.L id with
  | none=>Zqa S l m
  | some x=>bif x.fz then Zqa S l m else(Zqa S l m).add x.b x.cs
def frzS(S:St):List Nat->St
 | []=>S
 | id::l=>match(frzS S l).L id with
  | none=>frzS S l
  | some x=>(frzS S l).setL id (some { x with fz:=true })
def Zqb(S:St):List Nat->Mem->Mem
 | [],m=>m
 | id::l,m=>match(frzS S l).L id with
  | none=>Zqb S l m
  | some x=>bif x.fz then Zqb S l m else(Zqb S l m).add x.b x.cs
theorem Rel.frz1{C:Ctx}{S:St}{m:Mem}{a:Act}{w:World}(h:Rel C S m a w){id:Nat}{x:Box}(hx:S.L id=some x)(hz:x.fz=false):Rel C (S.setL id (some { x with fz:=true })) (m.add x.b x.cs) a w:=by
 have ho:=h.own id x hx
 have cA:m.le (m.add x.b x.cs):=Mem.le_add (ho.free hz) _
 have hL:∀i y,(S.setL id (some { x with fz:=true })).L i=some y->(i=id/\y={ x with fz:=true })\/(i≠id/\S.L i=some y):=λi y hy=>by
  by_cases hi:i=id
  ·subst hi;simp[St.setL]at hy;exact .inl ⟨rfl,hy.symm⟩
  ·exact .inr ⟨hi,by simpa[St.setL,Zam hi]using hy⟩
 have gR:∀i y,(S.setL id (some { x with fz:=true })).L i=some y->∃z,S.L i=some z/\z.b=y.b:=λi y hy=>by
  rcases hL i y hy with⟨rfl,rfl⟩|⟨_,h⟩
  ·exact⟨x,hx,rfl⟩
  ·exact⟨y,h,rfl⟩
 refine⟨h.defers,h.size,λi sv he=>?_,λi y hy=>?_,λi i' y y' hy hy' e=>?_,λi y hy=>?_,λk t ht=>?_,h.tkeys,h.tapart,λb o v hv=>?_,mLt h.le cA,?_⟩
 ·obtain⟨v,h1,h2⟩:=h.env i sv he
  refine⟨v,?_,h2⟩
  cases sv with
  | v u=>exact h1
  | loc i off=>
   by_cases hi:i=id
   ·subst hi;simp only[St.den,hx]at h1;simpa[St.den,St.setL]using h1
   ·simpa[St.den,St.setL,Zam hi]using h1
  | sl i n c=>
   by_cases hi:i=id
   ·subst hi;simp only[St.den,hx]at h1;simpa[St.den,St.setL]using h1
   ·simpa[St.den,St.setL,Zam hi]using h1
 ·rcases hL i y hy with⟨rfl,rfl⟩|⟨hi,hy⟩
  ·exact⟨ho.cells,λhf=>by simp at hf,λ_ j v hv=>by rw[Mem.add_same];simpa using hv,ho.whole⟩
  ·have h1:=h.own i y hy
   refine h1.same rfl cA λhf o=>?_
   rw[Mem.add_other _ (λe=>hi (h.apart _ _ _ _ hy hx e))];exact h1.free hf o
 ·obtain⟨z,h1,h2⟩:=gR i y hy
  obtain⟨z',h3,h4⟩:=gR i' y' hy'
  exact h.apart _ _ _ _ h1 h3 (by rw[h2,h4,e])
 ·obtain⟨z,h1,h2⟩:=gR i y hy
  exact h.ids i z h1
 ·obtain⟨h1,h2⟩:=h.toks k t ht
  refine⟨h1.same (λ_ _=>rfl) (λb o hb hn=>?_),λb hb=>⟨λi y hy=>?_,(h2 b hb).2⟩⟩
  ·rw[Mem.add_other _ (λe=>(h2 b hb).1 id x hx e.symm)];exact hn
  ·obtain⟨z,h3,h4⟩:=gR i y hy
   rw[<-h4];exact(h2 b hb).1 i z h3
 ·by_cases hb:b=x.b
  ·subst hb;rw[Mem.add_same]at hv;exact ho.cell hv
  ·rw[Mem.add_other _ hb]at hv;exact h.sub b o v hv
 ·obtain⟨M,hd⟩:=h.dom
  refine⟨M,hd.p,hd.lt,λi y hy=>?_,hd.tok,hd.mks,λb o v hv=>?_⟩
  ·obtain⟨z,h1,h2⟩:=gR i y hy
   rw[<-h2];exact hd.own i z h1
  ·by_cases hb:b=x.b
   ·exact .inr (hb ▸ hd.own id x hx)
   ·rw[Mem.add_other _ hb]at hv;exact hd.new b o v hv
theorem Rel.frzS{C:Ctx}{S:St}{m:Mem}{a:Act}{w:World}(h:Rel C S m a w):∀l:List Nat,Rel C (frzS S l) (Zqb S l m) a w/\m.le (Zqb S l m)/\(Go.Eng.frzS S l).env=S.env
 | []=>⟨h,Mem.le_refl m,rfl⟩
 | id::l=>by
  obtain⟨h1,h2,h3⟩:=Rel.frzS h l
  simp only[Go.Eng.frzS,Zqb]
  cases hx:(Go.Eng.frzS S l).L id with
  | none=>exact⟨h1,h2,h3⟩
  | some x=>
   simp only
   cases hz:x.fz with
   | true=>
    simp only[cond_true]
    refine⟨?_,h2,h3⟩
    have e:({ x with fz:=true }:Box)=x:=by cases x;simp at hz;subst hz;rfl
    have:(Go.Eng.frzS S l).setL id (some { x with fz:=true })=Go.Eng.frzS S l:=by
     rw[e]
     unfold St.setL
     have:(λi=>bif Nat.beq i id then some x else(Go.Eng.frzS S l).L i)=(Go.Eng.frzS S l).L:=by
      funext i
      by_cases hi:i=id
      ·subst hi;simp[hx]
      ·simp[Zam hi]
     rw[this]
    rw[this];exact h1
   | false=>
    simp only[cond_false]
    exact⟨h1.frz1 hx hz,mLt h2 (Mem.le_add ((h1.own id x hx).free hz) _),h3⟩
def Zfj(E:Env)(d:Option Tmp):Bool:=match d with
 | some d=>E.frzNew.any (Nat.beq d ·)
 | none=>false
def Zde(E:Env)(d:Option Tmp):List Nat:=match d with
 | some d=>E.frzAt d
 | none=>[]
theorem Zr1(S:St):∀(l:List Nat)(id:Nat)(x:Box),S.L id=some x->∃z,(frzS S l).L id=some { x with fz:=z }/\(id∈l->z=true)
 | [],id,x,h=>⟨x.fz,h,by simp⟩
 | i::l,id,x,h=>by
  obtain⟨z,h1,h2⟩:=Zr1 S l id x h
  simp only[frzS]
  by_cases hi:id=i
  ·subst hi
   rw[h1]
   exact⟨true,by simp[St.setL],λ_=>rfl⟩
  ·cases hx:(frzS S l).L i with
   | none=>exact⟨z,h1,λhm=>h2 (by simpa[hi]using hm)⟩
   | some y=>exact⟨z,by simpa[St.setL,Zam hi]using h1,λhm=>h2 (by simpa[hi]using hm)⟩
def Zid(S:St)(m:Mem)(p:Prop):List Nat->Prop
 | []=>p
 | id::l=>match S.L id with
  | none=>Zid S m p l
  | some x=>m.reads x.b 0 x.cs->Zid S m p l
theorem Zfk{S:St}{m:Mem}{p:Prop}:∀{l:List Nat},(∀id∈l,∀x,S.L id=some x->m.reads x.b 0 x.cs)->Zid S m p l->p
 | [],_,h=>h
 | id::l,hr,h=>by
  simp only[Zid]at h
  cases hx:S.L id with
  | none=>simp only[hx]at h;exact Zfk (λi hi=>hr i (by simp[hi])) h
  | some x=>simp only[hx]at h;exact Zfk (λi hi=>hr i (by simp[hi])) (h (hr id (by simp) x hx))
theorem Zfl{S:St}{m:Mem}{p q:Prop}(nC:p->q):∀{l:List Nat},Zid S m p l->Zid S m q l
 | [],h=>nC h
 | id::l,h=>by
  simp only[Zid]at h ⊢
  cases hx:S.L id with
  | none=>simp only[hx]at h ⊢;exact Zfl nC h
  | some x=>simp only[hx]at h ⊢;exact λhr=>Zfl nC (h hr)
def ZrW(E:Env)(d:Option Tmp)(S:St)(m:Mem)(K:St->Mem->Prop):Prop:=match Zde E d with
 | []=>K S m
 | ids=>bif E.fix.isSome then False else ∀m':Mem,m.le m'->Zid S m' (K (frzS S ids) m') ids
theorem ZkC(S:St):∀l:List Nat,(frzS S l).env=S.env
 | []=>rfl
 | i::l=>by
  simp only[frzS]
  cases hx:(frzS S l).L i with
  | none=>exact ZkC S l
  | some y=>exact ZkC S l
theorem ZgO{E:Env}{d:Option Tmp}{C:Ctx}{S:St}{m:Mem}{a:Act}{w:World}{K:St->Mem->Prop}(hr:Rel C S m a w)(h:ZrW E d S m K):∃S2 m2,Rel C S2 m2 a w/\K S2 m2:=by
 unfold ZrW at h
 split at h
 ·exact⟨S,m,hr,h⟩
 ·rename_i ids _
  cases bY:E.fix with
  | some f=>simp[bY]at h
  | none=>
   simp only[bY,Option.isSome_none,cond_false]at h
   obtain⟨h1,h2,h3⟩:=hr.frzS (Zde E d)
   refine⟨_,_,h1,Zfk (λid hi x hx=>?_) (h _ h2)⟩
   obtain⟨z,g1,g2⟩:=Zr1 S (Zde E d) id x hx
   exact(h1.own id _ g1).known (g2 hi)
theorem Zie{E:Env}{d:Option Tmp}{S:St}{m:Mem}{K K':St->Mem->Prop}(h:∀S' m',S'.env=S.env->m.le m'->K S' m'->K' S' m')(hx:ZrW E d S m K):ZrW E d S m K':=by
 unfold ZrW at *
 split at hx
 ·exact h _ _ rfl (Mem.le_refl m) hx
 ·cases bY:E.fix with
  | some f=>simp[bY]at hx
  | none=>
   simp only[bY,Option.isSome_none,cond_false]at hx ⊢
   exact λm' hm=>Zfl (h _ _ (ZkC S _) hm) (hx m' hm)
def Zr2(th:Bool)(m m':Mem)(b:Nat)(p:Prop):Prop:=match th with
 | true=>m.free b->(∀(b' o:Nat)(u:Value),m' b' o=some u->m b' o=some u\/b'=b)->p
 | false=>p
theorem ZmL{th:Bool}{m m':Mem}{b:Nat}{p:Prop}(h:Zr2 th m m' b p)(hf:m.free b)(hn:∀(b' o:Nat)(u:Value),m' b' o=some u->m b' o=some u\/b'=b):p:=by
 cases th with
 | true=>exact h hf hn
 | false=>exact h
theorem ZmM{th:Bool}{m m':Mem}{b:Nat}{p q:Prop}(k:p->q)(h:Zr2 th m m' b p):Zr2 th m m' b q:=by
 cases th with
 | true=>exact λhf hn=>k (h hf hn)
 | false=>exact k h
def Zta(E:Env)(S:St)(m:Mem)(T:TypeId)(v:Value)(d:Option Tmp)(K:St->Mem->Prop):Prop:=match d with
 | none=>False
 | some d=>match E.tt T with
  | none=>False
  | some i=>match S.L d with
   | some _=>False
   | none=>chk (Nat.beq v.cells.size i.size) (∀(b:Nat)(m':Mem),m.le m'->m'.reads b 0 v.cells.toList->Zr2 E.thaw m m' b (K ((S.newL d { b:=b,cs:=v.cells.toList,T:=T,cap:=i.size,fz:=true,full:=true }).put (some d) (some (.loc d 0))) m'))
def ZoL(E:Env)(S:St)(m:Mem)(rt:TypeId)(g:FuncId)(args:List Value)(key esz:Nat)(K:Value->St->Mem->Prop):Prop:=
 ∃R,CXT E.P g args.toArray m esz R/\(∀v m' css,R v m' css->(E.sh rt).fits v=true)/\
  (E.sh rt).all λv=>∀m',m.le m'->R v m' []->K v { S with tok:=λk=>bif Nat.beq k key then some ⟨v,esz⟩ else S.tok k,tkeys:=key::S.tkeys } m'
noncomputable def Mem.off(m:Mem)(Y:Nat->Prop):Mem:=λb o=>open Classical in if Y b then none else m b o
theorem Mem.off_le(m:Mem)(Y:Nat->Prop):(m.off Y).le m:=λb o v h=>by
 unfold Mem.off at h;split at h
 ·cases h
 ·exact h
theorem Mem.off_free{m:Mem}{Y:Nat->Prop}{b:Nat}(h:Y b):(m.off Y).free b:=λo=>by unfold Mem.off;rw[if_pos h]
theorem Mem.off_at{m:Mem}{Y:Nat->Prop}{b:Nat}(h:¬Y b)(o:Nat):m.off Y b o=m b o:=by unfold Mem.off;rw[if_neg h]
def ZrJ(ts:List Tok):Prop:=∀(i j:Nat)(t t':Tok)(b:Nat),ts[i]?=some t->ts[j]?=some t'->t.blk=some b->t'.blk=some b->i=j
def CXY(P:Program)(g:FuncId)(args:Array Value)(m:Mem)(Y:Nat->Prop)(X:List Box)(ts:List Tok)(R:Value->Mem->List (List Value)->List Value->Prop):Prop:=
 Zeh P g/\∀w,Sub m w->(∀x∈X,Own m w x/\x.fz=false/\¬Y x.b)->(X.map (·.b)).Nodup->(∀t∈ts,TokOk m w t/\∀b,t.blk=some b->Y b)->ZrJ ts->(∀b,Y b->b < w.heap.size/\Wr w b)->
  Calls P g args w λe w'=>∃v m' css tvs,e=.returned v/\(m.off Y).le m'/\Sub m' w'/\(∀b o u,m' b o=some u->m b o=some u\/Y b\/(w.heap.size<=b/\Wr w' b))/\Upd (λk=>k∈X.map (·.b)\/Y k) w w'/\
   css.length=X.length/\(∀(i:Nat)(x:Box)(cs:List Value),X[i]?=some x->css[i]?=some cs->Own m' w' { x with cs:=cs })/\
   tvs.length=ts.length/\(∀(i:Nat)(t:Tok)(tv:Value),ts[i]?=some t->tvs[i]?=some tv->ZdK tv=true/\TokOk m' w' ⟨tv,t.esz⟩/\∀b,(Tok.mk tv t.esz).blk=some b->(Y b\/w.heap.size<=b)/\b ∉ X.map (·.b))/\
   ZrJ ((ts.zip tvs).map λq=>⟨q.2,q.1.esz⟩)/\R v m' css tvs
def ZtM(S:St)(k z:Nat):Tok:=match S.tok k with
 | none=>⟨.slice none 0 0,z⟩
 | some t=>t
def Zdg(S:St):List (Nat×Nat)->List Tok
 | []=>[]
 | q::l=>ZtM S q.1 q.2::Zdg S l
theorem ZhD{S:St}:∀{ks:List (Nat×Nat)},(Zdg S ks).length=ks.length/\∀(i:Nat)(t:Tok),(Zdg S ks)[i]?=some t->∃k:Nat,(ks.map (·.1))[i]?=some k/\(S.tok k=some t\/t.v=.slice none 0 0)
 | []=>⟨rfl,λi t h=>by simp[Zdg]at h⟩
 | q::l=>by
  obtain⟨h1,h2⟩:=ZhD (S:=S) (ks:=l)
  refine⟨by simp[Zdg,h1],λi t h=>?_⟩
  cases i with
  | zero=>
   simp only[Zdg,List.getElem?_cons_zero,Option.some.injEq]at h
   refine⟨q.1,rfl,?_⟩
   subst h
   unfold ZtM
   cases hx:S.tok q.1 with
   | none=>exact .inr rfl
   | some t=>exact .inl rfl
  | succ i=>simpa using h2 i t (by simpa[Zdg]using h)
def nfz(S:St)(b:Nat):List Nat->Prop->Prop
 | [],k=>k
 | id::l,k=>match S.L id with
  | none=>nfz S b l k
  | some x=>bif x.fz then(x.b≠b/\nfz S b l k)else nfz S b l k
theorem Zfm{S:St}{b:Nat}:∀{l:List Nat} {k:Prop},nfz S b l k->k/\∀id x,id∈l->S.L id=some x->x.fz=true->x.b≠b
 | [],k,h=>⟨h,λ_ _ h=>by cases h⟩
 | i::l,k,h=>by
  unfold nfz at h
  cases hL:S.L i with
  | none=>
   simp only[hL]at h
   obtain⟨h1,h2⟩:=Zfm h
   refine⟨h1,λid x hm hx hz=>?_⟩
   rcases List.mem_cons.1 hm with rfl|hm
   ·rw[hL]at hx;cases hx
   ·exact h2 id x hm hx hz
  | some y=>
   simp only[hL]at h
   cases hz:y.fz with
   | true=>
    simp only[hz,cond_true]at h
    obtain⟨h1,h2⟩:=Zfm h.2
    refine⟨h1,λid x hm hx hz'=>?_⟩
    rcases List.mem_cons.1 hm with rfl|hm
    ·rw[hL]at hx;cases hx;exact h.1
    ·exact h2 id x hm hx hz'
   | false=>
    simp only[hz,cond_false]at h
    obtain⟨h1,h2⟩:=Zfm h
    refine⟨h1,λid x hm hx hz'=>?_⟩
    rcases List.mem_cons.1 hm with rfl|hm
    ·rw[hL]at hx;cases hx;rw[hz]at hz';cases hz'
    ·exact h2 id x hm hx hz'
theorem Zif{S:St}{b:Nat}:∀{l:List Nat} {k k':Prop},(k->k')->nfz S b l k->nfz S b l k'
 | [],k,k',h,hx=>h hx
 | i::l,k,k',h,hx=>by
  unfold nfz at *
  cases hL:S.L i with
  | none=>simp only[hL]at hx ⊢;exact Zif h hx
  | some y=>
   simp only[hL]at hx ⊢
   cases hz:y.fz with
   | true=>simp only[hz,cond_true]at hx ⊢;exact⟨hx.1,Zif h hx.2⟩
   | false=>simp only[hz,cond_false]at hx ⊢;exact Zif h hx
def ntk(S:St)(b:Nat)(ks:List Nat):List Nat->Prop
 | []=>True
 | k::l=>bif ks.any (Nat.beq k ·)then ntk S b ks l else match S.tok k with
  | none=>ntk S b ks l
  | some t=>t.blk≠some b/\ntk S b ks l
theorem ZgP{S:St}{b:Nat}{ks:List Nat}:∀{l:List Nat},ntk S b ks l->∀k t,k∈l->S.tok k=some t->k ∉ ks->t.blk≠some b
 | [],_,_,_,h,_,_=>by cases h
 | i::l,h,k,t,hm,ht,hn=>by
  unfold ntk at h
  cases hb:ks.any (Nat.beq i ·)with
  | true=>
   simp only[hb,cond_true]at h
   rcases List.mem_cons.1 hm with rfl|hm
   ·obtain⟨x,h1,h2⟩:=List.any_eq_true.1 hb
    exact absurd (Nat.eq_of_beq_eq_true h2 ▸ h1) hn
   ·exact ZgP h k t hm ht hn
  | false=>
   simp only[hb,cond_false]at h
   cases hi:S.tok i with
   | none=>
    simp only[hi]at h
    rcases List.mem_cons.1 hm with rfl|hm
    ·rw[hi]at ht;cases ht
    ·exact ZgP h k t hm ht hn
   | some t'=>
    simp only[hi]at h
    rcases List.mem_cons.1 hm with rfl|hm
    ·rw[hi]at ht;cases ht;exact h.1
    ·exact ZgP h.2 k t hm ht hn
def Zqc:Nat->(List Value->Prop)->Prop
 | 0,k=>k []
 | n+1,k=>∀(a:Option Addr)(c d:Nat),Zqc n λl=>k (.slice a c d::l)
theorem Zi8:∀{n:Nat} {k:List Value->Prop},Zqc n k->∀l,l.length=n->(∀v∈l,ZdK v=true)->k l
 | 0,k,h,l,hl,_=>by cases l <;> simp_all [Zqc]
 | n+1,k,h,l,hl,hs=>by
  cases l with
  | nil=>simp at hl
  | cons c l=>
   obtain⟨a,n',c',rfl⟩:∃a n c',c=.slice a n c':=⟨_,_,_,ZbD (hs c (by simp))⟩
   exact Zi8 (h a n' c') l (by simpa using hl) (λv hv=>hs v (by simp[hv]))
theorem ZgQ:∀{n:Nat} {k k':List Value->Prop},(∀l,k l->k' l)->Zqc n k->Zqc n k'
 | 0,_,_,h,hx=>h _ hx
 | n+1,_,_,h,hx=>λa c d=>ZgQ (λl=>h _) (hx a c d)
def ZmA(tok:Nat->Option Tok):List Nat->List Tok->List Value->(Nat->Option Tok)
 | k::ks,t::ts,v::vs=>λi=>bif Nat.beq i k then some ⟨v,t.esz⟩ else ZmA tok ks ts vs i
 | _,_,_=>tok
theorem Zi9{tok:Nat->Option Tok}:∀{ks:List Nat} {ts:List Tok} {vs:List Value},ks.Nodup->ts.length=ks.length->vs.length=ks.length->∀i,
  (i ∉ ks/\ZmA tok ks ts vs i=tok i)\/∃(q:Nat)(t:Tok)(v:Value),ks[q]?=some i/\ts[q]?=some t/\vs[q]?=some v/\ZmA tok ks ts vs i=some ⟨v,t.esz⟩
 | [],ts,vs,_,_,_,i=>.inl ⟨by simp,by simp[ZmA]⟩
 | k::ks,[],vs,_,h,_,i=>by simp at h
 | k::ks,t::ts,[],_,_,h,i=>by simp at h
 | k::ks,t::ts,v::vs,hn,h1,h2,i=>by
  obtain⟨iZ,kb⟩:=List.nodup_cons.1 hn
  by_cases hi:i=k
  ·subst hi
   exact .inr ⟨0,t,v,by simp,by simp,by simp,by simp[ZmA]⟩
  ·rcases Zi9 (tok:=tok) kb (by simpa using h1) (by simpa using h2) i with⟨h3,h4⟩|⟨q,t',v',h3,h4,h5,h6⟩
   ·exact .inl ⟨by simp[hi,h3],by simp[ZmA,Zam hi,h4]⟩
   ·exact .inr ⟨q+1,t',v',by simpa using h3,by simpa using h4,by simpa using h5,by simp[ZmA,Zam hi,h6]⟩
def Zhe(E:Env)(S:St)(m:Mem)(rt:TypeId)(g:FuncId)(args:List Value)(ids:List Nat)(ks:List (Nat×Nat))(K:Value->St->Mem->Prop):Prop:=
 match Za2 S ids with
 | none=>False
 | some bxs=>match E.m0 with
   | none=>False
   | some m0=>chk (bxs.all (λx=>!x.fz)&&(ZaU ids&&ZaU (ks.map (·.1)))) (∃(Y:Nat->Prop) (R:Value->Mem->List (List Value)->List Value->Prop),CXY E.P g args.toArray m Y bxs (Zdg S ks) R/\(∀t∈Zdg S ks,∀b,t.blk=some b->Y b)/\
     (∀b,Y b->(∃t∈Zdg S ks,t.blk=some b)\/(Mem.free m0 b/\(∃o v,m b o=some v)/\nfz S b S.ids (ntk S b (ks.map (·.1)) S.tkeys)))/\(∀v m' css tvs,R v m' css tvs->(E.sh rt).fits v=true)/\
     (E.sh rt).all λv=>∀m',(m.off Y).le m'->(∀b o u,m' b o=some u->m b o=some u\/Y b\/m.free b)->allL ids.length λcss=>Zqc ks.length λtvs=>R v m' css tvs->K v { Zcp S ids bxs css with tok:=ZmA S.tok (ks.map (·.1)) (Zdg S ks) tvs,tkeys:=ks.map (·.1)++S.tkeys } m')
def ZdP(E:Env)(d:Option Tmp):Option (List (Nat×Nat)):=bif E.thaw then(match d with
 | some d=>E.lentC d
 | none=>none)else none
def ZnL(E:Env)(d:Option Tmp):Option (Option Bool):=match d with
 | none=>none
 | some d=>E.ldF d
def ldW(y:Option Bool)(v:Value)(k:Value->Prop):Prop:=match y with
 | some true=>∃l:Nat,v=.func (.yield l) #[] #[]/\k (.func (.yield l) #[] #[])
 | some false=>∃(g:Nat)(fi ca:List Value),v=.func (.func g) fi.toArray ca.toArray/\k (.func (.func g) fi.toArray ca.toArray)
 | none=>∃b:Bool,v=.bool b/\k (.bool b)
theorem ZqX{y:Option Bool}{v:Value}{k:Value->Prop}(h:ldW y v k):k v:=by
 cases y with
 | none=>obtain⟨b,rfl,h'⟩:=h;exact h'
 | some y=>cases y with
  | true=>obtain⟨l,rfl,h'⟩:=h;exact h'
  | false=>obtain⟨g,fi,ca,rfl,h'⟩:=h;exact h'
theorem ZqY{y:Option Bool}{v:Value}{k k':Value->Prop}(h:∀v,k v->k' v)(hx:ldW y v k):ldW y v k':=by
 cases y with
 | none=>obtain⟨b,rfl,h'⟩:=hx;exact⟨b,rfl,h _ h'⟩
 | some y=>cases y with
  | true=>obtain⟨l,rfl,h'⟩:=hx;exact⟨l,rfl,h _ h'⟩
  | false=>obtain⟨g,fi,ca,rfl,h'⟩:=hx;exact⟨g,fi,ca,rfl,h _ h'⟩
def ZcH(E:Env)(d:Option Tmp):Option (Nat×Nat):=match d with
 | none=>none
 | some d=>E.tokC d
def ZnM(E:Env)(d:Option Tmp):Bool:=match d with
 | none=>false
 | some d=>E.ext d
def ZuS(P:Program)(g:FuncId)(e:TypeId):Prop:=∀(n:Nat)(w:World),n<=281474976710656->∃cs:Array Value,(callFunc g #[.int .i64 n]).run P w=.ok (.value (.slice (some ⟨w.heap.size,0,none⟩) n cs.size)) (w.drew.drew.alloc (.cells cs e))/\n<=cs.size
def ZtN(E:Env)(S:St)(g:FuncId)(args:List Value)(d:Option Tmp)(K:St->SV->Prop):Prop:=match d,args with
 | some d,[v]=>(match S.L d with
  | some _=>False
  | none=>∃(n:Nat)(e:TypeId),v=.int .i64 n/\n<=281474976710656/\ZuS E.P g e/\∀(b:Nat)(cs:List Value),n<=cs.length->K (S.newL d { b:=b,cs:=cs,T:=e,cap:=cs.length,fz:=false,full:=true }) (.sl d n cs.length))
 | _,_=>False
theorem ZoM{E:Env}{S:St}{g:FuncId}{args:List Value}{d:Option Tmp}{K K':St->SV->Prop}(h:∀S' sv,S'.env=S.env->K S' sv->K' S' sv)(hx:ZtN E S g args d K):ZtN E S g args d K':=by
 unfold ZtN at *
 split at hx
 ·split at hx
  ·exact hx.elim
  ·obtain⟨n,e,h1,h2,h3,h4⟩:=hx
   exact⟨n,e,h1,h2,h3,λb cs hc=>h _ _ rfl (h4 b cs hc)⟩
 ·exact hx.elim
def ZrK(E:Env)(rt:TypeId)(d:Option Tmp)(f:Operand)(as:List Operand)(K:St->Mem->Prop)(S:St)(m:Mem):Prop:=match S.ev f with
 | some (.v (.func (.func g) first captured))=>bif ZnM E d then(bif E.fix.isSome then False else wvs S as λargs=>ZtN E S g (first.toList++args++captured.toList) d λS' sv=>K (S'.put d (some sv)) m)else match ZdP E d with
  | some ks=>bif E.fix.isSome then False else wvs S as λargs=>Zhe E S m rt g (first.toList++args++captured.toList) (Zcv S as++ZcV E d) ks λv S' m'=>K (S'.put d (some (.v v))) m'
  | none=>bif Zp9 E d then(bif E.fix.isSome then False else wvs S as λargs=>ZtL E rt g (first.toList++args++captured.toList) (λv gh=>K (({ S with gh:=gh }:St).put d (some (.v v))) m) S m)else match ZcH E d with
  | none=>wvs S as λargs=>Zkv E S m rt g (first.toList++args++captured.toList) (Zcv S as++ZcV E d) λv S' m'=>K (S'.put d (some (.v v))) m'
  | some ke=>bif E.fix.isSome then False else match Zcv S as++ZcV E d with
   | []=>wvs S as λargs=>ZoL E S m rt g (first.toList++args++captured.toList) ke.1 ke.2 λv S' m'=>K (S'.put d (some (.v v))) m'
   | _=>False
 | some (.v (.func (.yield l) first captured))=>bif E.fix.isSome then False else match E.yl,first.toList,captured.toList with
  | some Y,[],[]=>wvs S as λargs=>Y l S.gh args/\(K (({ S with gh:=S.gh+1 }:St).put d (some (.v (.bool true)))) m/\K (({ S with gh:=-1 }:St).put d (some (.v (.bool false)))) m)
  | _,_,_=>False
 | _=>False
def ZoN(E:Env)(S:St)(T:TypeId)(d:Option Tmp)(K:St->Prop):Prop:=match d with
 | none=>False
 | some d=>match E.tt T with
  | none=>False
  | some i=>match S.L d with
   | some _=>False
   | none=>∀b,K ((S.newL d { b:=b,cs:=i.zero.cells.toList,T:=T,cap:=i.size,fz:=false,full:=true }).put (some d) (some (.loc d 0)))
def Zuj(E:Env)(S:St)(T:TypeId)(v:Value)(d:Option Tmp)(K:St->Prop):Prop:=match d with
 | none=>False
 | some d=>match E.tt T with
  | none=>False
  | some i=>match S.L d with
   | some _=>False
   | none=>chk (Nat.beq v.cells.size i.size) (∀b,K ((S.newL d { b:=b,cs:=v.cells.toList,T:=T,cap:=i.size,fz:=false,full:=true }).put (some d) (some (.loc d 0))))
def Zfn(n:Nat):List Value->Bool
 | []=>true
 | v::l=>Nat.beq v.cells.size n&&Zfn n l
def Zbn:List Value->List Value
 | []=>[]
 | v::l=>v.cells.toList++Zbn l
def ZkS:Nat->List Nat->Bool
 | _,[]=>true
 | n,i::l=>Nat.beq i n&&ZkS (n+1) l
def ZdQ(E:Env)(S:St)(m:Mem)(T:TypeId)(len:Nat)(parts:List (Nat×Operand))(d:Option Tmp)(K:St->Mem->Prop):Prop:=match d with
 | none=>False
 | some d=>match E.tt T with
  | none=>False
  | some t=>match t.d with
   | .slice e=>match E.tt e with
    | none=>False
    | some i=>match S.L d with
     | some _=>False
     | none=>chk (ZkS 0 (parts.map (·.1))&&(Nat.beq parts.length len&&Nat.ble (len*i.size) 16777216)) (wvs S (parts.map (·.2)) λvs=>
       chk (Zfn i.size vs) (∀b,m.free b->K ((S.newL d { b:=b,cs:=Zbn vs,T:=e,cap:=len*i.size,fz:=true,full:=true }).put (some d) (some (.sl d len len))) (m.add b (Zbn vs))))
   | _=>False
theorem Zja(n:Nat):∀(vs:List Value)(k:Nat)(done rest:List Value),Zfn n vs=true->done.length=k*n->rest.length=vs.length*n->
  Instr.fill (λi=>some (i*n,n)) (done++rest).toArray ((List.range' k vs.length).zip vs)=some (done++Zbn vs).toArray
 | [],k,done,rest,_,_,hr=>by
  have:rest=[]:=by simpa using hr
  simp[Instr.fill,Zbn,this]
 | v::vs,k,done,rest,hs,hd,hr=>by
  simp only[Zfn,zA7]at hs
  have hv:v.cells.size=n:=Nat.eq_of_beq_eq_true hs.1
  simp only[List.length_cons]at hr
  have hm:(vs.length+1)*n=vs.length*n+n:=by rw[Nat.add_mul,Nat.one_mul]
  have bG:(done++rest).length=k*n+(vs.length*n+n):=by simp[hd,hr,hm]
  have e:=ZkB (k*n) v.cells.toList 0 (done++rest) (by simp only[bG,Array.length_toList,hv];omega)
  have e2:v.cells.zipIdx.foldl (λ(cs:Array Value)(c,j)=>cs.setIfInBounds (k*n+j) c) (done++rest).toArray=(done++v.cells.toList++rest.drop n).toArray:=by
   rw[<-Array.foldl_toList]
   simp only[Array.toList_zipIdx]
   rw[e]
   congr 1
   simp only[Nat.add_zero,Array.length_toList,hv]
   rw[<-hd,List.take_left,List.drop_append,List.drop_eq_nil_of_le (by omega)]
   simp
  have hc:(decide (v.cells.size≠n)||decide (k*n+v.cells.size > (done++rest).toArray.size))=false:=by
   simp only[hv,ne_eq,not_true_eq_false,decide_false,Bool.false_or,decide_eq_false_iff_not,List.size_toArray,bG]
   omega
  have ih:=Zja n vs (k+1) (done++v.cells.toList) (rest.drop n) hs.2 (by simp[hd,hv,Nat.add_mul]) (by simp[hr,hm])
  simp only[List.length_cons,List.range'_succ,List.zip_cons_cons,Instr.fill]
  rw[if_neg (by simp only[Bool.not_eq_true];exact hc)]
  refine Eq.trans ?_ (Eq.trans ih ?_)
  ·rw[<-e2]
  ·simp[Zbn]
theorem ZfX:∀{l:List Nat} {n:Nat},ZkS n l=true->l=List.range' n l.length
 | [],n,_=>by simp
 | i::l,n,h=>by
  simp only[ZkS,zA7]at h
  have:=Nat.eq_of_beq_eq_true h.1
  have ih:=ZfX h.2
  rw[List.length_cons,List.range'_succ,<-ih,this]
theorem ZkT{n:Nat}:∀{vs:List Value},Zfn n vs=true->(Zbn vs).length=vs.length*n
 | [],_=>by simp[Zbn]
 | v::vs,h=>by
  simp only[Zfn,zA7]at h
  have hv:v.cells.size=n:=Nat.eq_of_beq_eq_true h.1
  simp[Zbn,ZkT h.2,hv,Nat.add_mul];omega
def rowRd(m:Mem)(a:Option Addr)(xs:List Value):Prop:=xs=[]\/∃b o,a=some ⟨b,o,none⟩/\m.reads b o xs
theorem rowRd.mono{m m':Mem}{a:Option Addr}{xs:List Value}(h:rowRd m a xs)(k:m.le m'):rowRd m' a xs:=by
 rcases h with h|⟨b,o,h1,h2⟩
 ·exact .inl h
 ·exact .inr ⟨b,o,h1,h2.mono k⟩
theorem Za0{P:Program}{w:World}{m:Mem}(hs:Sub m w){a:Option Addr}{xs:List Value}(h:rowRd m a xs)(n len cap size:Nat)(hl:xs.length=n*size):
  (Builtin.firstCells size n (.slice a len cap)).run P w=.ok xs.toArray w:=by
 rcases h with rfl|⟨b,o,rfl,h2⟩
 ·cases a with
  | none=>simp[Builtin.firstCells]
  | some a=>exact run_firstCells_some w size n a len cap [] hl (by simp)
 ·exact run_firstCells_some w size n _ len cap xs hl (λj v hv=>by rw[Zbz];exact hs _ _ _ (h2 j v hv))
def Mem.addAt(m:Mem)(b o:Nat)(ys:List Value):Mem:=λb' o'=>if b'=b/\o<=o' then(match ys[o' - o]? with
 | some v=>some v
 | none=>m b' o')else m b' o'
def Zav(E:Env)(T:TypeId):Option (TypeId×TI):=match E.tt T with
 | none=>none
 | some i=>match i.d with
  | .slice e=>match E.tt e with
   | none=>none
   | some j=>some (e,j)
  | _=>none
theorem ZaE{E:Env}{T:TypeId}{e:TypeId}{j:TI}(h:Zav E T=some (e,j)):∃i,E.tt T=some i/\i.d=.slice e/\E.tt e=some j:=by
 unfold Zav at h
 cases ht:E.tt T with
 | none=>simp[ht]at h
 | some i=>
  simp only[ht]at h
  cases hd:i.d with
  | slice e'=>
   simp only[hd]at h
   cases hj:E.tt e' with
   | none=>simp[hj]at h
   | some j'=>simp[hj]at h;obtain⟨rfl,rfl⟩:=h;exact⟨i,rfl,hd,hj⟩
  | _=>simp[hd]at h
section
variable {P:Program} {w:World}
theorem Zei{T xT ty e:TypeId}{i ix:TI}{j:TI}{e':TypeId}(hi:TOk P T i)(hd:i.d=.slice e)(hx:TOk P xT ix)(qP:ix.d=.slice e')(hj:TOk P e j)(base:Option Addr)(n c:Nat)(xa:Option Addr)(n2 c2:Nat)(ys:List Value)
  (hy:(Builtin.firstCells j.size n2 (.slice xa n2 c2)).run P w=.ok ys.toArray w) (cB:n+n2<=c) {w':World}
  (bV:(match base with
   | some a=>storeCells (a.add (n*j.size)) ys
   | none=>pure ()).run P w=.ok () w'):
  (Builtin.append_ #[T,xT] ty #[.slice base n c,.slice xa n2 c2]).run P w=.ok (.slice base (n+n2) c) w':=by
 have h1:=hi.run_und (w:=w)
 have h2:=hx.run_und (w:=w)
 have h3:=hj.run_size (w:=w)
 rw[hd]at h1
 rw[qP]at h2
 cases base with
 | none=>
  simp at bV;subst bV
  simp[Builtin.append_,h1,h2,h3,Builtin.lenOf,cB,hy]
 | some a=>
  simp only at bV
  simp[Builtin.append_,h1,h2,h3,Builtin.lenOf,cB,hy,bV]
theorem ZjR{T xT ty e:TypeId}{i ix:TI}{j:TI}{e':TypeId}(hi:TOk P T i)(hd:i.d=.slice e)(hx:TOk P xT ix)(qP:ix.d=.slice e')(hj:TOk P e j)(base:Option Addr)(n c:Nat)(xa:Option Addr)(n2 c2:Nat)(xs ys:List Value)
  (eJ:(Builtin.firstCells j.size n (.slice base n c)).run P w.drew=.ok xs.toArray w.drew) (hy:(Builtin.firstCells j.size n2 (.slice xa n2 c2)).run P w.drew=.ok ys.toArray w.drew)
  (nD:c < n+n2) (tS:((n+n2:Nat):Int)<=9223372036854775807) (hb:(n+n2)*j.bytes<=140737488355328):
  (Builtin.append_ #[T,xT] ty #[.slice base n c,.slice xa n2 c2]).run P w =
   .ok (.slice (some ⟨w.heap.size,0,none⟩) (n+n2) (grownCap w (n+n2) c e)) (w.drew.alloc (.cells (xs++(ys++(Builtin.zeroCells j.zero.cells (grownCap w (n+n2) c e - (n+n2))).toList)).toArray e (0,0))):=by
 have h1:=hi.run_und (w:=w)
 have h2:=hx.run_und (w:=w)
 have h3:=hj.run_size (w:=w)
 have h4:=hj.run_zero (w:=w.drew)
 obtain⟨x,h5,_,_,h6⟩:=hj.run_info (w:=w)
 rw[hd]at h1
 rw[qP]at h2
 have hn:¬(n+n2<=c):=by omega
 have qQ:¬(9223372036854775807 < ((n:Int)+(n2:Int))):=by omega
 have qR:¬(281474976710656 < Builtin.nextslicecap (n+n2) c*x.bytes):=by
  have:=growslice_fits (need:=n+n2) (old:=c) (bytes:=j.bytes) nD hb
  rw[h6];omega
 obtain⟨x',h5',_⟩:=hj.run_info (w:=w.drew)
 simp[Builtin.append_,h1,h2,h3,Builtin.lenOf,hn,qQ,h5,h5',qR,Question.forced,eJ,hy,h4,newRow,grownCap]
 congr 2
 exact Array.ext' (by simp)
end
def TokFact(m:Mem)(a a':Option Addr)(n c:Nat):Prop:=n<=c/\(a'=none\/∃b o,a'=some ⟨b,o,none⟩/\(a=a'\/(o=0/\m.free b)))
theorem TokFact.old{m:Mem}{a a':Option Addr}{n c:Nat}(h:TokFact m a a' n c)(ha:∀b o,a=some ⟨b,o,none⟩->o=0):n<=c/\(a'=none\/∃b,a'=some ⟨b,0,none⟩/\(a=a'\/m.free b)):=by
 refine⟨h.1,h.2.imp_right ?_⟩
 rintro⟨b,o,h1,h2|⟨rfl,h2⟩⟩
 ·obtain rfl:=ha b o (h2.trans h1)
  exact⟨b,h1,.inl h2⟩
 ·exact⟨b,h1,.inr h2⟩
def ZfY(thaw cap:Bool)(m:Mem)(a a':Option Addr)(n c:Nat)(k:Prop):Prop:=bif thaw then(TokFact m a a' n c->k)else bif cap then(n<=c->k)else k
theorem Zfo{t p:Bool}{m:Mem}{a a':Option Addr}{n c:Nat}{k:Prop}(h:ZfY t p m a a' n c k)(hf:TokFact m a a' n c):k:=by
 unfold ZfY at h
 cases t with
 | true=>exact h hf
 | false=>cases p with
  | true=>exact h hf.1
  | false=>exact h
theorem ZkU{t p:Bool}{m:Mem}{a a':Option Addr}{n c:Nat}{k k':Prop}(h:k->k')(hx:ZfY t p m a a' n c k):ZfY t p m a a' n c k':=by
 unfold ZfY at *
 cases t with
 | true=>exact λhf=>h (hx hf)
 | false=>cases p with
  | true=>exact λhf=>h (hx hf)
  | false=>exact h hx
theorem ZoO{t p:Bool}{m:Mem}{a a':Option Addr}{n c:Nat}{k:Prop}(h:(t=true->TokFact m a a' n c)->(p=true->n<=c)->k):ZfY t p m a a' n c k:=by
 unfold ZfY
 cases t with
 | true=>exact λhf=>h (λ_=>hf) (λ_=>hf.1)
 | false=>cases p with
  | true=>exact λhf=>h (λe=>by cases e) (λ_=>hf)
  | false=>exact h (λe=>by cases e) (λe=>by cases e)
theorem ZjS{t p:Bool}{m:Mem}{a a':Option Addr}{n c:Nat}{k:Prop}(h:ZfY t p m a a' n c k)(hf:t=true->TokFact m a a' n c)(hn:p=true->n<=c):k:=by
 unfold ZfY at h
 cases t with
 | true=>exact h (hf rfl)
 | false=>cases p with
  | true=>exact h (hn rfl)
  | false=>exact h
theorem TokFact.mono{m M:Mem}(hm:m.le M){a a':Option Addr}{n c:Nat}(h:TokFact M a a' n c):TokFact m a a' n c:=by
 obtain⟨hn,h⟩:=h
 refine⟨hn,?_⟩
 rcases h with h|⟨b,o0,h1,h2⟩
 ·exact .inl h
 ·refine .inr ⟨b,o0,h1,h2.imp_right λhf=>⟨hf.1,λo=>?_⟩⟩
  have hf:=hf.2
  cases he:m b o with
  | none=>rfl
  | some v=>have:=hm _ _ _ he;rw[hf o]at this;cases this
def TokTail(t:Tok)(vs:Value)(esz:Nat):Prop:=∃a n c k,t=⟨.slice a n c,esz⟩/\k<=n/\vs=.slice (Zbq a k c esz) (n - k) (c - k)
theorem TokTail.refl(v:Value)(esz:Nat)(h:ZdK v=true):TokTail ⟨v,esz⟩ v esz:=by
 cases v <;> simp[ZdK]at h
 exact⟨_,_,_,0,rfl,Nat.zero_le _,rfl⟩
theorem TokOk.tail{m:Mem}{w:World}{t:Tok}{vs:Value}{esz:Nat}(h:TokOk m w t)(k:TokTail t vs esz):TokOk m w ⟨vs,esz⟩/\∀b,(Tok.mk vs esz).blk=some b->t.blk=some b:=by
 obtain⟨a,n,c,k,rfl,hk,rfl⟩:=k
 rcases h with h|⟨b,o0,n',c',cur,T,fr,hv,gi,hh,bU,eZ,cB⟩
 ·simp only[Value.slice.injEq]at h
  obtain⟨rfl,rfl,rfl⟩:=h
  obtain rfl:k=0:=by omega
  exact⟨.inl rfl,λb hb=>by simp[Tok.blk,Zbq]at hb⟩
 ·simp only[Value.slice.injEq]at hv
  obtain⟨rfl,rfl,rfl⟩:=hv
  simp only at bU cB
  have cZ:∀o,∀b',(Tok.mk (.slice (some ⟨b,o,none⟩) (n - k) (c - k)) esz).blk=some b'->(Tok.mk (.slice (some ⟨b,o0,none⟩) n c) esz).blk=some b':=λo b' hb'=>by simpa[Tok.blk]using hb'
  have mU:(n - k)*esz+k*esz=n*esz:=by rw[<-Nat.add_mul];congr 1;omega
  have mV:(c - k)*esz+k*esz=c*esz:=by rw[<-Nat.add_mul];congr 1;omega
  by_cases h0:k=0
  ·subst h0
   have e:Zbq (some (Addr.mk b o0 none)) 0 c esz=some ⟨b,o0,none⟩:=by simp[Zbq]
   rw[e]
   exact⟨.inr ⟨b,o0,_,_,cur,T,fr,rfl,by omega,hh,by simpa using bU,eZ,by simpa using cB⟩,cZ o0⟩
  ·by_cases hc:c=k
   ·have e:Zbq (some (Addr.mk b o0 none)) k c esz=some ⟨b,o0,none⟩:=by simp[Zbq,hc,Zam h0]
    rw[e]
    refine⟨.inr ⟨b,o0,_,_,cur,T,fr,rfl,by omega,hh,?_,eZ,λo jr fw=>?_⟩,cZ o0⟩
    ·simp only;omega
    ·exfalso
     have e1:c - k=0:=by omega
     have e2:n - k=0:=by omega
     rw[e1]at fw;rw[e2]at jr;omega
   ·have e:Zbq (some (Addr.mk b o0 none)) k c esz=some ⟨b,o0+k*esz,none⟩:=by
     simp only[Zbq,Zam h0,cond_false,Zam hc,Option.map_some]
     rw[Zbz]
    rw[e]
    refine⟨.inr ⟨b,o0+k*esz,_,_,cur,T,fr,rfl,by omega,hh,by simp only;omega,eZ,λo jr fw=>cB o (by simp only at jr;omega) (by simp only at fw;omega)⟩,cZ _⟩
def Zs4(E:Env)(S:St)(m:Mem)(j:TI)(key:Nat)(vs vx:Value)(K:Value->(Nat->Option Tok)->Mem->Prop):Prop:=
   (match S.tok key with
   | some t=>bif E.tails then(TokTail t vs j.size\/vs=.slice none 0 0\/slC vs < slN vs+slN vx)else(t=⟨vs,j.size⟩\/vs=.slice none 0 0\/slC vs < slN vs+slN vx)
   | none=>vs=.slice none 0 0\/slC vs < slN vs+slN vx)/\
   ∃xs ys:List Value,xs.length=slN vs*j.size/\ys.length=slN vx*j.size/\rowRd m (slA vs) xs/\rowRd m (slA vx) ys/\(∀u∈ys,u.oneCell'=true)/\
    (slN vs+slN vx)*j.bytes<=140737488355328/\slN vs+slN vx<=9223372036854775807/\
    ∀(a':Option Addr)(c':Nat)(m':Mem),m.le m'->rowRd m' a' (xs++ys)->ZfY E.thaw E.capF m (slA vs) a' (slN vs+slN vx) c' (K (.slice a' (slN vs+slN vx) c') (λk=>bif Nat.beq k key then some ⟨.slice a' (slN vs+slN vx) c',j.size⟩ else S.tok k) m')
def ZeG(E:Env)(S:St)(m:Mem)(T xT:TypeId)(key:Nat)(vs vx:Value)(K:Value->(Nat->Option Tok)->Mem->Prop):Prop:=
 match Zav E T with
 | none=>False
 | some (_,j)=>match Zav E xT with
  | none=>False
  | some (_,j')=>chk (ZdK vs&&(ZdK vx&&Nat.beq j'.size j.size)) (bif E.tails then br (Nat.beq (slN vx) 0) (chk (Nat.ble (slN vs) (slC vs)) (K vs S.tok m)) (Zs4 E S m j key vs vx K)else Zs4 E S m j key vs vx K)
section
variable {C:Ctx} {S:St} {m:Mem} {a:Act} {w:World}
theorem Rel.tokUpd(h:Rel C S m a w)(key:Nat)(t:Tok)(ht:TokOk m w t)(hB:∀b,t.blk=some b->((∀id x,S.L id=some x->x.b≠b)/\C.m0.free b)/\∀k' t',k'≠key->S.tok k'=some t'->t'.blk≠some b)(hM:∃M,Dom C S m a w M/\∀b,t.blk=some b->M b):
  Rel C { S with tok:=λk=>bif Nat.beq k key then some t else S.tok k,tkeys:=key::S.tkeys } m a w:=by
 refine⟨h.defers,h.size,?_,h.own,h.apart,h.ids,?_,?_,?_,h.sub,h.le,?_⟩
 ·intro i sv he
  obtain⟨v,h1,h2⟩:=h.env i sv he
  exact⟨v,by cases sv <;> exact h1,h2⟩
 ·intro k t' hk
  by_cases dG:k=key
  ·subst dG;simp at hk;subst hk
   exact⟨ht,λb hb=>(hB b hb).1⟩
  ·simp[Zam dG]at hk;exact h.toks k t' hk
 ·intro k t' hk
  by_cases dG:k=key
  ·subst dG;simp
  ·simp[Zam dG]at hk;simp[h.tkeys k t' hk]
 ·intro k k' t1 t2 b h1 h2 h3 h4
  by_cases hk:k=key <;> by_cases hk':k'=key
  ·rw[hk,hk']
  ·subst hk;simp at h1;subst h1
   simp[Zam hk']at h2
   exact absurd h4 ((hB b h3).2 k' t2 hk' h2)
  ·subst hk';simp at h2;subst h2
   simp[Zam hk]at h1
   exact absurd h3 ((hB b h4).2 k t1 hk h1)
  ·simp[Zam hk]at h1;simp[Zam hk']at h2
   exact h.tapart k k' t1 t2 b h1 h2 h3 h4
 ·obtain⟨M,hd,kM⟩:=hM
  refine⟨M,hd.p,hd.lt,hd.own,λk t' b hk hb=>?_,hd.mks,hd.new⟩
  by_cases dG:k=key
  ·subst dG;simp at hk;subst hk;exact kM b hb
  ·simp[Zam dG]at hk;exact hd.tok k t' b hk hb
theorem Rel.tokNil(h:Rel C S m a w)(key:Nat)(t:Tok)(ht:t.v=.slice none 0 0):Rel C { S with tok:=λk=>bif Nat.beq k key then some t else S.tok k,tkeys:=key::S.tkeys } m a w:=
 h.tokUpd key t (.inl ht) (λb hb=>by simp[Tok.blk,ht]at hb) (h.dom.imp λM d=>⟨d,λb hb=>by simp[Tok.blk,ht]at hb⟩)
theorem Rel.tkeysLe(h:Rel C S m a w){ks:List Nat}(hk:∀k,k∈S.tkeys->k∈ks):Rel C { S with tkeys:=ks } m a w:=
 ⟨h.defers,h.size,λi sv he=>by
  obtain⟨v,h1,h2⟩:=h.env i sv he
  exact⟨v,by cases sv <;> exact h1,h2⟩,h.own,h.apart,h.ids,h.toks,λk t ht=>hk k (h.tkeys k t ht),h.tapart,h.sub,h.le,h.dom.imp λM d=>⟨d.p,d.lt,d.own,d.tok,d.mks,d.new⟩⟩
theorem Zig{E:Env}(hE:E.ok){T xT ty:TypeId}{key:Nat}{vs vx:Value}{K:Value->(Nat->Option Tok)->Mem->Prop}(hr:Rel C S m a w)(h:ZeG E S m T xT key vs vx K):
  ∃v tk m' w',K v tk m'/\Rel C { S with tok:=tk,tkeys:=key::S.tkeys } m' a w'/\(Builtin.append_ #[T,xT] ty #[vs,vx]).run E.P w=.ok v w':=by
 unfold ZeG at h
 cases hT:Zav E T with
 | none=>simp[hT]at h
 | some ej=>
  obtain⟨e,j⟩:=ej
  simp only[hT]at h
  cases hX:Zav E xT with
  | none=>simp[hX]at h
  | some ej'=>
   obtain⟨e',j'⟩:=ej'
   simp only[hX]at h
   obtain⟨h1,h⟩:=Zad h
   simp only[zA7]at h1
   obtain⟨base,n,c,rfl⟩:∃base n c,vs=.slice base n c:=⟨_,_,_,ZbD h1.1⟩
   obtain⟨xa,n2,c2,rfl⟩:∃base n c,vx=.slice base n c:=⟨_,_,_,ZbD h1.2.1⟩
   have h:(n2=0/\n<=c/\K (.slice base n c) S.tok m)\/Zs4 E S m j key (.slice base n c) (.slice xa n2 c2) K:=by
    cases fA:E.tails with
    | false=>rw[fA]at h;exact .inr h
    | true=>
     rw[fA]at h
     simp only[cond_true,slN,slC]at h
     cases hz:Nat.beq n2 0 with
     | false=>rw[hz]at h;exact .inr h
     | true=>
      rw[hz]at h
      obtain⟨h3,h4⟩:=Zad h
      exact .inl ⟨Nat.eq_of_beq_eq_true hz,Nat.le_of_ble_eq_true h3,h4⟩
   rcases h with⟨kd,gi,hk⟩|h
   ·subst kd
    obtain⟨i,gQ,gS,js⟩:=ZaE hT
    obtain⟨ix,iv,kf,_⟩:=ZaE hX
    have kO:=Za0 (P:=E.P) hr.sub (xs:=[]) (a:=xa) (.inl rfl) 0 0 c2 j.size (by simp)
    have bH:=Zei (ty:=ty) (hE T i gQ) gS (hE xT ix iv) kf (hE e j js) base n c xa 0 c2 [] kO (by omega) (w':=w) (by
     cases base with
     | none=>rfl
     | some ad=>rfl)
    rw[Nat.add_zero]at bH
    refine⟨_,_,m,w,hk,?_,bH⟩
    have h0:=hr.tkeysLe (ks:=key::S.tkeys) (λk hk=>List.mem_cons_of_mem _ hk)
    exact h0
   unfold Zs4 at h
   obtain⟨bP,xs,ys,fB,dL,gT,kg,dH,jt,tS,hk⟩:=h
   simp only[slN,slA,slC]at fB dL gT kg jt tS hk bP
   obtain⟨i,gQ,gS,js⟩:=ZaE hT
   obtain⟨ix,iv,kf,_⟩:=ZaE hX
   have lG:=hE T i gQ
   have lH:=hE xT ix iv
   have cT:=hE e j js
   have hd:=gS
   have tk0:n+n2<=c->TokOk m w ⟨.slice base n c,j.size⟩/\(∀b,(Tok.mk (.slice base n c) j.size).blk=some b->(∀M,Dom C S m a w M->M b)/\((∀id x,S.L id=some x->x.b≠b)/\C.m0.free b)/\∀k' t',k'≠key->S.tok k'=some t'->t'.blk≠some b):=by
    intro cB
    cases ht:S.tok key with
    | some t=>
     simp only[ht]at bP
     have bP:TokTail t (.slice base n c) j.size\/(Value.slice base n c=.slice none 0 0)\/c < n+n2:=by
      cases fA:E.tails with
      | true=>rw[fA]at bP;exact bP
      | false=>
       rw[fA]at bP
       refine bP.imp_left λe=>?_
       rw[e];exact TokTail.refl _ _ rfl
     rcases bP with bP|bP|bP
     ·obtain⟨g1,g2⟩:=hr.toks key _ ht
      obtain⟨g3,g4⟩:=g1.tail bP
      exact⟨g3,λb hb=>⟨λM hM=>hM.tok key _ b ht (g4 b hb),g2 b (g4 b hb),λk' t' cE hk' hb'=>cE (hr.tapart k' key t' _ b hk' ht hb' (g4 b hb))⟩⟩
     ·rw[bP]
      exact⟨.inl rfl,λb hb=>by simp[Tok.blk]at hb⟩
     ·omega
    | none=>
     simp only[ht]at bP
     rcases bP with bP|bP
     ·rw[bP]
      exact⟨.inl rfl,λb hb=>by simp[Tok.blk]at hb⟩
     ·omega
   by_cases cB:n+n2<=c
   ·
    obtain⟨tk1,tk2⟩:=tk0 cB
    have kO:=Za0 (P:=E.P) hr.sub kg n2 n2 c2 j.size dL
    rcases tk1 with tT|⟨b,o0,n',c',cur,TT,fr,hv,gi,cC,gU,eI,bO⟩
    ·simp only[Value.slice.injEq]at tT
     obtain⟨rfl,rfl,rfl⟩:=tT
     have kb:n2=0:=by omega
     subst kb
     have uJ:ys=[]:=List.eq_nil_of_length_eq_zero (by simpa using dL)
     have tQ:xs=[]:=List.eq_nil_of_length_eq_zero (by simpa using fB)
     subst uJ tQ
     refine⟨_,_,m,w,Zfo (hk none 0 m (Mem.le_refl m) (.inl rfl)) ⟨by omega,.inl rfl⟩,hr.tokNil key _ rfl,?_⟩
     exact Zei lG hd lH kf cT none 0 0 xa 0 c2 [] kO (by omega) rfl
    ·simp only[Value.slice.injEq]at hv
     obtain⟨rfl,rfl,rfl⟩:=hv
     simp only at gU eI bO
     have cA:(n+n2)*j.size<=c*j.size:=Nat.mul_le_mul_right _ cB
     have uK:(n+n2)*j.size=n*j.size+n2*j.size:=Nat.add_mul _ _ _
     obtain⟨P0,nE⟩:∃P0,P0=o0+n*j.size:=⟨_,rfl⟩
     rw[<-nE]at bO
     have qS:∀(ys':List Value)(w1:World),True:=λ_ _=>trivial
     obtain⟨w',hw',bV⟩:∃w',w'=w.setRow b (cur.toList.take (P0)++ys++cur.toList.drop (P0+ys.length)).toArray/\(storeCells ((⟨b,o0,none⟩:Addr).add (n*j.size)) ys).run E.P w=.ok () w':=by
      refine⟨_,rfl,?_⟩
      rw[Zbz,<-nE]
      clear qS
      have key1:∀(vs:List Value)(q:Nat)(cur:Array Value)(w:World),w.heap[b]?=some (.cells cur TT fr)->(∀o,P0<=o->o < cur.size->¬(fr.1<=o/\o < fr.2))->P0+q+vs.length<=cur.size->(∀v∈vs,v.oneCell'=true)->
        (storeCells ⟨b,P0,none⟩ vs q).run E.P w=.ok () (w.setRow b (cur.toList.take (P0+q)++vs++cur.toList.drop (P0+q+vs.length)).toArray):=by
       intro vs
       induction vs with
       | nil=>
        intro q cur w hg _ _ _
        simp only[storeCells,List.append_nil,List.length_nil,Nat.add_zero,List.take_append_drop,Array.toArray_toList]
        rw[setRow_self w b cur TT fr hg]
        rfl
       | cons v rest ih=>
        intro q cur w hg jo hl h1
        have hi:P0+q < cur.size:=by simp at hl;omega
        have cH:w.cell? ⟨b,P0+q,none⟩=some cur[P0+q]:=by simp[World.cell?,hg,hi]
        have eI:w.frozen? ⟨b,P0+q,none⟩=false:=by
         have:=jo (P0+q) (by omega) hi
         obtain⟨lo,hi'⟩:=fr
         simp only[World.frozen?,hg,Bool.and_eq_false_iff,decide_eq_false_iff_not]
         simp only at this
         omega
        have bV:(store ((⟨b,P0,none⟩:Addr).add q) v).run E.P w=.ok () (w.setRow b (cur.setIfInBounds (P0+q) v)):=by
         rw[Zbz,run_store E.P w _ v _ (h1 v (by simp)),cH]
         simp[eI,setCell_eq_setRow w b (P0+q) cur TT fr v hg]
        have ih':=ih (q+1) (cur.setIfInBounds (P0+q) v) (w.setRow b (cur.setIfInBounds (P0+q) v)) (setRow_heap w b cur _ TT _ hg) (by simpa using jo) (by simp at hl ⊢;omega) (λx hx=>h1 x (by simp[hx]))
        simp only[storeCells,Sem.run_bind,bV,Result.andThen_ok,ih',setRow_setRow]
        congr 3
        have e:=list_seg_step cur.toList (P0+q) v rest (by simp at hl ⊢;omega)
        simpa[Array.toList_setIfInBounds,Nat.add_assoc]using e
      have:=key1 ys 0 cur w cC (λo _ h=>eI o h) (by omega) dH
      simpa using this
     have bT:∀k,k≠b->w'.heap[k]?=w.heap[k]?:=λk hk=>by rw[hw'];exact setRow_other w b k _ hk
     have cQ:w'.heap[b]?=some (.cells (cur.toList.take (P0)++ys++cur.toList.drop (P0+ys.length)).toArray TT fr):=by rw[hw'];exact setRow_heap w b cur _ TT fr cC
     have bZ:P0+ys.length<=cur.size:=by omega
     have nF:=tk2 b rfl
     have hm':m.le (m.addAt b (P0) ys):=λb' o v hv=>by
      simp only[Mem.addAt]
      split
      ·rename_i hc
       obtain⟨rfl,ho⟩:=hc
       cases hy:ys[o - P0]? with
       | none=>simp only[hy];exact hv
       | some u=>
        have aH:=(zA0 hy).1
        rw[bO o ho (by omega)]at hv;cases hv
      ·exact hv
     have eX:Sub (m.addAt b (P0) ys) w':=by
      intro b' o v hv
      simp only[Mem.addAt]at hv
      by_cases fC:b'=b
      ·subst fC
       simp only[World.cell?,cQ]
       by_cases ho:P0<=o
       ·simp only[ho,and_self,if_true]at hv
        cases hy:ys[o - P0]? with
        | none=>
         simp only[hy]at hv
         have i4:=hr.sub _ _ _ hv
         simp only[World.cell?,cC,Option.isSome_none,Bool.false_eq_true,if_false]at i4
         rw[<-Array.getElem?_toList]at i4
         have cL:=List.getElem?_eq_none_iff.1 hy
         have e1:(cur.toList.take (P0)).length=P0:=by simp;omega
         simp only[Option.isSome_none,Bool.false_eq_true,if_false,List.getElem?_toArray]
         rw[zA4 (by rw[zA1,e1];omega),List.getElem?_drop,zA1,e1,show P0+ys.length+(o - (P0+ys.length))=o by omega]
         exact i4
        | some u=>
         simp only[hy]at hv
         cases hv
         have aH:=(zA0 hy).1
         have e1:(cur.toList.take (P0)).length=P0:=by simp;omega
         simp only[Option.isSome_none,Bool.false_eq_true,if_false,List.getElem?_toArray]
         rw[List.append_assoc,zA4 (by omega),e1,zA5 aH,hy]
       ·simp only[ho,and_false,if_false]at hv
        have:=hr.sub _ _ _ hv
        simp only[World.cell?,cC]at this
        simp only[Option.isSome_none,Bool.false_eq_true,if_false,List.getElem?_toArray]at this ⊢
        rw[List.append_assoc,zA5 (by simp;omega),List.getElem?_take,if_pos (by omega)]
        simpa using this
      ·simp only[fC,false_and,if_false]at hv
       rw[ZaY (bT b' fC)];exact hr.sub _ _ _ hv
     have lI:rowRd (m.addAt b (P0) ys) (some ⟨b,o0,none⟩) (xs++ys):=by
      refine .inr ⟨b,o0,rfl,λq v hv=>?_⟩
      by_cases hq:q < xs.length
      ·rw[zA5 hq]at hv
       rcases gT with rfl|⟨b',o',uL,cM⟩
       ·simp at hq
       ·cases uL
        exact hm' _ _ _ (cM q v hv)
      ·rw[zA4 (by omega),fB]at hv
       simp only[Mem.addAt]
       rw[if_pos ⟨trivial,by omega⟩,show o0+q - P0=q - n*j.size by omega,hv]
     have kP:∀id x,S.L id=some x->x.b≠b:=nF.2.1.1
     have kQ:∃M,Dom C { S with tok:=λk=>bif Nat.beq k key then some ⟨.slice none 0 0,j.size⟩ else S.tok k,tkeys:=key::S.tkeys } (m.addAt b (P0) ys) a w' M/\M b:=by
      obtain⟨M,hd⟩:=hr.dom
      have kM:=nF.1 M hd
      have hu:Upd M w w':=⟨by rw[hw'];rfl,by rw[hw'];rfl,by rw[hw'];rfl,by rw[hw'];simp,λk hk hn=>bT k (λe=>hn (e ▸ kM)),λk _ hk=>by
       by_cases gD:k=b
       ·subst gD
        intro c1 T1 fr1 hh i hi
        rw[cQ]at hh
        simp only[Option.some.injEq,Obj.cells.injEq]at hh
        obtain⟨rfl,rfl,rfl⟩:=hh
        exact eI i (by simp at hi bZ ⊢;omega)
       ·exact hk.of_eq (bT k gD)⟩
      have h1:=hd.step (m':=m.addAt b (P0) ys) hu (λb' o v hv=>by
       simp only[Mem.addAt]at hv
       split at hv
       ·rename_i hc;exact .inr (.inl (hc.1 ▸ kM))
       ·exact .inl hv)
      refine⟨_,⟨h1.p,h1.lt,h1.own,λk t b' hk hb'=>?_,h1.mks,h1.new⟩,.inl kM⟩
      by_cases dG:k=key
      ·subst dG;simp at hk;subst hk;simp[Tok.blk]at hb'
      ·simp[Zam dG]at hk;exact h1.tok k t b' hk hb'
     have uM:Rel C { S with tok:=λk=>bif Nat.beq k key then some ⟨.slice none 0 0,j.size⟩ else S.tok k,tkeys:=key::S.tkeys } (m.addAt b (P0) ys) a w':=by
      have h0:=hr.tokNil key ⟨.slice none 0 0,j.size⟩ rfl
      refine⟨?_,h0.size,h0.env,?_,h0.apart,h0.ids,?_,h0.tkeys,h0.tapart,eX,mLt hr.le hm',kQ.imp λ_ h=>h.1⟩
      ·obtain⟨ms,g1,g2,g3⟩:=hr.defers
       refine⟨ms,g1,g2,λD hD=>?_⟩
       rw[bT D (λe=>by have:=g3 D hD;rw[e,cC]at this;cases this)];exact g3 D hD
      ·intro id x hx
       have ho:=hr.own id x hx
       have cE:=kP id x hx
       exact ho.same (bT _ cE) hm' (λhz o=>by simp only[Mem.addAt];rw[if_neg (λhc=>cE hc.1)];exact ho.free hz o)
      ·intro k t ht
       by_cases dG:k=key
       ·subst dG;simp at ht;subst ht
        exact⟨.inl rfl,λb hb=>by simp[Tok.blk]at hb⟩
       ·simp[Zam dG]at ht
        obtain⟨g1,g2⟩:=hr.toks k t ht
        have cE:∀b',t.blk=some b'->b'≠b:=λb' hb' e=>by subst e;exact nF.2.2 k t dG ht hb'
        exact⟨g1.same (λb' hb'=>bT _ (cE b' hb')) (λb' o hb' hn=>by simp only[Mem.addAt];rw[if_neg (λhc=>cE b' hb' hc.1)];exact hn),g2⟩
     have fD:=uM.tokUpd key ⟨.slice (some ⟨b,o0,none⟩) (n+n2) c,j.size⟩ (.inr ⟨b,o0,n+n2,c,_,TT,fr,rfl,cB,cQ,by
       simp only[List.size_toArray,zA1,List.length_take,List.length_drop,Array.length_toList];omega,by
       intro o aH
       refine eI o ?_
       simp only[List.size_toArray,zA1,List.length_take,List.length_drop,Array.length_toList]at aH;omega,by
       intro o ho fw
       simp only at ho fw
       simp only[Mem.addAt]
       split
       ·have:ys[o - P0]?=none:=List.getElem?_eq_none (by omega)
        rw[this];exact bO o (by omega) fw
       ·exact bO o (by omega) fw⟩) (λb' hb'=>by
       simp only[Tok.blk,Option.some.injEq]at hb'
       subst hb'
       refine⟨⟨kP,nF.2.1.2⟩,λk' t' cE hk'=>?_⟩
       simp[Zam cE]at hk'
       exact nF.2.2 k' t' cE hk') (kQ.imp λM h=>⟨h.1,λb' hb'=>by simp only[Tok.blk,Option.some.injEq]at hb';exact hb' ▸ h.2⟩)
     have qT:(λk=>bif Nat.beq k key then some (Tok.mk (.slice (some ⟨b,o0,none⟩) (n+n2) c) j.size)else(bif Nat.beq k key then some (Tok.mk (.slice none 0 0) j.size)else S.tok k))=(λk=>bif Nat.beq k key then some (Tok.mk (.slice (some ⟨b,o0,none⟩) (n+n2) c) j.size)else S.tok k):=by
      funext k;cases Nat.beq k key <;> rfl
     simp only[qT]at fD
     have fD:=fD.tkeysLe (ks:=key::S.tkeys) (by simp)
     exact⟨_,_,_,w',Zfo (hk (some ⟨b,o0,none⟩) c _ hm' lI) ⟨by omega,.inr ⟨b,o0,rfl,.inl rfl⟩⟩,fD,Zei lG hd lH kf cT _ n c xa n2 c2 ys kO cB (by simpa using bV)⟩
   ·
    have kR:Sub m w.drew:=λb o v hv=>hr.sub b o v hv
    have bY:=Za0 (P:=E.P) kR gT n n c j.size fB
    have uN:=Za0 (P:=E.P) kR kg n2 n2 c2 j.size dL
    have bH:=ZjR (ty:=ty) lG hd lH kf cT base n c xa n2 c2 xs ys bY uN (by omega) (by omega) jt
    generalize cS:grownCap w (n+n2) c e=cap at bH
    have cL:n+n2<=cap:=by rw[<-cS];exact grownCap_ge w (n+n2) c e
    generalize hz:(Builtin.zeroCells j.zero.cells (cap - (n+n2))).toList=zs at bH
    have gw:zs.length=(cap - (n+n2))*j.size:=by rw[<-hz];simp[Builtin.zeroCells,cT.zsize]
    have cM:=hr.drew
    have nG:w.drew.heap.size=w.heap.size:=rfl
    have ib:m.free w.heap.size:=λo=>by
     cases he:m w.heap.size o with
     | none=>rfl
     | some v=>have:=hr.sub.lt he;omega
    obtain⟨w',hw'⟩:∃w',w'=w.drew.alloc (.cells (xs++(ys++zs)).toArray e (0,0)):=⟨_,rfl⟩
    rw[<-hw']at bH
    have ju:w'.heap[w.heap.size]?=some (.cells (xs++(ys++zs)).toArray e (0,0)):=by rw[hw'];exact heap_alloc_new w.drew _
    have lJ:Wr w' w.heap.size:=by rw[hw'];exact Wr.new (w:=w.drew) (ZdJ _ _)
    have hm':m.le (m.add w.heap.size (xs++ys)):=Mem.le_add ib _
    have eX:Sub (m.add w.heap.size (xs++ys)) w':=by
     intro b' o v hv
     by_cases fC:b'=w.heap.size
     ·subst fC
      rw[Mem.add_same]at hv
      have aH:=(zA0 hv).1
      simp only[World.cell?,ju,Option.isSome_none,Bool.false_eq_true,if_false,List.getElem?_toArray]
      rw[<-List.append_assoc,zA5 aH,hv]
     ·rw[Mem.add_other _ fC]at hv
      have aH:=hr.sub.lt hv
      rw[ZaY (w:=w) (by rw[hw'];exact Below.heap_alloc w.drew _ b' (by simpa using aH))];exact hr.sub _ _ _ hv
    have lK:Rel C S (m.add w.heap.size (xs++ys)) a w':=by
     refine cM.world ?_ eX hm' ?_
     ·rw[hw'];exact Keep.alloc (Nat.le_refl _) (ZdJ _ _)
     ·intro b' o v hv
      by_cases fC:b'=w.heap.size
      ·exact .inr ⟨by rw[nG];omega,by rw[fC];exact lJ⟩
      ·rw[Mem.add_other _ fC]at hv;exact .inl hv
    have aH:∀k t b,S.tok k=some t->t.blk=some b->b < w.heap.size:=λk t b ht hb=>(hr.toks k t ht).1.lt hb
    have fD:=lK.tokUpd key ⟨.slice (some ⟨w.heap.size,0,none⟩) (n+n2) cap,j.size⟩ (.inr ⟨w.heap.size,0,n+n2,cap,_,e,(0,0),rfl,cL,ju,by
      simp only[List.size_toArray,zA1,fB,dL,gw,<-Nat.add_mul,Nat.zero_add]
      exact Nat.mul_le_mul_right _ (by omega),λo _=>by simp,λo ho _=>by
      simp only[Nat.zero_add]at ho
      rw[Mem.add_same]
      exact List.getElem?_eq_none (by rw[zA1,fB,dL,<-Nat.add_mul];exact ho)⟩) (λb' hb'=>by
      simp only[Tok.blk,Option.some.injEq]at hb'
      subst hb'
      refine⟨⟨λid x hx e=>?_,λo=>?_⟩,λk' t' _ hk' hb'=>?_⟩
      ·have:=(hr.own id x hx).lt;omega
      ·cases he:C.m0 w.heap.size o with
       | none=>rfl
       | some v=>have:=hr.le _ _ _ he;rw[ib o]at this;cases this
      ·have:=aH k' t' _ hk' hb';omega) (by
      obtain⟨M,hd⟩:=cM.dom
      have hk:Keep w.drew.heap.size [] w.drew w':=by rw[hw'];exact Keep.alloc (Nat.le_refl _) (ZdJ _ _)
      refine⟨_,hd.step (m':=m.add w.heap.size (xs++ys)) (hk.upd (by simp)) (λb' o v hv=>?_),λb' hb'=>?_⟩
      ·by_cases fC:b'=w.heap.size
       ·exact .inr (.inr ⟨by rw[nG];omega,eX.lt hv,by rw[fC];exact lJ⟩)
       ·rw[Mem.add_other _ fC]at hv;exact .inl hv
      ·simp only[Tok.blk,Option.some.injEq]at hb'
       subst hb'
       exact .inr ⟨by rw[nG];omega,(Array.getElem?_eq_some_iff.1 ju).1,lJ⟩)
    refine⟨_,_,_,w',Zfo (hk (some ⟨w.heap.size,0,none⟩) cap _ hm' (.inr ⟨w.heap.size,0,rfl,λq v hv=>by rw[Nat.zero_add,Mem.add_same];exact hv⟩)) ⟨by omega,.inr ⟨w.heap.size,0,rfl,.inr ⟨rfl,ib⟩⟩⟩,fD,bH⟩
end
end Go.Eng