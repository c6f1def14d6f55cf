/- The engine: a reckoner over the code of a program in Lean, with its soundness; it names no program. No condition. -/
import Derived.Test.YtiadlgdcbpnmkaaGreatDoorMb
import Derived.OrdersIn
import Derived.ProofKit
import Derived.OpenShut
import Derived.JoinedCond
import Derived.Deep.Slices
set_option linter.unusedVariables false
set_option linter.unusedSimpArgs false
namespace Go.Eng
open Go Go.RowKit
theorem wpIn_loop_n {F : Fence} {n : Nat} {P : Program} {c : Code} {Q : Exit → Act → World → Prop} {a : Act} {w : World} (Inv : Nat → Act → World → Prop) (h0 : ∃ q, Inv q a w)
  (round : ∀ q a w, Inv q a w → c.wpIn F n P (Exit.then (fun a' w' => ∃ q', q' < q ∧ Inv q' a' w') Q) a w) : (Code.loop c).wpIn F n P Q a w := by
 classical
 have hmin : ∀ a w, (∃ q, Inv q a w) → ∃ q, Inv q a w ∧ ∀ q', Inv q' a w → q ≤ q' := by
  intro a w ⟨q, hq⟩
  induction q using Nat.strongRecOn with
  | _ q ih =>
   by_cases hh : ∃ q', q' < q ∧ Inv q' a w
   ·obtain ⟨q', h1, h2⟩ := hh; exact ih q' h1 h2
   ·exact ⟨q, hq, fun q' hq' => Nat.le_of_not_lt fun hlt => hh ⟨q', hlt, hq'⟩⟩
 let μ : Act → World → Nat := fun a w => if h : ∃ q, Inv q a w then Classical.choose (hmin a w h) else 0
 have hμ : ∀ a w (h : ∃ q, Inv q a w), Inv (μ a w) a w ∧ ∀ q', Inv q' a w → μ a w ≤ q' := fun a w h => by
  have := Classical.choose_spec (hmin a w h)
  simp only [μ, h, dif_pos]; exact this
 refine wpIn_loop (fun a w => ∃ q, Inv q a w) μ h0 fun a w hI => ?_
 refine wpIn_mono (round _ a w (hμ a w hI).1) fun e a' w' he => ?_
 cases e with
 | normal =>
  obtain ⟨q', h1, h2⟩ := he
  exact ⟨⟨q', h2⟩, Nat.lt_of_le_of_lt ((hμ a' w' ⟨q', h2⟩).2 q' h2) h1⟩
 | _ => exact he
theorem stepR_scope {P : Program} {b : Frame} {a : Act} {k : List Item} {cs : List Frame} {w : World} {c : Code} : step P (lone (b.atR a (.code (.scope c) :: k)) cs w) = .next (lone (b.atR a (.code c :: .inScope c :: k)) cs w) :=
 step_lone_go (by simp [stepG, stepG.exec, Frame.atR])
theorem stepR_inScope {P : Program} {b : Frame} {a : Act} {k : List Item} {cs : List Frame} {w : World} {c : Code} : step P (lone (b.atR a (.inScope c :: k)) cs w) = .next (lone (b.atR a k) cs w) :=
 step_lone_go (by simp [stepG, stepG.exec, Frame.atR])
theorem wpIn_scope {F : Fence} {n : Nat} {P : Program} {a : Act} {w : World} {Q : Exit → Act → World → Prop} {c : Code} (h : c.wpIn F n P (fun e a w => match e with
  | .goto _ => False
  | e => Q e a w) a w) : (Code.scope c).wpIn F n P Q a w := by
 intro b k cs hro hb hr
 have h0 : (lone (b.atR a (.code (.scope c) :: k)) cs w).fenced P F := fenced_calm hb hr rfl
 obtain ⟨e, a₁, w₁, hq, harr⟩ := h b (.inScope c :: k) cs hro hb hr
 cases e with
 | normal => exact ⟨.normal, a₁, w₁, hq, .head h0 stepR_scope (StepsIn.trans harr (.one (fenced_calm hb hr rfl) stepR_inScope))⟩
 | exit id =>
  have hx : exitTo id (.inScope c :: k) = exitTo id k := by simp [exitTo]
  exact ⟨.exit id, a₁, w₁, hq, fun k' hk => .head h0 stepR_scope (harr.1 k' (by rw [hx]; exact hk)),
    fun hr' hk => let ⟨k₁, h1, h2⟩ := harr.2 hr' (by rw [hx]; exact hk); ⟨k₁, h1, .head h0 stepR_scope h2⟩⟩
 | goto l => exact hq.elim
 | ret => exact ⟨_, a₁, w₁, hq, .of_steps (.one h0 stepR_scope) harr⟩
 | panic ch => exact ⟨_, a₁, w₁, hq, .of_steps (.one h0 stepR_scope) harr⟩
 | outgrown => exact ⟨_, a₁, w₁, hq, .of_steps (.one h0 stepR_scope) harr⟩
theorem YOk.cold {E : Env} {C : Ctx} (h : YOk E C) : YOk E.cold C := ⟨h.y, h.yY, h.m0⟩
def DrawSound (E : Env) (drawW : Nat → Array Oper → (St → Mem → Prop) → St → Mem → Prop) : Prop :=
 ∀ {C : Ctx} {F : Fence} (_ : FOk F) (_ : YOk E C) (n : Nat) (id : Nat) (ops : Array Oper) {K : St → Mem → Prop} {S : St} {m : Mem} {a : Act} {w : World} {Q : Exit → Act → World → Prop},
  opsLt C.n ops.toList = true → Rel C S m a w → drawW id ops K S m → (∀ S' m' a' w', K S' m' → Rel C S' m' a' w' → Q .normal a' w') → (Code.region id ops true).wpIn F n E.P Q a w
theorem W_sound {E : Env} (hE : E.ok) {drawW : Nat → Array Oper → (St → Mem → Prop) → St → Mem → Prop} (hD : DrawMono E drawW) (hDS : DrawSound E drawW) :
  ∀ (c : Code), codeAnn E c = true → ∀ {F : Fence} (_ : FOk F) {C : Ctx} (_ : YOk E C) (_ : ROk F C) (n : Nat), codeLt C.n c = true → ∀ {S : St} {m : Mem} {a : Act} {w : World} {K : KT} {Q : Exit → Act → World → Prop}, Rel C S m a w → W E drawW c K S m →
   (∀ e S' m' a' w', K e S' m' → Rel C S' m' a' w' → Q e a' w') → c.wpIn F n E.P Q a w
 | .skip, _, F, hF, C, hY, hR, n, _, S, m, a, w, K, Q, hr, h, hK => wpIn_skip (hK _ _ _ _ _ h hr)
 | .label _, _, F, hF, C, hY, hR, n, _, S, m, a, w, K, Q, hr, h, hK => wpIn_label (hK _ _ _ _ _ h hr)
 | .exit _, _, F, hF, C, hY, hR, n, _, S, m, a, w, K, Q, hr, h, hK => wpIn_exit (hK _ _ _ _ _ h hr)
 | .ret, _, F, hF, C, hY, hR, n, _, S, m, a, w, K, Q, hr, h, hK => wpIn_ret (hK _ _ _ _ _ h hr)
 | .region id ops draw, hc, F, hF, C, hY, hR, n, hl, S, m, a, w, K, Q, hr, h, hK => by
  simp only [W] at h
  simp only [codeLt] at hl
  cases hj : E.joins id with
  | none =>
   simp only [hj] at h
   cases draw with
   | true => exact hDS hF hY n id ops hl hr (by simpa using h) (fun S' m' a' w' hk hrel => hK _ _ _ _ _ hk hrel)
   | false =>
    simp only [cond_false] at h
    exact acq_use hY hr h fun K' S' m' hr' h' fin => wpIn_region (opsW_sound hE hF hY hl _ hr' h' (fun S2 m2 a2 w2 hk hrel => by
     obtain ⟨S3, m3, k3, r3⟩ := fin S2 m2 a2 w2 hk hrel
     exact hK _ _ _ _ _ k3 r3))
  | some outs =>
   simp only [hj] at h
   obtain ⟨xs, _, h1, h2⟩ := Shape.exL_elim _ _ h
   have fin : ∀ S' m' a' w', ((S'.gh = S.gh ∧ S'.fo = S.fo ∧ restOf S' noneA S.ids = restOf S noneA S.ids ∧ restTok S' noneA S.tkeys = restTok S noneA S.tkeys ∧ valsOf S' outs fun xs' => xs' = xs) ∧ SameOut (opDsts ops.toList) S S' ∧ m.le m') → Rel C S' m' a' w' → Q .normal a' w' := by
    rintro S' m' a' w' ⟨⟨g0, gf, g1, g2, g3⟩, g4, g5⟩ hrel
    obtain ⟨xs', _, e2, e3, rfl⟩ := valsOf_sound hrel g3
    refine hK _ _ _ _ _ h2 ?_
    have hz := havoc_rel (A := ⟨outs, [], [], false⟩) (css := []) (tvs := []) hr.ok hrel gf g4 (by simpa [restOf, noneA] using g1) (by simpa [restTok, noneA] using g2) e2 rfl (by simp) rfl (by simp)
    have : havoc S (opDsts ops.toList) ⟨outs, [], [], false⟩ S'.gh xs' [] [] = { S with env := setVals (fun i => bif (opDsts ops.toList).any (Nat.beq i ·) then none else S.env i) outs xs' } := by
     simp [havoc, setCs, setToks, g0]
    rw [this] at hz
    exact hz.forget g5 hr.le (fun id x hx hf => (hr.own id x hx).known hf)
   cases draw with
   | true =>
    simp only [cond_true] at h1
    cases hlast : E.last id with
    | true => simp only [hlast, cond_true] at h1
    | false =>
    simp only [hlast, cond_false] at h1
    have h1' := hD id ops _ (fun S' m' => (S'.gh = S.gh ∧ S'.fo = S.fo ∧ restOf S' noneA S.ids = restOf S noneA S.ids ∧ restTok S' noneA S.tkeys = restTok S noneA S.tkeys ∧ valsOf S' outs fun xs' => xs' = xs) ∧ SameOut (opDsts ops.toList) S S' ∧ m.le m') S m (fun S' m' hs hm y => ⟨by have y' := sameG_elim y; rw [sameB_iff, sameT_iff] at y'; exact ⟨y'.1 rfl, y'.2⟩, hs, hm.le hlast⟩) h1
    exact hDS hF hY n id ops hl hr h1' fin
   | false =>
    simp only [cond_false] at h1
    have h1' : opsW E.cold ops (List.range ops.size) (fun S' m' => (S'.gh = S.gh ∧ S'.fo = S.fo ∧ restOf S' noneA S.ids = restOf S noneA S.ids ∧ restTok S' noneA S.tkeys = restTok S noneA S.tkeys ∧ valsOf S' outs fun xs' => xs' = xs) ∧ SameOut (opDsts ops.toList) S S' ∧ m.le m') S m :=
     opsW_mono (E := E.cold) (fun S' m' hs hm y => ⟨by have y' := sameG_elim y; rw [sameB_iff, sameT_iff] at y'; exact ⟨y'.1 rfl, y'.2⟩, hs, hm⟩) h1
    exact wpIn_region (opsW_sound (E := E.cold) hE hF hY.cold hl _ hr h1' fin)
 | .seq x y, hc, F, hF, C, hY, hR, n, hl, S, m, a, w, K, Q, hr, h, hK => by
  simp only [codeAnn, codeLt, Bool.and_eq_true] at hc hl
  simp only [W] at h
  cases hcut : E.cuts (firstRegion y) with
  | none =>
   simp only [hcut] at h
   refine wpIn_seq (W_sound hE hD hDS x hc.1.1 hF hY hR n hl.1 hr h fun e S' m' a' w' hk hrel => ?_)
   cases e with
   | normal => exact W_sound hE hD hDS y hc.1.2 hF hY hR n hl.2 hrel hk hK
   | _ => exact hK _ _ _ _ _ hk hrel
  | some A =>
   simp only [hcut] at h hc
   obtain ⟨J, h1, h2⟩ := h
   have h1' := W_mono hD x hc.1.1 (K' := fun e S' m' => (match e with
    | .normal => sameG A.gh S'.gh S.gh S'.fo S.fo (sameB (restOf S' A S.ids) (restOf S A S.ids) (sameT (restTok S' A S.tkeys) (restTok S A S.tkeys) (valsOf S' A.slots fun xs => csOf S' A.boxes fun css => toksOf S' A.toks fun tvs => J (ghs A.gh S'.gh xs) css tvs m')))
    | e => K e S' m') ∧ SameOut (dsts x) S S' ∧ leT E.thaw m m') (fun e S' m' hs hm y => ⟨y, hs, hm⟩) h1
   refine wpIn_seq (W_sound hE hD hDS x hc.1.1 hF hY hR n hl.1 hr h1' ?_)
   rintro e S' m' a' w' ⟨hk, hs, hmm⟩ hrel
   cases e with
   | normal =>
    obtain ⟨r0, rf, hk⟩ := sameG_elim hk
    obtain ⟨r1, hk⟩ := sameB_iff.1 hk
    obtain ⟨r2, hk⟩ := sameT_iff.1 hk
    obtain ⟨xs, f1, f2, f3, hk⟩ := valsOf_sound hrel hk
    obtain ⟨css, g1, g2, hk⟩ := csOf_sound hk
    obtain ⟨tvs, k1, k2, hJ⟩ := toksOf_sound hk
    have hsl : ∀ v ∈ tvs, isSl v = true := fun v hv => by
     obtain ⟨i, hi⟩ := List.getElem?_of_mem hv
     have hlt := (List.getElem?_eq_some_iff.1 hi).1
     obtain ⟨qe, hqe⟩ : ∃ qe, A.toks[i]? = some qe := ⟨_, List.getElem?_eq_getElem (by omega)⟩
     exact (k2 i qe.1 qe.2 v hqe hi).1
    exact W_sound hE hD hDS y hc.1.2 hF hY hR n hl.2 (havoc_rel hr.ok hrel rf hs r1 r2 f2 g1 g2 k1 k2) (allTs_elim (allCs_elim (Shape.allL_fits _ _ (allG_elim h2 r0) xs f1) css g1) tvs k1 hsl m' hmm hJ) hK
   | _ => exact hK _ _ _ _ _ hk hrel
 | .cond c x y, hc, F, hF, C, hY, hR, n, hl, S, m, a, w, K, Q, hr, h, hK => by
  simp only [codeAnn, codeLt, Bool.and_eq_true] at hc hl
  obtain ⟨v, hv, h⟩ := wv_elim h
  obtain ⟨h1, h2⟩ := chk_elim h
  obtain ⟨b, rfl⟩ : ∃ b, v = .bool b := ⟨_, isBool_elim h1⟩
  simp only [boolOf] at h2
  refine wpIn_cond (hr.ev hv) ?_
  cases b
  ·exact W_sound hE hD hDS y hc.2 hF hY hR n hl.2 hr h2 hK
  ·exact W_sound hE hD hDS x hc.1 hF hY hR n hl.1 hr h2 hK
 | .block id x, hc, F, hF, C, hY, hR, n, hl, S, m, a, w, K, Q, hr, h, hK => by
  simp only [codeAnn, codeLt] at hc hl
  simp only [W] at h
  refine wpIn_block (W_sound hE hD hDS x hc hF hY hR n hl hr h fun e S' m' a' w' hk hrel => ?_)
  cases e with
  | exit id' =>
   simp only at hk
   simp only [Exit.inBlock]
   cases hb : Nat.beq id' id with
   | true =>
    simp only [hb, cond_true] at hk
    rw [if_pos (Nat.eq_of_beq_eq_true hb)]
    exact hK _ _ _ _ _ hk hrel
   | false =>
    simp only [hb, cond_false] at hk
    rw [if_neg (fun e => by subst e; simp at hb)]
    exact hK _ _ _ _ _ hk hrel
  | _ => exact hK _ _ _ _ _ hk hrel
 | .loop x, hc, F, hF, C, hY, hR, n, hl, S, m, a, w, K, Q, hr, h, hK => by
  simp only [codeAnn, codeLt, Bool.and_eq_true] at hc hl
  simp only [W] at h
  obtain ⟨I, h1, h2⟩ := h
  generalize hA : E.loops (firstRegion x) = A at *
  obtain ⟨xs, f1, f2, f3, h1⟩ := valsOf_sound hr h1
  obtain ⟨css, g1, g2, h1⟩ := csOf_sound h1
  obtain ⟨tvs, k1, k2, q, h1⟩ := toksOf_sound h1
  have hok := hr.ok
  refine wpIn_loop_n (fun q a w => ∃ g xs css tvs m', (A.gh = false → g = S.gh) ∧ Shape.fitsL (A.slots.map (·.2)) xs = true ∧ css.length = A.boxes.length ∧ tvs.length = A.toks.length ∧ (∀ v ∈ tvs, isSl v = true) ∧ leT E.thaw m m' ∧ I (ghs A.gh g xs) css tvs m' q ∧ Rel C (havoc S (dsts x) A g xs css tvs) m' a w) ?_ ?_
  ·refine ⟨q, S.gh, xs, css, tvs, m, fun _ => rfl, f1, g1, k1, fun v hv => ?_, leT.refl _ m, h1, ?_⟩
   ·obtain ⟨i, hi⟩ := List.getElem?_of_mem hv
    have hlt := (List.getElem?_eq_some_iff.1 hi).1
    obtain ⟨qe, hqe⟩ : ∃ qe, A.toks[i]? = some qe := ⟨_, List.getElem?_eq_getElem (by omega)⟩
    exact (k2 i qe.1 qe.2 v hqe hi).1
   ·exact havoc_rel hok hr rfl (SameOut.refl _ _) rfl rfl f2 g1 g2 k1 k2
  ·rintro q a w ⟨g, xs, css, tvs, m', hg, f1, g1, k1, k2, hm, hI, hrel⟩
   have hb := allTs_elim (allCs_elim (Shape.allL_fits _ _ (allG_elim h2 hg) xs f1) css g1) tvs k1 k2 m' q hm hI
   have hb' := W_mono hD x hc.1 (K' := fun e S' m'' => (match e with
    | .normal => sameG A.gh S'.gh S.gh S'.fo S.fo (sameB (restOf S' A S.ids) (restOf S A S.ids) (sameT (restTok S' A S.tkeys) (restTok S A S.tkeys) (valsOf S' A.slots fun xs' => csOf S' A.boxes fun css' => toksOf S' A.toks fun tvs' => ∃ n', n' < q ∧ I (ghs A.gh S'.gh xs') css' tvs' m'' n')))
    | e => K e S' m'') ∧ SameOut (dsts x) (havoc S (dsts x) A g xs css tvs) S' ∧ leT E.thaw m' m'') (fun e S' m'' hs hm y => ⟨y, hs, hm⟩) hb
   refine W_sound hE hD hDS x hc.1 hF hY hR n hl hrel hb' ?_
   rintro e S' m'' a' w' ⟨hk, hs, hmm⟩ hrel'
   cases e with
   | normal =>
    obtain ⟨r0, rf, hk⟩ := sameG_elim hk
    obtain ⟨r1, hk⟩ := sameB_iff.1 hk
    obtain ⟨r2, hk⟩ := sameT_iff.1 hk
    obtain ⟨xs', f1', f2', f3', hk⟩ := valsOf_sound hrel' hk
    obtain ⟨css', g1', g2', hk⟩ := csOf_sound hk
    obtain ⟨tvs', k1', k2', q', hlt, hI'⟩ := toksOf_sound hk
    have hm' : leT E.thaw m m'' := leT.trans hm hmm
    refine ⟨q', hlt, S'.gh, xs', css', tvs', m'', r0, f1', g1', k1', fun v hv => ?_, hm', hI', ?_⟩
    ·obtain ⟨i, hi⟩ := List.getElem?_of_mem hv
     have hlt := (List.getElem?_eq_some_iff.1 hi).1
     obtain ⟨qe, hqe⟩ : ∃ qe, A.toks[i]? = some qe := ⟨_, List.getElem?_eq_getElem (by omega)⟩
     exact (k2' i qe.1 qe.2 v hqe hi).1
    ·have hout : SameOut (dsts x) S S' := SameOut.trans (sameOut_vals (S' := havoc S (dsts x) A g xs css tvs) hc.2 rfl) hs
     exact havoc_rel hok hrel' rf hout r1 r2 f2' g1' g2' k1' k2'
   | _ => exact hK _ _ _ _ _ hk hrel'
 | .goto _, _, F, hF, C, hY, hR, n, _, S, m, a, w, K, Q, hr, h, hK => by simp [W] at h
 | .scope x, hc, F, hF, C, hY, hR, n, hl, S, m, a, w, K, Q, hr, h, hK => by
  simp only [codeAnn, codeLt] at hc hl
  simp only [W] at h
  refine wpIn_scope (W_sound hE hD hDS x hc hF hY hR n hl hr h fun e S' m' a' w' hk hrel => ?_)
  cases e with
  | goto l => exact hk.elim
  | _ => exact hK _ _ _ _ _ hk hrel
 | .rangeFunc f ps x y, hc, F, hF, C, hY, hR, n, hl, S, m, a, w, K, Q, hr, h, hK => by
  simp only [codeAnn, codeLt, Bool.and_eq_true] at hc hl
  simp only [W] at h
  cases hrg : E.rgY (firstRegion y) with
  | true =>
   rw [hrg, cond_true] at h
   exact rangeY_sound hF hY hR n (fun hF' _ hY' hR' n' hl' => W_sound hE hD hDS x hc.1 hF' hY' hR' n' hl') (fun hF' _ hY' hR' n' hl' => W_sound hE hD hDS y hc.2 hF' hY' hR' n' hl') hl.2.1 hl.2.2 hl.1 hr h hK
  | false =>
  rw [hrg, cond_false] at h
  exact range_sound hF hY hR n (fun hF' _ hY' hR' n' hl' => W_sound hE hD hDS x hc.1 hF' hY' hR' n' hl') (fun hF' _ hY' hR' n' hl' => W_sound hE hD hDS y hc.2 hF' hY' hR' n' hl')
   (fun hk => W_mono hD x hc.1 (fun e S' m' _ hm y => ⟨y, hm⟩) hk) (fun hk => W_mono hD y hc.2 (fun e S' m' _ hm y => ⟨y, hm⟩) hk) hl.2.1 hl.2.2 hl.1 hr h hK
 | .refuse _, _, F, hF, C, hY, hR, n, _, S, m, a, w, K, Q, hr, h, hK => by simp [W] at h
end Go.Eng
namespace Go.Eng
open Go Go.RowKit
def bid (j : Nat) : Nat := 100000 + j
def argV (xs : List Box) : SV → Value
 | .v x => x
 | .loc id off => match xs[id - 100000]? with
  | some x => .pointer (some ⟨x.b, off, none⟩)
  | none => undef
 | .sl id n c => match xs[id - 100000]? with
  | some x => .slice (some ⟨x.b, 0, none⟩) n c
  | none => undef
def svOk (xs : List Box) : SV → Bool
 | .v _ => true
 | .loc id _ => Nat.ble 100000 id && Nat.blt (id - 100000) xs.length
 | .sl id _ _ => Nat.ble 100000 id && Nat.blt (id - 100000) xs.length
def svsOk (xs : List Box) : List SV → Bool
 | [] => true
 | s :: l => svOk xs s && svsOk xs l
def S0 (svs : List SV) (xs : List Box) : St :=
 {env := fun i => svs[i]?
  L := fun id => bif Nat.ble 100000 id then xs[id - 100000]? else none
  ids := (List.range xs.length).map bid
  tok := fun _ => none
  tkeys := []
  gh := 0
  fo := false }
def oneResW (E : Env) (S : St) (m : Mem) : ResultVar → (Value → Prop) → Prop
 | .tmp t, k => wv S (.tmp t) k
 | .cell t T, k => loadW E S m T (.tmp t) k
def oneRes (tmps : Array Value) : ResultVar → Sem Value
 | .tmp t => pure (tmps.getD t undef)
 | .cell a t => do loadVar t (← asAddr (tmps.getD a undef))
def resW (E : Env) (S : St) (m : Mem) : List ResultVar → (List Value → Prop) → Prop
 | [], k => k []
 | r :: l, k => oneResW E S m r fun v => resW E S m l fun vs => k (v :: vs)
def resV : List Value → Value
 | [v] => v
 | vs => .tuple vs.toArray
def outsW (S : St) : Nat → List Box → (List (List Value) → Prop) → Prop
 | _, [], k => k []
 | j, x :: xs, k => match S.L (bid j) with
  | none => False
  | some y => { y with cs := x.cs } = x ∧ outsW S (j + 1) xs fun css => k (y.cs :: css)
def frzOk (l : List Nat) : Bool := natsNodup l && l.all (fun i => Nat.blt i 100000)
def frzFW (S : St) : List Nat → Mem → Prop → Prop
 | [], _, k => k
 | id :: l, m, k => match S.L id with
  | none => frzFW S l m k
  | some x => bif x.fz then frzFW S l m k else (m.free x.b → m.k x.b = none → frzFW S l m k)
theorem frzFW_elim {C : Ctx} {S : St} {m : Mem} {a : Act} {w : World} (hr : Rel C S m a w) : ∀ {l : List Nat} {k : Prop}, frzFW S l m k → k
 | [], k, h => h
 | id :: l, k, h => by
  unfold frzFW at h
  cases hx : S.L id with
  | none => simp only [hx] at h; exact frzFW_elim hr h
  | some x =>
   simp only [hx] at h
   cases hz : x.fz with
   | true => simp only [hz, cond_true] at h; exact frzFW_elim hr h
   | false =>
    simp only [hz, cond_false] at h
    refine frzFW_elim hr (h ((hr.own id x hx).free hz) ?_)
    cases hk : m.k x.b with
    | none => rfl
    | some e =>
     exfalso
     obtain ⟨c0, T0, f0, h7⟩ := (hr.own _ _ hx).isC
     obtain ⟨es, cl, h8, _⟩ := hr.sub.k x.b e hk
     rw [h7] at h8; cases h8
def frzBW (E : Env) (S : St) (m : Mem) (k : Prop) : Prop := bif E.kF then frzFW S E.frz m k else k
theorem frzBW_elim {C : Ctx} {E : Env} {S : St} {m : Mem} {a : Act} {w : World} (hr : Rel C S m a w) {k : Prop} (h : frzBW E S m k) : k := by
 unfold frzBW at h
 cases hk : E.kF with
 | true => rw [hk] at h; exact frzFW_elim hr h
 | false => rw [hk] at h; exact h
def retW (E : Env) (rs : List ResultVar) (m0 : Mem) (xs : List Box) (R : Value → Mem → List (List Value) → Prop) (S : St) (m : Mem) : Prop :=
 resW E S m rs fun vs => outsW S 0 xs fun css => frzBW E S m (∃ m'', m0.le m'' ∧ m''.le (frzM S E.frz m) ∧ R (resV vs) m'' css)
def retK (E : Env) (rs : List ResultVar) (m0 : Mem) (xs : List Box) (R : Value → Mem → List (List Value) → Prop) : KT := fun e S m => match e with
 | .normal => retW E rs m0 xs R S m
 | .ret => retW E rs m0 xs R S m
 | _ => False
theorem loadAt_cell {P : Program} {T : TypeId} {x v : Value} {w : World} (h : (Instr.loadAt T x).run P w = .ok v w) : (do loadVar T (← asAddr x) : Sem Value).run P w = .ok v w := by
 cases x with
 | pointer p =>
  cases p with
  | none => simp [Instr.loadAt, Instr.sureAddr] at h
  | some p => simpa [Instr.loadAt, Instr.sureAddr, asAddr] using h
 | _ => simp [Instr.loadAt, Instr.sureAddr] at h
theorem blt_lt {a b : Nat} (h : Nat.blt a b = true) : a < b := Nat.le_of_ble_eq_true h
section
variable {C : Ctx} {S : St} {m : Mem} {a : Act} {w : World}
theorem oneResW_sound {E : Env} (hE : E.ok) (hr : Rel C S m a w) {r : ResultVar} {k : Value → Prop} (h : oneResW E S m r k) : ∃ v, k v ∧ (oneRes a.tmps r).run E.P w = .ok v w := by
 cases r with
 | tmp t =>
  obtain ⟨v, hv, hk⟩ := wv_elim h
  refine ⟨v, hk, ?_⟩
  have := hr.ev hv
  simp only [Act.eval] at this
  simp only [oneRes]
  rw [← this]; rfl
 | cell t T =>
  obtain ⟨v, hk, hrun⟩ := loadW_sound hE hr h
  exact ⟨v, hk, loadAt_cell hrun⟩
theorem resW_sound {E : Env} (hE : E.ok) (hr : Rel C S m a w) : ∀ {rs : List ResultVar} {k : List Value → Prop}, resW E S m rs k → ∃ vs, k vs ∧ (rs.mapM (oneRes a.tmps)).run E.P w = .ok vs w
 | [], k, h => ⟨[], h, by simp⟩
 | r :: l, k, h => by
  obtain ⟨v, h, h1⟩ := oneResW_sound hE hr h
  obtain ⟨vs, hk, h2⟩ := resW_sound hE hr h
  refine ⟨v :: vs, hk, ?_⟩
  rw [List.mapM_cons]
  simp only [Sem.run_bind, h1, Result.andThen_ok, h2]
  rfl
theorem results_run {fn : Func} {tmps : Array Value} {P : Program} {w : World} {vs : List Value} (h : (fn.results.toList.mapM (oneRes tmps)).run P w = .ok vs w) : (results fn tmps).run P w = .ok (resV vs) w := by
 have e : results fn tmps = (do
  let vs ← fn.results.mapM (oneRes tmps)
  pure (if h : vs.size = 1 then vs[0] else .tuple vs)) := rfl
 rw [e, Array.mapM_eq_mapM_toList]
 simp only [Sem.run_bind, Sem.run_map, h, Result.andThen_ok]
 match vs with
 | [] => rfl
 | [v] => rfl
 | v :: u :: l => rfl
theorem outsW_sound : ∀ {xs : List Box} {j : Nat} {k : List (List Value) → Prop}, outsW S j xs k → ∃ css, css.length = xs.length ∧ (∀ (i : Nat) (x : Box), xs[i]? = some x → ∃ cs, css[i]? = some cs ∧ S.L (bid (j + i)) = some { x with cs := cs }) ∧ k css
 | [], j, k, h => ⟨[], rfl, by simp, h⟩
 | x :: xs, j, k, h => by
  simp only [outsW] at h
  cases hL : S.L (bid j) with
  | none => simp [hL] at h
  | some y =>
   simp only [hL] at h
   obtain ⟨h1, h2⟩ := h
   obtain ⟨css, g1, g2, g3⟩ := outsW_sound h2
   refine ⟨y.cs :: css, by simp [g1], ?_, g3⟩
   intro i z hi
   cases i with
   | zero =>
    simp at hi; subst hi
    refine ⟨y.cs, by simp, ?_⟩
    rw [Nat.add_zero, hL, ← h1]
   | succ i =>
    obtain ⟨cs, h3, h4⟩ := g2 i z (by simpa using hi)
    exact ⟨cs, by simpa using h3, by rw [← h4]; congr 2; omega⟩
theorem frzM_other (S : St) (m : Mem) : ∀ {l : List Nat} {b : Nat}, (∀ id ∈ l, ∀ x, S.L id = some x → x.b ≠ b) → ∀ o, frzM S l m b o = m b o
 | [], b, _, o => rfl
 | id :: l, b, h, o => by
  have ih := frzM_other S m (l := l) (b := b) (fun i hi => h i (by simp [hi])) o
  simp only [frzM]
  cases hL : S.L id with
  | none => exact ih
  | some x =>
   simp only
   cases hz : x.fz with
   | true => exact ih
   | false =>
    simp only [cond_false]
    rw [Mem.add_other _ (Ne.symm (h id (by simp) x hL))]; exact ih
theorem frzM_ok (hr : Rel C S m a w) : ∀ {l : List Nat}, l.Nodup → m.le (frzM S l m) ∧ Sub (frzM S l m) w ∧ (∀ b o v, frzM S l m b o = some v → m b o = some v ∨ ∃ id ∈ l, ∃ x, S.L id = some x ∧ x.b = b)
 | [], _ => ⟨Mem.le_refl m, hr.sub, fun b o v h => .inl h⟩
 | id :: l, hn => by
  obtain ⟨h1, h2⟩ := List.nodup_cons.1 hn
  obtain ⟨i1, i2, i3⟩ := frzM_ok hr h2
  simp only [frzM]
  cases hL : S.L id with
  | none => exact ⟨i1, i2, fun b o v h => (i3 b o v h).imp_right fun ⟨id', h, x⟩ => ⟨id', by simp [h], x⟩⟩
  | some x =>
   simp only
   cases hz : x.fz with
   | true => exact ⟨i1, i2, fun b o v h => (i3 b o v h).imp_right fun ⟨id', h, x⟩ => ⟨id', by simp [h], x⟩⟩
   | false =>
    simp only [cond_false]
    have hown := (hr.own id x hL)
    have hfree : (frzM S l m).free x.b := fun o => by
     rw [frzM_other S m (fun i hi y hy e => h1 (hr.apart _ _ _ _ hy hL e ▸ hi))]
     exact hown.free hz o
    refine ⟨mLt i1 (Mem.le_add hfree x.cs), ?_, ?_⟩
    ·exact i2.add fun o v hv => hown.cell hv
    ·intro b o v hv
     by_cases hb : b = x.b
     ·exact .inr ⟨id, by simp, x, hL, hb.symm⟩
     ·rw [Mem.add_other _ hb] at hv
      exact (i3 b o v hv).imp_right fun ⟨id', h, x⟩ => ⟨id', by simp [h], x⟩
end
theorem frzM_k (S : St) (m : Mem) : ∀ l : List Nat, (frzM S l m).k = m.k
 | [] => rfl
 | id :: l => by
  simp only [frzM]
  cases hL : S.L id with
  | none => exact frzM_k S m l
  | some x =>
   simp only
   cases hz : x.fz with
   | true => exact frzM_k S m l
   | false => exact frzM_k S m l
theorem svsOk_spec {xs : List Box} : ∀ {l : List SV}, svsOk xs l = true → ∀ (i : Nat) s, l[i]? = some s → svOk xs s = true
 | [], _, i, s, h => by simp at h
 | x :: l, h, i, s, hs => by
  simp only [svsOk, Bool.and_eq_true] at h
  cases i with
  | zero => simp at hs; subst hs; exact h.1
  | succ i => exact svsOk_spec h.2 i s (by simpa using hs)
def fctx (n : Nat) (m : Mem) (w : World) (bs : List Nat) : Ctx where
 n := n
 m0 := m
 me := m
 mle := Mem.le_refl m
 p := fun _ M w' => Keep w.heap.size bs w w' ∧ ∀ k, M k → (w.heap.size ≤ k ∧ k < w'.heap.size ∧ Wr w' k) ∨ k ∈ bs
 st := by
  rintro g M M' w1 w2 ⟨h1, h2⟩ hu hg
  refine ⟨h1.trans ⟨hu.os, hu.tape, hu.output, hu.size, fun k hk hn => hu.block k (Nat.lt_of_lt_of_le hk h1.size) fun hm => ?_, hu.wr⟩, fun k hk => ?_⟩
  ·rcases h2 k hm with h | h
   ·omega
   ·exact hn h
  ·rcases hg k hk with h | h
   ·exact (h2 k h).imp_left fun h => ⟨h.1, Nat.lt_of_lt_of_le h.2.1 hu.size, hu.wr k h.2.1 h.2.2⟩
   ·have := h1.size; exact .inl ⟨by omega, h.2⟩
theorem fctx_wr {n : Nat} {m : Mem} {w : World} {bs : List Nat} (hb : ∀ k ∈ bs, k < w.heap.size ∧ Wr w k) {g : Int} {M : Nat → Prop} {w' : World} (h : (fctx n m w bs).p g M w') (k : Nat) (hk : M k) : Wr w' k := by
 rcases h.2 k hk with h1 | h1
 ·exact h1.2.2
 ·exact h.1.wr k (hb k h1).1 (hb k h1).2
theorem rel_start0 {C : Ctx} {w : World} {xs : List Box} {svs : List SV} (hme : C.me = C.m0) (hs : Sub C.m0 w) (hx : ∀ x ∈ xs, Own C.m0 w x ∧ x.fz = false) (hnd : (xs.map (·.b)).Nodup) (hok : svsOk xs svs = true) (hn : svs.length ≤ C.n) (hp : C.p 0 (fun k => k ∈ xs.map (·.b)) w) :
  Rel C (S0 svs xs) C.m0 { tmps := (svs.map (argV xs)).toArray ++ Array.replicate (C.n - (svs.map (argV xs)).toArray.size) undef, defers := [] } w := by
 have hL : ∀ id x, (S0 svs xs).L id = some x → 100000 ≤ id ∧ xs[id - 100000]? = some x := fun id x h => by
  simp only [S0] at h
  cases hb : Nat.ble 100000 id with
  | false => simp [hb] at h
  | true => simp only [hb, cond_true] at h; exact ⟨Nat.le_of_ble_eq_true hb, h⟩
 refine ⟨⟨[], rfl, List.nodup_nil, by simp⟩, by simp; omega, ?_, ?_, ?_, ?_, by simp [S0], by simp [S0], by simp [S0], hs, hme ▸ Mem.le_refl _, ⟨_, hp, fun k hk => ?_, fun id x hx => ?_, fun k t b ht => by simp [S0] at ht, by simp, hme ▸ NewM.refl _ _⟩, fun _ => hme⟩
 ·intro i sv he
  simp only [S0] at he
  have hlt := (List.getElem?_eq_some_iff.1 he).1
  have h1 := svsOk_spec hok i sv he
  refine ⟨argV xs sv, ?_, ?_⟩
  ·cases sv with
   | v x => rfl
   | loc id off =>
    simp only [svOk, Bool.and_eq_true] at h1
    have h2 : id - 100000 < xs.length := blt_lt h1.2
    simp [St.den, S0, argV, h1.1, List.getElem?_eq_getElem h2]
   | sl id n c =>
    simp only [svOk, Bool.and_eq_true] at h1
    have h2 : id - 100000 < xs.length := blt_lt h1.2
    simp [St.den, S0, argV, h1.1, List.getElem?_eq_getElem h2]
  ·rw [Array.getElem?_append_left (by simpa using hlt)]
   simp [he]
 ·intro id x hx'
  have := List.mem_of_getElem? (hL id x hx').2
  exact (hx x this).1
 ·intro id id' x x' h1 h2 hb
  obtain ⟨g1, g2⟩ := hL _ _ h1
  obtain ⟨g3, g4⟩ := hL _ _ h2
  have hi := (List.getElem?_eq_some_iff.1 g2).1
  have hi' := (List.getElem?_eq_some_iff.1 g4).1
  have := (List.getElem?_inj (l := xs.map (·.b)) (i := id - 100000) (j := id' - 100000) (by simpa using hi) hnd).1 (by simp [g2, g4, hb])
  omega
 ·intro id x h1
  obtain ⟨g1, g2⟩ := hL _ _ h1
  have hi := (List.getElem?_eq_some_iff.1 g2).1
  simp only [S0, List.mem_map, List.mem_range, bid]
  exact ⟨id - 100000, hi, by omega⟩
 ·obtain ⟨x, h1, h2⟩ := List.mem_map.1 hk
  exact h2 ▸ (hx x h1).1.lt
 ·exact List.mem_map.2 ⟨x, List.mem_of_getElem? (hL id x hx).2, rfl⟩
theorem rel_start {n : Nat} {w : World} {m : Mem} {xs : List Box} {svs : List SV} (hs : Sub m w) (hx : ∀ x ∈ xs, Own m w x ∧ x.fz = false) (hnd : (xs.map (·.b)).Nodup) (hok : svsOk xs svs = true) (hn : svs.length ≤ n) :
  Rel (fctx n m w (xs.map (·.b))) (S0 svs xs) m { tmps := (svs.map (argV xs)).toArray ++ Array.replicate (n - (svs.map (argV xs)).toArray.size) undef, defers := [] } w :=
 rel_start0 (C := fctx n m w (xs.map (·.b))) rfl hs hx hnd hok hn ⟨Keep.refl _ _ _, fun k hk => .inr hk⟩
theorem Rel.leave {P : Program} {C : Ctx} {S : St} {m : Mem} {fn : Func} {tmps : Array Value} {R : Ending → World → Prop} (h : ∀ a' w', a'.tmps = tmps → Rel C S m a' w' → ∃ v, (results fn tmps).run P w' = .ok v w' ∧ R (.returned v) w') :
  ∀ (ms : List Nat) (a : Act) (w : World), a.tmps = tmps → a.defers = ms.map mark → Rel C S m a w → LeavesInM Fence.wide 0 P fn tmps R a.defers .returning w
 | [], a, w, ht, hm, hr => by
  rw [hm]
  simp only [List.map_nil, LeavesInM, LeavesIn]
  exact h a w ht hr
 | D :: ms, a, w, ht, hm, hr => by
  obtain ⟨ms', q1, q2, q3⟩ := hr.defers
  have hmm : ms' = D :: ms := by
   rw [hm] at q1
   have inj : ∀ (l l' : List Nat), l.map mark = l'.map mark → l = l' := by
    intro l
    induction l with
    | nil => intro l' h; cases l' <;> simp_all
    | cons x l ih =>
     intro l' h
     cases l' with
     | nil => simp at h
     | cons y l' => simp only [List.map_cons, List.cons.injEq] at h; rw [ih l' h.2]; simpa [mark] using h.1
   exact (inj _ _ q1).symm
  subst hmm
  have hD := q3 D (by simp)
  rw [hm]
  simp only [List.map_cons, LeavesInM]
  refine ⟨by simp, .inl ⟨D, _, rfl, run_takeDeferred hD, ?_⟩⟩
  have hr' : Rel C S m { a with defers := ms.map mark } (w.putObj D (.deferred none)) := by
   obtain ⟨M, hd⟩ := hr.dom
   have hDM : M D := hd.mks D (by rw [hm]; simp)
   have hne : ∀ k, k ≠ D → (w.putObj D (.deferred none)).heap[k]? = w.heap[k]? := fun k hk => World.putObj_heap_other hk
   refine hr.swap rfl hr.le rfl rfl rfl rfl hr.env hr.size ⟨ms, rfl, (List.nodup_cons.1 q2).2, fun D' hD' => ?_⟩ (fun k o hk hm => hne k (fun e => by rw [e, hD] at hk; cases hk; cases hm)) (fun k t b ht hb => ((hr.toks k t ht).2 b hb).2) hr.fo ?_
   ·rw [hne D' (fun e => (List.nodup_cons.1 q2).1 (e ▸ hD'))]; exact q3 D' (by simp [hD'])
   ·have h1 := hd.step (m' := m) (putObj_upd (o := .deferred none) rfl hDM) (NewM.refl _ _)
    exact ⟨_, h1.p, h1.lt, h1.own, h1.tok, fun D' hD' => h1.mks D' (by rw [hm]; exact List.mem_cons_of_mem _ hD'), h1.new⟩
  exact Rel.leave h ms { a with defers := ms.map mark } _ ht rfl hr'
theorem CX_of_W {E : Env} (hE : E.ok) {drawW : Nat → Array Oper → (St → Mem → Prop) → St → Mem → Prop} (hD : DrawMono E drawW) (hDS : DrawSound E drawW) {g : FuncId} {fn : Func} {c : Code}
  (hf : E.P.funcs[g]? = some fn) (hn : (fn.name == "runtime.NumGoroutine") = false) (hb : fn.body = some c) (hc : codeAnn E c = true) (hl : codeLt fn.ntmps c = true) (hz : frzOk E.frz = true) (hyl : E.yl = none ∧ E.ylY = none)
  {m : Mem} (hm0 : ∀ mm, E.m0 = some mm → m = mm) {R : Value → Mem → List (List Value) → Prop} (svs : List SV) (xs : List Box) (hlen : Nat.ble svs.length fn.ntmps = true) (hok : svsOk xs svs = true)
  (h : W E drawW c (retK E fn.results.toList m xs R) (S0 svs xs) m) : CX E.P g (svs.map (argV xs)).toArray m xs R := by
 refine ⟨enters_of hf hn (by simp [hb]), fun w hs hx hnd => ?_⟩
 have hrel := rel_start (n := fn.ntmps) hs hx hnd hok (Nat.le_of_ble_eq_true hlen)
 refine callsIn_wide.1 (callsIn_of_wp_marks (F := Fence.wide) (n := 0) hf hb trivial ?_)
 refine W_sound hE hD hDS c hc (.inl rfl) (YOk.none hyl.1 hyl.2 (fun mm hmm => ⟨hm0 mm hmm, fun g M w' hp k hk => fctx_wr (fun k hk => by
  obtain ⟨x, h1, rfl⟩ := List.mem_map.1 hk
  exact ⟨(hx x h1).1.lt, (hx x h1).1.wr⟩) hp k hk⟩)) (fun l hl => by cases hl) 0 hl hrel h ?_
 have key : ∀ S' m' a' w', retW E fn.results.toList m xs R S' m' → Rel (fctx fn.ntmps m w (xs.map (·.b))) S' m' a' w' → LeavesInM Fence.wide 0 E.P fn a'.tmps (fun e w' =>
   ∃ v_1 m'_1 css, e = Ending.returned v_1 ∧ m.le m'_1 ∧ Sub m'_1 w' ∧ NewOnly m m'_1 w w' ∧ Keep w.heap.size (xs.map (·.b)) w w' ∧ css.length = xs.length ∧ (∀ (i : Nat) (x : Box) (cs : List Value), xs[i]? = some x → css[i]? = some cs → Own m'_1 w' { x with cs := cs }) ∧ R v_1 m'_1 css) a'.defers .returning w' := by
  intro S' m' a' w' hk hr
  obtain ⟨ms, q1, _, _⟩ := hr.defers
  refine Rel.leave ?_ ms a' w' rfl q1 hr
  clear hr q1
  intro a2 w2 ht hr
  rw [← ht]
  obtain ⟨vs, hk, hrun⟩ := resW_sound hE hr hk
  obtain ⟨css, h1, h2, hk⟩ := outsW_sound hk
  obtain ⟨m'', h3, h4, h5⟩ := frzBW_elim hr hk
  obtain ⟨M, hd⟩ := hr.dom
  refine ⟨resV vs, results_run hrun, resV vs, m'', css, rfl, h3, ?_, ?_, hd.p.1, h1, ?_, h5⟩
  all_goals simp only [frzOk, Bool.and_eq_true] at hz
  all_goals have hzn := natsNodup_spec hz.1
  all_goals obtain ⟨f1, f2, f3⟩ := frzM_ok hr hzn
  ·exact f2.less h4
  ·refine ⟨fun b o v hv => ?_, fun b e he => ?_⟩
   rotate_left
   ·have he' := h4.k b e he
    rw [frzM_k] at he'
    rcases hd.new.k b e he' with h6 | h6
    ·exact .inl h6
    ·rcases hd.p.2 b h6 with h6 | h6
     ·exact .inr ⟨h6.1, h6.2.2⟩
     ·exfalso
      obtain ⟨y, hy, hyb⟩ := List.mem_map.1 h6
      obtain ⟨i, hi⟩ := List.getElem?_of_mem hy
      obtain ⟨cs, _, hLi⟩ := h2 i y hi
      obtain ⟨c0, T0, f0, h7⟩ := (hr.own _ _ hLi).isC
      obtain ⟨es, cl, h8, _⟩ := hr.sub.k b e he'
      simp only [hyb] at h7
      rw [h7] at h8; cases h8
   rcases f3 b o v (h4 b o v hv) with hv | ⟨id, hid, x, hx1, hx2⟩
   ·rcases hd.new b o v hv with h6 | h6
    ·exact .inl h6
    ·rcases hd.p.2 b h6 with h6 | h6
     ·exact .inr ⟨h6.1, h6.2.2⟩
     ·exfalso
      obtain ⟨y, hy, hyb⟩ := List.mem_map.1 h6
      obtain ⟨i, hi⟩ := List.getElem?_of_mem hy
      obtain ⟨cs, _, hLi⟩ := h2 i y hi
      have := (hr.own _ _ hLi).free (hx y hy).2 o
      simp only [hyb] at this
      rw [this] at hv; cases hv
   ·right
    have h6 := hd.p.2 _ (hd.own id x hx1)
    subst hx2
    rcases h6 with h6 | h6
    ·exact ⟨h6.1, h6.2.2⟩
    ·exfalso
     obtain ⟨y, hy, hyb⟩ := List.mem_map.1 h6
     obtain ⟨i, hi⟩ := List.getElem?_of_mem hy
     obtain ⟨cs, _, hLi⟩ := h2 i y hi
     have := hr.apart _ _ _ _ hx1 hLi hyb.symm
     have hlt : id < 100000 := by
      have := List.all_eq_true.1 hz.2 id hid
      exact blt_lt this
     simp only [bid] at this
     omega
  ·intro i x cs hi hcs
   obtain ⟨cs', h6, h7⟩ := h2 i x hi
   rw [hcs] at h6; cases h6
   have ho := hr.own _ _ h7
   have hxz := (hx x (List.mem_of_getElem? hi)).2
   refine ⟨ho.cells, fun _ o => ?_, fun hz' => by simp [hxz] at hz', ho.whole⟩
   cases hv : m'' x.b o with
   | none => rfl
   | some v =>
    have h8 := h4 _ _ _ hv
    rw [frzM_other S' m' (fun id hid y hy e => ?_)] at h8
    ·have := ho.free hxz o
     simp only at this
     rw [this] at h8; cases h8
    ·have := hr.apart _ _ _ _ hy h7 e
     have hlt : id < 100000 := by
      have := List.all_eq_true.1 hz.2 id hid
      exact blt_lt this
     simp only [bid] at this
     omega
 intro e S' m' a' w' hk hr
 cases e with
 | normal => exact key S' m' a' w' hk hr
 | ret => exact key S' m' a' w' hk hr
 | exit _ => exact hk.elim
 | goto _ => exact hk.elim
 | panic _ => exact hk.elim
 | outgrown => exact hk.elim
def retKI (E : Env) (rs : List ResultVar) (n : Nat) : KT := fun e S m => match e with
 | .normal => resW E S m rs fun _ => S.gh = n ∨ S.gh = -1
 | .ret => resW E S m rs fun _ => S.gh = n ∨ S.gh = -1
 | _ => False
def Env.yields (E : Env) (l : Nat) (xs : List (List Value)) : Env := { E with yl := some fun l' g v => l' = l ∧ 0 ≤ g ∧ xs[g.toNat]? = some v, ylY := none, m0 := none }
theorem IX_of_W {E : Env} (hE : E.ok) {drawW : (E : Env) → Nat → Array Oper → (St → Mem → Prop) → St → Mem → Prop} {g : FuncId} {fn : Func} {c : Code}
  (hf : E.P.funcs[g]? = some fn) (hn : (fn.name == "runtime.NumGoroutine") = false) (hb : fn.body = some c) (hl : codeLt fn.ntmps c = true)
  {m : Mem} (first captured : List Value) (xs : List (List Value)) (hlen : Nat.ble (first.length + captured.length + 1) fn.ntmps = true)
  (h : ∀ l, DrawMono (E.yields l xs) (drawW (E.yields l xs)) ∧ DrawSound (E.yields l xs) (drawW (E.yields l xs)) ∧ codeAnn (E.yields l xs) c = true ∧ W (E.yields l xs) (drawW (E.yields l xs)) c (retKI E fn.results.toList xs.length) (S0 ((first ++ .func (.yield l) #[] #[] :: captured).map .v) []) m) :
  IX E.P g first captured m xs := by
 refine ⟨enters_of hf hn (by simp [hb]), fun p hp l w hs hp0 hy => ?_⟩
 obtain ⟨hD, hDS, hc, h⟩ := h l
 have hE' : (E.yields l xs).ok := hE
 let C : Ctx := ⟨fn.ntmps, m, m, Mem.le_refl m, p, hp⟩
 have hok : ∀ vs : List Value, svsOk [] (vs.map .v) = true := fun vs => by
  induction vs with
  | nil => rfl
  | cons v vs ih => simp [svsOk, svOk, ih]
 have hmap : ∀ vs : List Value, (vs.map SV.v).map (argV []) = vs := fun vs => by
  induction vs with
  | nil => rfl
  | cons v vs ih => simp only [List.map_cons, ih]; rfl
 have hrel := rel_start0 (C := C) (xs := []) (svs := (first ++ .func (.yield l) #[] #[] :: captured).map .v) rfl hs (by simp) (by simp) (hok _) (by have := Nat.le_of_ble_eq_true hlen; simp; omega) (by
  have e : (fun k => k ∈ ([] : List Box).map (·.b)) = (fun _ : Nat => False) := by funext k; simp
  rw [e]; exact hp0)
 rw [hmap] at hrel
 refine callsIn_wide.1 (callsIn_of_wp_marks (F := Fence.wide) (n := 0) hf hb trivial ?_)
 refine W_sound hE' hD hDS c hc (.inl rfl) (C := C) ⟨fun Y hY => by
  simp only [Env.yields, Option.some.injEq] at hY
  subst hY; exact hy, fun Y hY => (by cases hY), fun mm hmm => by cases hmm⟩ (fun l hl => by cases hl) 0 hl hrel h ?_
 have key : ∀ S' m' a' w', resW E S' m' fn.results.toList (fun _ => S'.gh = xs.length ∨ S'.gh = -1) → Rel C S' m' a' w' → LeavesInM Fence.wide 0 E.P fn a'.tmps (fun e w' => ∃ v M, e = .returned v ∧ (∀ k, M k → k < w'.heap.size) ∧ (p xs.length M w' ∨ p (-1) M w')) a'.defers .returning w' := by
  intro S' m' a' w' hk hr
  obtain ⟨ms, q1, _, _⟩ := hr.defers
  refine Rel.leave ?_ ms a' w' rfl q1 hr
  clear hr q1
  intro a2 w2 ht hr
  rw [← ht]
  obtain ⟨vs, hk, hrun⟩ := resW_sound hE hr hk
  obtain ⟨M, hd⟩ := hr.dom
  refine ⟨resV vs, results_run hrun, _, M, rfl, hd.lt, ?_⟩
  have := hd.p
  rcases hk with hk | hk
  ·rw [hk] at this; exact .inl this
  ·rw [hk] at this; exact .inr this
 intro e S' m' a' w' hk hr
 cases e with
 | normal => exact key S' m' a' w' hk hr
 | ret => exact key S' m' a' w' hk hr
 | exit _ => exact hk.elim
 | goto _ => exact hk.elim
 | panic _ => exact hk.elim
 | outgrown => exact hk.elim
end Go.Eng
namespace Go.Eng
open Go Go.RowKit
def LC {α β : Type} (T1 : (α → Prop) → Prop) (T2 : (β → Prop) → Prop) (ρ : α → β → Prop) : Prop :=
 T1 (fun _ => True) → T2 (fun y2 => ∃ y1, (∀ K, T1 K → K y1) ∧ ρ y1 y2)
section comb
variable {α β : Type} {ρ : α → β → Prop}
theorem LC.false {T2 : (β → Prop) → Prop} : LC (fun _ : α → Prop => False) T2 ρ := fun h => h.elim
theorem LC.ret {a : α} {b : β} (h : ρ a b) : LC (fun K => K a) (fun K => K b) ρ := fun _ => ⟨a, fun _ hK => hK, h⟩
theorem LC.chk {c : Bool} {T1 : (α → Prop) → Prop} {T2 : (β → Prop) → Prop} (h : c = true → LC T1 T2 ρ) : LC (fun K => chk c (T1 K)) (fun K => chk c (T2 K)) ρ := by
 cases c
 ·exact fun h => h.elim
 ·exact h rfl
theorem LC.br {c : Bool} {T1 U1 : (α → Prop) → Prop} {T2 U2 : (β → Prop) → Prop} (h : LC T1 T2 ρ) (k : LC U1 U2 ρ) : LC (fun K => br c (T1 K) (U1 K)) (fun K => br c (T2 K) (U2 K)) ρ := by
 cases c
 ·exact k
 ·exact h
theorem LC.and {p q : Prop} {T1 : (α → Prop) → Prop} {T2 : (β → Prop) → Prop} (hpq : p → q) (h : p → LC T1 T2 ρ) (mono : ∀ {K K' : β → Prop}, (∀ y, K y → K' y) → T2 K → T2 K') : LC (fun K => p ∧ T1 K) (fun K => q ∧ T2 K) ρ := fun ⟨h1, h2⟩ =>
 ⟨hpq h1, mono (fun y ⟨y1, g1, g2⟩ => ⟨y1, fun K hK => g1 K hK.2, g2⟩) (h h1 h2)⟩
theorem LC.map {γ δ : Type} {σ : γ → δ → Prop} {T1 : (α → Prop) → Prop} {T2 : (β → Prop) → Prop} (h : LC T1 T2 ρ) (f : α → γ) (g : β → δ) (hfg : ∀ a b, ρ a b → σ (f a) (g b)) (mono : ∀ {K K' : β → Prop}, (∀ y, K y → K' y) → T2 K → T2 K') :
  LC (fun K => T1 fun a => K (f a)) (fun K => T2 fun b => K (g b)) σ := fun h1 =>
 mono (fun b ⟨a, g1, g2⟩ => ⟨f a, fun K hK => g1 _ hK, hfg _ _ g2⟩) (h h1)
end comb
abbrev LE {α : Type} (T1 T2 : (α → Prop) → Prop) : Prop := LC T1 T2 Eq
theorem look_lc {l : List Value} {n : Nat} {α β : Type} {ρ : α → β → Prop} {f : Value → α} {g : Value → β} (h : ∀ v, ρ (f v) (g v)) : LC (fun K => look l n fun v => K (f v)) (fun K => look l n fun v => K (g v)) ρ := by
 unfold look
 cases hl : l[n]? with
 | none => exact LC.false
 | some v => simp only; exact LC.ret (h v)
theorem eqNe_lc {op : BinOp} {b : Bool} : LE (eqNe op b) (eqNe op b) := by
 cases op <;> first
  | exact LC.false
  | exact LC.ret rfl
theorem intW_lc {op : BinOp} {k : IntKind} {a b : Int} : LE (intW op k a b) (intW op k a b) := by
 cases op <;> first
  | exact LC.false
  | exact LC.ret rfl
  | exact LC.and id (fun _ => LC.ret rfl) (fun h => h _)
theorem shiftW_lc {op : BinOp} {k : IntKind} {a b : Int} : LE (shiftW op k a b) (shiftW op k a b) := by
 cases op <;> first
  | exact LC.false
  | exact LC.and id (fun _ => LC.ret rfl) (fun h => h _)
theorem strW_lc {op : BinOp} {a b : ByteArray} : LE (strW op a b) (strW op a b) := by
 cases op <;> first
  | exact LC.false
  | exact LC.ret rfl
  | exact LC.and id (fun _ => LC.ret rfl) (fun h => h _)
theorem EqIs.unique {P : Program} {T : TypeId} {x y : Value} {a b : Bool} (w : World) (h : EqIs P T x y a) (k : EqIs P T x y b) : a = b := by
 have h1 := h.1 w
 rw [k.1 w] at h1
 cases h1; rfl
theorem BinIs.unique {P : Program} {op : BinOp} {T : TypeId} {x y a b : Value} (w : World) (h : BinIs P op T x y a) (k : BinIs P op T x y b) : a = b := by
 have h1 := h (.tmp 0) (.tmp 0) w
 rw [k (.tmp 0) (.tmp 0) w] at h1
 cases h1; rfl
theorem ConvIs.unique {P : Program} {s d : TypeId} {x a b : Value} (w : World) (h : ConvIs P s d x a) (k : ConvIs P s d x b) : a = b := by
 have h1 := h w
 rw [k w] at h1
 cases h1; rfl
theorem binW_lc {E : Env} (w : World) {op : BinOp} {T : TypeId} {x y : Value} : LE (binW E op T x y) (binW E op T x y) := by
 unfold binW
 cases ht : E.tt T with
 | none => exact LC.false
 | some i =>
  simp only
  cases hd : i.d <;> simp only <;> first
   | exact LC.false
   | exact LC.chk fun _ => strW_lc
   | exact LC.chk fun _ => eqNe_lc
   | (refine LC.chk fun _ => ?_
      rintro ⟨b, hb, h⟩
      exact ⟨b, hb, eqNe_mono (fun v ⟨v1, g1, g2⟩ => ⟨v1, fun K ⟨b', hb', hK⟩ => g1 K (by rw [EqIs.unique w hb hb']; exact hK), g2⟩) (eqNe_lc h)⟩)
   | (cases hc : isCmp op
      ·simp only [cond_false]; rintro ⟨v, hv, _⟩; exact ⟨v, hv, v, fun K ⟨v', hv', hK⟩ => (by rw [BinIs.unique w hv hv']; exact hK), rfl⟩
      ·simp only [cond_true]; rintro ⟨v, hv, _⟩; exact ⟨v, hv, .bool v, fun K ⟨v', hv', hK⟩ => (by rw [BinIs.unique w hv hv']; exact hK), rfl⟩)
   | (cases hs : isShift op
      ·exact LC.chk fun _ => intW_lc
      ·exact LC.chk fun _ => shiftW_lc)
theorem convW_lc {E : Env} (w : World) {s d : TypeId} {v : Value} : LE (convW E s d v) (convW E s d v) := by
 unfold convW
 cases E.tt s with
 | none => exact LC.false
 | some i =>
  cases E.tt d with
  | none => exact LC.false
  | some j =>
   simp only
   cases i.d <;> cases j.d <;> simp only <;> first
    | exact LC.false
    | exact LC.chk fun _ => LC.ret rfl
    | (rintro ⟨v, hv, _⟩; exact ⟨v, hv, v, fun K ⟨v', hv', hK⟩ => (by rw [ConvIs.unique w hv hv']; exact hK), rfl⟩)
theorem lenW_lc {E : Env} {T : TypeId} {v : Value} : LE (lenW E T v) (lenW E T v) := by
 unfold lenW
 cases E.tt T with
 | none => exact LC.false
 | some i =>
  simp only
  cases i.d <;> simp only <;> first
   | exact LC.false
   | exact LC.ret rfl
   | exact LC.chk fun _ => LC.ret rfl
theorem boundW_lc {α β : Type} {ρ : α → β → Prop} {x : Option Value} {d y : Nat} {U1 : Nat → (α → Prop) → Prop} {U2 : Nat → (β → Prop) → Prop} (h : ∀ n, LC (U1 n) (U2 n) ρ) (mono : ∀ n {K K' : β → Prop}, (∀ y, K y → K' y) → U2 n K → U2 n K') :
  LC (fun K => boundW x d y fun n => U1 n K) (fun K => boundW x d y fun n => U2 n K) ρ := by
 cases x with
 | none => exact h d
 | some v => exact LC.chk fun _ => LC.and id (fun _ => h _) (mono _)
theorem fillW_lc {α β : Type} {ρ : α → β → Prop} {place : Nat → Option (Nat × Nat)} {f : List Value → α} {g : List Value → β} (h : ∀ v, ρ (f v) (g v)) : ∀ {parts : List (Nat × Value)} {cs : List Value}, LC (fun K => fillW place cs parts fun r => K (f r)) (fun K => fillW place cs parts fun r => K (g r)) ρ
 | [], cs => LC.ret (h cs)
 | (i, v) :: rest, cs => by
  simp only [fillW]
  cases place i with
  | none => exact LC.false
  | some os => exact LC.chk fun _ => fillW_lc h
theorem sliceW_lc {E : Env} {T : TypeId} {v : Value} {lo hi mx : Option Value} : LE (sliceW E T v lo hi mx) (sliceW E T v lo hi mx) := by
 unfold sliceW
 cases elemSize E T with
 | some sz =>
  simp only
  exact LC.chk fun _ => boundW_lc (fun m => boundW_lc (fun h => boundW_lc (fun l => LC.chk fun _ => LC.ret rfl) (fun l K K' hh => chk_mono (hh _))) (fun h K K' hh => boundW_mono (fun l => chk_mono (hh _)))) (fun m K K' hh => boundW_mono (fun h => boundW_mono (fun l => chk_mono (hh _))))
 | none =>
  simp only
  cases isStrT E T with
  | false => exact LC.false
  | true => exact LC.chk fun _ => boundW_lc (fun h => boundW_lc (fun l => LC.ret rfl) (fun l K K' hh => hh _)) (fun h K K' hh => boundW_mono (fun l => hh _))
structure Less (S1 S2 : St) : Prop where
 env : ∀ t sv, S1.env t = some sv → S2.env t = some sv
 L : ∀ id x, S1.L id = some x → S2.L id = some x
theorem Less.ev {S1 S2 : St} (h : Less S1 S2) {x : Operand} {sv : SV} (hx : S1.ev x = some sv) : S2.ev x = some sv := by
 cases x with
 | tmp t => exact h.env t sv hx
 | _ => exact hx
theorem Less.den {S1 S2 : St} (h : Less S1 S2) {sv : SV} {v : Value} (hx : S1.den sv = some v) : S2.den sv = some v := by
 cases sv with
 | v u => exact hx
 | loc id off =>
  simp only [St.den] at *
  cases hb : S1.L id with
  | none => simp [hb] at hx
  | some b => simp only [hb] at hx; simp only [h.L id b hb]; exact hx
 | sl id n c =>
  simp only [St.den] at *
  cases hb : S1.L id with
  | none => simp [hb] at hx
  | some b => simp only [hb] at hx; simp only [h.L id b hb]; exact hx
theorem Less.val {S1 S2 : St} (h : Less S1 S2) {x : Operand} {v : Value} (hx : S1.val x = some v) : S2.val x = some v := by
 unfold St.val at *
 cases he : S1.ev x with
 | none => simp [he] at hx
 | some sv => simp only [he] at hx; rw [h.ev he]; exact h.den hx
section ops
variable {α β : Type} {ρ : α → β → Prop} {S1 S2 : St}
theorem wv_lc (hs : Less S1 S2) {x : Operand} {U1 : Value → (α → Prop) → Prop} {U2 : Value → (β → Prop) → Prop} (h : ∀ v, LC (U1 v) (U2 v) ρ) :
  LC (fun K => wv S1 x fun v => U1 v K) (fun K => wv S2 x fun v => U2 v K) ρ := by
 unfold wv
 cases hv : S1.val x with
 | none => exact LC.false
 | some v => simp only [hs.val hv]; exact h v
theorem wvs_lc (hs : Less S1 S2) : ∀ {l : List Operand} {U1 : List Value → (α → Prop) → Prop} {U2 : List Value → (β → Prop) → Prop} (h : ∀ v, LC (U1 v) (U2 v) ρ), LC (fun K => wvs S1 l fun v => U1 v K) (fun K => wvs S2 l fun v => U2 v K) ρ
 | [], U1, U2, h => h []
 | x :: l, U1, U2, h => wv_lc hs (U1 := fun v K => wvs S1 l fun vs => U1 (v :: vs) K) (U2 := fun v K => wvs S2 l fun vs => U2 (v :: vs) K) fun v => wvs_lc hs (fun vs => h (v :: vs))
theorem optV_lc (hs : Less S1 S2) {x : Option Operand} {U1 : Option Value → (α → Prop) → Prop} {U2 : Option Value → (β → Prop) → Prop} (h : ∀ v, LC (U1 v) (U2 v) ρ) :
  LC (fun K => optV S1 x fun v => U1 v K) (fun K => optV S2 x fun v => U2 v K) ρ := by
 cases x with
 | none => exact h none
 | some x => exact wv_lc hs (U1 := fun v K => U1 (some v) K) (U2 := fun v K => U2 (some v) K) fun v => h (some v)
end ops
theorem pureW_lc {E : Env} {S1 S2 : St} (w : World) (hs : Less S1 S2) {o : Oper} : LE (pureW E S1 o) (pureW E S2 o) := by
 have hr : ∀ {a : SV}, LE (fun K : SV → Prop => K a) (fun K => K a) := LC.ret rfl
 have hchk : ∀ {c : Bool} {a : SV}, LE (fun K : SV → Prop => Eng.chk c (K a)) (fun K => Eng.chk c (K a)) := LC.chk fun _ => LC.ret rfl
 obtain ⟨dst, op, type, pos, after, guard⟩ := o
 cases op <;> unfold pureW <;> simp only <;> try exact LC.false
 case unOp op T x =>
  refine wv_lc hs fun v => ?_
  cases op <;> simp only <;> first
   | exact LC.false
   | exact hchk
   | (cases intKindOf E T <;> simp only <;> first
     | exact LC.false
     | exact hchk)
 case binOp op T x y yT =>
  exact wv_lc hs fun v => wv_lc hs fun v' => (binW_lc w).map _ _ (fun a b e => by rw [e]) (fun h => binW_mono h)
 case convert s d x => exact wv_lc hs fun v => (convW_lc w).map _ _ (fun a b e => by rw [e]) (fun h hx => by
  unfold convW at *
  (repeat' split at hx) <;> first | exact (hx : False).elim | exact chk_mono (h _) hx | exact hx.elim fun u z => ⟨u, z.1, h _ z.2⟩)
 case makeFunc => exact wvs_lc hs fun v => wvs_lc hs fun v' => hr
 case fieldAddr T x f =>
  cases fieldOff E T f with
  | none => exact LC.false
  | some fo =>
   simp only
   cases he : S1.ev x with
   | none => exact LC.false
   | some sv =>
    simp only [hs.ev he]
    cases sv <;> first
     | exact LC.false
     | exact hr
     | exact hchk
 case indexAddr T x i =>
  refine wv_lc hs fun vi => LC.chk fun _ => ?_
  cases ixOf E T with
  | none => exact LC.false
  | some ix =>
   cases he : S1.ev x with
   | none =>
    cases ix <;> simp only
    ·exact fun h => h.2.elim
    ·exact LC.false
   | some sv =>
    simp only [hs.ev he]
    cases ix <;> simp only
    ·cases sv <;> simp only
     ·exact LC.and id (fun _ => hchk) (fun h => chk_mono (h _))
     ·exact LC.and id (fun _ => hr) (fun h => h _)
     ·exact fun h => h.2.elim
    ·cases sv <;> simp only
     ·refine LC.chk fun _ => ?_
      rintro ⟨b, o, h1, h2, h3⟩
      refine ⟨b, o, h1, h2, _, fun K ⟨b', o', g1, g2, g3⟩ => ?_, rfl⟩
      rw [h1] at g1
      cases g1
      exact g3
     ·exact LC.false
     ·exact LC.and id (fun _ => hr) (fun h => h _)
 case index T x i =>
  refine wv_lc hs fun v => wv_lc hs fun vi => LC.chk fun _ => ?_
  cases isStrT E T <;> simp only [cond_true, cond_false]
  ·cases arrOne E T with
   | none => exact LC.false
   | some len => exact LC.chk fun _ => LC.and id (fun _ => look_lc (fun _ => rfl)) (fun h => look_mono (fun u => h _))
  ·exact LC.chk fun _ => LC.and id (fun _ => hr) (fun h => h _)
 case build T parts =>
  cases placesOf E T with
  | none => exact LC.false
  | some place => exact wvs_lc hs fun vs => fillW_lc (fun _ => rfl)
 case extract x n => exact wv_lc hs fun v => LC.chk fun _ => look_lc (fun _ => rfl)
 case makeInterface T x => exact wv_lc hs fun v => hchk
 case nilCheck x =>
  cases he : S1.ev x with
  | none => exact LC.false
  | some sv =>
   simp only [hs.ev he]
   cases sv <;> first
    | exact LC.false
    | exact hr
    | exact hchk
 case slice T x lo hi mx => exact wv_lc hs fun v => optV_lc hs fun l => optV_lc hs fun h => optV_lc hs fun m => sliceW_lc.map _ _ (fun a b e => by rw [e]) (fun h => sliceW_mono h)
 case call c =>
  split
  ·split
   ·exact wv_lc hs fun v => lenW_lc.map _ _ (fun a b e => by rw [e]) (fun h y => by
     unfold lenW at *
     (repeat' split at y) <;> first | exact y.elim | exact chk_mono (h _) y | exact h _ y)
   ·exact LC.false
  ·split
   ·rename_i T _ _ _
    refine wv_lc hs fun v => wv_lc hs fun v' => ?_
    split
    ·exact hchk
    ·exact LC.false
   ·exact LC.false
  ·split
   ·refine wv_lc hs fun v => wv_lc hs fun v' => ?_
    split
    ·exact hchk
    ·exact LC.false
   ·refine wv_lc hs fun v => wv_lc hs fun v' => wv_lc hs fun v'' => ?_
    split
    ·exact hchk
    ·exact LC.false
   ·exact LC.false
  ·exact LC.false
end Go.Eng
namespace Go.Eng
open Go Go.RowKit
theorem CX.frame2 {P : Program} {g : FuncId} {args : Array Value} {m M : Mem} {X : List Box} {R : Value → Mem → List (List Value) → Prop} (h : CX P g args m X R) (hm : m.le M) :
  CX P g args M X (fun v M' css => ∃ m', m.le m' ∧ m'.le M' ∧ (∀ b o u, M b o = some u → ∀ o', m' b o' = m b o') ∧ R v m' css) := by
 refine ⟨h.1, fun w hs hX hnd => ?_⟩
 have hfree : ∀ {b o}, M b o = none → m b o = none := fun {b o} hb => by
  cases he : m b o with
  | none => rfl
  | some v => rw [hm _ _ _ he] at hb; cases hb
 have hX' : ∀ x ∈ X, Own m w x ∧ x.fz = false := fun x hx => by
  obtain ⟨ho, hz⟩ := hX x hx
  exact ⟨⟨ho.cells, fun _ o => hfree (ho.free hz o), fun hz' => by simp [hz] at hz', ho.whole⟩, hz⟩
 refine (h.2 w (hs.less hm) hX' hnd).mono ?_
 rintro e w' ⟨v, m', css, rfl, a2, a3, a4, a5, a6, a7, a8⟩
 have hle : m'.le (M.or m') := ⟨fun b o u hu => by
  cases hM : M b o with
  | none => simp [Mem.or, hM, hu]
  | some u' =>
   rcases a4 b o u hu with h1 | h1
   ·rw [hm _ _ _ h1] at hM; cases hM; simp [Mem.or, hm _ _ _ h1]
   ·have := hs.lt hM; omega, fun b u hu => by
  cases hM : M.k b with
  | none => simp [Mem.or, hM, hu]
  | some u' =>
   rcases a4.k b u hu with h1 | h1
   ·rw [hm.k _ _ h1] at hM; cases hM; simp [Mem.or, hm.k _ _ h1]
   ·have := (hs.k b u' hM).lt; omega⟩
 have hnew : ∀ b o u, M b o = some u → ∀ o', m' b o' = m b o' := fun b o u hu o' => by
  cases hm' : m' b o' with
  | none =>
   cases hm0 : m b o' with
   | none => rfl
   | some x => have := a2 _ _ _ hm0; rw [hm'] at this; cases this
  | some x =>
   rcases a4 b o' x hm' with h1 | h1
   ·exact h1.symm
   ·have := hs.lt hu; omega
 refine ⟨v, M.or m', css, rfl, Mem.le_or _ _, ?_, ?_, a5, a6, ?_, m', a2, hle, hnew, a8⟩
 ·refine ⟨fun b o u hu => ?_, fun b e he => ?_⟩
  rotate_left
  ·rcases Mem.or_k he with h1 | ⟨h1, h2⟩
   ·refine (hs.k b e h1).same (a5.block b (hs.k b e h1).lt fun hmem => ?_)
    obtain ⟨x, hx, rfl⟩ := List.mem_map.1 hmem
    obtain ⟨c0, T0, f0, h7⟩ := (hX x hx).1.isC
    obtain ⟨es, cl, h8, _⟩ := hs.k _ _ h1
    rw [h7] at h8; cases h8
   ·exact a3.k b e h2
  rcases Mem.or_some hu with h1 | ⟨h1, h2⟩
  ·have hlt := hs.lt h1
   rw [cell?_eq (a5.block b hlt ?_)]
   ·exact hs b o u h1
   ·intro hmem
    obtain ⟨x, hx, rfl⟩ := List.mem_map.1 hmem
    obtain ⟨ho, hz⟩ := hX x hx
    have := ho.free hz o
    rw [h1] at this; cases this
  ·exact a3 b o u h2
 ·refine ⟨fun b o u hu => ?_, fun b u hu => ?_⟩
  ·rcases Mem.or_some hu with h1 | ⟨h1, h2⟩
   ·exact .inl h1
   ·rcases a4 b o u h2 with h3 | h3
    ·rw [hm _ _ _ h3] at h1; cases h1
    ·exact .inr h3
  ·rcases Mem.or_k hu with h1 | ⟨h1, h2⟩
   ·exact .inl h1
   ·rcases a4.k b u h2 with h3 | h3
    ·rw [hm.k _ _ h3] at h1; cases h1
    ·exact .inr h3
 ·intro i x cs hi hcs
  have ho := a7 i x cs hi hcs
  obtain ⟨hox, hz⟩ := hX x (List.mem_of_getElem? hi)
  refine ⟨ho.cells, fun _ o => ?_, fun hz' => by simp [hz] at hz', ho.whole⟩
  simp only [Mem.or, hox.free hz o]
  exact ho.free hz o
theorem CX.frame {P : Program} {g : FuncId} {args : Array Value} {m M : Mem} {X : List Box} {R : Value → Mem → List (List Value) → Prop} (h : CX P g args m X R) (hm : m.le M) :
  CX P g args M X (fun v M' css => ∃ m', m.le m' ∧ m'.le M' ∧ R v m' css) := (h.frame2 hm).mono fun _ _ _ _ ⟨m', a1, a2, _, a4⟩ => ⟨m', a1, a2, a4⟩
theorem CXT.frame {P : Program} {g : FuncId} {args : Array Value} {m M : Mem} {esz : Nat} {R : Value → Mem → List (List Value) → Prop} (h : CXT P g args m esz R) (hm : m.le M) :
  CXT P g args M esz (fun v M' _ => ∃ m', m.le m' ∧ m'.le M' ∧ R v m' []) := by
 refine ⟨h.1, fun w hs => (h.2 w (hs.less hm)).mono ?_⟩
 rintro e w' ⟨v, m', rfl, a2, a3, a4, a5, a6, a7, a8⟩
 have hle : m'.le (M.or m') := ⟨fun b o u hu => by
  cases hM : M b o with
  | none => simp [Mem.or, hM, hu]
  | some u' =>
   rcases a4 b o u hu with h1 | h1
   ·rw [hm _ _ _ h1] at hM; cases hM; simp [Mem.or, hm _ _ _ h1]
   ·have := hs.lt hM; omega, fun b u hu => by
  cases hM : M.k b with
  | none => simp [Mem.or, hM, hu]
  | some u' =>
   rcases a4.k b u hu with h1 | h1
   ·rw [hm.k _ _ h1] at hM; cases hM; simp [Mem.or, hm.k _ _ h1]
   ·have := (hs.k b u' hM).lt; omega⟩
 refine ⟨v, M.or m', rfl, Mem.le_or _ _, ⟨fun b o u hu => ?_, fun b e he => ?_⟩, ⟨fun b o u hu => ?_, fun b u hu => ?_⟩, a5, a6.same (fun _ _ => rfl) (fun b o hb hn => ?_), a7, m', a2, hle, a8⟩
 ·rcases Mem.or_some hu with h1 | ⟨h1, h2⟩
  ·have hlt := hs.lt h1
   rw [cell?_eq (a5.block b hlt (by simp))]
   exact hs b o u h1
  ·exact a3 b o u h2
 ·rcases Mem.or_k he with h1 | ⟨h1, h2⟩
  ·exact (hs.k b e h1).same (a5.block b (hs.k b e h1).lt (by simp))
  ·exact a3.k b e h2
 ·rcases Mem.or_some hu with h1 | ⟨h1, h2⟩
  ·exact .inl h1
  ·rcases a4 b o u h2 with h3 | h3
   ·rw [hm _ _ _ h3] at h1; cases h1
   ·exact .inr h3
 ·rcases Mem.or_k hu with h1 | ⟨h1, h2⟩
  ·exact .inl h1
  ·rcases a4.k b u h2 with h3 | h3
   ·rw [hm.k _ _ h3] at h1; cases h1
   ·exact .inr h3
 ·cases hM : M b o with
  | none => simp [Mem.or, hM, hn]
  | some u => have := a7 b hb; have := hs.lt hM; omega
theorem reads_unique {m : Mem} {b o : Nat} {xs ys : List Value} (h : m.reads b o xs) (k : m.reads b o ys) (hl : xs.length = ys.length) : xs = ys := by
 refine List.ext_getElem hl fun i h1 h2 => ?_
 have a := h i _ (List.getElem?_eq_getElem h1)
 have b := k i _ (List.getElem?_eq_getElem h2)
 rw [a] at b; exact Option.some.inj b
theorem rowRd_unique {m : Mem} {a : Option Addr} {xs ys : List Value} (h : rowRd m a xs) (k : rowRd m a ys) (hl : xs.length = ys.length) : xs = ys := by
 rcases h with h | ⟨b, o, h1, h2⟩
 ·subst h; simp at hl; exact (List.eq_nil_of_length_eq_zero hl.symm).symm
 ·rcases k with k | ⟨b', o', k1, k2⟩
  ·subst k; simpa using hl
  ·rw [h1] at k1; cases k1
   exact reads_unique h2 k2 hl
theorem memLoad_lc {i : TI} {m M : Mem} (hm : m.le M) {b o : Nat} : LE (memLoad i m b o) (memLoad i M b o) := by
 intro h
 unfold memLoad at *
 cases ha : i.agg with
 | false =>
  simp only [ha, cond_false] at *
  obtain ⟨v, hv, _⟩ := h
  exact ⟨v, hm _ _ _ hv, v, fun K ⟨v', hv', hK⟩ => by rw [hv] at hv'; cases hv'; exact hK, rfl⟩
 | true =>
  simp only [ha, cond_true] at *
  cases hb : Nat.ble i.size 16 with
  | true =>
   simp only [hb, cond_true] at *
   obtain ⟨vs, hl, hr, _⟩ := exN_elim h
   refine exN_intro vs hl ⟨hr.mono hm, _, fun K hK => ?_, rfl⟩
   obtain ⟨vs', hl', hr', hK⟩ := exN_elim hK
   rw [reads_unique hr hr' (by omega)]; exact hK
  | false =>
   simp only [hb, cond_false] at *
   obtain ⟨vs, hl, hr, _⟩ := h
   refine ⟨vs, hl, hr.mono hm, _, fun K ⟨vs', hl', hr', hK⟩ => ?_, rfl⟩
   rw [reads_unique hr hr' (by omega)]; exact hK
theorem boxLoad_lc {i : TI} {x : Box} {off : Nat} : LE (boxLoad i x off) (boxLoad i x off) := by
 unfold boxLoad
 cases i.agg <;> simp only [cond_true, cond_false]
 ·exact look_lc (fun _ => rfl)
 ·cases (x.full && (Nat.beq x.cap i.size && Nat.beq off 0)) <;> simp only [cond_true, cond_false]
  ·exact LC.chk fun _ => LC.ret rfl
  ·exact LC.ret rfl
theorem rowRd_det {m : Mem} {a : Option Addr} {xs ys : List Value} (hx : rowRd m a xs) (hy : rowRd m a ys) (hl : xs.length = ys.length) : xs = ys := by
 apply List.ext_getElem? fun j => ?_
 rcases hx with rfl | ⟨b, o, rfl, h1⟩
 ·rw [List.eq_nil_of_length_eq_zero hl.symm]
 ·rcases hy with rfl | ⟨b', o', h, h2⟩
  ·rw [List.eq_nil_of_length_eq_zero hl]
  ·cases h
   by_cases hj : j < xs.length
   ·have e1 := List.getElem?_eq_getElem hj
    have e2 := List.getElem?_eq_getElem (hl ▸ hj : j < ys.length)
    have g1 := h1 j _ e1
    have g2 := h2 j _ e2
    rw [g1] at g2
    rw [e1, e2, g2]
   ·rw [List.getElem?_eq_none_iff.2 (by omega), List.getElem?_eq_none_iff.2 (by omega)]
theorem strBytes_inj {s t : ByteArray} (h : strBytes s = strBytes t) : s = t := by
 unfold strBytes at h
 have : s.data.toList = t.data.toList := by
  refine (List.map_inj_right fun x y e => ?_).1 h
  simp only [Value.int.injEq, true_and] at e
  exact UInt8.toNat_inj.1 (by omega)
 have h2 : s.data = t.data := Array.ext' this
 cases s; cases t
 simpa using h2
theorem bytesFW_lc {S1 S2 : St} (hs : Less S1 S2) {m M : Mem} (hm : m.le M) {x : Operand} : LE (bytesFW S1 m x) (bytesStrW S2 M x) := by
 intro h
 refine bytesFW_str ?_
 unfold bytesFW at *
 split at h
 ·rename_i v he
  obtain ⟨h1, bs, h2, h3, _⟩ := chk_elim h
  simp only [hs.ev he]
  refine chk_intro h1 ⟨bs, h2, h3.mono hm, .string bs, fun K hK => ?_, rfl⟩
  obtain ⟨_, bs', h2', h3', hk⟩ := chk_elim hK
  have : bs = bs' := strBytes_inj (rowRd_det h3 h3' (by rw [strBytes_len, strBytes_len, h2, h2']))
  rw [this]; exact hk
 ·exact h.elim
theorem loadW_lc {E : Env} {S1 S2 : St} (hs : Less S1 S2) {m M : Mem} (hm : m.le M) {T : TypeId} {x : Operand} : LE (loadW E S1 m T x) (loadW E S2 M T x) := by
 unfold loadW
 cases E.tt T with
 | none => exact LC.false
 | some i =>
  simp only
  cases he : S1.ev x with
  | none => exact LC.false
  | some sv =>
   simp only [hs.ev he]
   cases sv with
   | v u =>
    simp only
    cases hintOf E x with
    | none => exact LC.chk fun _ => memLoad_lc hm
    | some id =>
     simp only
     cases hx : S1.L id with
     | none => exact LC.false
     | some bx =>
      simp only [hs.L id bx hx]
      exact LC.chk fun _ => LC.and (fun h => h) (fun _ => boxLoad_lc) (fun h => boxLoad_mono h)
   | loc id off =>
    simp only
    cases hx : S1.L id with
    | none => exact LC.false
    | some bx => simp only [hs.L id bx hx]; exact boxLoad_lc
   | sl id n c => exact LC.false
structure OutB (rs : List Nat) (tk : Option Nat) (g : Bool) (m M : Mem) (S1 S2 : St) (y1 y2 : St × Mem) : Prop where
 env1 : y1.1.env = S1.env
 env2 : y2.1.env = S2.env
 L : ∀ id, (id ∈ rs ∧ y1.1.L id = y2.1.L id) ∨ (y1.1.L id = S1.L id ∧ y2.1.L id = S2.L id)
 tok : ∀ k, (tk = some k ∧ y1.1.tok k = y2.1.tok k) ∨ (y1.1.tok k = S1.tok k ∧ y2.1.tok k = S2.tok k)
 le : y1.2.le y2.2
 same : g = false → y1.2 = m ∧ y2.2 = M
 gh2 : (y2.1.gh, y2.1.fo) = (S2.gh, S2.fo)
structure Out (rs : List Nat) (tk : Option Nat) (g : Bool) (m M : Mem) (dst : Option Tmp) (S1 S2 : St) (y1 y2 : St × Mem) : Prop where
 env1 : ∀ t sv, dst = some t → y1.1.env t = some sv → y2.1.env t = some sv
 env2 : ∀ t, dst ≠ some t → y2.1.env t = S2.env t
 L : ∀ id, (id ∈ rs ∧ y1.1.L id = y2.1.L id) ∨ (y1.1.L id = S1.L id ∧ y2.1.L id = S2.L id)
 tok : ∀ k, (tk = some k ∧ y1.1.tok k = y2.1.tok k) ∨ (y1.1.tok k = S1.tok k ∧ y2.1.tok k = S2.tok k)
 le : y1.2.le y2.2
 same : g = false → y1.2 = m ∧ y2.2 = M
 gh2 : (y2.1.gh, y2.1.fo) = (S2.gh, S2.fo)
section
variable {rs : List Nat} {tk : Option Nat} {g : Bool} {m M : Mem} {S1 S2 : St}
theorem put_L (S : St) (d : Option Tmp) (x : Option SV) : (S.put d x).L = S.L := by cases d <;> rfl
theorem put_tok (S : St) (d : Option Tmp) (x : Option SV) : (S.put d x).tok = S.tok := by cases d <;> rfl
theorem OutB.put {y1 y2 : St × Mem} (h : OutB rs tk g m M S1 S2 y1 y2) (dst : Option Tmp) {x1 x2 : Option SV} (hx : ∀ sv, x1 = some sv → x2 = some sv) : Out rs tk g m M dst S1 S2 (y1.1.put dst x1, y1.2) (y2.1.put dst x2, y2.2) := by
 refine ⟨?_, ?_, by simpa [put_L] using h.L, by simpa [put_tok] using h.tok, h.le, h.same, by have := h.gh2; cases dst <;> exact this⟩
 ·intro t sv ht hsv
  subst ht
  simp [St.put] at *
  exact hx _ hsv
 ·intro t ht
  cases dst with
  | none => simp [St.put, h.env2]
  | some d => simp [St.put, beq_ne (fun e => ht (by rw [e]) : t ≠ d), h.env2]
theorem OutB.refl (hm : m.le M) : OutB rs tk g m M S1 S2 (S1, m) (S2, M) := ⟨rfl, rfl, fun _ => .inr ⟨rfl, rfl⟩, fun _ => .inr ⟨rfl, rfl⟩, hm, fun _ => ⟨rfl, rfl⟩, rfl⟩
theorem Out.put0 (hm : m.le M) (dst : Option Tmp) {x1 x2 : Option SV} (hx : ∀ sv, x1 = some sv → x2 = some sv) : Out rs tk g m M dst S1 S2 (S1.put dst x1, m) (S2.put dst x2, M) :=
 (OutB.refl (rs := rs) (tk := tk) (g := g) (S1 := S1) (S2 := S2) hm).put dst hx
theorem OutB.setL (hm : m.le M) {id : Nat} (hid : id ∈ rs) (x : Option Box) : OutB rs tk g m M S1 S2 (S1.setL id x, m) (S2.setL id x, M) := by
 refine ⟨rfl, rfl, fun i => ?_, fun _ => .inr ⟨rfl, rfl⟩, hm, fun _ => ⟨rfl, rfl⟩, rfl⟩
 by_cases hi : i = id
 ·subst hi; exact .inl ⟨hid, by simp [St.setL]⟩
 ·exact .inr (by simp [St.setL, beq_ne hi])
theorem OutB.newL {m' M' : Mem} (hm : m'.le M') (hg : g = false → m' = m ∧ M' = M) {id : Nat} (hid : id ∈ rs) (x : Box) : OutB rs tk g m M S1 S2 (S1.newL id x, m') (S2.newL id x, M') := by
 refine ⟨rfl, rfl, fun i => ?_, fun _ => .inr ⟨rfl, rfl⟩, hm, hg, rfl⟩
 by_cases hi : i = id
 ·subst hi; exact .inl ⟨hid, by simp [St.newL]⟩
 ·exact .inr (by simp [St.newL, beq_ne hi])
end
mutual
theorem Shape.all_intro : ∀ (s : Shape) {k : Value → Prop}, (∀ v, k v) → s.all k
 | .any, k, h => by simpa only [Shape.all] using h
 | .int ki, k, h => by simp only [Shape.all]; exact fun n => h _
 | .bool, k, h => by simp only [Shape.all]; exact fun n => h _
 | .str, k, h => by simp only [Shape.all]; exact fun n => h _
 | .slice, k, h => by simp only [Shape.all]; exact fun _ _ _ => h _
 | .agg l, k, h => by simp only [Shape.all]; exact Shape.allL_intro l (fun vs => h _)
 | .tup l, k, h => by simp only [Shape.all]; exact Shape.allL_intro l (fun vs => h _)
 | .fn, k, h => by simp only [Shape.all]; exact fun _ _ _ => h _
 | .cells, k, h => by simp only [Shape.all]; exact fun _ => h _
 | .ptr, k, h => by simp only [Shape.all]; exact fun _ _ => h _
theorem Shape.allL_intro : ∀ (l : List Shape) {k : List Value → Prop}, (∀ v, k v) → Shape.allL l k
 | [], k, h => by simp only [Shape.allL]; exact h _
 | s :: l, k, h => by simp only [Shape.allL]; exact Shape.all_intro s (fun v => Shape.allL_intro l (fun vs => h _))
end
theorem allL_intro : ∀ {n : Nat} {k : List (List Value) → Prop}, (∀ l, l.length = n → k l) → allL n k
 | 0, k, h => h [] rfl
 | n + 1, k, h => fun cs => allL_intro (fun l hl => h (cs :: l) (by simp [hl]))
def Env.fixed (E : Env) (f : List Value → Mem → Value → Mem → List (List Value) → Prop) : Env := { E with fix := some f }
section
variable {rs : List Nat} {tk : Option Nat} {g : Bool} {S1 S2 : St} {m M : Mem}
theorem storeW_lc {E : Env} {f : List Value → Mem → Value → Mem → List (List Value) → Prop} (hs : Less S1 S2) (hrs : ∀ id x, S1.L id = some x → id ∈ rs) (hm : m.le M) {T : TypeId} {x : Operand} {v : Value} :
  LC (fun K : St × Mem → Prop => storeW (E.fixed f) S1 T x v fun S' => K (S', m)) (fun K : St × Mem → Prop => storeW E S2 T x v fun S' => K (S', M)) (OutB rs tk g m M S1 S2) := by
 unfold storeW
 show LC (fun K => match E.tt T with
  | none => False
  | some i => _) _ _
 cases E.tt T with
 | none => exact LC.false
 | some i =>
  simp only
  cases he : S1.ev x with
  | none => exact LC.false
  | some sv =>
   simp only [hs.ev he]
   cases sv with
   | loc id off =>
    simp only
    cases hx : S1.L id with
    | none => exact LC.false
    | some bx =>
     simp only [hs.L id bx hx]
     refine LC.chk fun _ => ?_
     cases (bx.full && (Nat.beq bx.cap i.size && Nat.beq off 0)) <;> simp only [cond_true, cond_false]
     ·exact LC.chk fun _ => LC.ret (OutB.setL hm (hrs id bx hx) _)
     ·exact LC.ret (OutB.setL hm (hrs id bx hx) _)
   | v u =>
    simp only
    show LC (fun K => match hintOf E x with
     | none => False
     | some id => _) _ _
    cases hintOf E x with
    | none => exact LC.false
    | some id =>
     simp only
     cases hx : S1.L id with
     | none => exact LC.false
     | some bx =>
      simp only [hs.L id bx hx]
      refine LC.chk fun _ => ?_
      rintro ⟨h1, h2, _⟩
      exact ⟨h1, h2, _, fun K hK => hK.2.2, OutB.setL hm (hrs id bx hx) _⟩
   | sl id n c => exact LC.false
theorem copyW_lc {E : Env} {f : List Value → Mem → Value → Mem → List (List Value) → Prop} (hs : Less S1 S2) (hrs : ∀ id x, S1.L id = some x → id ∈ rs) (hm : m.le M) {T : TypeId} {id : Nat} {vd vs : Value} :
  LC (fun K : Int × (St × Mem) → Prop => copyW (E.fixed f) S1 m T id vd vs fun n S' => K (n, (S', m))) (fun K : Int × (St × Mem) → Prop => copyW E S2 M T id vd vs fun n S' => K (n, (S', M))) (fun y1 y2 => y1.1 = y2.1 ∧ OutB rs tk g m M S1 S2 y1.2 y2.2 ∧ y1.2.2 = m ∧ y2.2.2 = M) := by
 unfold copyW
 show LC (fun K => match sliceElem E T with
  | none => False
  | some (e, j) => _) _ _
 cases sliceElem E T with
 | none => exact LC.false
 | some ej =>
  obtain ⟨e, j⟩ := ej
  simp only
  cases hx : S1.L id with
  | none => exact LC.false
  | some bx =>
   simp only [hs.L id bx hx]
   refine LC.chk fun _ => ?_
   intro h hfM
   have hf : m.free bx.b := fun o => by
    cases he : m bx.b o with
    | none => rfl
    | some u => have := hm _ _ _ he; rw [hfM o] at this; cases this
   obtain ⟨o, xs, h1, h2, h3, h4, h5, _⟩ := h hf
   refine ⟨o, xs, h1, h2, h3, h4, h5.imp_left (fun h => h.mono hm), (_, (S1.setL id (some { bx with cs := splice bx.cs o xs }), m)), fun K hK => ?_, rfl, OutB.setL hm (hrs id bx hx) _, rfl, rfl⟩
   obtain ⟨o', xs', g1, g2, g3, g4, g5, g6⟩ := hK hf
   rw [h1] at g1
   obtain rfl : o = o' := by simpa using g1
   have hl : xs.length = xs'.length := by rw [h2, g2]
   have hmix : ∀ {as : Option Addr} {ys : List Value} {p : Nat}, rowRd m as ys → as = some ⟨bx.b, p, none⟩ → ys = [] := fun {as ys p} hy ha => by
    rcases hy with hy | ⟨b1, o1, ha1, hy⟩
    ·exact hy
    ·rw [ha] at ha1
     simp only [Option.some.injEq, Addr.mk.injEq, and_true] at ha1
     obtain ⟨rfl, rfl⟩ := ha1
     cases hys : ys with
     | nil => rfl
     | cons u l => subst hys; have := hy 0 u rfl; rw [hf] at this; cases this
   have hxx : xs = xs' := by
    rcases h5 with h5 | ⟨p, hp, h5⟩
    ·rcases g5 with g5 | ⟨p', hp', g5⟩
     ·exact rowRd_unique h5 g5 hl
     ·have := hmix h5 hp'; subst this
      exact (List.eq_nil_of_length_eq_zero hl.symm).symm
    ·rcases g5 with g5 | ⟨p', hp', g5⟩
     ·have := hmix g5 hp; subst this
      exact List.eq_nil_of_length_eq_zero hl
     ·rw [hp] at hp'
      obtain rfl : p = p' := by simpa using hp'
      apply List.ext_getElem?
      intro i
      by_cases hi : i < xs.length
      ·have e1 := h5 i _ (List.getElem?_eq_getElem hi)
       have e2 := g5 i _ (List.getElem?_eq_getElem (by omega))
       rw [e1] at e2
       rw [List.getElem?_eq_getElem hi, List.getElem?_eq_getElem (by omega)]
       exact e2
      ·rw [List.getElem?_eq_none (by omega), List.getElem?_eq_none (by omega)]
   subst hxx
   exact g6
theorem boxesOf_less (hs : Less S1 S2) : ∀ {ids : List Nat} {bxs : List Box}, boxesOf S1 ids = some bxs → boxesOf S2 ids = some bxs
 | [], bxs, h => h
 | id :: l, bxs, h => by
  simp only [boxesOf] at *
  cases hx : S1.L id with
  | none => simp [hx] at h
  | some x =>
   simp only [hx] at h
   simp only [hs.L id x hx]
   cases hb : boxesOf S1 l with
   | none => simp [hb] at h
   | some xs => simp only [hb] at h; simp only [boxesOf_less hs hb]; exact h
theorem callW_lc {E : Env} (hE : E.fix = none) {f : List Value → Mem → Value → Mem → List (List Value) → Prop} (hs : Less S1 S2) (hrs : ∀ id x, S1.L id = some x → id ∈ rs) (hm : m.le M) {rt : TypeId} {gg : FuncId} {args : List Value} {ids : List Nat} {γ : Value → St → Option SV} :
  LC (fun K : Value × (St × Mem) → Prop => callW (E.fixed f) S1 m rt gg args ids fun v S' m' => K (v, (S', m'))) (fun K : Value × (St × Mem) → Prop => callW E S2 M rt gg args ids fun v S' m' => K (v, (S', m'))) (fun y1 y2 => y1.1 = y2.1 ∧ OutB rs tk true m M S1 S2 y1.2 y2.2) := by
 intro h
 unfold callW at *
 cases hb : boxesOf S1 ids with
 | none => simp [hb] at h
 | some bxs =>
  simp only [hb] at h
  simp only [boxesOf_less hs hb]
  obtain ⟨h1, R, h0, hcx, hfit, _⟩ := chk_elim h
  have h0' : R = f args m := h0
  obtain ⟨hlen, hmem⟩ := boxesOf_spec hb
  simp only [Bool.and_eq_true] at h1
  have hnd := natsNodup_spec h1.2
  refine chk_intro (by simp [h1.1, h1.2]) ⟨fun v M' css => ∃ m', m.le m' ∧ m'.le M' ∧ R v m' css, by rw [hE]; trivial, hcx.frame hm, fun v m' css ⟨_, _, _, hR⟩ => hfit _ _ _ hR, ?_⟩
  refine Shape.all_intro _ fun v M' hM' => allL_intro fun css hcl ⟨m', g1, g2, hR⟩ => ⟨(v, (setLs S1 ids bxs css, m')), fun K hK => ?_, rfl, ?_⟩
  ·obtain ⟨_, R', h0'', _, _, hall⟩ := chk_elim hK
   have h0''' : R' = f args m := h0''
   have hRR : R' = R := by rw [h0''', h0']
   subst hRR
   exact allL_elim (Shape.all_fits _ _ hall v (hfit _ _ _ hR) m' g1) css hcl hR
  ·refine ⟨by rw [setLs_eq], by rw [setLs_eq], fun id => ?_, fun k => .inr ⟨by rw [setLs_eq], by rw [setLs_eq]⟩, g2, fun h => (by cases h), by rw [setLs_eq]⟩
   rcases setLs_L (S := S1) hnd hlen hcl id with ⟨a1, a2⟩ | ⟨i, x, cs, a1, a2, a3, a4⟩
   ·rcases setLs_L (S := S2) hnd hlen hcl id with ⟨b1, b2⟩ | ⟨i', x', cs', b1, b2, b3, b4⟩
    ·exact .inr ⟨a2, b2⟩
    ·exact absurd (List.mem_of_getElem? b1) a1
   ·rcases setLs_L (S := S2) hnd hlen hcl id with ⟨b1, b2⟩ | ⟨i', x', cs', b1, b2, b3, b4⟩
    ·exact absurd (List.mem_of_getElem? a1) b1
    ·obtain ⟨id', c1, c2⟩ := hmem i x a2
     rw [a1] at c1; cases c1
     have hi := (List.getElem?_eq_some_iff.1 a1).1
     have : i = i' := (List.getElem?_inj hi hnd).1 (by rw [a1, b1])
     subst this
     rw [a2] at b2; rw [a3] at b3; cases b2; cases b3
     exact .inl ⟨hrs _ _ c2, by rw [a4, b4]⟩
theorem callTW_lc {E : Env} (hE : E.fix = none) {f : List Value → Mem → Value → Mem → List (List Value) → Prop} {rt : TypeId} {gg : FuncId} {args : List Value} {key esz : Nat} (htk : tk = some key) (hm : m.le M) :
  LC (fun K : Value × (St × Mem) → Prop => callTW (E.fixed f) S1 m rt gg args key esz fun v S' m' => K (v, (S', m'))) (fun K : Value × (St × Mem) → Prop => callTW E S2 M rt gg args key esz fun v S' m' => K (v, (S', m'))) (fun y1 y2 => y1.1 = y2.1 ∧ OutB rs tk true m M S1 S2 y1.2 y2.2) := by
 rintro ⟨R, h0, hcx, hfit, _⟩
 have h0' : R = f args m := h0
 refine ⟨fun v M' _ => ∃ m', m.le m' ∧ m'.le M' ∧ R v m' [], ?_⟩
 rw [hE]
 refine ⟨hcx.frame hm, fun v m' css ⟨_, _, _, hR⟩ => hfit _ _ _ hR, ?_⟩
 refine Shape.all_intro _ fun v M' hM' ⟨m', g1, g2, hR⟩ => ⟨(v, ({ S1 with tok := fun k => bif Nat.beq k key then some ⟨v, esz⟩ else S1.tok k, tkeys := key :: S1.tkeys }, m')), fun K hK => ?_, rfl, ?_⟩
 ·obtain ⟨R', h0'', _, _, hall⟩ := hK
  have h0''' : R' = f args m := h0''
  have hRR : R' = R := by rw [h0''', h0']
  subst hRR
  exact Shape.all_fits _ _ hall v (hfit _ _ _ hR) m' g1 hR
 ·refine ⟨rfl, rfl, fun id => .inr ⟨rfl, rfl⟩, fun k => ?_, g2, fun h => (by cases h), rfl⟩
  by_cases hk : k = key
  ·subst hk; exact .inl ⟨htk, by simp⟩
  ·exact .inr (by simp [beq_ne hk])
theorem appendW_lc {E : Env} {f : List Value → Mem → Value → Mem → List (List Value) → Prop} (hm : m.le M) {T xT : TypeId} {key : Nat} {vs vx : Value} (htk : tk = some key) (htok : ∀ k, tk = some k → S1.tok k = S2.tok k) :
  LC (fun K : Value × (St × Mem) → Prop => appendW (E.fixed f) S1 m T xT key vs vx fun v t m' => K (v, ({ S1 with tok := t, tkeys := key :: S1.tkeys }, m'))) (fun K : Value × (St × Mem) → Prop => appendW E S2 M T xT key vs vx fun v t m' => K (v, ({ S2 with tok := t, tkeys := key :: S2.tkeys }, m'))) (fun y1 y2 => y1.1 = y2.1 ∧ OutB rs tk true m M S1 S2 y1.2 y2.2) := by
 unfold appendW
 show LC (fun K => match sliceElem E T with
  | none => False
  | some (_, j) => match sliceElem E xT with
   | none => False
   | some (_, j') => _) _ _
 cases sliceElem E T with
 | none => exact LC.false
 | some ej =>
  cases sliceElem E xT with
  | none => exact LC.false
  | some ej' =>
   simp only
   refine LC.chk fun _ => ?_
   have hbody : LC (fun K : Value × (St × Mem) → Prop => appB (E.fixed f) S1 m ej.2 key vs vx fun v t m' => K (v, ({ S1 with tok := t, tkeys := key :: S1.tkeys }, m'))) (fun K : Value × (St × Mem) → Prop => appB E S2 M ej.2 key vs vx fun v t m' => K (v, ({ S2 with tok := t, tkeys := key :: S2.tkeys }, m'))) (fun y1 y2 => y1.1 = y2.1 ∧ OutB rs tk true m M S1 S2 y1.2 y2.2) := ?body
   case body =>
    unfold appB
    rintro ⟨ht, xs, ys, a1, a2, a3, a4, a5, a6, a7, _⟩
    rw [htok key htk] at ht
    refine ⟨ht, xs, ys, a1, a2, a3.mono hm, a4.mono hm, a5, a6, a7, fun a' c' M' hM' hr => ?_⟩
    refine tokNew_of fun hfact hcap => ⟨(.slice a' (slN vs + slN vx) c', ({ S1 with tok := (fun k => bif Nat.beq k key then some ⟨.slice a' (slN vs + slN vx) c', ej.2.size⟩ else S1.tok k), tkeys := key :: S1.tkeys }, M')), fun K hK => ?_, rfl, ⟨rfl, rfl, fun _ => .inr ⟨rfl, rfl⟩, fun k => ?_, Mem.le_refl _, fun h => (by cases h), rfl⟩⟩
    ·obtain ⟨_, xs', ys', b1, b2, b3, b4, _, _, _, b8⟩ := hK
     rw [rowRd_unique a3 b3 (by omega), rowRd_unique a4 b4 (by omega)] at hr
     exact tokNew_elim' (b8 a' c' M' (mLt hm hM') hr) (fun ht => (hfact ht).mono hm) hcap
    ·by_cases hk : k = key
     ·subst hk; exact .inl ⟨htk, by simp⟩
     ·exact .inr (by simp [beq_ne hk])
   show LC (fun K => bif E.tails then br (Nat.beq (slN vx) 0) (chk (Nat.ble (slN vs) (slC vs)) _) _ else _) (fun K => bif E.tails then br (Nat.beq (slN vx) 0) (chk (Nat.ble (slN vs) (slC vs)) _) _ else _) _
   cases E.tails with
   | false => exact hbody
   | true =>
    refine LC.br (LC.chk fun _ => LC.ret ⟨rfl, ⟨rfl, rfl, fun _ => .inr ⟨rfl, rfl⟩, fun k => ?_, hm, fun h => (by cases h), rfl⟩⟩) hbody
    by_cases hk : k = key
    ·subst hk; exact .inl ⟨htk, htok k htk⟩
    ·exact .inr ⟨rfl, rfl⟩
end
end Go.Eng
namespace Go.Eng
open Go Go.RowKit
theorem Mem.add_le {m M : Mem} (h : m.le M) (b : Nat) (cs : List Value) : (m.add b cs).le (M.add b cs) := ⟨fun b' o v hv => by
 by_cases hb : b' = b
 ·subst hb; rw [Mem.add_same] at hv ⊢; exact hv
 ·rw [Mem.add_other _ hb] at hv ⊢; exact h _ _ _ hv, h.k⟩
theorem locIds_less {S1 S2 : St} (hs : Less S1 S2) : ∀ {l : List Operand} {k : List Value → Prop}, wvs S1 l k → locIds S1 l = locIds S2 l
 | [], k, h => rfl
 | x :: l, k, h => by
  obtain ⟨v, hv, h⟩ := wv_elim h
  have ih := locIds_less hs h
  unfold St.val at hv
  cases he : S1.ev x with
  | none => simp [he] at hv
  | some sv =>
   simp only [locIds, he, hs.ev he, ih]
   cases sv with
   | loc id off =>
    simp only [he, St.den] at hv
    cases hx : S1.L id with
    | none => simp [hx] at hv
    | some x => simp only [hx, hs.L id x hx]
   | _ => rfl
theorem MapFind.unique {P : Program} {T : TypeId} {k : Value} (w : World) : ∀ {es : List (Value × Value)} {r r' : Option Value}, MapFind P T k es r → MapFind P T k es r' → r = r'
 | [], r, r', h, h' => by
  simp only [MapFind] at h h'
  rw [h, h']
 | e :: es, r, r', h, h' => by
  simp only [MapFind] at h h'
  rcases h with ⟨h1, h2⟩ | ⟨h1, h2⟩ <;> rcases h' with ⟨h3, h4⟩ | ⟨h3, h4⟩
  ·rw [h2, h4]
  ·exact absurd (EqIs.unique w h1 h3) (by simp)
  ·exact absurd (EqIs.unique w h1 h3) (by simp)
  ·exact MapFind.unique w h2 h4
theorem LookIs.unique {P : Program} {T : TypeId} {k : Value} (w : World) {es : List (Value × Value)} {z v v' : Value} {o o' : Bool} (h : LookIs P T k es z v o) (h' : LookIs P T k es z v' o') : v = v' ∧ o = o' := by
 obtain ⟨r, h1, h2, h3⟩ := h
 obtain ⟨r', h4, h5, h6⟩ := h'
 cases MapFind.unique w h1 h4
 exact ⟨h2.trans h5.symm, h3.trans h6.symm⟩
def tkCOk (E : Env) (tk : Option Nat) (d : Option Tmp) : Bool := match tokCOf E d with
 | none => true
 | some ke => (match tk with
  | some k => Nat.beq ke.1 k
  | none => false)
def fpOk (E : Env) (rs : List Nat) (tk : Option Nat) (o : Oper) : Bool := match o.op with
 | .alloc _ => (match o.dst with
  | some d => rs.any (Nat.beq d ·)
  | none => false)
 | .box _ _ => (match o.dst with
  | some d => rs.any (Nat.beq d ·)
  | none => false)
 | .buildSlice _ _ _ => (match o.dst with
  | some d => rs.any (Nat.beq d ·)
  | none => false)
 | .makeSlice _ _ _ => (match o.dst with
  | some d => rs.any (Nat.beq d ·)
  | none => false)
 | .call c => (match c.callee with
  | .builtin .append => (match o.dst, tk with
   | some d, some k => Nat.beq (E.tokOf d) k
   | _, _ => false)
  | _ => (callYOf E o.dst).isNone && tkCOk E tk o.dst)
 | .store _ x _ => (match stKey E x with
  | none => true
  | some _ => false)
 | .mapUpdate _ _ _ _ => false
 | _ => true
theorem fpOk_noTok {E : Env} {rs : List Nat} {tk : Option Nat} {o : Oper} (h : fpOk E rs tk o = true) : noTokSt E o := by
 refine ⟨fun T x y e => ?_, fun f as ats e => ?_, fun T x y z e => ?_⟩
 ·unfold fpOk at h
  rw [e] at h
  cases hs : stKey E x with
  | none => rfl
  | some k => simp [hs] at h
 ·unfold fpOk at h
  rw [e] at h
  have h : ((callYOf E o.dst).isNone && tkCOk E tk o.dst) = true := h
  rw [Bool.and_eq_true] at h
  simpa using h.1
 ·unfold fpOk at h
  rw [e] at h
  cases h
def chgOf (rs : List Nat) (o : Oper) : List Nat := match o.op with
 | .alloc _ => dl o.dst
 | .box _ _ => dl o.dst
 | .buildSlice _ _ _ => dl o.dst
 | .makeSlice _ _ _ => dl o.dst
 | .store _ _ _ => rs
 | .call c => (match c.callee with
  | .value _ => rs
  | .builtin .copy => rs
  | _ => [])
 | _ => []
def growsOp (o : Oper) : Bool := match o.op with
 | .buildSlice _ _ _ => true
 | .call c => (match c.callee with
  | .value _ => true
  | .builtin .append => true
  | _ => false)
 | _ => false
section
variable {rs : List Nat} {tk : Option Nat} {S1 S2 : St} {m M : Mem}
theorem opW_lc {E : Env} (w : World) (hE : E.fix = none) {f : List Value → Mem → Value → Mem → List (List Value) → Prop} (hs : Less S1 S2) (hrs : ∀ id x, S1.L id = some x → id ∈ rs) (hL : ∀ id ∈ rs, S1.L id = S2.L id)
  (htok : ∀ k, tk = some k → S1.tok k = S2.tok k) (hm : m.le M) {o : Oper} (hfp : fpOk E rs tk o = true) :
  LC (fun K : St × Mem → Prop => opW (E.fixed f) S1 m o fun S' m' => K (S', m')) (fun K : St × Mem → Prop => opW E S2 M o fun S' m' => K (S', m')) (Out (chgOf rs o) tk (growsOp o) m M o.dst S1 S2) := by
 have hpure : ∀ (rs : List Nat) (g : Bool) (o : Oper), LC (fun K : St × Mem → Prop => pureW (E.fixed f) S1 o fun sv => K (S1.put o.dst (some sv), m)) (fun K : St × Mem → Prop => pureW E S2 o fun sv => K (S2.put o.dst (some sv), M)) (Out rs tk g m M o.dst S1 S2) := fun rs g o => by
  refine LC.map (f := fun sv => (S1.put o.dst (some sv), m)) (g := fun sv => (S2.put o.dst (some sv), M)) (ρ := Eq) (T1 := fun K => pureW (E.fixed f) S1 o K) (T2 := fun K => pureW E S2 o K) ?_ ?_ ?_
  ·exact (pureW_lc w hs : LE (pureW E S1 o) (pureW E S2 o))
  ·rintro a b rfl
   exact Out.put0 hm _ (fun sv h => h)
  ·exact fun h => pureW_mono h
 obtain ⟨dst, op, type, pos, after, guard⟩ := o
 have hput : ∀ (rs : List Nat) (g : Bool) (x : Operand), LC (fun K : St × Mem → Prop => K (S1.put dst (S1.ev x), m)) (fun K : St × Mem → Prop => K (S2.put dst (S2.ev x), M)) (Out rs tk g m M dst S1 S2) := fun rs g x => LC.ret (Out.put0 hm _ (fun sv h => hs.ev h))
 have hnew : ∀ {g : Bool} {d : Nat} {x : Box} {sv : SV}, Out [d] tk g m M (some d) S1 S2 ((S1.newL d x).put (some d) (some sv), m) ((S2.newL d x).put (some d) (some sv), M) := fun {g d x sv} => (OutB.newL hm (fun _ => ⟨rfl, rfl⟩) (by simp) x).put (some d) (fun sv h => h)
 cases op with
 | move x => exact hput _ _ x
 | assign x => exact hput _ _ x
 | pick c x y => exact wv_lc hs fun v => LC.chk fun _ => LC.br (hput _ _ x) (hput _ _ y)
 | load T x =>
  have hq : ldFOf (E.fixed f) dst = ldFOf E dst := rfl
  simp only [opW, hq]
  cases hld : ldFOf E dst with
  | some y =>
   refine LC.map (f := fun v => (S1.put dst (some (.v v)), m)) (g := fun v => (S2.put dst (some (.v v)), M)) (ρ := Eq) (T1 := fun K => loadW (E.fixed f) S1 m T x fun v => ldW y v K) (T2 := fun K => loadW E S2 M T x fun v => ldW y v K) ?_ ?_ ?_
   ·intro h
    have h1 := (loadW_lc hs hm : LE (loadW E S1 m T x) (loadW E S2 M T x)) (loadW_mono (fun _ _ => trivial) h)
    refine loadW_mono (fun v ⟨v1, g1, g2⟩ => ?_) h1
    subst g2
    exact ldW_intro (g1 _ h) ⟨v1, fun K hK => ldW_elim (g1 _ hK), rfl⟩
   ·rintro a b rfl
    exact Out.put0 hm _ (fun sv h => h)
   ·exact fun h => loadW_mono fun v => ldW_mono h
  | none =>
  refine LC.map (f := fun v => (S1.put dst (some (.v v)), m)) (g := fun v => (S2.put dst (some (.v v)), M)) (ρ := Eq) (T1 := fun K => loadW (E.fixed f) S1 m T x K) (T2 := fun K => loadW E S2 M T x K) ?_ ?_ ?_
  ·exact (loadW_lc hs hm : LE (loadW E S1 m T x) (loadW E S2 M T x))
  ·rintro a b rfl
   exact Out.put0 hm _ (fun sv h => h)
  ·exact fun h => loadW_mono h
 | store T x y =>
  refine wv_lc hs fun v => ?_
  show LC (fun K => match stKey E x with
   | none => _
   | some key => bif (E.fixed f).fix.isSome then False else _) (fun K => match stKey E x with
   | none => _
   | some key => _) _
  cases stKey E x with
  | some key => exact LC.false
  | none =>
  refine LC.map (f := fun y : St × Mem => (y.1.put dst none, m)) (g := fun y : St × Mem => (y.1.put dst none, M)) (ρ := fun y1 y2 => OutB rs tk false m M S1 S2 y1 y2 ∧ y1.2 = m ∧ y2.2 = M) ?_ ?_ ?_ (T1 := fun K => storeW (E.fixed f) S1 T x v fun S' => K (S', m)) (T2 := fun K => storeW E S2 T x v fun S' => K (S', M))
  ·exact fun h => storeW_mono (fun S' _ ⟨y1, g1, g2⟩ => ⟨(y1.1, m), fun K hK => g1 (fun y => K (y.1, m)) hK, ⟨g2.env1, g2.env2, g2.L, g2.tok, hm, fun _ => ⟨rfl, rfl⟩, g2.gh2⟩, rfl, rfl⟩) (storeW_lc (tk := tk) (rs := rs) (g := false) hs hrs hm h)
  ·rintro a b ⟨h1, h2, h3⟩
   have := h1.put dst (x1 := none) (x2 := none) (fun sv h => h)
   rw [h2, h3] at this; exact this
  ·exact fun h => storeW_mono (fun S' _ => h _)
 | alloc T =>
  simp only [opW, allocW, fpOk] at *
  cases dst with
  | none => exact LC.false
  | some d =>
   simp only
   show LC (fun K => match E.tt T with
    | none => False
    | some i => _) _ _
   cases E.tt T with
   | none => exact LC.false
   | some i =>
    simp only at hfp ⊢
    rw [hL d (any_beq.1 hfp)]
    cases hx : S2.L d with
    | some x => exact LC.false
    | none => exact fun _ b => ⟨_, fun K hK => hK b, hnew⟩
 | box T x =>
  refine wv_lc hs fun v => ?_
  show LC (fun K => bif frzNewOf E dst then (bif (E.fixed f).fix.isSome then False else _) else _) (fun K => bif frzNewOf E dst then _ else _) _
  cases hfn : frzNewOf E dst with
  | true => exact LC.false
  | false =>
  simp only [cond_false]
  simp only [boxW, fpOk] at *
  cases dst with
  | none => exact LC.false
  | some d =>
   simp only
   show LC (fun K => match E.tt T with
    | none => False
    | some i => _) _ _
   cases E.tt T with
   | none => exact LC.false
   | some i =>
    simp only at hfp ⊢
    rw [hL d (any_beq.1 hfp)]
    cases hx : S2.L d with
    | some x => exact LC.false
    | none => exact LC.chk fun _ _ b => ⟨_, fun K hK => hK b, hnew⟩
 | buildSlice T len parts =>
  simp only [opW]
  have hq : tokCOf (E.fixed f) dst = tokCOf E dst := rfl
  simp only [hq]
  cases htc : tokCOf E dst with
  | some ke => exact LC.false
  | none =>
  simp only [buildSliceW, fpOk] at *
  cases dst with
  | none => exact LC.false
  | some d =>
   simp only
   show LC (fun K => match E.tt T with
    | none => False
    | some t => match t.d with
     | .slice e => match E.tt e with
      | none => False
      | some i => _
     | _ => False) _ _
   cases E.tt T with
   | none => exact LC.false
   | some t =>
    simp only
    cases t.d <;> simp only <;> try exact LC.false
    rename_i e
    cases E.tt e with
    | none => exact LC.false
    | some i =>
     simp only at hfp ⊢
     rw [hL d (any_beq.1 hfp)]
     cases hx : S2.L d with
     | some x => exact LC.false
     | none =>
      refine LC.chk fun _ => wvs_lc hs fun vs => LC.chk fun _ _ b hb => ⟨_, fun K hK => hK b ?_, ?_⟩
      ·intro o
       cases he : m b o with
       | none => rfl
       | some v => have := hm _ _ _ he; rw [hb o] at this; cases this
      ·exact (OutB.newL (Mem.add_le hm b (catCells vs)) (fun h => by cases h) (by simp [chgOf, dl]) _).put (some d) (fun sv h => h)
 | lookup T x y ok =>
  simp only [opW, lookW]
  refine wv_lc hs fun vm => wv_lc hs fun vk => ?_
  have hq : mapTy (E.fixed f) T = mapTy E T := rfl
  rw [hq]
  cases mapTy E T with
  | none => exact LC.false
  | some q =>
   obtain ⟨k, ei⟩ := q
   rintro ⟨b, es, v, r, rfl, h2, h3, h4, _⟩
   refine ⟨b, es, v, r, rfl, hm.k b es h2, h3, h4, _, fun K hK => ?_, Out.put0 hm dst (fun sv h => h)⟩
   obtain ⟨b', es', v', r', e', h2', h3', h4', hK⟩ := hK
   cases e'
   rw [h2] at h2'; cases h2'
   obtain ⟨rfl, rfl⟩ := LookIs.unique w h4 h4'
   exact hK
 | mapUpdate T x y z => exact LC.false
 | makeMap T r => exact LC.false
 | makeSlice T l c =>
  have hq : tokCOf (E.fixed f) dst = tokCOf E dst := rfl
  simp only [opW, hq]
  have hq2 : mkMOf (E.fixed f) dst = mkMOf E dst := rfl
  cases htc : tokCOf E dst with
  | some ke => exact LC.false
  | none =>
  simp only [hq2]
  cases hmk : mkMOf E dst with
  | true => exact LC.false
  | false =>
  simp only [cond_false]
  simp only [makeW, fpOk] at *
  cases dst with
  | none => exact LC.false
  | some d =>
   simp only
   show LC (fun K => match sliceElem E T with
    | none => False
    | some (e, j) => _) _ _
   cases sliceElem E T with
   | none => exact LC.false
   | some ej =>
    simp only at hfp ⊢
    rw [hL d (any_beq.1 hfp)]
    cases hx : S2.L d with
    | some x => exact LC.false
    | none => exact wv_lc hs fun v => wv_lc hs fun v' => LC.chk fun _ ⟨h1, _⟩ => ⟨h1, fun b => ⟨_, fun K hK => hK.2 b, hnew⟩⟩
 | convert s d x =>
  simp only [opW]
  show LC (fun K => bif isByteSl E s d then _ else _) _ _
  cases isByteSl E s d with
  | false =>
   simp only [cond_false]
   show LC (fun K => bif isStrBytes E s d then _ else _) _ _
   cases isStrBytes E s d with
   | false =>
    simp only [cond_false]
    show LC (fun K => bif isBytesStr E s d then _ else _) _ _
    cases isBytesStr E s d with
    | false => exact hpure _ _ ⟨dst, .convert s d x, type, pos, after, guard⟩
    | true =>
     simp only [cond_true]
     have e2 : ∀ k, bytesW E S2 M x k = bytesStrW S2 M x k := fun k => by unfold bytesW; rw [hE]; rfl
     have e1 : ∀ k, bytesW (E.fixed f) S1 m x k = bytesFW S1 m x k := fun k => rfl
     simp only [e1, e2]
     refine LC.map (f := fun v => (S1.put dst (some (.v v)), m)) (g := fun v => (S2.put dst (some (.v v)), M)) (ρ := Eq) (T1 := fun K => bytesFW S1 m x K) (T2 := fun K => bytesStrW S2 M x K) ?_ ?_ ?_
     ·exact bytesFW_lc hs hm
     ·rintro a b rfl
      exact Out.put0 hm _ (fun sv h => h)
     ·exact fun h => bytesStrW_mono h
   | true => exact LC.false
  | true =>
   simp only [cond_true]
   cases he : S1.ev x with
   | none => exact LC.false
   | some sv =>
    simp only [hs.ev he]
    cases sv <;> first
     | exact LC.false
     | exact LC.ret (Out.put0 hm _ (fun sv h => h))
 | call c =>
  obtain ⟨callee, args, argTypes⟩ := c
  cases callee with
  | value g =>
   simp only [opW, frzW]
   show LC (fun K => match frzAtOf E dst with
    | [] => _
    | ids => bif (E.fixed f).fix.isSome then False else _) (fun K => match frzAtOf E dst with
    | [] => _
    | ids => _) _
   cases hfa : frzAtOf E dst with
   | cons i l => exact LC.false
   | nil =>
   simp only [callV]
   have hcy : callYOf E dst = none := (fpOk_noTok hfp).2.1 _ _ _ rfl
   have hcy' : callYOf (E.fixed f) dst = none := hcy
   cases he : S1.ev g with
   | none => exact LC.false
   | some sv =>
    simp only [hs.ev he]
    cases sv with
    | loc id off => exact LC.false
    | sl id n c => exact LC.false
    | v u =>
     cases u <;> try exact LC.false
     rename_i fv first captured
     cases fv <;> try exact LC.false
     rename_i gg
     have hqe : effOf (E.fixed f) dst = effOf E dst := rfl
     have hqx : extOf (E.fixed f) dst = extOf E dst := rfl
     simp only [hqx]
     cases hex : extOf E dst with
     | true => exact LC.false
     | false =>
     simp only [cond_false]
     simp only [hqe, hcy, hcy']
     cases hef : effOf E dst with
     | true => exact LC.false
     | false =>
     simp only [cond_false]
     have hq : tokCOf (E.fixed f) dst = tokCOf E dst := rfl
     simp only [hq]
     cases htc : tokCOf E dst with
     | some ke =>
      intro h
      have hqb : borrowOf (E.fixed f) dst = borrowOf E dst := rfl
      simp only [hqb] at h ⊢
      have htk : tk = some ke.1 := by
       have hfp' : ((callYOf E dst).isNone && tkCOk E tk dst) = true := hfp
       rw [Bool.and_eq_true] at hfp'
       have h2 := hfp'.2
       unfold tkCOk at h2
       rw [htc] at h2
       cases tk with
       | none => cases h2
       | some k => rw [Nat.eq_of_beq_eq_true h2]
      cases hli : locIds S1 args.toList ++ borrowOf E dst with
      | cons i l =>
       simp only [hli] at h
      | nil =>
       simp only [hli] at h
       have hloc := locIds_less hs h
       rw [← hloc, hli]
       revert h
       show LC (fun K : St × Mem → Prop => wvs S1 args.toList fun vs => callTW (E.fixed f) S1 m type gg (first.toList ++ vs ++ captured.toList) ke.1 ke.2 fun v S' m' => K (S'.put dst (some (SV.v v)), m'))
        (fun K : St × Mem → Prop => wvs S2 args.toList fun vs => callTW E S2 M type gg (first.toList ++ vs ++ captured.toList) ke.1 ke.2 fun v S' m' => K (S'.put dst (some (SV.v v)), m')) _
       refine wvs_lc hs fun vs => ?_
       refine LC.map (f := fun y : Value × (St × Mem) => (y.2.1.put dst (some (.v y.1)), y.2.2)) (g := fun y : Value × (St × Mem) => (y.2.1.put dst (some (.v y.1)), y.2.2)) (callTW_lc (rs := rs) (tk := tk) hE (f := f) htk hm) ?_ ?_
       ·rintro ⟨v1, y1⟩ ⟨v2, y2⟩ ⟨rfl, h2⟩
        exact h2.put dst (fun sv h => h)
       ·exact fun h => callTW_mono (fun v S' m' _ _ => h _)
     | none =>
     intro h
     have hloc := locIds_less hs h
     revert h
     rw [← hloc]
     show LC (fun K : St × Mem → Prop => wvs S1 args.toList fun vs => callW (E.fixed f) S1 m type gg (first.toList ++ vs ++ captured.toList) (locIds S1 args.toList ++ borrowOf E dst) fun v S' m' => K (S'.put dst (some (SV.v v)), m'))
      (fun K : St × Mem → Prop => wvs S2 args.toList fun vs => callW E S2 M type gg (first.toList ++ vs ++ captured.toList) (locIds S1 args.toList ++ borrowOf E dst) fun v S' m' => K (S'.put dst (some (SV.v v)), m')) _
     refine wvs_lc hs fun vs => ?_
     refine LC.map (f := fun y : Value × (St × Mem) => (y.2.1.put dst (some (.v y.1)), y.2.2)) (g := fun y : Value × (St × Mem) => (y.2.1.put dst (some (.v y.1)), y.2.2)) (callW_lc (rs := rs) (tk := tk) (γ := fun _ _ => none) hE (f := f) hs hrs hm) ?_ ?_
     ·rintro ⟨v1, y1⟩ ⟨v2, y2⟩ ⟨rfl, h2⟩
      exact h2.put dst (fun sv h => h)
     ·exact fun h => callW_mono (fun v S' m' _ _ => h _)
  | invoke r mm =>
   simp only [opW]
   exact hpure _ _ ⟨dst, _, type, pos, after, guard⟩
  | builtin b =>
   cases b with
   | append =>
    simp only [opW, fpOk] at *
    split
    ·rename_i s x T xT d _ _
     cases htk : tk with
     | none => simp [htk] at hfp
     | some key =>
      simp only [htk] at hfp
      obtain rfl := Nat.eq_of_beq_eq_true hfp
      simp only [frzW]
      show LC (fun K => match frzAtOf E (some d) with
       | [] => _
       | ids => bif (E.fixed f).fix.isSome then False else _) (fun K => match frzAtOf E (some d) with
       | [] => _
       | ids => _) _
      cases hfa : frzAtOf E (some d) with
      | cons i l => exact LC.false
      | nil =>
      refine wv_lc hs fun v => wv_lc hs fun v' => ?_
      have z := appendW_lc (E := E) (rs := []) (tk := some (E.tokOf d)) (key := E.tokOf d) (S1 := S1) (S2 := S2) (f := f) (T := T) (xT := xT) (vs := v) (vx := v') hm rfl (fun k hk => htok k (htk.trans hk))
      refine LC.map z (f := fun y : Value × (St × Mem) => (y.2.1.put (some d) (some (.v y.1)), y.2.2)) (g := fun y : Value × (St × Mem) => (y.2.1.put (some d) (some (.v y.1)), y.2.2)) ?_ ?_
      ·rintro ⟨v1, y1⟩ ⟨v2, y2⟩ ⟨rfl, h2⟩
       exact h2.put (some d) (fun sv h => h)
      ·exact fun h => appendW_mono (fun v t m' _ => h _)
    ·exact LC.false
   | copy =>
    simp only [opW, fpOk] at *
    split
    ·rename_i d s T xT _ _
     have hq : hintOf (E.fixed f) d = hintOf E d := rfl
     simp only [hq]
     cases hintOf E d with
     | none => exact LC.false
     | some id =>
      refine wv_lc hs fun v => wv_lc hs fun v' => ?_
      have z := copyW_lc (E := E) (rs := rs) (tk := tk) (g := false) (S1 := S1) (S2 := S2) (f := f) (T := T) (id := id) (vd := v) (vs := v') hs hrs hm
      refine LC.map z (f := fun y : Int × (St × Mem) => (y.2.1.put dst (some (.v (.int .i64 y.1))), m)) (g := fun y : Int × (St × Mem) => (y.2.1.put dst (some (.v (.int .i64 y.1))), M)) ?_ ?_
      ·rintro ⟨n1, y1⟩ ⟨n2, y2⟩ ⟨rfl, h2, h3, h4⟩
       have := h2.put dst (x1 := some (.v (.int .i64 n1))) (x2 := some (.v (.int .i64 n1))) (fun sv h => h)
       rw [h3, h4] at this; exact this
      ·exact fun h => copyW_mono (fun n S' _ => h _)
    ·exact LC.false
   | _ =>
    simp only [opW]
    exact hpure _ _ ⟨dst, _, type, pos, after, guard⟩
 | _ =>
  simp only [opW]
  exact hpure _ _ ⟨dst, _, type, pos, after, guard⟩
theorem opG_lc {E : Env} (w : World) (hE : E.fix = none) {f : List Value → Mem → Value → Mem → List (List Value) → Prop} (hs : Less S1 S2) (hrs : ∀ id x, S1.L id = some x → id ∈ rs) (hL : ∀ id ∈ rs, S1.L id = S2.L id)
  (htok : ∀ k, tk = some k → S1.tok k = S2.tok k) (hm : m.le M) {ops : Array Oper} {o : Oper} (hfp : fpOk E rs tk o = true) :
  LC (fun K : St × Mem → Prop => opG (E.fixed f) ops o S1 m fun S' m' => K (S', m')) (fun K : St × Mem → Prop => opG E ops o S2 M fun S' m' => K (S', m')) (Out (chgOf rs o) tk (growsOp o) m M o.dst S1 S2) := by
 have h1 := opW_lc w hE (f := f) hs hrs hL htok hm hfp
 have h0 : LC (fun K : St × Mem → Prop => K (S1.put o.dst (some (.v undef)), m)) (fun K : St × Mem → Prop => K (S2.put o.dst (some (.v undef)), M)) (Out (chgOf rs o) tk (growsOp o) m M o.dst S1 S2) := LC.ret (Out.put0 hm _ (fun sv h => h))
 unfold opG
 cases hg : o.guard with
 | none => exact h1
 | some jw =>
  obtain ⟨j, want⟩ := jw
  simp only
  cases ops.toList[j]? with
  | none => exact LC.false
  | some oj =>
   simp only
   cases oj.dst with
   | none => exact LC.false
   | some t =>
    simp only
    cases he : S1.env t with
    | none => exact LC.false
    | some sv =>
     simp only [hs.env t sv he]
     cases sv with
     | loc id off => exact LC.false
     | sl id n c => exact LC.false
     | v u =>
      simp only
      cases isUndef u with
      | true => exact h0
      | false =>
       refine LC.chk fun _ => ?_
       cases want
       ·exact LC.br h0 h1
       ·exact LC.br h1 h0
end
end Go.Eng
namespace Go.Eng
open Go Go.RowKit
def mem (l : List Nat) (i : Nat) : Bool := l.any (Nat.beq i ·)
theorem mem_iff {l : List Nat} {i : Nat} : mem l i = true ↔ i ∈ l := any_beq
def isTk (t : Option Nat) (k : Nat) : Bool := match t with
 | some q => Nat.beq k q
 | none => false
theorem isTk_iff {t : Option Nat} {k : Nat} : isTk t k = true ↔ t = some k := by
 cases t with
 | none => simp [isTk]
 | some q =>
  simp only [isTk, Option.some.injEq]
  exact ⟨fun h => (Nat.eq_of_beq_eq_true h).symm, fun h => by subst h; exact Nat.beq_refl _⟩
def isDst (o : Oper) (t : Nat) : Bool := isTk o.dst t
def resS (ops : Array Oper) (d : DOp) (o : Oper) (S : St) : St :=
 {env := fun t => bif mem (o.looksAt ops) t then S.env t else none
  L := fun id => bif mem d.rs id then S.L id else none
  ids := S.ids
  tok := fun k => bif isTk d.tk k then S.tok k else none
  tkeys := S.tkeys
  gh := S.gh
  fo := S.fo }
def mrgS (d : DOp) (o : Oper) (S S' : St) : St :=
 {env := fun t => bif isDst o t then S'.env t else S.env t
  L := fun id => bif mem d.ws id then S'.L id else S.L id
  ids := S.ids
  tok := fun k => bif isTk d.tk k then S'.tok k else S.tok k
  tkeys := S.tkeys
  gh := S.gh
  fo := S.fo }
def upd (μ : Nat → Mem) (i : Nat) (m : Mem) : Nat → Mem := fun j => bif Nat.beq j i then m else μ j
def leAll (μ : Nat → Mem) (M : Mem) : List Nat → Prop → Prop
 | [], p => p
 | j :: l, p => (μ j).le M → leAll μ M l p
def viewW (μ : Nat → Mem) (m0 : Mem) : List Nat → (Mem → Prop) → Prop
 | [], k => k m0
 | [j], k => k (μ j)
 | l, k => ∀ V : Mem, m0.le V → leAll μ V l (k V)
abbrev Fx := Nat → List Value → Mem → Value → Mem → List (List Value) → Prop
def rawW (E : Env) (ops : Array Oper) (m0 : Mem) (f : Fx) (d : DOp) (S : St) (μ : Nat → Mem) (K : St → Mem → Prop) : Prop := match ops.toList[d.i]? with
 | none => False
 | some o => viewW μ m0 d.vw fun V => opG (E.fixed (f d.i)) ops o (resS ops d o S) V K
def mrgO (ops : Array Oper) (d : DOp) (S S' : St) : St := match ops.toList[d.i]? with
 | none => S
 | some o => mrgS d o S S'
def stepW (E : Env) (ops : Array Oper) (m0 : Mem) (f : Fx) (d : DOp) (S : St) (μ : Nat → Mem) (K : St → (Nat → Mem) → Prop) : Prop :=
 rawW E ops m0 f d S μ fun S' m' => K (mrgO ops d S S') (upd μ d.i m')
def nestW (E : Env) (ops : Array Oper) (m0 : Mem) (f : Fx) : List DOp → (St → (Nat → Mem) → Prop) → St → (Nat → Mem) → Prop
 | [], K, S, μ => K S μ
 | d :: r, K, S, μ => stepW E ops m0 f d S μ (nestW E ops m0 f r K)
def gslot (ops : Array Oper) (d : DOp) : Option Nat := match ops.toList[d.i]? with
 | none => none
 | some o => guardSlot ops o
def nestB (E : Env) (ops : Array Oper) (m0 : Mem) (f : Fx) : List DOp → (St → (Nat → Mem) → Prop) → St → (Nat → Mem) → Prop
 | [], K, S, μ => K S μ
 | d :: r, K, S, μ => match gslot ops d with
  | none => stepW E ops m0 f d S μ (nestB E ops m0 f r K)
  | some t => match S.env t with
   | some (.v v) => bif isUndef v then stepW E ops m0 f d S μ (nestB E ops m0 f r K) else chk (isBool v) (br (boolOf v) (stepW E ops m0 f d (S.put (some t) (some (.v (.bool true)))) μ (nestB E ops m0 f r K)) (stepW E ops m0 f d (S.put (some t) (some (.v (.bool false)))) μ (nestB E ops m0 f r K)))
   | _ => False
def finW (m0 : Mem) (μ : Nat → Mem) : List Nat → (Mem → Prop) → Prop
 | [], k => k m0
 | l, k => ∀ M : Mem, m0.le M → leAll μ M l (k M)
def growL (ops : Array Oper) : List DOp → List Nat
 | [] => []
 | d :: r => match ops.toList[d.i]? with
  | none => growL ops r
  | some o => bif growsOp o then d.i :: growL ops r else growL ops r
def allWs : List DOp → List Nat
 | [] => []
 | d :: r => d.ws ++ allWs r
def allTk : List DOp → List Nat
 | [] => []
 | d :: r => match d.tk with
  | none => allTk r
  | some k => k :: allTk r
def startS (ds : List DOp) (S : St) : St := { S with ids := allWs ds ++ S.ids, tkeys := allTk ds ++ S.tkeys }
def disj (a b : List Nat) : Bool := a.all fun i => !mem b i
def subL (a b : List Nat) : Bool := a.all fun i => mem b i
def dstNot (o : Oper) (l : List Nat) : Bool := match o.dst with
 | none => true
 | some t => !mem l t
def dstNe (a b : Oper) : Bool := match a.dst with
 | none => true
 | some t => !isDst b t
def tkNe (a b : Option Nat) : Bool := match a with
 | none => true
 | some k => !isTk b k
def indep (ops : Array Oper) (c d : DOp) : Bool := match ops.toList[c.i]?, ops.toList[d.i]? with
 | some oc, some od => (dstNot oc (od.looksAt ops) && dstNot od (oc.looksAt ops) && dstNe oc od) && (disj c.ws d.rs && disj d.ws c.rs && tkNe c.tk d.tk) && (!mem d.vw c.i && !mem c.vw d.i && !Nat.beq c.i d.i)
 | _, _ => false
def preds (o : Oper) : List Nat := (o.after.toList.filter (Region.binds .any ·)).map (·.on)
def anOf : List DOp → Nat → List Nat
 | [], _ => []
 | d :: r, i => bif Nat.beq d.i i then d.an else anOf r i
def dopOk (E : Env) (ops : Array Oper) (d : DOp) (before : List DOp) : Bool := match ops.toList[d.i]? with
 | none => false
 | some o => (fpOk E d.rs d.tk o && subL (chgOf d.rs o) d.ws && subL d.ws d.rs) && (subL d.vw d.an && subL (preds o) (before.map (·.i))) &&
   (d.an.all fun j => mem (preds o) j || (preds o).any fun p => mem (anOf before p) j) && (before.all fun c => mem d.an c.i || indep ops c d) && (before.all fun c => !Nat.beq c.i d.i)
def dopsOk (E : Env) (ops : Array Oper) : List DOp → List DOp → Bool
 | [], _ => true
 | d :: r, before => dopOk E ops d before && dopsOk E ops r (d :: before)
def drawOk (E : Env) (ops : Array Oper) (ds : List DOp) (n : Nat) : Bool := (List.range n).all (fun i => ds.any fun d => Nat.beq d.i i) && Nat.ble ds.length ops.size && dopsOk E ops ds [] && E.fix.isNone
def hasCall : List Oper → Bool
 | [] => false
 | o :: l => (match o.op with
  | .call c => (match c.callee with
   | .value _ => true
   | _ => false)
  | _ => false) || hasCall l
def noFx : Fx := fun _ _ _ _ _ _ => True
def exF (b : Bool) (p : Fx → Prop) : Prop := match b with
 | true => ∃ f, p f
 | false => p noFx
theorem exF_elim {b : Bool} {p : Fx → Prop} (h : exF b p) : ∃ f, p f := by
 cases b
 ·exact ⟨_, h⟩
 ·exact h
theorem exF_mono {b : Bool} {p q : Fx → Prop} (h : ∀ f, p f → q f) (x : exF b p) : exF b q := by
 cases b
 ·exact h _ x
 ·obtain ⟨f, x⟩ := x; exact ⟨f, h f x⟩
def lastOk (ops : Array Oper) (ds : List DOp) (k : Nat) : Bool := (Nat.ble k ops.size && (List.range k).all fun j => match ops.toList[ops.size - k + j]? with
 | none => false
 | some o => (List.range j).all (fun i => mem (preds o) (ops.size - k + i)) && ((preds o).all (fun i => Nat.ble (i + 1) (ops.size - k + j)) && (bif Nat.beq j 0 then (List.range (ops.size - k)).all (fun i => mem (preds o) i || (preds o).any fun p => mem (anOf ds p) i) else true))) && ds.all fun d => Nat.ble (d.i + 1) (ops.size - k)
def tailW (E : Env) (ops : Array Oper) (K : St → Mem → Prop) : List Oper → St → Mem → Prop
 | [], S, m => K S m
 | o :: r, S, m => opGB E ops o S m (tailW E ops K r)
def lastW (E : Env) (ops : Array Oper) (k : Nat) (K : St → Mem → Prop) (S : St) (m : Mem) : Prop := tailW E ops K (ops.toList.drop (ops.size - k)) S m
def hotLd (E : Env) (S : St) (ids : List Nat) (T : TypeId) (x : Operand) (k : Value → Prop) : Prop := match E.tt T with
 | none => False
 | some i => match S.ev x with
  | some (.loc id off) => match S.L id with
   | none => False
   | some bx => chk (!mem ids id) (boxLoad i bx off k)
  | some (.v v) => match E.m0 with
   | none => False
   | some m0 => chk (isPtr v && (hintOf E x).isNone) (memLoad i m0 (ptrB v) (ptrO v) k)
  | _ => False
def isNilB {α : Type} : List α → Bool
 | [] => true
 | _ => false
def isFnO : Operand → Bool
 | .func _ => true
 | _ => false
def svFree (chg : List Nat) : SV → Bool
 | .v _ => true
 | .loc id _ => !mem chg id
 | .sl id _ _ => !mem chg id
def stilV (S : St) (chg : List Nat) (x : Operand) (k : SV → Prop) : Prop := match S.ev x with
 | some sv => chk (svFree chg sv) (k sv)
 | none => False
def stilW (E : Env) (S : St) (chg : List Nat) (o : Oper) (k : SV → Prop) : Prop := match o.op with
 | .load T x => chk (ldFOf E o.dst).isNone (hotLd E S chg T x fun v => k (.v v))
 | .move x => stilV S chg x k
 | .assign x => stilV S chg x k
 | .nilCheck x => match S.ev x with
  | some (.loc id off) => chk (!mem chg id) (k (.loc id off))
  | some (.v v) => chk (isPtr v) (k (.v v))
  | _ => False
 | .fieldAddr T x f => match fieldOff E T f with
  | none => False
  | some fo => match S.ev x with
   | some (.loc id off) => chk (!mem chg id) (k (.loc id (off + fo)))
   | some (.v v) => chk (isPtr v) (k (.v (ptr (ptrB v) (ptrO v + fo))))
   | _ => False
 | .indexAddr T x i => match S.ev i, ixOf E T, S.ev x with
  | some (.v vi), some (.sl esz), some (.v v) => chk (isAnyInt vi && isSl v) (∃ b o, slA v = some ⟨b, o, none⟩ ∧ inRange (intOf vi) (slN v) ∧ k (.v (ptr b (o + (intOf vi).toNat * esz))))
  | _, _, _ => False
 | _ => False
def stils (E : Env) (ops : Array Oper) (chg : List Nat) : List Nat → (St → Prop) → St → Prop
 | [], k, S => k S
 | i :: r, k, S => match ops.toList[i]? with
  | none => False
  | some o => stilW E S chg o fun sv => stils E ops chg r k (S.put o.dst (some sv))
def opsAt (ops : Array Oper) : List Nat → List Oper
 | [] => []
 | i :: r => match ops.toList[i]? with
  | none => []
  | some o => o :: opsAt ops r
def ancs (ops : Array Oper) (l : List Nat) : List Nat := (List.range ops.size).reverse.foldl (fun acc i => bif mem acc i then (match ops.toList[i]? with
 | some o => preds o ++ acc
 | none => acc) else acc) l
def noSel (o : Oper) : Bool := match o.op with
 | .select _ _ => false
 | .defer _ => false
 | _ => true
def predsAt (ops : Array Oper) (i : Nat) : List Nat := match ops.toList[i]? with
 | none => []
 | some o => preds o
def tame (E : Env) (ops : Array Oper) (i : Nat) : Bool := match ops.toList[i]? with
 | none => false
 | some o => match o.op with
  | .buildSlice _ _ _ => (tokCOf E o.dst).isNone
  | .call q => (match q.callee with
   | .builtin .len => true
   | .builtin .append => isNilB (frzAtOf E o.dst)
   | _ => false)
  | _ => false
def isCallY (E : Env) (ops : Array Oper) (i : Nat) : Bool := match ops.toList[i]? with
 | none => false
 | some o => match o.op with
  | .call q => (match q.callee with
   | .value f => isFnO f && ((callYOf E o.dst).isSome && (isNilB (frzAtOf E o.dst) && !extOf E o.dst))
   | _ => false)
  | _ => false
def serOk (E : Env) (ops : Array Oper) (H : List Nat) : List Nat → Bool
 | p :: t :: r => mem (predsAt ops t) p && ((tame E ops t || H.all (mem (ancs ops (predsAt ops t)))) && serOk E ops H (t :: r))
 | _ => true
def stilsOk (ops : Array Oper) : List Nat → List Nat → Bool
 | _, [] => true
 | prev, i :: r => (match ops.toList[i]? with
  | none => false
  | some o => o.dst.isSome && (o.looksAt ops).all fun t => !mem (opDsts ops.toList) t || prev.any fun j => mem (preds o) j && (match ops.toList[j]? with
   | some oj => isDst oj t
   | none => false)) && stilsOk ops (i :: prev) r
def mixOk (E : Env) (ops : Array Oper) (H T : List Nat) : Bool :=
 (natsNodup (H ++ T) && ((List.range ops.size).all (mem (H ++ T)) && ((H ++ T).all (Nat.blt · ops.size)))) && (natsNodup (opDsts ops.toList) && ops.toList.all fun o => o.guard.isNone && noSel o) &&
  ((List.range ops.size).all fun i => (predsAt ops i).all (Nat.blt · i)) && (stilsOk ops [] H && (T.all fun i => match ops.toList[i]? with
   | none => false
   | some o => H.all fun j => match ops.toList[j]? with
    | none => false
    | some oj => dstNot oj (o.looksAt ops) || mem (preds o) j)) && (serOk E ops H T && (match T with
   | [] => false
   | c :: _ => isCallY E ops c))
def chgT (E : Env) (ops : Array Oper) (T : List Nat) : List Nat := (match opsAt ops T with
 | [] => []
 | o :: _ => borrowOf E o.dst) ++ opDsts (opsAt ops T)
def mixW (E : Env) (id : Nat) (H T : List Nat) (ops : Array Oper) (K : St → Mem → Prop) (S : St) (m : Mem) : Prop :=
 chk (E.last id && (E.thaw && mixOk E ops H T)) (stils E ops (chgT E ops T) H (fun S1 => match opsAt ops T with
  | [] => False
  | o :: r => match o.op with
   | .call q => chk (isNilB (locIds S1 q.args.toList)) (opGB E ops o S1 m (tailW E ops K r))
   | _ => False) S)
def drawW0 (E : Env) (id : Nat) (ops : Array Oper) (K : St → Mem → Prop) (S : St) (m : Mem) : Prop :=
 match E.mix id with
 | some (H, T) => mixW E id H T ops K S m
 | none => chk (drawOk E ops (E.dr id) (bif E.last id then ops.size - E.lastK id else ops.size) && (bif E.last id then lastOk ops (E.dr id) (E.lastK id) else true)) (exF (hasCall ops.toList) fun f => bif E.gb then nestB E ops m f (E.dr id) (fun S' μ => finW m μ (growL ops (E.dr id)) fun M => bif E.last id then lastW E ops (E.lastK id) K S' M else K S' M) (startS (E.dr id) S) (fun _ => m) else nestW E ops m f (E.dr id) (fun S' μ => finW m μ (growL ops (E.dr id)) fun M => bif E.last id then lastW E ops (E.lastK id) K S' M else K S' M) (startS (E.dr id) S) (fun _ => m))
def ptrV (S : St) (y : Option SV) : Option SV := match y with
 | some (.loc i off) => (match S.L i with
  | some x => some (.v (.pointer (some ⟨x.b, off, none⟩)))
  | none => none)
 | y => y
def ptrS (S : St) (ts : List Nat) : St := { S with env := fun t => bif mem ts t then ptrV S (S.env t) else S.env t }
def samePt (S S' : St) : List Nat → Prop → Prop
 | [], p => p
 | t :: l, p => match S.env t with
  | some (.loc i _) => S'.L i = S.L i ∧ samePt S S' l p
  | some (.v _) => samePt S S' l p
  | _ => False
def unptr (S S' : St) (ts : List Nat) : St := { S' with env := fun t => bif mem ts t then S.env t else S'.env t }
def ptrW (ts ds : List Nat) (f : (St → Mem → Prop) → St → Mem → Prop) (K : St → Mem → Prop) (S : St) (m : Mem) : Prop := match ts with
 | [] => f K S m
 | _ :: _ => chk (disj ts ds) (f (fun S' m' => samePt S S' ts (K (unptr S S' ts) m')) (ptrS S ts) m)
def drawW (E : Env) (id : Nat) (ops : Array Oper) (K : St → Mem → Prop) (S : St) (m : Mem) : Prop := frzW E (some (1000000 + id)) S m fun S m => acqW E (bif E.last id then E.acq id else none) (ptrW (E.ptrAt id) (opDsts ops.toList) (drawW0 E id ops)) K S m
theorem leAll_mono {μ : Nat → Mem} {M : Mem} {p q : Prop} (h : p → q) : ∀ {l : List Nat}, leAll μ M l p → leAll μ M l q
 | [], x => h x
 | j :: l, x => fun y => leAll_mono h (x y)
theorem leAll_elim {μ : Nat → Mem} {M : Mem} {p : Prop} : ∀ {l : List Nat}, leAll μ M l p → (∀ j ∈ l, (μ j).le M) → p
 | [], x, _ => x
 | j :: l, x, h => leAll_elim (x (h j (by simp))) (fun i hi => h i (by simp [hi]))
theorem viewW_mono {μ : Nat → Mem} {m0 : Mem} {k k' : Mem → Prop} (h : ∀ V, k V → k' V) : ∀ {l : List Nat}, viewW μ m0 l k → viewW μ m0 l k'
 | [], x => h _ x
 | [j], x => h _ x
 | i :: j :: l, x => fun V hV => leAll_mono (h V) (x V hV)
theorem viewW_elim {μ : Nat → Mem} {m0 A : Mem} {l : List Nat} (h0 : m0.le A) (hl : ∀ j ∈ l, (μ j).le A) : ∃ V : Mem, V.le A ∧ ∀ k : Mem → Prop, viewW μ m0 l k → k V := by
 match l with
 | [] => exact ⟨m0, h0, fun k x => x⟩
 | [j] => exact ⟨μ j, hl j (by simp), fun k x => x⟩
 | i :: j :: l => exact ⟨A, Mem.le_refl A, fun k x => leAll_elim (x A h0) hl⟩
theorem viewW_upd {μ : Nat → Mem} {m0 : Mem} {i : Nat} {m : Mem} {l : List Nat} (h : i ∉ l) (k : Mem → Prop) : viewW (upd μ i m) m0 l k = viewW μ m0 l k := by
 have one : ∀ {j}, j ∈ l → upd μ i m j = μ j := fun {j} hj => by
  have : j ≠ i := fun e => h (e ▸ hj)
  simp [upd, beq_ne this]
 have all : ∀ {l' : List Nat}, (∀ j ∈ l', j ∈ l) → ∀ (M : Mem) (p : Prop), leAll (upd μ i m) M l' p = leAll μ M l' p := by
  intro l'
  induction l' with
  | nil => intro _ M p; rfl
  | cons j l' ih =>
   intro hs M p
   simp only [leAll]
   rw [one (hs j (by simp)), ih (fun x hx => hs x (by simp [hx]))]
 match l with
 | [] => rfl
 | [j] => simp only [viewW]; rw [one (by simp)]
 | a :: b :: l =>
  simp only [viewW]
  exact propext ⟨fun x V hV => by have := x V hV; rwa [all (fun j hj => hj)] at this, fun x V hV => by rw [all (fun j hj => hj)]; exact x V hV⟩
theorem finW_elim {m0 : Mem} {μ : Nat → Mem} {l : List Nat} {k : Mem → Prop} {A : Mem} (h : finW m0 μ l k) (h0 : m0.le A) (he : l = [] → A = m0) (hl : ∀ j ∈ l, (μ j).le A) : k A := by
 match l with
 | [] => rw [he rfl]; exact h
 | i :: l => exact leAll_elim (h A h0) hl
theorem finW_mono {m0 : Mem} {μ : Nat → Mem} {l : List Nat} {k k' : Mem → Prop} (h : ∀ M : Mem, m0.le M → k M → k' M) (x : finW m0 μ l k) : finW m0 μ l k' := by
 match l with
 | [] => exact h _ (Mem.le_refl _) x
 | i :: l => exact fun M hM => leAll_mono (h M hM) (x M hM)
theorem rawW_mono {E : Env} {ops : Array Oper} {m0 : Mem} {f : Fx} {d : DOp} {S : St} {μ : Nat → Mem} {K K' : St → Mem → Prop} (h : ∀ S' m', K S' m' → K' S' m') (hx : rawW E ops m0 f d S μ K) : rawW E ops m0 f d S μ K' := by
 unfold rawW at *
 split at hx
 ·exact hx.elim
 ·exact viewW_mono (fun V y => opG_mono (th := true) (.inl rfl) (fun S' m' _ _ => h S' m') y) hx
theorem nestW_mono {E : Env} {ops : Array Oper} {m0 : Mem} {f : Fx} : ∀ {r : List DOp} {K K' : St → (Nat → Mem) → Prop} {S : St} {μ : Nat → Mem}, (∀ S' μ', SameOut (opDsts ops.toList) S S' → K S' μ' → K' S' μ') → nestW E ops m0 f r K S μ → nestW E ops m0 f r K' S μ
 | [], K, K', S, μ, h, hx => h _ _ (SameOut.refl _ S) hx
 | d :: r, K, K', S, μ, h, hx => by
  refine rawW_mono (fun S' m' y => nestW_mono (fun S'' μ'' hs y => h _ _ (SameOut.trans ?_ hs) y) y) hx
  intro t ht
  unfold mrgO
  cases ho : ops.toList[d.i]? with
  | none => rfl
  | some o =>
   have : isDst o t = false := by
    cases hd : isDst o t with
    | false => rfl
    | true => exact absurd (mem_opDsts ho (isTk_iff.1 hd)) ht
   simp [mrgS, this]
theorem mrgO_same {ops : Array Oper} {d : DOp} {S S' : St} : SameOut (opDsts ops.toList) S (mrgO ops d S S') := by
 intro t ht
 unfold mrgO
 cases ho : ops.toList[d.i]? with
 | none => rfl
 | some o =>
  have : isDst o t = false := by
   cases hd : isDst o t with
   | false => rfl
   | true => exact absurd (mem_opDsts ho (isTk_iff.1 hd)) ht
  simp [mrgS, this]
theorem gslot_mem {ops : Array Oper} {d : DOp} {t : Nat} (h : gslot ops d = some t) : t ∈ opDsts ops.toList := by
 unfold gslot guardSlot at h
 split at h
 ·cases h
 ·split at h
  ·cases h
  ·split at h
   ·cases h
   ·rename_i oj hj
    exact mem_opDsts hj h
theorem nestB_mono {E : Env} {ops : Array Oper} {m0 : Mem} {f : Fx} : ∀ {r : List DOp} {K K' : St → (Nat → Mem) → Prop} {S : St} {μ : Nat → Mem}, (∀ S' μ', SameOut (opDsts ops.toList) S S' → K S' μ' → K' S' μ') → nestB E ops m0 f r K S μ → nestB E ops m0 f r K' S μ
 | [], K, K', S, μ, h, hx => h _ _ (SameOut.refl _ S) hx
 | d :: r, K, K', S, μ, h, hx => by
  have step : ∀ {S1 : St}, SameOut (opDsts ops.toList) S S1 → stepW E ops m0 f d S1 μ (nestB E ops m0 f r K) → stepW E ops m0 f d S1 μ (nestB E ops m0 f r K') := fun hs y =>
   rawW_mono (fun S' m' y => nestB_mono (fun S'' μ'' hs2 y => h _ _ (SameOut.trans (SameOut.trans hs mrgO_same) hs2) y) y) y
  unfold nestB at hx ⊢
  split at hx
  ·exact step (SameOut.refl _ S) hx
  ·rename_i t ht
   have hput : ∀ x, SameOut (opDsts ops.toList) S (S.put (some t) x) := fun x => (SameOut.refl _ S).put (fun t' e => by cases e; exact gslot_mem ht) x
   split at hx
   ·rename_i v hv
    cases hu : isUndef v with
    | true => simp only [hu, cond_true] at hx ⊢; exact step (SameOut.refl _ S) hx
    | false =>
     simp only [hu, cond_false] at hx ⊢
     refine chk_mono (fun y => ?_) hx
     cases hb : boolOf v with
     | true => rw [hb] at y; exact step (hput _) y
     | false => rw [hb] at y; exact step (hput _) y
   ·exact hx.elim
theorem put_self {S : St} {t : Nat} {x : SV} (h : S.env t = some x) : S.put (some t) (some x) = S := by
 cases S with
 | mk env L ids tok tkeys gh =>
  simp only [St.put]
  congr 1
  funext i
  by_cases e : i = t
  ·subst e; simp at h ⊢; exact h.symm
  ·simp [beq_ne e]
theorem nestB_nestW {E : Env} {ops : Array Oper} {m0 : Mem} {f : Fx} : ∀ {r : List DOp} {K : St → (Nat → Mem) → Prop} {S : St} {μ : Nat → Mem}, nestB E ops m0 f r K S μ → nestW E ops m0 f r K S μ
 | [], K, S, μ, hx => hx
 | d :: r, K, S, μ, hx => by
  have step : ∀ {S1 : St}, stepW E ops m0 f d S1 μ (nestB E ops m0 f r K) → stepW E ops m0 f d S1 μ (nestW E ops m0 f r K) := fun y => rawW_mono (fun S' m' y => nestB_nestW y) y
  unfold nestB at hx
  show stepW E ops m0 f d S μ (nestW E ops m0 f r K)
  split at hx
  ·exact step hx
  ·split at hx
   ·rename_i v hv
    cases hu : isUndef v with
    | true => simp only [hu, cond_true] at hx; exact step hx
    | false =>
     simp only [hu, cond_false] at hx
     obtain ⟨h1, h2⟩ := chk_elim hx
     have he := isBool_elim h1
     cases hb : boolOf v with
     | true =>
      rw [hb] at he h2
      subst he
      have h3 : stepW E ops m0 f d (S.put (some _) (some (.v (.bool true)))) μ (nestB E ops m0 f r K) := h2
      rw [put_self hv] at h3; exact step h3
     | false =>
      rw [hb] at he h2
      subst he
      have h3 : stepW E ops m0 f d (S.put (some _) (some (.v (.bool false)))) μ (nestB E ops m0 f r K) := h2
      rw [put_self hv] at h3; exact step h3
   ·exact hx.elim
theorem lastW_mono {E : Env} {id : Nat} {ops : Array Oper} {K K' : St → Mem → Prop} {S : St} {m : Mem} (h : ∀ S' m', SameOut (opDsts ops.toList) S S' → leD E id m m' → K S' m' → K' S' m') {S' : St} {M : Mem} (hs : SameOut (opDsts ops.toList) S S') (hM : m.le M) (y : bif E.last id then lastW E ops (E.lastK id) K S' M else K S' M) : bif E.last id then lastW E ops (E.lastK id) K' S' M else K' S' M := by
 cases hl : E.last id with
 | false =>
  rw [hl] at y
  exact h _ _ hs (by unfold leD; rw [hl]; exact hM) y
 | true =>
  rw [hl] at y
  simp only [cond_true] at y ⊢
  unfold lastW at y ⊢
  have key : ∀ (r : List Oper), (∀ o ∈ r, o ∈ ops.toList) → ∀ (S' : St) (M : Mem), SameOut (opDsts ops.toList) S S' → leT E.thaw m M → tailW E ops K r S' M → tailW E ops K' r S' M := by
   intro r
   induction r with
   | nil => exact fun _ S' M hs hM y => h _ _ hs (by unfold leD; rw [hl]; exact hM) y
   | cons o r ih =>
    intro hr S' M hs hM y
    simp only [tailW] at y ⊢
    obtain ⟨i, ho⟩ := List.getElem?_of_mem (hr o (by simp))
    exact opGB_mono (fun t ht => mem_opDsts ho ht) (fun S2 m2 hs2 hm2 y => ih (fun o ho => hr o (by simp [ho])) _ _ (hs.trans hs2) (leT.trans hM hm2) y) y
  exact key _ (fun o ho => List.mem_of_mem_drop ho) _ _ hs (.of hM) y
theorem tailW_mono {E : Env} {ops : Array Oper} {K K' : St → Mem → Prop} {S : St} {m : Mem} (h : ∀ S' m', SameOut (opDsts ops.toList) S S' → leT E.thaw m m' → K S' m' → K' S' m') : ∀ (r : List Oper), (∀ o ∈ r, o ∈ ops.toList) → ∀ (S' : St) (M : Mem), SameOut (opDsts ops.toList) S S' → leT E.thaw m M → tailW E ops K r S' M → tailW E ops K' r S' M
 | [], _, S', M, hs, hM, y => h _ _ hs hM y
 | o :: r, hr, S', M, hs, hM, y => by
  simp only [tailW] at y ⊢
  obtain ⟨i, ho⟩ := List.getElem?_of_mem (hr o (by simp))
  exact opGB_mono (fun t ht => mem_opDsts ho ht) (fun S2 m2 hs2 hm2 y => tailW_mono h r (fun o ho => hr o (by simp [ho])) _ _ (hs.trans hs2) (leT.trans hM hm2) y) y
theorem hotLd_mono {E : Env} {S : St} {ids : List Nat} {T : TypeId} {x : Operand} {k k' : Value → Prop} (h : ∀ v, k v → k' v) (hx : hotLd E S ids T x k) : hotLd E S ids T x k' := by
 unfold hotLd at *
 split at hx
 ·exact hx
 ·split at hx
  ·split at hx
   ·exact hx
   ·exact chk_mono (boxLoad_mono h) hx
  ·split at hx
   ·exact hx
   ·exact chk_mono (memLoad_mono h) hx
  ·exact hx
theorem stilV_mono {S : St} {chg : List Nat} {x : Operand} {k k' : SV → Prop} (h : ∀ v, k v → k' v) (hx : stilV S chg x k) : stilV S chg x k' := by
 unfold stilV at *
 split at hx
 ·exact chk_mono (h _) hx
 ·exact hx
theorem stilW_mono {E : Env} {S : St} {chg : List Nat} {o : Oper} {k k' : SV → Prop} (h : ∀ v, k v → k' v) (hx : stilW E S chg o k) : stilW E S chg o k' := by
 unfold stilW at *
 split at hx
 ·exact chk_mono (hotLd_mono fun v => h _) hx
 ·exact stilV_mono h hx
 ·exact stilV_mono h hx
 ·split at hx
  ·exact chk_mono (h _) hx
  ·exact chk_mono (h _) hx
  ·exact hx
 ·split at hx
  ·exact hx
  ·split at hx
   ·exact chk_mono (h _) hx
   ·exact chk_mono (h _) hx
   ·exact hx
 ·split at hx
  ·exact chk_mono (fun ⟨b, o, h1, h2, h3⟩ => ⟨b, o, h1, h2, h _ h3⟩) hx
  ·exact hx
 ·exact hx
theorem stils_mono {E : Env} {ops : Array Oper} {chg : List Nat} : ∀ {l : List Nat} {S : St} {k k' : St → Prop}, (∀ S', SameOut (opDsts ops.toList) S S' → k S' → k' S') → stils E ops chg l k S → stils E ops chg l k' S
 | [], S, k, k', h, hx => h _ (SameOut.refl _ S) hx
 | i :: l, S, k, k', h, hx => by
  unfold stils at *
  split at hx
  ·exact hx
  ·rename_i o ho
   exact stilW_mono (fun sv y => stils_mono (fun S' hs y => h _ (SameOut.trans ((SameOut.refl _ S).put (fun t e => mem_opDsts ho e) _) hs) y) y) hx
theorem opsAt_mem {ops : Array Oper} : ∀ {l : List Nat} {o : Oper}, o ∈ opsAt ops l → o ∈ ops.toList
 | [], o, h => by simp [opsAt] at h
 | i :: l, o, h => by
  unfold opsAt at h
  split at h
  ·simp at h
  ·rename_i o' ho
   rcases List.mem_cons.1 h with rfl | h
   ·exact List.mem_of_getElem? ho
   ·exact opsAt_mem h
theorem mixMono {E : Env} {id : Nat} {H T : List Nat} {ops : Array Oper} {K K' : St → Mem → Prop} {S : St} {m : Mem} (h : ∀ S' m', SameOut (opDsts ops.toList) S S' → leD E id m m' → K S' m' → K' S' m') (hx : mixW E id H T ops K S m) : mixW E id H T ops K' S m := by
 unfold mixW at *
 obtain ⟨h1, h2⟩ := chk_elim hx
 refine chk_intro h1 ?_
 simp only [Bool.and_eq_true] at h1
 have hth := h1.2.1
 refine stils_mono (fun S1 hs y => ?_) h2
 have hm : ∀ o ∈ opsAt ops T, o ∈ ops.toList := fun o ho => opsAt_mem ho
 split at y
 ·exact y
 ·rename_i o r hop
  rw [hop] at hm
  split at y
  ·refine chk_mono (fun y => ?_) y
   obtain ⟨i, ho⟩ := List.getElem?_of_mem (hm o (by simp))
   exact opGB_mono (fun t ht => mem_opDsts ho ht) (fun S2 m2 hs2 hm2 y => tailW_mono (S := S) (m := m) (fun S3 m3 hs3 _ y => h _ _ hs3 (by unfold leD; rw [h1.1, hth]; trivial) y) r (fun o' ho' => hm o' (by simp [ho'])) _ _ (hs.trans hs2) (by rw [hth]; trivial) y) y
  ·exact y
theorem drawMono0 (E : Env) : DrawMono E (drawW0 E) := by
 intro id ops K K' S m h hx
 unfold drawW0 at *
 cases hh : E.mix id with
 | some q => obtain ⟨H, T⟩ := q; simp only [hh] at hx ⊢; exact mixMono h hx
 | none =>
 simp only [hh] at hx ⊢
 refine chk_mono (fun y => ?_) hx
 refine exF_mono (fun f y => ?_) y
 cases hgb : E.gb with
 | false =>
  simp only [hgb, cond_false] at y ⊢
  exact nestW_mono (fun S' μ hs y => finW_mono (fun M hM y => lastW_mono h hs hM y) y) y
 | true =>
  simp only [hgb, cond_true] at y ⊢
  exact nestB_mono (fun S' μ hs y => finW_mono (fun M hM y => lastW_mono h hs hM y) y) y
theorem samePt_mono {S S' : St} {p q : Prop} (h : p → q) : ∀ {l : List Nat}, samePt S S' l p → samePt S S' l q
 | [], x => h x
 | t :: l, x => by
  unfold samePt at *
  split at x
  ·exact ⟨x.1, samePt_mono h x.2⟩
  ·exact samePt_mono h x
  ·exact x
theorem samePt_elim {S S' : St} {p : Prop} : ∀ {l : List Nat}, samePt S S' l p → p ∧ ∀ t ∈ l, (∃ i off, S.env t = some (.loc i off) ∧ S'.L i = S.L i) ∨ ∃ v, S.env t = some (.v v)
 | [], x => ⟨x, by simp⟩
 | t :: l, x => by
  unfold samePt at x
  split at x
  ·rename_i i off he
   obtain ⟨h1, h2⟩ := samePt_elim x.2
   refine ⟨h1, fun t' ht => ?_⟩
   rcases List.mem_cons.1 ht with rfl | ht
   ·exact .inl ⟨i, off, he, x.1⟩
   ·exact h2 t' ht
  ·rename_i v he
   obtain ⟨h1, h2⟩ := samePt_elim x
   refine ⟨h1, fun t' ht => ?_⟩
   rcases List.mem_cons.1 ht with rfl | ht
   ·exact .inr ⟨v, he⟩
   ·exact h2 t' ht
  ·exact x.elim
theorem ptrS_same {S S' : St} {ts ds : List Nat} (h : SameOut ds (ptrS S ts) S') : SameOut ds S (unptr S S' ts) := by
 intro t ht
 show (bif mem ts t then S.env t else S'.env t) = _
 cases hm : mem ts t with
 | true => rfl
 | false =>
  rw [cond_false, h t ht]
  show (bif mem ts t then _ else S.env t) = _
  rw [hm]; rfl
theorem ptrMono {E : Env} {id : Nat} {ops : Array Oper} {ts : List Nat} {K K' : St → Mem → Prop} {S : St} {m : Mem} (h : ∀ S' m', SameOut (opDsts ops.toList) S S' → leD E id m m' → K S' m' → K' S' m')
  (y : ptrW ts (opDsts ops.toList) (drawW0 E id ops) K S m) : ptrW ts (opDsts ops.toList) (drawW0 E id ops) K' S m := by
 unfold ptrW at *
 split at y
 ·exact drawMono0 E id ops K K' S m h y
 ·exact chk_mono (fun y => drawMono0 E id ops _ _ _ m (fun S' m' hs hl y => samePt_mono (fun y => h _ m' (ptrS_same hs) hl y) y) y) y
theorem drawMono (E : Env) : DrawMono E (drawW E) := by
 intro id ops K K' S m h hx
 refine frzW_mono (fun S1 m1 he hm y => ?_) hx
 have up : ∀ {m'}, leD E id m1 m' → leD E id m m' := fun hl => by
  unfold leD at hl ⊢
  cases hl' : E.last id with
  | true => rw [hl'] at hl; exact leT.trans (.of hm) hl
  | false => rw [hl'] at hl; exact mLt hm hl
 cases hl : E.last id with
 | false =>
  simp only [hl, cond_false, acqW] at y ⊢
  exact ptrMono (fun S' m' hs hl y => h S' m' ((sameOut_env he).trans hs) (up hl) y) y
 | true =>
  simp only [hl, cond_true] at y ⊢
  unfold acqW at *
  split at y
  ·exact ptrMono (fun S' m' hs hl y => h S' m' ((sameOut_env he).trans hs) (up hl) y) y
  ·obtain ⟨y1, y2⟩ := chk_elim y
   refine chk_intro y1 ?_
   simp only [Bool.and_eq_true] at y1
   split at y2
   ·exact y2
   ·obtain ⟨z0, a, n, c, z1, z2, z3⟩ := y2
    refine ⟨z0, a, n, c, z1, z2, ptrMono (fun S' m' hs _ z => ?_) z3⟩
    split at z
    ·exact z
    ·exact chk_mono (fun z zs hz => h _ _ ((sameOut_env he).trans (fun t ht => hs t ht)) (by unfold leD; rw [hl, y1.1]; trivial) (z zs hz)) z
end Go.Eng
namespace Go.Eng
open Go Go.RowKit
theorem St.ext' {a b : St} (h1 : a.env = b.env) (h2 : a.L = b.L) (h3 : a.ids = b.ids) (h4 : a.tok = b.tok) (h5 : a.tkeys = b.tkeys) (h6 : a.gh = b.gh) (h7 : a.fo = b.fo) : a = b := by
 cases a; cases b; simp at *; exact ⟨h1, h2, h3, h4, h5, h6, h7⟩
structure Ind (ops : Array Oper) (c d : DOp) (oc od : Oper) : Prop where
 hc : ops.toList[c.i]? = some oc
 hd : ops.toList[d.i]? = some od
 cd : ∀ t, isDst oc t = true → mem (od.looksAt ops) t = false
 dc : ∀ t, isDst od t = true → mem (oc.looksAt ops) t = false
 ne : ∀ t, isDst oc t = true → isDst od t = false
 lcd : ∀ id, mem c.ws id = true → mem d.rs id = false
 ldc : ∀ id, mem d.ws id = true → mem c.rs id = false
 tk : ∀ k, isTk c.tk k = true → isTk d.tk k = false
 vcd : c.i ∉ d.vw
 vdc : d.i ∉ c.vw
 i : c.i ≠ d.i
theorem disj_spec {a b : List Nat} (h : disj a b = true) : ∀ i, mem a i = true → mem b i = false := fun i hi => by
 have := List.all_eq_true.1 h i (mem_iff.1 hi)
 simpa using this
theorem subL_spec {a b : List Nat} (h : subL a b = true) : ∀ i, i ∈ a → i ∈ b := fun i hi => mem_iff.1 (List.all_eq_true.1 h i hi)
theorem dstNot_spec {o : Oper} {l : List Nat} (h : dstNot o l = true) : ∀ t, isDst o t = true → mem l t = false := fun t ht => by
 have := isTk_iff.1 ht
 simpa [dstNot, this] using h
theorem dstNe_spec {a b : Oper} (h : dstNe a b = true) : ∀ t, isDst a t = true → isDst b t = false := fun t ht => by
 have := isTk_iff.1 ht
 simpa [dstNe, this] using h
theorem tkNe_spec {a b : Option Nat} (h : tkNe a b = true) : ∀ t, isTk a t = true → isTk b t = false := fun t ht => by
 have := isTk_iff.1 ht
 simpa [tkNe, this] using h
theorem indep_spec {ops : Array Oper} {c d : DOp} (h : indep ops c d = true) : ∃ oc od, Ind ops c d oc od := by
 unfold indep at h
 split at h
 ·rename_i oc od hc hd
  simp only [Bool.and_eq_true, Bool.not_eq_true'] at h
  obtain ⟨⟨⟨⟨h1, h2⟩, h3⟩, ⟨h4, h5⟩, h6⟩, ⟨h7, h8⟩, h9⟩ := h
  refine ⟨oc, od, hc, hd, dstNot_spec h1, dstNot_spec h2, dstNe_spec h3, disj_spec h4, disj_spec h5, tkNe_spec h6, ?_, ?_, ?_⟩
  ·intro hm; rw [mem_iff.2 hm] at h7; cases h7
  ·intro hm; rw [mem_iff.2 hm] at h8; cases h8
  ·intro e; rw [e, beq_same] at h9; cases h9
 ·cases h
theorem Ind.symm' {ops : Array Oper} {c d : DOp} {oc od : Oper} (h : Ind ops c d oc od) : Ind ops d c od oc := by
 refine ⟨h.hd, h.hc, h.dc, h.cd, ?_, h.ldc, h.lcd, ?_, h.vdc, h.vcd, h.i.symm⟩
 ·intro t ht
  cases hh : isDst oc t with
  | false => rfl
  | true => rw [h.ne t hh] at ht; cases ht
 ·intro k hk
  cases hh : isTk c.tk k with
  | false => rfl
  | true => rw [h.tk k hh] at hk; cases hk
section
variable {E : Env} {ops : Array Oper} {m0 : Mem} {f : Fx} {c d : DOp} {oc od : Oper}
theorem resS_mrg (h : Ind ops c d oc od) (S S' : St) : resS ops d od (mrgS c oc S S') = resS ops d od S := by
 refine St.ext' (funext fun t => ?_) (funext fun id => ?_) rfl (funext fun k => ?_) rfl rfl rfl
 ·simp only [resS, mrgS]
  cases ht : isDst oc t with
  | true => simp [h.cd t ht]
  | false => simp
 ·simp only [resS, mrgS]
  cases ht : mem c.ws id with
  | true => simp [h.lcd id ht]
  | false => simp
 ·simp only [resS, mrgS]
  cases ht : isTk c.tk k with
  | true => simp [h.tk k ht]
  | false => simp
theorem mrg_comm (h : Ind ops c d oc od) (hw : ∀ id, id ∈ d.ws → id ∈ d.rs) (S Sc Sd : St) : mrgS c oc (mrgS d od S Sd) Sc = mrgS d od (mrgS c oc S Sc) Sd := by
 refine St.ext' (funext fun t => ?_) (funext fun id => ?_) rfl (funext fun k => ?_) rfl rfl rfl
 ·simp only [mrgS]
  cases ht : isDst oc t with
  | true => simp [h.ne t ht]
  | false => simp
 ·simp only [mrgS]
  cases ht : mem c.ws id with
  | true =>
   have : mem d.ws id = false := by
    cases hh : mem d.ws id with
    | false => rfl
    | true =>
     have h1 := h.lcd id ht
     rw [mem_iff.2 (hw id (mem_iff.1 hh))] at h1; cases h1
   simp [this]
  | false => simp
 ·simp only [mrgS]
  cases ht : isTk c.tk k with
  | true => simp [h.tk k ht]
  | false => simp
theorem upd_comm {μ : Nat → Mem} {i j : Nat} (h : i ≠ j) (a b : Mem) : upd (upd μ i a) j b = upd (upd μ j b) i a := by
 funext k
 simp only [upd]
 by_cases hk : k = j
 ·subst hk; simp [beq_ne (Ne.symm h)]
 ·simp [beq_ne hk]
theorem rawW_local (h : Ind ops c d oc od) (S S' : St) (μ : Nat → Mem) (m' : Mem) (K : St → Mem → Prop) : rawW E ops m0 f d (mrgO ops c S S') (upd μ c.i m') K = rawW E ops m0 f d S μ K := by
 unfold rawW mrgO
 simp only [h.hd, h.hc, resS_mrg h, viewW_upd h.vcd]
theorem stepW_def (S : St) (μ : Nat → Mem) (K : St → (Nat → Mem) → Prop) : stepW E ops m0 f d S μ K = rawW E ops m0 f d S μ fun S' m' => K (mrgO ops d S S') (upd μ d.i m') := rfl
def OutP (E : Env) (ops : Array Oper) (m0 : Mem) (f : Fx) (d : DOp) (S : St) (μ : Nat → Mem) (S' : St) (m' : Mem) : Prop := ∀ K : St → Mem → Prop, rawW E ops m0 f d S μ K → K S' m'
theorem nest_out {K : St → (Nat → Mem) → Prop} {S' : St} {m' : Mem} (hw : ∀ id, id ∈ d.ws → id ∈ d.rs) : ∀ {r1 r2 : List DOp} {S : St} {μ : Nat → Mem}, (∀ c ∈ r1, indep ops c d = true) → nestW E ops m0 f (r1 ++ d :: r2) K S μ → OutP E ops m0 f d S μ S' m' →
  nestW E ops m0 f (r1 ++ r2) K (mrgO ops d S S') (upd μ d.i m')
 | [], r2, S, μ, _, h, ho => ho _ h
 | c :: r1, r2, S, μ, hi, h, ho => by
  obtain ⟨oc, od, hind⟩ := indep_spec (hi c (by simp))
  simp only [List.cons_append, nestW, stepW_def] at h ⊢
  rw [rawW_local hind.symm']
  refine rawW_mono (fun Sc mc y => ?_) h
  have ih := nest_out (S' := S') (m' := m') hw (r1 := r1) (r2 := r2) (fun c hc => hi c (by simp [hc])) y (fun K hK => by rw [rawW_local hind] at hK; exact ho K hK)
  rw [upd_comm hind.i] at ih
  have e : mrgO ops c (mrgO ops d S S') Sc = mrgO ops d (mrgO ops c S Sc) S' := by
   simp only [mrgO, hind.hc, hind.hd]
   exact mrg_comm hind hw S Sc S'
  rw [e]; exact ih
end
theorem wpIn_const {F : Fence} (hF : FOk F) {n : Nat} {P : Program} {o : Oper} {a : Act} {w : World} {p : Prop} (h : o.wpIn F n P a w (fun _ _ => p) (fun _ _ _ => p)) : p := by
 have hroom : ∀ k, F.room k := fun k d hd => by rw [hF.depth] at hd; cases hd
 have h := h.2
 generalize (o.semAt F.round a.eval).run P w = r at h
 cases r with
 | ok x w' =>
  cases x <;> simp only [Oper.uponIn] at h
  all_goals first
   | exact h
   | exact h.elim
   | (obtain ⟨e, w'', fr, h, _⟩ := h.2.2 [] (hroom _)
      cases e <;> first
       | exact h
       | (obtain ⟨_, _, h⟩ := h; exact h))
   | (obtain ⟨v, w'', h, _⟩ := h.2 default [] (hroom _)
      exact h)
   | (obtain ⟨e, w'', h, _⟩ := h.2.2 default [] (hroom _)
      cases e <;> first
       | exact h
       | (obtain ⟨_, _, h⟩ := h; exact h))
 | halt x w' =>
  cases x <;> simp only [Oper.uponIn] at h
  all_goals first
   | exact h
   | exact h.elim
end Go.Eng
namespace Go.Eng
open Go Go.RowKit
theorem den_congr {a b : St} (h : ∀ id, a.L id = b.L id) (sv : SV) : a.den sv = b.den sv := by
 cases sv <;> simp only [St.den, h]
section
variable {C : Ctx} {E : Env} {ops : Array Oper} {m0 : Mem} {f : Fx} {d : DOp} {o : Oper} {S : St} {μ : Nat → Mem} {A : Mem} {a : Act} {w : World}
theorem rel_mrg (hchg : ∀ i, i ∈ chgOf d.rs o → i ∈ d.ws) (hws : ∀ i, i ∈ d.ws → i ∈ d.rs) (hids : ∀ i, i ∈ d.ws → i ∈ S.ids) (htk : ∀ k, d.tk = some k → k ∈ S.tkeys) (hr : Rel C S A a w)
  {S2 : St} {A2 : Mem} {a' : Act} {w' : World} {y : St × Mem} {g : Bool} {m M : Mem} (h : Rel C S2 A2 a' w') (ho : Out (chgOf d.rs o) d.tk g m M o.dst (resS ops d o S) S y (S2, A2)) : Rel C (mrgS d o S y.1) A2 a' w' := by
 have hL : ∀ id, (mrgS d o S y.1).L id = S2.L id := by
  intro id
  simp only [mrgS]
  cases hm : mem d.ws id with
  | true =>
   simp only [cond_true]
   rcases ho.L id with ⟨_, e⟩ | ⟨e1, e2⟩
   ·exact e
   ·rw [e1, e2]
    simp [resS, mem_iff.2 (hws id (mem_iff.1 hm))]
  | false =>
   simp only [cond_false]
   rcases ho.L id with ⟨hc, _⟩ | ⟨e1, e2⟩
   ·rw [mem_iff.2 (hchg id hc)] at hm; cases hm
   ·exact e2.symm
 have hT : ∀ k, (mrgS d o S y.1).tok k = S2.tok k := by
  intro k
  simp only [mrgS]
  cases hm : isTk d.tk k with
  | true =>
   simp only [cond_true]
   rcases ho.tok k with ⟨_, e⟩ | ⟨e1, e2⟩
   ·exact e
   ·rw [e1, e2]
    simp [resS, hm]
  | false =>
   simp only [cond_false]
   rcases ho.tok k with ⟨hc, _⟩ | ⟨e1, e2⟩
   ·rw [isTk_iff.2 hc] at hm; cases hm
   ·exact e2.symm
 refine h.restrict (congrArg Prod.fst ho.gh2).symm (congrArg Prod.snd ho.gh2).symm (fun id x hx => by rw [← hL]; exact hx) (fun k t ht => .inl (by rw [← hT]; exact ht)) ?_ ?_ ?_
 ·intro i sv he
  have he' : S2.env i = some sv := by
   simp only [mrgS] at he
   cases hd : isDst o i with
   | true =>
    simp only [hd, cond_true] at he
    exact ho.env1 i sv (isTk_iff.1 hd) he
   | false =>
    simp only [hd, cond_false] at he
    have : o.dst ≠ some i := fun e => by rw [show isDst o i = true from isTk_iff.2 e] at hd; cases hd
    exact (ho.env2 i this).trans he
  obtain ⟨v, h1, h2⟩ := h.env i sv he'
  exact ⟨v, by rw [den_congr hL]; exact h1, h2⟩
 ·intro id x hx
  show id ∈ S.ids
  cases hm : mem d.ws id with
  | true => exact hids id (mem_iff.1 hm)
  | false => simp only [mrgS, hm, cond_false] at hx; exact hr.ids id x hx
 ·intro k t ht
  show k ∈ S.tkeys
  cases hm : isTk d.tk k with
  | true => exact htk k (isTk_iff.1 hm)
  | false => simp only [mrgS, hm, cond_false] at ht; exact hr.tkeys k t ht
structure DOk (E : Env) (ops : Array Oper) (d : DOp) (o : Oper) : Prop where
 at_ : ops.toList[d.i]? = some o
 fp : fpOk E d.rs d.tk o = true
 chg : ∀ i, i ∈ chgOf d.rs o → i ∈ d.ws
 ws : ∀ i, i ∈ d.ws → i ∈ d.rs
theorem sem_step (hE : E.ok) {F : Fence} (hF : FOk F) (hY : YOk E C) (hlt : opsLt C.n ops.toList = true) (hfix : E.fix = none) (hd : DOk E ops d o) (hids : ∀ i, i ∈ d.ws → i ∈ S.ids) (htk : ∀ k, d.tk = some k → k ∈ S.tkeys)
  (hr : Rel C S A a w) (h0 : m0.le A) (hv : ∀ j, j ∈ d.vw → (μ j).le A) (h : rawW E ops m0 f d S μ (fun _ _ => True)) {n : Nat} {Q : Exit → Act → World → Prop} {next : Act → World → Prop}
  (hK : ∀ S' m' A' a' w', OutP E ops m0 f d S μ S' m' → Rel C (mrgO ops d S S') A' a' w' → A.le A' → m'.le A' → (growsOp o = false → A' = A) → next a' w') : wpOpIn F n E.P ops Q d.i next a w := by
 unfold rawW at h
 simp only [hd.at_] at h
 obtain ⟨V, hVA, hV⟩ := viewW_elim (l := d.vw) h0 hv
 have hless : Less (resS ops d o S) S := ⟨fun t sv ht => by
  simp only [resS] at ht
  cases hm : mem (o.looksAt ops) t <;> simp [hm] at ht; exact ht, fun id x hx => by
  simp only [resS] at hx
  cases hm : mem d.rs id <;> simp [hm] at hx; exact hx⟩
 have h2 : opG E ops o S A (fun S2 A2 => ∃ y1 : St × Mem, (∀ K : St × Mem → Prop, opG (E.fixed (f d.i)) ops o (resS ops d o S) V (fun S' m' => K (S', m')) → K y1) ∧ Out (chgOf d.rs o) d.tk (growsOp o) V A o.dst (resS ops d o S) S y1 (S2, A2)) :=
  opG_lc (rs := d.rs) (tk := d.tk) w hfix hless (fun id x hx => by
   simp only [resS] at hx
   cases hm : mem d.rs id with
   | true => exact mem_iff.1 hm
   | false => simp [hm] at hx) (fun id hid => by simp [resS, mem_iff.2 hid]) (fun k hk => by simp [resS, isTk_iff.2 hk]) hVA hd.fp (hV _ h)
 have h3 := opG_mono (th := false) (.inr (fpOk_noTok hd.fp)) (K' := fun S2 A2 => A.le A2 ∧ ∃ y1 : St × Mem, (∀ K : St × Mem → Prop, opG (E.fixed (f d.i)) ops o (resS ops d o S) V (fun S' m' => K (S', m')) → K y1) ∧ Out (chgOf d.rs o) d.tk (growsOp o) V A o.dst (resS ops d o S) S y1 (S2, A2)) (fun S' m' _ hm y => ⟨hm, y⟩) h2
 have ho' : ops[d.i]? = some o := by simpa using hd.at_
 have := opG_sound hE hF hY (opsLt_spec hlt d.i o hd.at_) hr h3 (n := n) (Q := Q) (next := next) (fun S2 A2 a' w' ⟨hA, y1, g1, g2⟩ hrel => by
  refine hK y1.1 y1.2 A2 a' w' ?_ ?_ hA g2.le (fun hg => (g2.same hg).2)
  ·intro K hKK
   unfold rawW at hKK
   simp only [hd.at_] at hKK
   exact g1 (fun y => K y.1 y.2) (hV _ hKK)
  ·simp only [mrgO, hd.at_]
   exact rel_mrg hd.chg hd.ws hids htk hr hrel g2)
 unfold wpOpIn
 simp only [ho']
 exact this
end
theorem mrgO_ids (ops : Array Oper) (d : DOp) (S S' : St) : (mrgO ops d S S').ids = S.ids ∧ (mrgO ops d S S').tkeys = S.tkeys := by
 unfold mrgO
 cases ops.toList[d.i]? <;> exact ⟨rfl, rfl⟩
theorem upd_same (μ : Nat → Mem) (i : Nat) (m : Mem) : upd μ i m i = m := by simp [upd]
theorem upd_ne {μ : Nat → Mem} {i j : Nat} (h : j ≠ i) (m : Mem) : upd μ i m j = μ j := by simp [upd, beq_ne h]
def TopoR : (Nat → Prop) → List DOp → Prop
 | _, [] => True
 | D, c :: r => (∀ j, j ∈ c.vw → D j) ∧ TopoR (fun j => D j ∨ j = c.i) r
theorem extract {C : Ctx} {E : Env} (hE : E.ok) {F : Fence} (hF : FOk F) (hY : YOk E C) {ops : Array Oper} (hlt : opsLt C.n ops.toList = true) (hfix : E.fix = none) {m0 : Mem} {f : Fx} {d : DOp} {r2 : List DOp} {K : St → (Nat → Mem) → Prop} :
  ∀ {r1 : List DOp} {D : Nat → Prop} {S : St} {μ : Nat → Mem} {A : Mem} {a : Act} {w : World}, Rel C S A a w → m0.le A → (∀ j, D j → (μ j).le A) → TopoR D r1 → (∀ c ∈ r1, (∃ o, DOk E ops c o) ∧ (∀ i, i ∈ c.ws → i ∈ S.ids) ∧ (∀ k, c.tk = some k → k ∈ S.tkeys)) → (∀ c ∈ r1, indep ops c d = true) →
   nestW E ops m0 f (r1 ++ d :: r2) K S μ → rawW E ops m0 f d S μ (fun _ _ => True)
 | [], D, S, μ, A, a, w, hr, h0, hD, ht, hc, hi, h => rawW_mono (fun _ _ _ => trivial) h
 | c :: r1, D, S, μ, A, a, w, hr, h0, hD, ht, hc, hi, h => by
  obtain ⟨oc, od, hind⟩ := indep_spec (hi c (by simp))
  obtain ⟨⟨o, hok⟩, hids, htk⟩ := hc c (by simp)
  simp only [List.cons_append, nestW, stepW_def] at h
  have key := sem_step (n := 0) (next := fun _ _ => rawW E ops m0 f d S μ (fun _ _ => True)) (Q := fun _ _ _ => rawW E ops m0 f d S μ (fun _ _ => True)) hE hF hY hlt hfix hok hids htk hr h0 (fun j hj => hD j (ht.1 j hj)) (rawW_mono (fun _ _ _ => trivial) h) (fun S' m' A' a' w' hout hrel hA hm _ => by
   have := extract hE hF hY hlt hfix (r1 := r1) (D := fun j => D j ∨ j = c.i) hrel (mLt h0 hA) (fun j hj => by
    by_cases e : j = c.i
    ·subst e; rw [upd_same]; exact hm
    ·rw [upd_ne e]; exact mLt (hD j (hj.resolve_right e)) hA) ht.2 (fun c' hc' => by
     obtain ⟨h1, h2, h3⟩ := hc c' (by simp [hc'])
     exact ⟨h1, fun i hi => by rw [(mrgO_ids ops c S S').1]; exact h2 i hi, fun k hk => by rw [(mrgO_ids ops c S S').2]; exact h3 k hk⟩) (fun c' hc' => hi c' (by simp [hc'])) (hout _ h)
   rwa [rawW_local hind] at this)
  unfold wpOpIn at key
  have ho' : ops[c.i]? = some o := by simpa using hok.at_
  simp only [ho'] at key
  split at key
  ·exact wpIn_const hF key
  ·exact key.2
end Go.Eng
namespace Go.Eng
open Go Go.RowKit
theorem getD_set_eq {l : Array Bool} {i : Nat} (h : i < l.size) : (l.setIfInBounds i true).getD i false = true := by simp [Array.getD, h]
theorem allL_mono' : ∀ {n : Nat} {k k' : List (List Value) → Prop}, (∀ v, v.length = n → k v → k' v) → allL n k → allL n k'
 | 0, k, k', h, hx => h _ rfl hx
 | n + 1, k, k', h, hx => fun cs => allL_mono' (fun l hl hx => h _ (by simp [hl]) hx) (hx cs)
theorem callYW_box {E : Env} {S : St} {m : Mem} {rt : TypeId} {g : FuncId} {args : List Value} {ids : List Nat} {ks : List (Nat × Nat)} {K : Value → St → Mem → Prop}
  (h : callYW E S m rt g args ids ks K) : callYW E S m rt g args ids ks fun v S' m' => K v S' m' ∧ ∀ id, id ∉ ids → S'.L id = S.L id := by
 unfold callYW at *
 cases hb : boxesOf S ids with
 | none => simp [hb] at h
 | some bxs =>
  simp only [hb] at h ⊢
  cases hm : E.m0 with
  | none => simp [hm] at h
  | some m0 =>
   simp only [hm] at h ⊢
   obtain ⟨h1, Y, R, h2, h3, h4, h5, h6⟩ := chk_elim h
   refine chk_intro h1 ⟨Y, R, h2, h3, h4, h5, ?_⟩
   simp only [Bool.and_eq_true] at h1
   have hnd := natsNodup_spec h1.2.2.1
   have hlen := (boxesOf_spec hb).1
   refine Shape.all_mono _ (fun v z m' hm' hn => ?_) h6
   refine allL_mono' (fun css hc z => allSl_mono (fun tvs z hR => ⟨z hR, fun id hid => ?_⟩) z) (z m' hm' hn)
   rcases setLs_L (S := S) hnd hlen hc id with ⟨_, q⟩ | ⟨i, x, cs, q, _⟩
   ·exact q
   ·exact absurd (List.mem_of_getElem? q) hid
theorem look_det {l : List Value} {n : Nat} {k : Value → Prop} (h : look l n k) : ∃ v, k v ∧ look l n (· = v) := by
 obtain ⟨v, h1, h2⟩ := look_elim h
 exact ⟨v, h2, look_intro h1 rfl⟩
theorem boxLoad_det {i : TI} {x : Box} {off : Nat} {k : Value → Prop} (h : boxLoad i x off k) : ∃ v, k v ∧ boxLoad i x off (· = v) := by
 unfold boxLoad at *
 cases ha : i.agg with
 | true =>
  simp only [ha, cond_true] at *
  cases hf : (x.full && (Nat.beq x.cap i.size && Nat.beq off 0)) with
  | true =>
   simp only [hf, cond_true] at *
   exact ⟨_, h, rfl⟩
  | false =>
   simp only [hf, cond_false] at *
   obtain ⟨h1, h2⟩ := chk_elim h
   exact ⟨_, h2, chk_intro h1 rfl⟩
 | false =>
  simp only [ha, cond_false] at *
  exact look_det h
theorem memLoad_det {i : TI} {m : Mem} {b o : Nat} {k : Value → Prop} (h : memLoad i m b o k) : ∃ v, k v ∧ ∀ m' : Mem, m.le m' → memLoad i m' b o (· = v) := by
 unfold memLoad at *
 cases ha : i.agg with
 | false =>
  simp only [ha, cond_false] at *
  obtain ⟨v, h1, h2⟩ := h
  exact ⟨v, h2, fun m' hm => ⟨v, hm _ _ _ h1, rfl⟩⟩
 | true =>
  simp only [ha, cond_true] at *
  cases hb : Nat.ble i.size 16 with
  | true =>
   simp only [hb, cond_true] at *
   obtain ⟨vs, h1, h2, h3⟩ := exN_elim h
   exact ⟨_, h3, fun m' hm => exN_intro vs h1 ⟨fun j v hv => hm _ _ _ (h2 j v hv), rfl⟩⟩
  | false =>
   simp only [hb, cond_false] at *
   obtain ⟨vs, h1, h2, h3⟩ := h
   exact ⟨_, h3, fun m' hm => ⟨vs, h1, fun j v hv => hm _ _ _ (h2 j v hv), rfl⟩⟩
theorem isNilB_iff {α : Type} {l : List α} (h : isNilB l = true) : l = [] := by
 cases l with
 | nil => rfl
 | cons x l => cases h
theorem countP_drop {p q : Nat → Bool} {i : Nat} (hp : p i = true) (hq : ∀ j, q j = (p j && !Nat.beq j i)) : ∀ {l : List Nat}, l.Nodup → i ∈ l → l.countP q + 1 = l.countP p
 | [], _, h => by cases h
 | x :: l, hn, hi => by
  rw [List.nodup_cons] at hn
  rw [List.countP_cons, List.countP_cons]
  by_cases e : x = i
  ·subst e
   have : l.countP q = l.countP p := List.countP_congr fun j hj => by
    have : j ≠ x := fun e => hn.1 (e ▸ hj)
    rw [hq, beq_ne this]; simp
   rw [this, hq, beq_same, hp]; simp
  ·have ih := countP_drop hp hq hn.2 ((List.mem_cons.1 hi).resolve_left fun h => e h.symm)
   rw [hq x, beq_ne e]
   simp only [Bool.not_false, Bool.and_true]
   omega
section
variable {C : Ctx} {m : Mem} {a : Act} {w : World}
def Stab (E : Env) (C : Ctx) (ops : Array Oper) (chg : List Nat) (S : St) (o : Oper) (v : Value) : Prop :=
 ∀ (S' : St) (m' : Mem) (a' : Act) (w' : World), Rel C S' m' a' w' → (∀ t, t ∈ o.looksAt ops → S'.env t = S.env t) → (∀ id, id ∉ chg → S'.L id = S.L id) → (execOp a'.eval o).run E.P w' = .ok (.value v) w'
theorem Stab.next {E : Env} {ops : Array Oper} {chg : List Nat} {S S2 : St} {o : Oper} {v : Value} (h : Stab E C ops chg S o v) (he : ∀ t, t ∈ o.looksAt ops → S2.env t = S.env t) (hL : ∀ id, id ∉ chg → S2.L id = S.L id) : Stab E C ops chg S2 o v :=
 fun S' m' a' w' hr h1 h2 => h S' m' a' w' hr (fun t ht => (h1 t ht).trans (he t ht)) (fun id hid => (h2 id hid).trans (hL id hid))
theorem ev_same {ops : Array Oper} {S S' : St} {o : Oper} {x : Operand} (hx : x ∈ o.op.operands) (h : ∀ t, t ∈ o.looksAt ops → S'.env t = S.env t) : S'.ev x = S.ev x := by
 cases x with
 | tmp t => exact h t (List.mem_append_left _ (List.mem_filterMap.2 ⟨.tmp t, by simpa using hx, rfl⟩))
 | _ => rfl
theorem den_same {S S' : St} {chg : List Nat} {sv : SV} (hf : svFree chg sv = true) (hL : ∀ id, id ∉ chg → S'.L id = S.L id) : S'.den sv = S.den sv := by
 have key : ∀ id, mem chg id = false → id ∉ chg := fun id h hm => by rw [mem_iff.2 hm] at h; cases h
 cases sv with
 | v x => rfl
 | loc id off =>
  simp only [svFree, Bool.not_eq_true'] at hf
  simp only [St.den, hL id (key id hf)]
 | sl id n c =>
  simp only [svFree, Bool.not_eq_true'] at hf
  simp only [St.den, hL id (key id hf)]
theorem stilV_spec {S : St} {chg : List Nat} {x : Operand} {k : SV → Prop} (hr : Rel C S m a w) (h : stilV S chg x k) : ∃ sv v, k sv ∧ S.ev x = some sv ∧ S.den sv = some v ∧
  ∀ (S' : St) (m' : Mem) (a' : Act) (w' : World), Rel C S' m' a' w' → S'.ev x = S.ev x → (∀ id, id ∉ chg → S'.L id = S.L id) → a'.eval x = v := by
 unfold stilV at h
 split at h
 ·rename_i sv he
  obtain ⟨h1, h2⟩ := chk_elim h
  obtain ⟨v, g1, _, _⟩ := hr.ev_val he
  refine ⟨sv, v, h2, he, g1, fun S' m' a' w' hr' e1 e2 => ?_⟩
  obtain ⟨v', g3, _, g5⟩ := hr'.ev_val (e1.trans he)
  rw [den_same h1 e2, g1] at g3; cases g3; exact g5
 ·exact h.elim
theorem stilW_spec {E : Env} (hE : E.ok) (hY : YOk E C) {ops : Array Oper} {S : St} {chg : List Nat} {o : Oper} {k : SV → Prop} (hr : Rel C S m a w) (h : stilW E S chg o k) : ∃ sv v, k sv ∧ S.den sv = some v ∧ Stab E C ops chg S o v := by
 have key : ∀ id, (!mem chg id) = true → id ∉ chg := fun id h hm => by rw [mem_iff.2 hm] at h; cases h
 have pure1 : ∀ (sv : SV), k sv → svFree chg sv = true → (∀ S' : St, (∀ x ∈ o.op.operands, S'.ev x = S.ev x) → (∀ id, id ∉ chg → S'.L id = S.L id) → pureW E S' o (· = sv)) → ∃ sv v, k sv ∧ S.den sv = some v ∧ Stab E C ops chg S o v := fun sv hk hf hp => by
  obtain ⟨_, v, rfl, g2, _⟩ := pureW_sound hE hr (hp S (fun _ _ => rfl) (fun _ _ => rfl))
  refine ⟨_, v, hk, g2, fun S' m' a' w' hr' e1 e2 => ?_⟩
  obtain ⟨_, v', rfl, g5, g6⟩ := pureW_sound hE hr' (hp S' (fun x hx => ev_same hx e1) e2)
  rw [den_same hf e2, g2] at g5; cases g5; exact g6
 obtain ⟨dst, op, type, pos, after, guard⟩ := o
 cases op <;> simp only [stilW] at h <;> try exact h.elim
 case load T x =>
  obtain ⟨h1, h2⟩ := chk_elim h
  unfold hotLd at h2
  cases ht : E.tt T with
  | none => simp [ht] at h2
  | some i =>
   simp only [ht] at h2
   have fin : ∀ v, k (.v v) → (∀ (S' : St) (m' : Mem), S'.ev x = S.ev x → (∀ id, id ∉ chg → S'.L id = S.L id) → C.m0.le m' → loadW E S' m' T x (· = v)) → ∃ sv v, k sv ∧ S.den sv = some v ∧ Stab E C ops chg S ⟨dst, .load T x, type, pos, after, guard⟩ v := fun v hk hl =>
    ⟨.v v, v, hk, rfl, fun S' m' a' w' hr' e1 e2 => by
     obtain ⟨_, rfl, hrun⟩ := loadW_sound hE hr' (hl S' m' (ev_same (o := ⟨dst, .load T x, type, pos, after, guard⟩) (by simp [Op.operands]) e1) e2 hr'.le0)
     simp [execOp, hrun]⟩
   split at h2
   ·rename_i id off he
    cases hL : S.L id with
    | none => simp [hL] at h2
    | some bx =>
     simp only [hL] at h2
     obtain ⟨h3, h4⟩ := chk_elim h2
     obtain ⟨v, h5, h6⟩ := boxLoad_det h4
     refine fin v h5 fun S' m' q1 q2 q3 => ?_
     unfold loadW
     simp only [ht, q1, he, q2 id (key id h3), hL]
     exact h6
   ·rename_i v0 he
    cases hm : E.m0 with
    | none => simp [hm] at h2
    | some m0 =>
     simp only [hm] at h2
     obtain ⟨h3, h4⟩ := chk_elim h2
     simp only [Bool.and_eq_true, Option.isNone_iff_eq_none] at h3
     obtain ⟨v, h5, h6⟩ := memLoad_det h4
     refine fin v h5 fun S' m' q1 q2 q3 => ?_
     unfold loadW
     simp only [ht, q1, he, h3.2]
     exact chk_intro h3.1 (h6 m' (by rw [← (hY.m0 m0 hm).1]; exact q3))
   ·exact h2.elim
 case move x =>
  obtain ⟨sv, v, h1, h2, h3, h4⟩ := stilV_spec hr h
  exact ⟨sv, v, h1, h3, fun S' m' a' w' hr' e1 e2 => by simp [execOp, h4 S' m' a' w' hr' (ev_same (o := ⟨dst, .move x, type, pos, after, guard⟩) (by simp [Op.operands]) e1) e2]⟩
 case assign x =>
  obtain ⟨sv, v, h1, h2, h3, h4⟩ := stilV_spec hr h
  exact ⟨sv, v, h1, h3, fun S' m' a' w' hr' e1 e2 => by simp [execOp, h4 S' m' a' w' hr' (ev_same (o := ⟨dst, .assign x, type, pos, after, guard⟩) (by simp [Op.operands]) e1) e2]⟩
 case nilCheck x =>
  split at h
  ·rename_i id off he
   obtain ⟨h1, h2⟩ := chk_elim h
   exact pure1 _ h2 h1 fun S' e1 e2 => by simp only [pureW, e1 x (by simp [Op.operands]), he]
  ·rename_i v he
   obtain ⟨h1, h2⟩ := chk_elim h
   exact pure1 _ h2 rfl fun S' e1 e2 => by simp only [pureW, e1 x (by simp [Op.operands]), he]; exact chk_intro h1 trivial
  ·exact h.elim
 case fieldAddr T x f =>
  cases hf : fieldOff E T f with
  | none => simp [hf] at h
  | some fo =>
   simp only [hf] at h
   split at h
   ·rename_i id off he
    obtain ⟨h1, h2⟩ := chk_elim h
    exact pure1 _ h2 h1 fun S' e1 e2 => by simp only [pureW, hf, e1 x (by simp [Op.operands]), he]
   ·rename_i v he
    obtain ⟨h1, h2⟩ := chk_elim h
    exact pure1 _ h2 rfl fun S' e1 e2 => by simp only [pureW, hf, e1 x (by simp [Op.operands]), he]; exact chk_intro h1 trivial
   ·exact h.elim
 case indexAddr T x i =>
  split at h
  ·rename_i vi esz v hi hx he
   obtain ⟨h1, b, o, h2, h3, h4⟩ := chk_elim h
   simp only [Bool.and_eq_true] at h1
   refine pure1 _ h4 rfl fun S' e1 e2 => ?_
   have hvi : S'.val i = some vi := by
    unfold St.val
    rw [e1 i (by simp [Op.operands]), hi]; rfl
   simp only [pureW, wv, hvi, hx, e1 x (by simp [Op.operands]), he]
   exact chk_intro h1.1 (chk_intro h1.2 ⟨b, o, h2, h3, rfl⟩)
  ·exact h.elim
end
end Go.Eng
namespace Go.Eng
open Go Go.RowKit
structure HV where
 i : Nat
 d : Nat
 v : Value
def fill (L : Array Bool) : List HV → Act → Act
 | [], a => a
 | q :: vs, a => fill L vs (bif L.getD q.i false then a else a.put (some q.d) q.v)
theorem fill_other {L : Array Bool} {i : Nat} : ∀ {vs : List HV} {a : Act}, i ∉ vs.map (·.i) → fill (L.setIfInBounds i true) vs a = fill L vs a
 | [], a, _ => rfl
 | q :: vs, a, h => by
  simp only [List.map_cons, List.mem_cons, not_or] at h
  simp only [fill, getD_set_ne false h.1]
  exact fill_other h.2
theorem fill_self {L : Array Bool} {q : HV} (hq : L.getD q.i false = false) (hs : q.i < L.size) : ∀ {vs : List HV} {a : Act}, q ∈ vs → (vs.map (·.i)).Nodup → (vs.map (·.d)).Nodup → fill (L.setIfInBounds q.i true) vs (a.put (some q.d) q.v) = fill L vs a
 | [], a, h, _, _ => by cases h
 | r :: vs, a, h, h1, h2 => by
  simp only [List.map_cons, List.nodup_cons] at h1 h2
  simp only [fill]
  by_cases e : r = q
  ·subst e
   rw [getD_set_eq hs, hq, cond_true, cond_false]
   exact fill_other h1.1
  ·have hm := (List.mem_cons.1 h).resolve_left (fun h => e h.symm)
   have hi : q.i ≠ r.i := fun h => h1.1 (h ▸ List.mem_map.2 ⟨q, hm, rfl⟩)
   have hd : q.d ≠ r.d := fun h => h2.1 (h ▸ List.mem_map.2 ⟨q, hm, rfl⟩)
   rw [getD_set_ne false hi]
   cases L.getD r.i false with
   | true => exact fill_self hq hs hm h1.2 h2.2
   | false =>
    simp only [cond_false]
    rw [Act.put_comm a (x := some q.d) (y := some r.d) q.v r.v (fun d hd' e => hd (by cases hd'; exact (Option.some.inj e).symm))]
    exact fill_self hq hs hm h1.2 h2.2
theorem fill_all {L : Array Bool} : ∀ {vs : List HV} {a : Act}, (∀ q ∈ vs, L.getD q.i false = true) → fill L vs a = a
 | [], a, _ => rfl
 | q :: vs, a, h => by
  simp only [fill, h q (by simp), cond_true]
  exact fill_all fun r hr => h r (by simp [hr])
theorem noSel_select {o : Oper} (h : noSel o = true) : ∀ cs b, o.op ≠ .select cs b := fun cs b e => by unfold noSel at h; rw [e] at h; cases h
theorem noSel_defer {o : Oper} (h : noSel o = true) : ∀ c, o.op ≠ .defer c := fun c e => by unfold noSel at h; rw [e] at h; cases h
theorem fill_exec {ops : Array Oper} {L : Array Bool} {o : Oper} (hs : noSel o = true) : ∀ {vs : List HV} {a : Act}, (∀ q ∈ vs, L.getD q.i false = false → q.d ∉ o.looksAt ops) → execOp (fill L vs a).eval o = execOp a.eval o
 | [], a, _ => rfl
 | q :: vs, a, h => by
  simp only [fill]
  rw [fill_exec hs (fun r hr => h r (by simp [hr]))]
  cases hl : L.getD q.i false with
  | true => rfl
  | false => exact execOp_put (ops := ops) o (noSel_select hs) a (some q.d) q.v (fun d hd => by cases hd; exact h q (by simp) hl)
theorem wpIn_put1 {F : Fence} {n : Nat} {P : Program} {ops : Array Oper} {Q : Exit → Act → World → Prop} (hQ : ∀ c a w, ¬ Q (.panic c) a w) {o : Oper} (hs : noSel o = true) {d : Nat} {v : Value} (h1 : d ∉ o.looksAt ops) (h2 : o.dst ≠ some d) {a : Act} {w : World} {next : Act → World → Prop}
  (h : o.wpIn F n P (a.put (some d) v) w next Q) : o.wpIn F n P a w (fun a2 w2 => next (a2.put (some d) v) w2) Q := by
 have hl : ∀ e, some d = some e → e ∉ o.looksAt ops := fun e he => by cases he; exact h1
 have hc : ∀ u, (a.put (some d) v).put o.dst u = (a.put o.dst u).put (some d) v := fun u => Act.put_comm a v u (fun e he => by cases he; exact h2)
 unfold Oper.wpIn at *
 rw [about_put (ops := ops) o w a (some d) v hl] at h
 refine ⟨h.1, ?_⟩
 have h := h.2
 rw [Oper.semAt_eq _ _ _ (noSel_defer hs), execOp_put (ops := ops) o (noSel_select hs) a (some d) v hl] at h
 rw [Oper.semAt_eq _ _ _ (noSel_defer hs)]
 generalize (execOp a.eval o).run P w = r at *
 cases r with
 | ok x w' =>
  cases x <;> simp only [Oper.uponIn] at h ⊢
  case value u => rw [← hc u]; exact h
  case skip => rw [← hc undef]; exact h
  case defer dd =>
   have e : ({ a with defers := dd :: a.defers }.put o.dst undef).put (some d) v = ({ a.put (some d) v with defers := dd :: (a.put (some d) v).defers } : Act).put o.dst undef := by
    rw [Act.put_defers a (some d) v dd, Act.put_comm { a with defers := dd :: a.defers } v undef (fun e he => by cases he; exact h2)]
   rw [e]; exact h
  case enter f args =>
   refine ⟨h.1, CallsIn.mono h.2 fun e w'' he => ?_⟩
   cases e with
   | returned u => show next _ _; rw [← hc u]; exact he
   | panicked c => exact (hQ _ _ _ he).elim
   | outgrown => exact he
  case row row args => exact ⟨h.1, RowsIn.mono h.2 fun u w'' he => by rw [← hc u]; exact he⟩
  case round l f tmps assign body =>
   refine ⟨h.1, RoundIn.mono h.2 fun e w'' he => ?_⟩
   cases e with
   | returned u => show next _ _; rw [← hc u]; exact he
   | panicked c => exact (hQ _ _ _ he).elim
   | outgrown => exact he
 | halt x w' =>
  cases x <;> simp only [Oper.uponIn] at h ⊢
  case panic u => exact (hQ _ _ _ h).elim
theorem wpIn_fill {F : Fence} {n : Nat} {P : Program} {ops : Array Oper} {Q : Exit → Act → World → Prop} (hQ : ∀ c a w, ¬ Q (.panic c) a w) {o : Oper} (hs : noSel o = true) {L : Array Bool} {w : World} : ∀ {vs : List HV} {a : Act} {next : Act → World → Prop},
  (∀ q ∈ vs, L.getD q.i false = false → q.d ∉ o.looksAt ops ∧ o.dst ≠ some q.d) → o.wpIn F n P (fill L vs a) w next Q → o.wpIn F n P a w (fun a2 w2 => next (fill L vs a2) w2) Q
 | [], a, next, _, h => h
 | q :: vs, a, next, hv, h => by
  simp only [fill] at h ⊢
  have h1 := wpIn_fill hQ hs (fun r hr => hv r (by simp [hr])) h
  cases hl : L.getD q.i false with
  | true => simp only [hl, cond_true] at h1 ⊢; exact h1
  | false =>
   simp only [hl, cond_false] at h1 ⊢
   obtain ⟨g1, g2⟩ := hv q (by simp) hl
   exact wpIn_put1 (ops := ops) hQ hs g1 g2 h1
theorem nodup_dsts : ∀ {l : List Oper}, (opDsts l).Nodup → ∀ {i j : Nat} {o o' : Oper} {t : Nat}, l[i]? = some o → l[j]? = some o' → o.dst = some t → o'.dst = some t → i = j
 | [], _, i, j, o, o', t, h, _, _, _ => by simp at h
 | x :: l, hn, 0, 0, _, _, _, _, _, _, _ => rfl
 | x :: l, hn, 0, j + 1, o, o', t, h1, h2, h3, h4 => by
  simp at h1 h2; subst h1
  simp only [opDsts, h3, List.nodup_cons] at hn
  exact absurd (mem_opDsts h2 h4) hn.1
 | x :: l, hn, i + 1, 0, o, o', t, h1, h2, h3, h4 => by
  simp at h1 h2; subst h2
  simp only [opDsts, h4, List.nodup_cons] at hn
  exact absurd (mem_opDsts h1 h3) hn.1
 | x :: l, hn, i + 1, j + 1, o, o', t, h1, h2, h3, h4 => by
  simp at h1 h2
  have : (opDsts l).Nodup := by
   unfold opDsts at hn
   split at hn
   ·exact hn
   ·exact (List.nodup_cons.1 hn).2
  rw [nodup_dsts this h1 h2 h3 h4]
theorem stilsOk_look {ops : Array Oper} : ∀ {l prev : List Nat}, stilsOk ops prev l = true → ∀ (i : Nat) o, i ∈ l → ops.toList[i]? = some o → ∀ t ∈ o.looksAt ops, t ∈ opDsts ops.toList → ∃ j ∈ preds o, ∃ oj, ops.toList[j]? = some oj ∧ oj.dst = some t ∧ (j ∈ prev ∨ j ∈ l)
 | [], prev, _, i, o, h, _, _, _, _ => by cases h
 | k :: l, prev, h, i, o, hi, ho, t, ht, htd => by
  simp only [stilsOk, Bool.and_eq_true] at h
  rcases List.mem_cons.1 hi with rfl | hi
  ·have h1 := h.1
   rw [ho] at h1
   simp only [Bool.and_eq_true, List.all_eq_true, Bool.or_eq_true, List.any_eq_true] at h1
   rcases h1.2 t ht with h2 | ⟨j, hj, h2, h3⟩
   ·rw [mem_iff.2 htd] at h2; cases h2
   ·cases hoj : ops.toList[j]? with
    | none => simp [hoj] at h3
    | some oj =>
     simp only [hoj] at h3
     exact ⟨j, mem_iff.1 h2, oj, hoj, isTk_iff.1 h3, .inl hj⟩
  ·obtain ⟨j, h1, oj, h2, h3, h4⟩ := stilsOk_look h.2 i o hi ho t ht htd
   refine ⟨j, h1, oj, h2, h3, ?_⟩
   rcases h4 with h4 | h4
   ·rcases List.mem_cons.1 h4 with rfl | h4
    ·exact .inr (by simp)
    ·exact .inl h4
   ·exact .inr (by simp [h4])
theorem ancs_listed {ops : Array Oper} {p : Nat → Prop} (hc : ∀ i, p i → ∀ j ∈ predsAt ops i, p j) {l : List Nat} (hl : ∀ j ∈ l, p j) : ∀ j ∈ ancs ops l, p j := by
 unfold ancs
 have : ∀ (r acc : List Nat), (∀ j ∈ acc, p j) → ∀ j ∈ r.foldl (fun acc i => bif mem acc i then (match ops.toList[i]? with
  | some o => preds o ++ acc
  | none => acc) else acc) acc, p j := by
  intro r
  induction r with
  | nil => intro acc h; exact h
  | cons i r ih =>
   intro acc h
   simp only [List.foldl_cons]
   refine ih _ fun j hj => ?_
   cases hm : mem acc i with
   | false => rw [hm] at hj; exact h j hj
   | true =>
    rw [hm] at hj
    cases ho : ops.toList[i]? with
    | none => simp only [ho, cond_true] at hj; exact h j hj
    | some o =>
     simp only [ho, cond_true] at hj
     rcases List.mem_append.1 hj with hj | hj
     ·exact hc i (h i (mem_iff.1 hm)) j (by unfold predsAt; rw [ho]; exact hj)
     ·exact h j hj
 exact this _ _ hl
theorem serOk_at {E : Env} {ops : Array Oper} {H : List Nat} : ∀ {T : List Nat}, serOk E ops H T = true → ∀ (k p t : Nat), T[k]? = some p → T[k + 1]? = some t → p ∈ predsAt ops t ∧ (tame E ops t = true ∨ ∀ j ∈ H, j ∈ ancs ops (predsAt ops t))
 | [], _, k, p, t, h, _ => by simp at h
 | [x], _, k, p, t, _, h => by simp at h
 | x :: y :: r, h, k, p, t, h1, h2 => by
  simp only [serOk, Bool.and_eq_true, Bool.or_eq_true, List.all_eq_true] at h
  cases k with
  | zero =>
   simp at h1 h2; subst h1 h2
   exact ⟨mem_iff.1 h.1, h.2.1.imp id fun h j hj => mem_iff.1 (h j hj)⟩
  | succ k => exact serOk_at h.2.2 k p t (by simpa using h1) (by simpa using h2)
theorem minEx {p : Nat → Prop} (h : ∃ i, p i) : ∃ i, p i ∧ ∀ j, j < i → ¬ p j := by
 classical
 obtain ⟨i, hi⟩ := h
 induction i using Nat.strongRecOn with
 | _ i ih =>
  by_cases hh : ∃ j, j < i ∧ p j
  ·obtain ⟨j, h1, h2⟩ := hh; exact ih j h1 h2
  ·exact ⟨i, hi, fun j hj hp => hh ⟨j, hj, hp⟩⟩
theorem opsAt_drop {ops : Array Oper} {T : List Nat} {p i : Nat} {o : Oper} (hi : T[p]? = some i) (ho : ops.toList[i]? = some o) : opsAt ops (T.drop p) = o :: opsAt ops (T.drop (p + 1)) := by
 have : T.drop p = i :: T.drop (p + 1) := by
  have hlt := (List.getElem?_eq_some_iff.1 hi).1
  rw [List.drop_eq_getElem_cons hlt]
  congr 1
  simpa [List.getElem?_eq_getElem hlt] using hi
 rw [this, opsAt, ho]
section
variable {C : Ctx} {m : Mem} {a : Act} {w : World}
theorem stils_spec {E : Env} (hE : E.ok) (hY : YOk E C) {ops : Array Oper} {chg : List Nat} (hlt : opsLt C.n ops.toList = true) (hnd : (opDsts ops.toList).Nodup) {L0 : Array Bool} (hL0 : ∀ j, L0.getD j false = false) {k : St → Prop} : ∀ {l prev : List Nat} {S : St} {a : Act}, Rel C S m a w → stils E ops chg l k S → stilsOk ops prev l = true → l.Nodup → (∀ j ∈ prev, j ∉ l) →
  ∃ X vs, k X ∧ vs.map HV.i = l ∧ (vs.map HV.d).Nodup ∧ Rel C X m (fill L0 vs a) w ∧ X.L = S.L ∧ (∀ t, t ∉ vs.map HV.d → X.env t = S.env t) ∧ ∀ q ∈ vs, ∃ o, ops.toList[q.i]? = some o ∧ o.dst = some q.d ∧ Stab E C ops chg X o q.v
 | [], prev, S, a, hr, h, _, _, _ => ⟨S, [], h, rfl, by simp, hr, rfl, fun _ _ => rfl, by simp⟩
 | i :: l, prev, S, a, hr, h, hok, hn, hp => by
  unfold stils at h
  cases ho : ops.toList[i]? with
  | none => simp [ho] at h
  | some o =>
   simp only [ho] at h
   have hok' := hok
   simp only [stilsOk, ho, Bool.and_eq_true, List.all_eq_true, Bool.or_eq_true, List.any_eq_true] at hok
   obtain ⟨d, hd⟩ := Option.isSome_iff_exists.1 hok.1.1
   obtain ⟨sv, v, h1, h2, h3⟩ := stilW_spec hE hY (ops := ops) hr h
   rw [hd] at h1
   have hr1 := hr.put (some d) (fun t e => by cases e; exact opsLt_spec hlt i o ho d hd) h2
   obtain ⟨hn1, hn2⟩ := List.nodup_cons.1 hn
   obtain ⟨X, vs, g1, g2, g3, g4, g5, g6, g7⟩ := stils_spec hE hY hlt hnd hL0 hr1 h1 hok.2 hn2 (fun j hj => by
    rcases List.mem_cons.1 hj with rfl | hj
    ·exact hn1
    ·exact fun hm => hp j hj (List.mem_cons_of_mem _ hm))
   have dOf : ∀ t, t ∈ vs.map HV.d → ∃ j oj, j ∈ l ∧ ops.toList[j]? = some oj ∧ oj.dst = some t := fun t ht => by
    obtain ⟨q, hq, rfl⟩ := List.mem_map.1 ht
    obtain ⟨oq, q1, q2, _⟩ := g7 q hq
    exact ⟨q.i, oq, by rw [← g2]; exact List.mem_map.2 ⟨q, hq, rfl⟩, q1, q2⟩
   have hdv : d ∉ vs.map HV.d := fun hm => by
    obtain ⟨j, oj, hj, hoj, hdj⟩ := dOf d hm
    have := nodup_dsts hnd ho hoj hd hdj
    exact hn1 (this ▸ hj)
   refine ⟨X, ⟨i, d, v⟩ :: vs, g1, by simp [g2], by simp only [List.map_cons, List.nodup_cons]; exact ⟨hdv, g3⟩, ?_, g5.trans (put_L _ _ _), fun t ht => ?_, fun q hq => ?_⟩
   ·simp only [fill, hL0, cond_false]; exact g4
   ·simp only [List.map_cons, List.mem_cons, not_or] at ht
    rw [g6 t ht.2]; simp [St.put, beq_ne ht.1]
   ·rcases List.mem_cons.1 hq with rfl | hq
    ·refine ⟨o, ho, hd, h3.next (fun t ht => ?_) (fun id _ => by rw [g5, put_L])⟩
     have hnt : t ≠ d ∧ t ∉ vs.map HV.d := by
      by_cases htd : t ∈ opDsts ops.toList
      ·rcases hok.1.2 t ht with h4 | ⟨j, hj, h5, h6⟩
       ·rw [mem_iff.2 htd] at h4; cases h4
       ·cases hoj : ops.toList[j]? with
        | none => simp [hoj] at h6
        | some oj =>
         simp only [hoj] at h6
         have hdj := isTk_iff.1 h6
         refine ⟨fun e => ?_, fun hm => ?_⟩
         ·subst e
          have := nodup_dsts hnd ho hoj hd hdj
          exact hp j hj (by simp [this])
         ·obtain ⟨j', oj', hj', hoj', hdj'⟩ := dOf t hm
          have := nodup_dsts hnd hoj hoj' hdj hdj'
          exact hp j hj (by simp [this, hj'])
      ·refine ⟨fun e => htd (e ▸ mem_opDsts ho hd), fun hm => ?_⟩
       obtain ⟨j', oj', hj', hoj', hdj'⟩ := dOf t hm
       exact htd (mem_opDsts hoj' hdj')
     rw [g6 t hnt.2]; simp [St.put, beq_ne hnt.1]
    ·exact g7 q hq
theorem opG_tame {E : Env} {ops : Array Oper} {i : Nat} {o : Oper} (ho : ops.toList[i]? = some o) (ht : tame E ops i = true) (hg : o.guard = none) {S : St} {m : Mem} {K : St → Mem → Prop} (h : opG E ops o S m K) :
  opG E ops o S m fun S' m' => K S' m' ∧ ∀ id, o.dst ≠ some id → S'.L id = S.L id := by
 unfold tame at ht
 rw [ho] at ht
 simp only at ht
 unfold opG at *
 simp only [hg] at h ⊢
 obtain ⟨dst, op, type, pos, after, guard⟩ := o
 cases op <;> simp only at ht <;> try cases ht
 case buildSlice T len parts =>
  have htk := Option.isNone_iff_eq_none.1 ht
  simp only [opW, htk, buildSliceW] at h ⊢
  cases dst with
  | none => exact h
  | some d =>
   simp only at h ⊢
   split at h
   ·exact h
   ·split at h
    ·split at h
     ·exact h
     ·split at h
      ·exact h
      ·refine chk_mono (fun y => wvs_mono (fun vs y => chk_mono (fun y b hb => ⟨y b hb, fun id hid => ?_⟩) y) y) h
       have : id ≠ d := fun e => hid (by rw [e])
       simp [St.newL, St.put, beq_ne this]
    ·exact h
 case call q =>
  cases hq : q.callee with
  | value f => simp [hq] at ht
  | invoke r n => simp [hq] at ht
  | builtin b =>
   cases b <;> simp only [hq] at ht <;> try cases ht
   case builtin.len.intro =>
    simp only [opW, hq] at h ⊢
    exact pureW_mono (fun sv y => ⟨y, fun id _ => by rw [put_L]⟩) h
   case builtin.append =>
    simp only [opW, hq] at h ⊢
    split at h
    ·rename_i s x T xT d e1 e2
     unfold frzW at *
     simp only [isNilB_iff ht] at h ⊢
     exact wv_mono (fun v y => wv_mono (fun v' y => appendW_mono (fun v tk m' _ z => ⟨z, fun id _ => by rw [put_L]⟩) y) y) h
    ·exact h
theorem opG_callY {E : Env} {ops : Array Oper} {i : Nat} {o : Oper} (ho : ops.toList[i]? = some o) (hc : isCallY E ops i = true) (hg : o.guard = none) {S : St} {m : Mem} {K : St → Mem → Prop}
  (hl : ∀ q, o.op = .call q → locIds S q.args.toList = []) (h : opG E ops o S m K) : opG E ops o S m fun S' m' => K S' m' ∧ ∀ id, id ∉ borrowOf E o.dst → S'.L id = S.L id := by
 unfold isCallY at hc
 rw [ho] at hc
 simp only at hc
 unfold opG at *
 simp only [hg] at h ⊢
 cases hop : o.op with
 | call q =>
  simp only [hop] at hc
  have hl := hl q hop
  cases hq : q.callee with
  | invoke r n => simp [hq] at hc
  | builtin b => simp [hq] at hc
  | value f =>
   simp only [hq, Bool.and_eq_true] at hc
   obtain ⟨hf, hcy, hfz, hex⟩ := hc
   have hex : extOf E o.dst = false := by simpa using hex
   obtain ⟨ks, hks⟩ := Option.isSome_iff_exists.1 hcy
   have hfz := isNilB_iff hfz
   obtain ⟨g0, rfl⟩ : ∃ g0, f = .func g0 := by
    cases f <;> simp [isFnO] at hf
    exact ⟨_, rfl⟩
   unfold opW at *
   simp only [hop, hq] at h ⊢
   unfold frzW at *
   simp only [hfz] at h ⊢
   unfold callV at *
   simp only [St.ev, hks, hex, cond_false] at h ⊢
   cases hfx : E.fix with
   | some f => simp [hfx] at h
   | none =>
    simp only [hfx, Option.isSome_none, cond_false] at h ⊢
    refine wvs_mono (fun vs y => ?_) h
    rw [hl] at y ⊢
    refine callYW_mono (fun v S' m' _ z => ⟨z.1, fun id hid => ?_⟩) (callYW_box y)
    rw [put_L]
    exact z.2 id (by simpa using hid)
 | _ => simp [hop] at hc
theorem mix_any {E : Env} (hE : E.ok) {F : Fence} (hF : FOk F) (hY : YOk E C) {ops : Array Oper} (hlt : opsLt C.n ops.toList = true) {id n : Nat} {Q : Exit → Act → World → Prop} (hQ : ∀ c a w, ¬ Q (.panic c) a w) {K : St → Mem → Prop}
  (over : ∀ (fuel : Nat) (listed : Array Bool) (S' : St) (m' : Mem) (a' : Act) (w' : World), listed.size = ops.size → (∀ j, j < ops.size → listed.getD j false = true) → K S' m' → Rel C S' m' a' w' → wpAnyIn F n E.P .any ops Q fuel listed a' w')
  {H T : List Nat} {S : St} (hr : Rel C S m a w) (h : mixW E id H T ops K S m) : wpAnyIn F n E.P .any ops Q ops.size (Array.replicate ops.size false) a w := by
 unfold mixW at h
 obtain ⟨h1, h2⟩ := chk_elim h
 simp only [Bool.and_eq_true] at h1
 have hok := h1.2.2
 simp only [mixOk, Bool.and_eq_true, List.all_eq_true] at hok
 obtain ⟨⟨⟨⟨⟨hHT, hcov, hblt⟩, hnd, hgs⟩, hpred⟩, hst, hTl⟩, hser, hcall⟩ := hok
 have hHT := natsNodup_spec hHT
 have hnd := natsNodup_spec hnd
 obtain ⟨hnH, hnT, hdisj⟩ := List.nodup_append.1 hHT
 have hcov : ∀ i, i < ops.size → i ∈ H ∨ i ∈ T := fun i hi => List.mem_append.1 (mem_iff.1 (hcov i (List.mem_range.2 hi)))
 have none0 : ∀ j, (Array.replicate ops.size false).getD j false = false := fun j => by simp [Array.getD]
 obtain ⟨X0, vs, h3, hvi, hvd, hr0, hXL, _, hvs⟩ := stils_spec hE hY hlt hnd none0 hr h2 hst hnH (by simp)
 have hvin : (vs.map HV.i).Nodup := by rw [hvi]; exact hnH
 have hopt : ∀ (i : Nat) o, ops[i]? = some o → ops.toList[i]? = some o := fun i o h => by simpa using h
 have hgn : ∀ (i : Nat) o, ops.toList[i]? = some o → o.guard = none ∧ noSel o = true := fun i o ho => by
  have := hgs o (List.mem_of_getElem? ho)
  exact ⟨Option.isNone_iff_eq_none.1 this.1, this.2⟩
 have hpl : ∀ (i : Nat), i < ops.size → ∀ j ∈ predsAt ops i, j < i := fun i hi j hj => blt_lt' (hpred i (List.mem_range.2 hi) j hj)
 have pat : ∀ {i : Nat} {o : Oper}, ops.toList[i]? = some o → predsAt ops i = preds o := fun ho => by unfold predsAt; rw [ho]
 have noUn : ∀ {listed : Array Bool} {i : Nat} {o : Oper}, ops.toList[i]? = some o → (∀ j ∈ preds o, listed.getD j false = true) → ∀ q ∈ vs, listed.getD q.i false = false → q.d ∉ o.looksAt ops := fun {listed i o} ho hp q hq hun hm => by
  obtain ⟨oq, q1, q2, _⟩ := hvs q hq
  have hqH : q.i ∈ H := by rw [← hvi]; exact List.mem_map.2 ⟨q, hq, rfl⟩
  have hi : i < ops.size := by
   have := (List.getElem?_eq_some_iff.1 ho).1
   simpa using this
  rcases hcov i hi with hiH | hiT
  ·obtain ⟨j, hj, oj, hoj, hdj, _⟩ := stilsOk_look hst i o hiH ho q.d hm (mem_opDsts q1 q2)
   have := nodup_dsts hnd q1 hoj q2 hdj
   rw [this, hp j hj] at hun; cases hun
  ·have h4 := hTl i hiT
   rw [ho] at h4
   simp only [List.all_eq_true] at h4
   have h5 := h4 q.i hqH
   rw [q1] at h5
   simp only [Bool.or_eq_true] at h5
   rcases h5 with h5 | h5
   ·simp only [dstNot, q2, Bool.not_eq_true'] at h5
    rw [mem_iff.2 hm] at h5; cases h5
   ·rw [hp q.i (mem_iff.1 h5)] at hun; cases hun
 have dstH : ∀ {i : Nat} {o : Oper}, i ∉ H → ops.toList[i]? = some o → ∀ q ∈ vs, o.dst ≠ some q.d := fun {i o} hi ho q hq e => by
  obtain ⟨oq, q1, q2, _⟩ := hvs q hq
  have := nodup_dsts hnd q1 ho q2 e
  exact hi (by rw [← this, ← hvi]; exact List.mem_map.2 ⟨q, hq, rfl⟩)
 have prd : ∀ {o : Oper} {listed : Array Bool}, (∀ e ∈ o.after, Region.binds .any e = true → listed.getD e.on false = true) → ∀ j ∈ preds o, listed.getD j false = true := fun {o listed} hpr j hj => by
  simp only [preds, List.mem_map, List.mem_filter] at hj
  obtain ⟨e, ⟨he, hb⟩, rfl⟩ := hj
  exact hpr e (by simpa using he) hb
 have prd' : ∀ {o : Oper} {listed : Array Bool}, (∀ j ∈ preds o, listed.getD j false = true) → ∀ e ∈ o.after, Region.binds .any e = true → listed.getD e.on false = true := fun {o listed} hpr e he hb => hpr e.on (by
  simp only [preds, List.mem_map, List.mem_filter]
  exact ⟨e, ⟨by simpa using he, hb⟩, rfl⟩)
 have hT0 : ∃ c oc q, T[0]? = some c ∧ ops.toList[c]? = some oc ∧ oc.op = .call q ∧ isCallY E ops c = true := by
  cases T with
  | nil => simp at hcall
  | cons c T =>
   simp only at hcall
   have h5 := hcall
   unfold isCallY at h5
   cases hoc : ops.toList[c]? with
   | none => simp [hoc] at h5
   | some oc =>
    simp only [hoc] at h5
    cases hop : oc.op <;> simp only [hop] at h5 <;> try cases h5
    exact ⟨c, oc, _, rfl, hoc, hop, hcall⟩
 obtain ⟨c, oc, qc, hTc, hoc, hqc, hcy⟩ := hT0
 have hop0 : opsAt ops T = oc :: opsAt ops (T.drop 1) := opsAt_drop (p := 0) hTc hoc
 rw [hop0] at h3
 simp only [hqc] at h3
 obtain ⟨h4, h5⟩ := chk_elim h3
 have h4 := isNilB_iff h4
 have hchg : ∀ (k i : Nat) o d, T[k]? = some i → ops.toList[i]? = some o → o.dst = some d → d ∈ chgT E ops T := fun k i o d hk ho hd => by
  unfold chgT
  refine List.mem_append_right _ ?_
  have : opsAt ops (T.drop k) = o :: opsAt ops (T.drop (k + 1)) := opsAt_drop hk ho
  have sub : ∀ (l : List Nat) (k : Nat), ∀ o ∈ opsAt ops (l.drop k), (∀ i ∈ l, ∃ o, ops.toList[i]? = some o) → o ∈ opsAt ops l := by
   intro l
   induction l with
   | nil => intro k o h _; simp [opsAt] at h
   | cons x l ih =>
    intro k o h hall
    cases k with
    | zero => exact h
    | succ k =>
     obtain ⟨ox, hox⟩ := hall x (by simp)
     simp only [List.drop_succ_cons] at h
     simp only [opsAt, hox]
     exact List.mem_cons_of_mem _ (ih k o h (fun i hi => hall i (by simp [hi])))
  have hmem : o ∈ opsAt ops T := sub T k o (by rw [this]; simp) (fun i hi => by
   have := blt_lt' (hblt i (List.mem_append_right _ hi))
   exact ⟨ops[i], by simp [this]⟩)
  obtain ⟨i', hi'⟩ := List.getElem?_of_mem hmem
  exact mem_opDsts hi' hd
 have main : ∀ (fuel : Nat) (listed : Array Bool) (p : Nat) (X : St) (m' : Mem) (a' : Act) (w' : World), listed.size = ops.size → (∀ i, listed.getD i false = true → ∀ j ∈ predsAt ops i, listed.getD j false = true) →
   (∀ (k i : Nat), k < p → T[k]? = some i → listed.getD i false = true) → (∀ (k i : Nat), p ≤ k → T[k]? = some i → listed.getD i false = false) →
   ((List.range ops.size).countP fun j => !listed.getD j false) ≤ fuel → (∀ q ∈ vs, listed.getD q.i false = false → ∀ o, ops.toList[q.i]? = some o → Stab E C ops (chgT E ops T) X o q.v) →
   ((p = 0 ∧ X = X0 ∧ m' = m) ∨ (0 < p ∧ tailW E ops K (opsAt ops (T.drop p)) X m')) → Rel C X m' (fill listed vs a') w' → wpAnyIn F n E.P .any ops Q fuel listed a' w' := by
  intro fuel
  have fin : ∀ (fuel : Nat) (listed : Array Bool) (p : Nat) (X : St) (m' : Mem) (a' : Act) (w' : World), (∀ j, j < ops.size → listed.getD j false = true) → listed.size = ops.size → (∀ (k i : Nat), p ≤ k → T[k]? = some i → listed.getD i false = false) →
    ((p = 0 ∧ X = X0 ∧ m' = m) ∨ (0 < p ∧ tailW E ops K (opsAt ops (T.drop p)) X m')) → Rel C X m' (fill listed vs a') w' → wpAnyIn F n E.P .any ops Q fuel listed a' w' := by
   intro fuel listed p X m' a' w' hall hsz hT2 hk hrel
   have hTall : ∀ k i, T[k]? = some i → listed.getD i false = true := fun k i hk => hall i (blt_lt' (hblt i (List.mem_append_right _ (List.mem_of_getElem? hk))))
   have hp : T.length ≤ p := Nat.le_of_not_lt fun hlt => by
    have := hT2 p T[p] (Nat.le_refl _) (List.getElem?_eq_getElem hlt)
    rw [hTall p T[p] (List.getElem?_eq_getElem hlt)] at this; cases this
   have hfl : fill listed vs a' = a' := fill_all fun q hq => by
    obtain ⟨oq, q1, _⟩ := hvs q hq
    have := (List.getElem?_eq_some_iff.1 q1).1
    exact hall q.i (by simpa using this)
   rw [hfl] at hrel
   rcases hk with ⟨rfl, _⟩ | ⟨_, hk⟩
   ·have := hT2 0 c (Nat.le_refl _) hTc
    rw [hTall 0 c hTc] at this; cases this
   ·rw [List.drop_eq_nil_of_le hp] at hk
    exact over fuel listed X m' a' w' hsz hall hk hrel
  induction fuel with
  | zero =>
   intro listed p X m' a' w' hsz hcl hT1 hT2 hfu hstb hk hrel
   refine fin 0 listed p X m' a' w' (fun j hj => ?_) hsz hT2 hk hrel
   have := List.countP_eq_zero.1 (Nat.le_zero.1 hfu) j (List.mem_range.2 hj)
   simpa using this
  | succ fuel ih =>
   intro listed p X m' a' w' hsz hcl hT1 hT2 hfu hstb hk hrel
   by_cases hall : ∀ j, j < ops.size → listed.getD j false = true
   ·exact fin _ listed p X m' a' w' hall hsz hT2 hk hrel
   have dec : ∀ {i : Nat}, i < ops.size → listed.getD i false = false → ((List.range ops.size).countP fun j => !(listed.setIfInBounds i true).getD j false) ≤ fuel := fun {i} hi hun => by
    have := countP_drop (p := fun j => !listed.getD j false) (q := fun j => !(listed.setIfInBounds i true).getD j false) (i := i) (by simp [hun]) (fun j => by
     by_cases e : j = i
     ·subst e; rw [getD_set_eq (by omega), beq_same]; simp
     ·rw [getD_set_ne false (Ne.symm e), beq_ne e]; simp) List.nodup_range (List.mem_range.2 hi)
    omega
   refine ⟨fun hrd => ?_, fun i hi => ?_⟩
   ·exfalso
    obtain ⟨i, hi, hmin⟩ := minEx (p := fun i => i < ops.size ∧ listed.getD i false = false) (by
     have : ∃ j, ¬ (j < ops.size → listed.getD j false = true) := Classical.not_forall.1 hall
     obtain ⟨j, hj⟩ := this
     obtain ⟨h6, h7⟩ := Classical.not_imp.1 hj
     exact ⟨j, h6, by simpa using h7⟩)
    have hl : i < listed.size := by omega
    have : i ∈ Region.ready .any ops listed := mem_ready.2 ⟨by have := hi.2; simp [Array.getD, hl] at this ⊢; exact this, ops[i], by simp [hi.1], prd' fun j hj => by
     have hji := hpl i hi.1 j (by rw [pat (o := ops[i]) (by simp [hi.1])]; exact hj)
     have := hmin j hji
     cases hb : listed.getD j false with
     | true => rfl
     | false => exact absurd ⟨by omega, hb⟩ this⟩
    rw [hrd] at this; simp at this
   obtain ⟨hun, o, ho', hpr⟩ := mem_ready.1 hi
   have hi' : i < ops.size := (Array.getElem?_eq_some_iff.1 ho').1
   have hl : i < listed.size := by omega
   have hun' : listed.getD i false = false := by simp [Array.getD, hl] at hun ⊢; exact hun
   have hpr := prd hpr
   have ho := hopt i o ho'
   obtain ⟨hg, hns⟩ := hgn i o ho
   have hcl' : ∀ k, (listed.setIfInBounds i true).getD k false = true → ∀ j ∈ predsAt ops k, (listed.setIfInBounds i true).getD j false = true := fun k hk j hj => by
    by_cases e : k = i
    ·subst e
     rw [pat ho] at hj
     exact getD_set_true (hpr j hj)
    ·rw [getD_set_ne false (Ne.symm e)] at hk
     exact getD_set_true (hcl k hk j hj)
   unfold wpOpIn
   simp only [ho']
   have hw : Region.wanted o (yielded ops a'.tmps) = true := by unfold Region.wanted; rw [hg]
   rw [if_pos hw]
   have hnu := noUn ho hpr
   by_cases hiH : i ∈ H
   ·
    obtain ⟨q, hq, rfl⟩ : ∃ q ∈ vs, q.i = i := by
     rw [← hvi] at hiH
     obtain ⟨q, h6, h7⟩ := List.mem_map.1 hiH
     exact ⟨q, h6, h7⟩
    obtain ⟨oq, q1, q2, _⟩ := hvs q hq
    rw [ho] at q1; cases q1
    have hrun := hstb q hq hun' o ho X m' _ w' hrel (fun _ _ => rfl) (fun _ _ => rfl)
    rw [fill_exec (ops := ops) hns hnu] at hrun
    refine ⟨fun f _ => hF.fn f, ?_⟩
    rw [Oper.semAt_eq _ _ _ (noSel_defer hns), hrun]
    show wpAnyIn F n E.P .any ops Q fuel (listed.setIfInBounds q.i true) (a'.put o.dst q.v) w'
    rw [q2]
    have hiT : ∀ (k j : Nat), T[k]? = some j → q.i ≠ j := fun k j hk e => hdisj q.i hiH j (List.mem_of_getElem? hk) e
    refine ih _ p X m' _ w' (by simpa using hsz) hcl' (fun k j h6 h7 => getD_set_true (hT1 k j h6 h7)) (fun k j h6 h7 => by rw [getD_set_ne false (hiT k j h7)]; exact hT2 k j h6 h7) (dec hi' hun') (fun r hr hru oo hoo => hstb r hr (by
     by_cases e : r.i = q.i
     ·rw [e]; exact hun'
     ·rw [getD_set_ne false (Ne.symm e)] at hru; exact hru) oo hoo) hk ?_
    rw [fill_self hun' hl hq hvin hvd]; exact hrel
   ·
    have hiT := (hcov i hi').resolve_left hiH
    obtain ⟨k, hkT⟩ := List.getElem?_of_mem hiT
    have hpk : p ≤ k := Nat.le_of_not_lt fun hlt => by
     have := hT1 k i hlt hkT
     rw [hun'] at this; cases this
    have hkp : k = p := by
     rcases Nat.lt_or_ge p k with hlt | hge
     ·exfalso
      obtain ⟨k, rfl⟩ : ∃ k', k = k' + 1 := ⟨k - 1, by omega⟩
      have hklt := (List.getElem?_eq_some_iff.1 hkT).1
      have hk1 : T[k]? = some T[k] := List.getElem?_eq_getElem (by omega)
      have := (serOk_at hser k T[k] i hk1 hkT).1
      rw [pat ho] at this
      have h6 := hpr _ this
      rw [hT2 k T[k] (by omega) hk1] at h6; cases h6
     ·omega
    subst hkp
    have hdrop := opsAt_drop hkT ho
    have hop : opG E ops o X m' fun S2 m2 => tailW E ops K (opsAt ops (T.drop (k + 1))) S2 m2 ∧ SameOut (dl o.dst) X S2 ∧ ((∀ id, id ∉ chgT E ops T → S2.L id = X.L id) ∨ ∀ q ∈ vs, listed.getD q.i false = true) := by
     have so : ∀ {K : St → Mem → Prop}, opG E ops o X m' K → opG E ops o X m' fun S2 m2 => K S2 m2 ∧ SameOut (dl o.dst) X S2 := fun {K} y => opG_mono (th := true) (.inl rfl) (fun S' m' hs _ z => ⟨z, hs⟩) y
     have gb : ∀ {K : St → Mem → Prop}, opGB E ops o X m' K → opG E ops o X m' K := fun {K} y => by
      unfold opGB guardSlot at y
      simp only [hg] at y; exact y
     rcases hk with ⟨rfl, rfl, rfl⟩ | ⟨hk0, hk⟩
     ·rw [hTc] at hkT; cases hkT
      rw [hoc] at ho; cases ho
      refine opG_mono (th := true) (.inl rfl) (fun S2 m2 _ _ z => ⟨z.1.1, z.1.2, .inl fun id hid => z.2 id fun hm => hid (by unfold chgT; rw [hop0]; exact List.mem_append_left _ hm)⟩) (opG_callY hoc hcy hg (fun q hq => by rw [hqc] at hq; cases hq; exact h4) (so (gb h5)))
     ·rw [hdrop] at hk
      simp only [tailW] at hk
      have h6 := so (gb hk)
      obtain ⟨k, rfl⟩ : ∃ k', k = k' + 1 := ⟨k - 1, by omega⟩
      have hklt := (List.getElem?_eq_some_iff.1 hkT).1
      rcases (serOk_at hser k T[k] i (List.getElem?_eq_getElem (by omega)) hkT).2 with h7 | h7
      ·refine opG_mono (th := true) (.inl rfl) (fun S2 m2 _ _ z => ⟨z.1.1, z.1.2, .inl fun id hid => z.2 id fun hm => hid (hchg _ i o id hkT ho hm)⟩) (opG_tame ho h7 hg h6)
      ·refine opG_mono (th := true) (.inl rfl) (fun S2 m2 _ _ z => ⟨z.1, z.2, .inr fun q hq => ?_⟩) h6
       have hqH : q.i ∈ H := by rw [← hvi]; exact List.mem_map.2 ⟨q, hq, rfl⟩
       exact ancs_listed (p := fun j => listed.getD j false = true) hcl (by rw [pat ho]; exact hpr) q.i (h7 q.i hqH)
    have hsound := opG_sound hE hF hY (opsLt_spec hlt _ o ho) hrel hop (n := n) (Q := Q) (next := fun aF w2 => ∀ a2, fill listed vs a2 = aF → wpAnyIn F n E.P .any ops Q fuel (listed.setIfInBounds i true) a2 w2) (fun S2 m2 aF w2 ⟨z1, z2, z3⟩ hrel2 a2 hfe => by
     subst hfe
     have hvio : i ∉ vs.map HV.i := by rw [hvi]; exact hiH
     refine ih _ (k + 1) S2 m2 a2 w2 (by simpa using hsz) hcl' (fun k' j h6 h7 => ?_) (fun k' j h6 h7 => ?_) (dec hi' hun') (fun q hq hqu oq hoq => ?_) (.inr ⟨by omega, z1⟩) (by rw [fill_other hvio]; exact hrel2)
     ·by_cases e : k' = k
      ·subst e
       rw [hkT] at h7; cases h7
       exact getD_set_eq hl
      ·exact getD_set_true (hT1 k' j (by omega) h7)
     ·have hne : i ≠ j := fun e => by
       subst e
       have := (List.getElem?_inj (i := k) (j := k') (List.getElem?_eq_some_iff.1 hkT).1 hnT).1 (by rw [hkT, h7])
       omega
      rw [getD_set_ne false hne]; exact hT2 k' j (by omega) h7
     ·have hqi : q.i ≠ i := fun e => hvio (e ▸ List.mem_map.2 ⟨q, hq, rfl⟩)
      rw [getD_set_ne false (Ne.symm hqi)] at hqu
      rcases z3 with z3 | z3
      ·refine (hstb q hq hqu oq hoq).next (fun t ht => z2 t fun hm => ?_) z3
       have htd : o.dst = some t := by
        cases hd : o.dst with
        | none => simp [hd, dl] at hm
        | some d => simp [hd, dl] at hm; rw [hm]
       have hqH : q.i ∈ H := by rw [← hvi]; exact List.mem_map.2 ⟨q, hq, rfl⟩
       obtain ⟨j, _, oj, hoj, hdj, hj⟩ := stilsOk_look hst q.i oq hqH hoq t ht (mem_opDsts ho htd)
       have := nodup_dsts hnd ho hoj htd hdj
       rcases hj with hj | hj
       ·cases hj
       ·exact hiH (this ▸ hj)
      ·rw [z3 q hq] at hqu; cases hqu)
    have hwF : Region.wanted o (yielded ops (fill listed vs a').tmps) = true := by unfold Region.wanted; rw [hg]
    rw [if_pos hwF] at hsound
    have := wpIn_fill (ops := ops) hQ hns (fun q hq hqu => ⟨hnu q hq hqu, dstH hiH ho q hq⟩) hsound
    exact Oper.wpIn_mono (fun a2 w2 z => z a2 rfl) this
 refine main ops.size _ 0 X0 m a w (by simp) (fun i hi => by rw [none0] at hi; cases hi) (fun k i hk => by omega) (fun k i _ _ => none0 i) ?_ (fun q hq _ o ho => by
  obtain ⟨oq, q1, _, q3⟩ := hvs q hq
  rw [ho] at q1; cases q1; exact q3) (.inl ⟨rfl, rfl, rfl⟩) hr0
 have := List.countP_le_length (p := fun j => !(Array.replicate ops.size false).getD j false) (l := List.range ops.size)
 simpa using this
end
end Go.Eng
namespace Go.Eng
open Go Go.RowKit
theorem anOf_spec : ∀ {l : List DOp} {p j : Nat}, j ∈ anOf l p → ∃ c ∈ l, c.i = p ∧ j ∈ c.an
 | [], p, j, h => by simp [anOf] at h
 | d :: l, p, j, h => by
  simp only [anOf] at h
  cases hb : Nat.beq d.i p with
  | true => simp only [hb, cond_true] at h; exact ⟨d, by simp, Nat.eq_of_beq_eq_true hb, h⟩
  | false =>
   simp only [hb, cond_false] at h
   obtain ⟨c, hc, h1⟩ := anOf_spec h
   exact ⟨c, by simp [hc], h1⟩
theorem dopsOk_at {E : Env} {ops : Array Oper} : ∀ {r before l1 : List DOp} {d : DOp} {l2 : List DOp}, dopsOk E ops r before = true → r = l1 ++ d :: l2 → dopOk E ops d (l1.reverse ++ before) = true
 | [], before, l1, d, l2, h, e => by simp at e
 | x :: r, before, [], d, l2, h, e => by
  simp only [dopsOk, Bool.and_eq_true] at h
  simp at e
  rw [← e.1]; exact h.1
 | x :: r, before, y :: l1, d, l2, h, e => by
  simp only [dopsOk, Bool.and_eq_true] at h
  simp at e
  obtain ⟨rfl, e⟩ := e
  have := dopsOk_at h.2 e
  simpa using this
structure Fact (E : Env) (ops : Array Oper) (ds : List DOp) (d : DOp) (o : Oper) : Prop where
 ok : DOk E ops d o
 vw : ∀ j, j ∈ d.vw → j ∈ d.an
 an : ∀ j, j ∈ d.an → j ∈ preds o ∨ ∃ p ∈ preds o, ∃ c ∈ ds, c.i = p ∧ j ∈ c.an
theorem dop_fact {E : Env} {ops : Array Oper} {ds : List DOp} (h : dopsOk E ops ds [] = true) {l1 l2 : List DOp} {d : DOp} (e : ds = l1 ++ d :: l2) :
  ∃ o, Fact E ops ds d o ∧ (∀ p ∈ preds o, ∃ c ∈ l1, c.i = p) ∧ (∀ c ∈ l1, (c.i ∈ d.an ∨ indep ops c d = true) ∧ c.i ≠ d.i) := by
 have h1 := dopsOk_at h e
 simp only [List.append_nil] at h1
 unfold dopOk at h1
 split at h1
 ·cases h1
 ·rename_i o ho
  simp only [Bool.and_eq_true, List.all_eq_true, Bool.or_eq_true, List.any_eq_true] at h1
  obtain ⟨⟨⟨⟨⟨⟨g1, g2⟩, g3⟩, g4, g5⟩, g6⟩, g7⟩, g8⟩ := h1
  have hin : ∀ c ∈ l1.reverse, c ∈ ds := fun c hc => by rw [e]; simp at hc ⊢; exact .inl hc
  refine ⟨o, ⟨⟨ho, g1, subL_spec g2, subL_spec g3⟩, subL_spec g4, fun j hj => ?_⟩, fun p hp => ?_, fun c hc => ⟨?_, ?_⟩⟩
  ·rcases g6 j hj with h2 | ⟨p, hp, h2⟩
   ·exact .inl (mem_iff.1 h2)
   ·obtain ⟨c, hc, h3, h4⟩ := anOf_spec (mem_iff.1 h2)
    exact .inr ⟨p, hp, c, hin c hc, h3, h4⟩
  ·have := subL_spec g5 p hp
   obtain ⟨c, hc, h2⟩ := List.mem_map.1 this
   exact ⟨c, by simpa using hc, h2⟩
  ·exact (g7 c (by simpa using hc)).imp mem_iff.1 id
  ·have := g8 c (by simpa using hc)
   intro e; rw [e, beq_same] at this; simp at this
theorem pairwise_of {α : Type} {R : α → α → Prop} : ∀ {l : List α}, (∀ l1 d l2, l = l1 ++ d :: l2 → ∀ c ∈ l1, R c d) → l.Pairwise R
 | [], _ => List.Pairwise.nil
 | x :: l, h => by
  refine List.Pairwise.cons (fun y hy => ?_) (pairwise_of fun l1 d l2 e c hc => h (x :: l1) d l2 (by simp [e]) c (by simp [hc]))
  obtain ⟨s, t, rfl⟩ := List.append_of_mem hy
  exact h (x :: s) y t (by simp) x (by simp)
structure Inv (ds : List DOp) (dn : Nat → Bool) (rem : List DOp) : Prop where
 rem : rem = ds.filter fun c => !dn c.i
 closed : ∀ d ∈ ds, dn d.i = true → ∀ j, j ∈ d.an → dn j = true
section
variable {E : Env} {ops : Array Oper} {ds : List DOp} {dn : Nat → Bool}
theorem Inv.an_of {rem : List DOp} (h : Inv ds dn rem) {d : DOp} {o : Oper} (hd : Fact E ops ds d o) (hp : ∀ p, p ∈ preds o → dn p = true) : ∀ j, j ∈ d.an → dn j = true := fun j hj => by
 rcases hd.an j hj with h1 | ⟨p, h1, c, h2, h3, h4⟩
 ·exact hp j h1
 ·exact h.closed c h2 (h3 ▸ hp p h1) j h4
theorem Inv.step {r1 r2 : List DOp} {d : DOp} (hp : ds.Pairwise fun c d => c.i ≠ d.i) (h : Inv ds dn (r1 ++ d :: r2)) (hd : ∀ j, j ∈ d.an → dn j = true) : Inv ds (fun j => dn j || Nat.beq j d.i) (r1 ++ r2) := by
 have hpr : (r1 ++ d :: r2).Pairwise fun c d => c.i ≠ d.i := by rw [h.rem]; exact hp.sublist List.filter_sublist
 refine ⟨?_, fun c hc hcd j hj => ?_⟩
 ·have e : (ds.filter fun c => !(dn c.i || Nat.beq c.i d.i)) = (r1 ++ d :: r2).filter fun c => !Nat.beq c.i d.i := by
   rw [h.rem, List.filter_filter]
   congr 1; funext c
   cases dn c.i <;> simp
  rw [e, List.filter_append, List.filter_cons]
  simp only [beq_same, Bool.not_true, Bool.false_eq_true, if_false]
  rw [List.pairwise_append] at hpr
  obtain ⟨_, h2, h3⟩ := hpr
  rw [List.pairwise_cons] at h2
  rw [List.filter_eq_self.2, List.filter_eq_self.2]
  ·intro c hc
   have := h2.1 c hc
   simp [beq_ne (Ne.symm this)]
  ·intro c hc
   have := h3 c hc d (by simp)
   simp [beq_ne this]
 ·simp only [Bool.or_eq_true] at hcd ⊢
  rcases hcd with h1 | h1
  ·exact .inl (h.closed c hc h1 j hj)
  ·have : c = d := by
    have hdm : d ∈ ds := by
     have : d ∈ ds.filter fun c => !dn c.i := by rw [← h.rem]; simp
     exact (List.mem_filter.1 this).1
    have hi := Nat.eq_of_beq_eq_true h1
    by_cases e : c = d
    ·exact e
    ·exfalso
     obtain ⟨s, t, rfl⟩ := List.append_of_mem hc
     rw [List.pairwise_append, List.pairwise_cons] at hp
     simp only [List.mem_append, List.mem_cons] at hdm
     rcases hdm with hdm | hdm | hdm
     ·exact hp.2.2 d hdm c (by simp) hi.symm
     ·exact e hdm.symm
     ·exact hp.2.1.1 d hdm hi
   subst this
   exact .inl (hd j hj)
theorem Inv.head {d : DOp} {r : List DOp} (hok : dopsOk E ops ds [] = true) (h : Inv ds dn (d :: r)) : ∃ o, Fact E ops ds d o ∧ ∀ p, p ∈ preds o → dn p = true := by
 obtain ⟨l1, l2, h1, h2, h3, _⟩ := List.filter_eq_cons_iff.1 h.rem.symm
 obtain ⟨o, hf, hp, _⟩ := dop_fact hok h1
 refine ⟨o, hf, fun p hpp => ?_⟩
 obtain ⟨c, hc, rfl⟩ := hp p hpp
 have := h2 c hc
 simpa using this
theorem Inv.topo (hok : dopsOk E ops ds [] = true) (hp : ds.Pairwise fun c d => c.i ≠ d.i) : ∀ {r1 r2 : List DOp} {dn : Nat → Bool}, Inv ds dn (r1 ++ r2) → TopoR (fun j => dn j = true) r1
 | [], r2, dn, h => trivial
 | c :: r1, r2, dn, h => by
  obtain ⟨o, hf, hpr⟩ := h.head hok
  have han := h.an_of hf hpr
  refine ⟨fun j hj => han j (hf.vw j hj), ?_⟩
  have := Inv.topo hok hp (r1 := r1) (r2 := r2) (Inv.step (r1 := []) hp h han)
  have e : (fun j => (dn j || Nat.beq j c.i) = true) = (fun j => dn j = true ∨ j = c.i) := by
   funext j
   rw [Bool.or_eq_true]
   exact propext ⟨fun h => h.imp id Nat.eq_of_beq_eq_true, fun h => h.imp id fun e => by rw [e]; exact beq_same _⟩
  rw [e] at this
  exact this
end
theorem growL_mem {ops : Array Oper} : ∀ {ds : List DOp} {j : Nat}, j ∈ growL ops ds → ∃ d ∈ ds, d.i = j
 | [], j, h => by simp [growL] at h
 | d :: r, j, h => by
  simp only [growL] at h
  split at h
  ·obtain ⟨c, hc, e⟩ := growL_mem h; exact ⟨c, by simp [hc], e⟩
  ·rename_i o _
   cases hg : growsOp o with
   | true =>
    simp only [hg, cond_true, List.mem_cons] at h
    rcases h with h | h
    ·exact ⟨d, by simp, h.symm⟩
    ·obtain ⟨c, hc, e⟩ := growL_mem h; exact ⟨c, by simp [hc], e⟩
   | false =>
    simp only [hg, cond_false] at h
    obtain ⟨c, hc, e⟩ := growL_mem h; exact ⟨c, by simp [hc], e⟩
theorem growL_nil {ops : Array Oper} : ∀ {ds : List DOp}, growL ops ds = [] → ∀ d ∈ ds, ∀ o, ops.toList[d.i]? = some o → growsOp o = false
 | [], _, d, hd => by simp at hd
 | c :: r, h, d, hd => fun o ho => by
  simp only [growL] at h
  rcases List.mem_cons.1 hd with rfl | hd
  ·simp only [ho] at h
   cases hg : growsOp o with
   | false => rfl
   | true => simp [hg] at h
  ·split at h
   ·exact growL_nil h d hd o ho
   ·rename_i oc _
    cases hg : growsOp oc with
    | true => simp [hg] at h
    | false => simp only [hg, cond_false] at h; exact growL_nil h d hd o ho
theorem any_order {C : Ctx} {E : Env} (hE : E.ok) {F : Fence} (hF : FOk F) (hY : YOk E C) {ops : Array Oper} (hlt : opsLt C.n ops.toList = true) (hfix : E.fix = none) {m0 : Mem} {f : Fx} {ds : List DOp} (hok : dopsOk E ops ds [] = true)
  {n e : Nat} {Q : Exit → Act → World → Prop} {K : St → Mem → Prop}
  (hcov : ∀ (listed : Array Bool) (rem : List DOp) i, Inv ds (fun j => listed.getD j false) rem → (∀ j, listed.getD j false = true → ∃ d ∈ ds, d.i = j) → listed.size = ops.size → i ∈ Region.ready .any ops listed → (∃ d ∈ ds, d.i = i) ∨ ∀ d ∈ ds, listed.getD d.i false = true)
  (hdone : ∀ (fuel : Nat) (listed : Array Bool) (S' : St) (m' : Mem) (a' : Act) (w' : World), e ≤ fuel → listed.size = ops.size → (∀ d ∈ ds, listed.getD d.i false = true) → (∀ j, listed.getD j false = true → ∃ d ∈ ds, d.i = j) → K S' m' → Rel C S' m' a' w' → wpAnyIn F n E.P .any ops Q fuel listed a' w') :
  ∀ (fuel : Nat) {listed : Array Bool} {rem : List DOp} {S : St} {μ : Nat → Mem} {A : Mem} {a : Act} {w : World}, listed.size = ops.size → Inv ds (fun j => listed.getD j false) rem → rem.length + e ≤ fuel → Rel C S A a w → m0.le A →
   (∀ j, listed.getD j false = true → (μ j).le A) → (∀ j, listed.getD j false = true → ∃ d ∈ ds, d.i = j) → (growL ops ds = [] → A = m0) → (∀ d ∈ ds, (∀ i, i ∈ d.ws → i ∈ S.ids) ∧ ∀ k, d.tk = some k → k ∈ S.tkeys) →
   nestW E ops m0 f rem (fun S' μ => finW m0 μ (growL ops ds) fun M => K S' M) S μ → wpAnyIn F n E.P .any ops Q fuel listed a w := by
 have hpw : ds.Pairwise fun c d => (c.i ∈ d.an ∨ indep ops c d = true) ∧ c.i ≠ d.i := pairwise_of fun l1 d l2 e c hc => by
  obtain ⟨o, _, _, h⟩ := dop_fact hok e
  exact h c hc
 have hpn : ds.Pairwise fun c d => c.i ≠ d.i := hpw.imp fun h => h.2
 have factOf : ∀ d ∈ ds, ∃ o, Fact E ops ds d o := fun d hd => by
  obtain ⟨s, t, e⟩ := List.append_of_mem hd
  obtain ⟨o, h, _⟩ := dop_fact hok e
  exact ⟨o, h⟩
 have allOf : ∀ {listed : Array Bool} {rem : List DOp}, Inv ds (fun j => listed.getD j false) rem → rem = [] → ∀ d ∈ ds, listed.getD d.i false = true := fun hinv he d hd => by
  subst he
  have := List.filter_eq_nil_iff.1 hinv.rem.symm d hd
  simpa using this
 have fin : ∀ {fuel : Nat} {listed : Array Bool} {rem : List DOp} {S : St} {μ : Nat → Mem} {A : Mem} {a : Act} {w : World}, listed.size = ops.size → Inv ds (fun j => listed.getD j false) rem → Rel C S A a w → m0.le A → (∀ j, listed.getD j false = true → (μ j).le A) → (∀ j, listed.getD j false = true → ∃ d ∈ ds, d.i = j) → (growL ops ds = [] → A = m0) →
   nestW E ops m0 f rem (fun S' μ => finW m0 μ (growL ops ds) fun M => K S' M) S μ → rem = [] → e ≤ fuel → wpAnyIn F n E.P .any ops Q fuel listed a w := by
  intro fuel listed rem S μ A a w hsz hinv hr h0 hμ hl hg hn he hfu
  have hall := allOf hinv he
  subst he
  refine hdone fuel listed S A a w hfu hsz hall hl (finW_elim hn h0 hg fun j hj => ?_) hr
  obtain ⟨d, hd, rfl⟩ := growL_mem hj
  exact hμ _ (hall d hd)
 have stuck : ∀ {listed : Array Bool} {rem : List DOp}, listed.size = ops.size → Inv ds (fun j => listed.getD j false) rem → Region.ready .any ops listed = [] → rem = [] := by
  intro listed rem hsz hinv hrd
  cases rem with
  | nil => rfl
  | cons d r =>
   exfalso
   obtain ⟨o, hf, hp⟩ := hinv.head hok
   have hmem : d ∈ ds.filter fun c => !listed.getD c.i false := by rw [← hinv.rem]; simp
   have h1 := (List.mem_filter.1 hmem).2
   have ho' : ops[d.i]? = some o := by simpa using hf.ok.at_
   have hlt' : d.i < ops.size := (Array.getElem?_eq_some_iff.1 ho').1
   have : d.i ∈ Region.ready .any ops listed := mem_ready.2 ⟨by
    have hl : d.i < listed.size := by omega
    simpa [Array.getD, hl] using h1, o, ho', fun e he hb => hp e.on (by
     simp only [preds, List.mem_map, List.mem_filter]
     exact ⟨e, ⟨by simpa using he, hb⟩, rfl⟩)⟩
   rw [hrd] at this; simp at this
 intro fuel
 induction fuel with
 | zero =>
  intro listed rem S μ A a w hsz hinv hlen hr h0 hμ hls hg hids hn
  have he : rem = [] := List.eq_nil_of_length_eq_zero (by omega)
  exact fin hsz hinv hr h0 hμ hls hg hn he (by omega)
 | succ fuel ih =>
  intro listed rem S μ A a w hsz hinv hlen hr h0 hμ hls hg hids hn
  by_cases hrem : rem = []
  ·exact fin hsz hinv hr h0 hμ hls hg hn hrem (by omega)
  refine ⟨fun hrd => absurd (stuck hsz hinv hrd) hrem, fun i hi => ?_⟩
  rcases hcov listed rem i hinv hls hsz hi with ⟨d, hd, rfl⟩ | hall'
  rotate_left
  ·exfalso
   apply hrem
   rw [hinv.rem, List.filter_eq_nil_iff]
   intro d hd
   simp [hall' d hd]
  obtain ⟨hun, o, ho, hall⟩ := mem_ready.1 hi
  have hlt' : d.i < ops.size := (Array.getElem?_eq_some_iff.1 ho).1
  have hl : d.i < listed.size := by omega
  have hun' : listed.getD d.i false = false := by simp [Array.getD, hl] at hun ⊢; exact hun
  obtain ⟨o', hf⟩ := factOf d hd
  have : o' = o := by
   have h1 := hf.ok.at_
   have h2 : ops.toList[d.i]? = some o := by simpa using ho
   rw [h1] at h2; exact Option.some.inj h2
  subst this
  have hpr : ∀ p, p ∈ preds o' → listed.getD p false = true := fun p hp => by
   simp only [preds, List.mem_map, List.mem_filter] at hp
   obtain ⟨e, ⟨he, hb⟩, rfl⟩ := hp
   exact hall e (by simpa using he) hb
  have han := hinv.an_of hf hpr
  have hdr : d ∈ rem := by rw [hinv.rem]; exact List.mem_filter.2 ⟨hd, by simp [hun']⟩
  obtain ⟨r1, r2, rfl⟩ := List.append_of_mem hdr
  have hsub : (r1 ++ d :: r2).Sublist ds := by rw [hinv.rem]; exact List.filter_sublist
  have hpwr := hpw.sublist hsub
  have hind : ∀ c ∈ r1, indep ops c d = true := fun c hc => by
   rw [List.pairwise_append] at hpwr
   rcases (hpwr.2.2 c hc d (by simp)).1 with h1 | h1
   ·have h2 := han _ h1
    have hcm : c ∈ ds.filter fun c => !listed.getD c.i false := by rw [← hinv.rem]; simp [hc]
    have h3 := (List.mem_filter.1 hcm).2
    rw [h2] at h3; cases h3
   ·exact h1
  have hin : ∀ c ∈ r1 ++ d :: r2, c ∈ ds := fun c hc => hsub.subset hc
  have hT := extract hE hF hY hlt hfix (r1 := r1) (D := fun j => listed.getD j false = true) hr h0 hμ (hinv.topo hok hpn) (fun c hc => by
   obtain ⟨oc, hfc⟩ := factOf c (hin c (by simp [hc]))
   exact ⟨⟨oc, hfc.ok⟩, hids c (hin c (by simp [hc]))⟩) hind hn
  refine sem_step hE hF hY hlt hfix hf.ok (hids d hd).1 (hids d hd).2 hr h0 (fun j hj => hμ j (han j (hf.vw j hj))) hT ?_
  intro S' m' A' a' w' hout hrel hA hm hgr
  have hdn : (fun j => (listed.setIfInBounds d.i true).getD j false) = fun j => listed.getD j false || Nat.beq j d.i := by
   funext j
   by_cases hj : j = d.i
   ·subst hj; simp [Array.getD, hl]
   ·have : Nat.beq j d.i = false := beq_ne hj
    rw [getD_set_ne false (Ne.symm hj), this, Bool.or_false]
  refine ih (rem := r1 ++ r2) (S := mrgO ops d S S') (μ := upd μ d.i m') (A := A') (by simpa using hsz) ?_ (by simp at hlen ⊢; omega) hrel (mLt h0 hA) ?_ ?_ ?_ ?_ (nest_out hf.ok.ws hind hn hout)
  ·rw [hdn]; exact hinv.step hpn han
  ·intro j hj
   have hj' : (listed.getD j false || Nat.beq j d.i) = true := by rw [← hj]; exact (congrFun hdn j).symm
   by_cases e : j = d.i
   ·subst e; rw [upd_same]; exact hm
   ·rw [upd_ne e]
    rw [beq_ne e, Bool.or_false] at hj'
    exact mLt (hμ j hj') hA
  ·intro j hj
   have hj' : (listed.getD j false || Nat.beq j d.i) = true := by rw [← hj]; exact (congrFun hdn j).symm
   rw [Bool.or_eq_true] at hj'
   rcases hj' with h | h
   ·exact hls j h
   ·exact ⟨d, hd, (Nat.eq_of_beq_eq_true h).symm⟩
  ·intro hgl
   rw [hgr (growL_nil hgl d hd o' hf.ok.at_)]
   exact hg hgl
  ·intro c hc
   rw [(mrgO_ids ops d S S').1, (mrgO_ids ops d S S').2]
   exact hids c hc
theorem allWs_mem : ∀ {ds : List DOp} {d : DOp} {i : Nat}, d ∈ ds → i ∈ d.ws → i ∈ allWs ds
 | [], d, i, hd, _ => by simp at hd
 | c :: r, d, i, hd, hi => by
  simp only [allWs, List.mem_append]
  rcases List.mem_cons.1 hd with rfl | hd
  ·exact .inl hi
  ·exact .inr (allWs_mem hd hi)
theorem allTk_mem : ∀ {ds : List DOp} {d : DOp} {k : Nat}, d ∈ ds → d.tk = some k → k ∈ allTk ds
 | [], d, k, hd, _ => by simp at hd
 | c :: r, d, k, hd, hk => by
  simp only [allTk]
  rcases List.mem_cons.1 hd with rfl | hd
  ·simp [hk]
  ·have := allTk_mem hd hk
   cases c.tk <;> simp [this]
theorem start_rel {C : Ctx} {S : St} {m : Mem} {a : Act} {w : World} (h : Rel C S m a w) (ds : List DOp) : Rel C (startS ds S) m a w :=
 h.restrict rfl rfl (fun _ _ hx => hx) (fun _ _ ht => .inl ht) (fun i sv he => by
  obtain ⟨v, h1, h2⟩ := h.env i sv he
  exact ⟨v, by cases sv <;> exact h1, h2⟩) (fun id x hx => by simp only [startS]; exact List.mem_append_right _ (h.ids id x hx)) (fun k t ht => by simp only [startS]; exact List.mem_append_right _ (h.tkeys k t ht))
theorem drawSound0 {E : Env} (hE : E.ok) (hmix : E.P.follows .mixedOrders = true) : DrawSound E (drawW0 E) := by
 intro C F hF hY n id ops K S m a w Q hlt hr h hK
 have over0 : ∀ {Q : Exit → Act → World → Prop}, (∀ S' m' a' w', K S' m' → Rel C S' m' a' w' → Q .normal a' w') → ∀ (fuel : Nat) (listed : Array Bool) (S' : St) (m' : Mem) (a' : Act) (w' : World), listed.size = ops.size → (∀ j, j < ops.size → listed.getD j false = true) → K S' m' → Rel C S' m' a' w' → wpAnyIn F n E.P .any ops Q fuel listed a' w' := by
  intro Q hK fuel listed S' m' a' w' hsz hall hk hrel
  have hno : Region.ready .any ops listed = [] := by
   cases hrd : Region.ready .any ops listed with
   | nil => rfl
   | cons i l =>
    exfalso
    have hi : i ∈ Region.ready .any ops listed := by rw [hrd]; simp
    obtain ⟨hun, o, ho, _⟩ := mem_ready.1 hi
    have hlt' : i < ops.size := (Array.getElem?_eq_some_iff.1 ho).1
    have h1 := hall i hlt'
    have hl : i < listed.size := by omega
    simp [Array.getD, hl] at hun h1
    rw [hun] at h1; cases h1
  cases fuel with
  | zero => exact ⟨hno, hK _ _ _ _ hk hrel⟩
  | succ fuel => exact ⟨fun _ => hK _ _ _ _ hk hrel, fun i hi => by rw [hno] at hi; simp at hi⟩
 have over := over0 hK
 unfold drawW0 at h
 cases hh : E.mix id with
 | some q =>
  obtain ⟨H, T⟩ := q
  simp only [hh] at h
  have := wpIn_region_any (F := F) (n := n) (id := id) (Q := fun e a w => e = .normal ∧ Q .normal a w) hmix (mix_any hE hF hY hlt (fun c a w h => nomatch h.1) (over0 fun S' m' a' w' h1 h2 => ⟨rfl, hK S' m' a' w' h1 h2⟩) hr.drew h)
  exact wpIn_mono this fun e a w h => by
   obtain ⟨rfl, h⟩ := h; exact h
 | none =>
 simp only [hh] at h
 obtain ⟨h1, h2⟩ := chk_elim h
 obtain ⟨f, h2⟩ := exF_elim h2
 have h2 : nestW E ops m f (E.dr id) (fun S' μ => finW m μ (growL ops (E.dr id)) fun M => bif E.last id then lastW E ops (E.lastK id) K S' M else K S' M) (startS (E.dr id) S) (fun _ => m) := by
  cases hgb : E.gb with
  | false => simp only [hgb, cond_false] at h2; exact h2
  | true => simp only [hgb, cond_true] at h2; exact nestB_nestW h2
 simp only [drawOk, Bool.and_eq_true, List.all_eq_true, List.any_eq_true] at h1
 obtain ⟨⟨⟨⟨hcov, hlen⟩, hok⟩, hfix⟩, hlast⟩ := h1
 refine wpIn_region_any hmix ?_
 have hcov' : ∀ i, i < (bif E.last id then ops.size - E.lastK id else ops.size) → ∃ d ∈ E.dr id, d.i = i := fun i hi => by
  obtain ⟨d, hd, e⟩ := hcov i (List.mem_range.2 hi)
  exact ⟨d, hd, Nat.eq_of_beq_eq_true e⟩
 have hlen : (E.dr id).length ≤ ops.size := Nat.le_of_ble_eq_true hlen
 have inv0 : Inv (E.dr id) (fun j => (Array.replicate ops.size false).getD j false) (E.dr id) := by
  refine ⟨(List.filter_eq_self.2 fun c hc => ?_).symm, fun d hd hdn => ?_⟩
  ·simp [Array.getD]
  ·simp [Array.getD] at hdn
 have none0 : ∀ j, (Array.replicate ops.size false).getD j false = true → False := fun j hj => by simp [Array.getD] at hj
 have ids0 : ∀ d ∈ E.dr id, (∀ i, i ∈ d.ws → i ∈ (startS (E.dr id) S).ids) ∧ ∀ k, d.tk = some k → k ∈ (startS (E.dr id) S).tkeys := fun d hd =>
  ⟨fun i hi => List.mem_append_left _ (allWs_mem hd hi), fun k hk => List.mem_append_left _ (allTk_mem hd hk)⟩
 cases hl : E.last id with
 | false =>
  simp only [hl, cond_false] at h2 hcov'
  refine any_order hE hF hY hlt (by simpa using hfix) hok (e := 0) (fun listed _ i _ _ _ hi => .inl ?_) (fun fuel listed S' m' a' w' _ hsz hall _ hk hrel => over fuel listed S' m' a' w' hsz (fun j hj => by obtain ⟨d, hd, rfl⟩ := hcov' j hj; exact hall d hd) hk hrel) ops.size (rem := E.dr id) (A := m) (by simp) inv0 (by omega) ((start_rel hr.drew (E.dr id))) (Mem.le_refl m) (fun j hj => (none0 j hj).elim) (fun j hj => (none0 j hj).elim) (fun _ => rfl) ids0 h2
  obtain ⟨_, o, ho, _⟩ := mem_ready.1 hi
  exact hcov' i (Array.getElem?_eq_some_iff.1 ho).1
 | true =>
  simp only [hl, cond_true] at h2 hcov' hlast
  generalize E.lastK id = k at *
  unfold lastOk at hlast
  simp only [Bool.and_eq_true, List.all_eq_true] at hlast
  obtain ⟨⟨hks, hpre⟩, hds⟩ := hlast
  have hks := Nat.le_of_ble_eq_true hks
  have htl : ∀ i, ops.size - k ≤ i → i < ops.size → ∃ o, ops[i]? = some o ∧ (∀ j, ops.size - k ≤ j → j < i → j ∈ preds o) ∧ (∀ j ∈ preds o, j < i) ∧ (i = ops.size - k → ∀ j, j < ops.size - k → j ∈ preds o ∨ ∃ p ∈ preds o, ∃ c ∈ E.dr id, c.i = p ∧ j ∈ c.an) := by
   intro i h1 h2
   have := hpre (i - (ops.size - k)) (List.mem_range.2 (by omega))
   rw [show ops.size - k + (i - (ops.size - k)) = i by omega] at this
   split at this
   ·cases this
   ·rename_i o ho
    simp only [Bool.and_eq_true, List.all_eq_true] at this
    refine ⟨o, by simpa using ho, fun j hj1 hj => ?_, fun j hj => Nat.le_of_ble_eq_true (this.2.1 j hj), fun hi j hj => ?_⟩
    ·have h3 := mem_iff.1 (this.1 (j - (ops.size - k)) (List.mem_range.2 (by omega)))
     rw [show ops.size - k + (j - (ops.size - k)) = j by omega] at h3
     exact h3
    ·have h3 := this.2.2
     rw [hi, Nat.sub_self] at h3
     simp only [show Nat.beq 0 0 = true from rfl, cond_true, List.all_eq_true, Bool.or_eq_true, List.any_eq_true] at h3
     rcases h3 j (List.mem_range.2 hj) with h4 | ⟨p, hp, h4⟩
     ·exact .inl (mem_iff.1 h4)
     ·obtain ⟨c, hc, h5, h6⟩ := anOf_spec (mem_iff.1 h4)
      exact .inr ⟨p, hp, c, hc, h5, h6⟩
  have hds' : ∀ d ∈ E.dr id, d.i < ops.size - k := fun d hd => Nat.le_of_ble_eq_true (hds d hd)
  have hdl : (E.dr id).length + k ≤ ops.size := by
   have hpn : (E.dr id).Pairwise fun c d => c.i ≠ d.i := pairwise_of fun l1 d l2 e c hc => by
    obtain ⟨o, _, _, h⟩ := dop_fact hok e
    exact (h c hc).2
   have hnd : ((E.dr id).map (·.i)).Nodup := by
    unfold List.Nodup
    rw [List.pairwise_map]
    exact hpn
   have := List.Nodup.length_le_of_subset hnd (l₂ := List.range (ops.size - k)) (fun j hj => by
    obtain ⟨d, hd, rfl⟩ := List.mem_map.1 hj
    exact List.mem_range.2 (hds' d hd))
   simp at this
   omega
  have tail : ∀ (r : List Oper) (i : Nat), ops.toList.drop i = r → ops.size - k ≤ i → i ≤ ops.size → ∀ (fuel : Nat) (listed : Array Bool) (S' : St) (m' : Mem) (a' : Act) (w' : World), r.length ≤ fuel → listed.size = ops.size → (∀ j, j < i → listed.getD j false = true) → (∀ j, i ≤ j → listed.getD j false = false) → tailW E ops K r S' m' → Rel C S' m' a' w' → wpAnyIn F n E.P .any ops Q fuel listed a' w' := by
   intro r
   induction r with
   | nil =>
    intro i hi h1 h2 fuel listed S' m' a' w' _ hsz hall _ hk hrel
    have : ops.size ≤ i := by
     have := congrArg List.length hi
     simp at this
     omega
    exact over fuel listed S' m' a' w' hsz (fun j hj => hall j (by omega)) hk hrel
   | cons o r ih =>
    intro i hi h1 h2 fuel listed S' m' a' w' hfu hsz hall hnone hk hrel
    have hlt2 : i < ops.size := by
     have := congrArg List.length hi
     simp at this
     omega
    obtain ⟨o', ho', hp1, hp2, _⟩ := htl i h1 hlt2
    have hoi : ops.toList[i]? = some o := by
     have := congrArg (fun l => l[0]?) hi
     simpa using this
    have hoo : o' = o := by
     have : ops.toList[i]? = some o' := by simpa using ho'
     rw [hoi] at this; cases this; rfl
    subst hoo
    have hri : ops.toList.drop (i + 1) = r := by
     have := congrArg (List.drop 1) hi
     simpa [List.drop_drop, Nat.add_comm] using this
    obtain ⟨fuel, rfl⟩ : ∃ k, fuel = k + 1 := ⟨fuel - 1, by simp at hfu; omega⟩
    have hun : listed.getD i false = false := hnone i (Nat.le_refl _)
    have hsl : i < listed.size := by omega
    refine ⟨fun hrd => ?_, fun q hq => ?_⟩
    ·exfalso
     have : i ∈ Region.ready .any ops listed := mem_ready.2 ⟨by simpa [Array.getD, hsl] using hun, o', ho', fun e he hb => ?_⟩
     ·rw [hrd] at this; simp at this
     ·have hm : e.on ∈ preds o' := by
       simp only [preds, List.mem_map, List.mem_filter]
       exact ⟨e, ⟨by simpa using he, hb⟩, rfl⟩
      exact hall _ (hp2 _ hm)
    ·obtain ⟨hui, o2, ho2, hpr⟩ := mem_ready.1 hq
     have hq' : q < ops.size := (Array.getElem?_eq_some_iff.1 ho2).1
     have : q = i := by
      by_cases h3 : q < i
      ·have h4 := hall q h3
       have hl : q < listed.size := by omega
       simp [Array.getD, hl] at hui h4
       rw [hui] at h4; cases h4
      ·by_cases h4 : q = i
       ·exact h4
       ·exfalso
        obtain ⟨o3, ho3, hp3, _⟩ := htl q (by omega) hq'
        rw [ho3] at ho2; cases ho2
        have := hp3 i h1 (by omega)
        simp only [preds, List.mem_map, List.mem_filter] at this
        obtain ⟨e, ⟨he, hb⟩, h5⟩ := this
        have := hpr e (by simpa using he) hb
        rw [h5, hun] at this; cases this
     subst this
     simp only [tailW] at hk
     have := opGB_sound hE hF hY (opsLt_spec hlt _ o' hoi) hrel hk (n := n) (Q := Q) (next := wpAnyIn F n E.P .any ops Q fuel (listed.setIfInBounds q true)) (fun S2 m2 a2 w2 hk2 hrel2 => ih (q + 1) hri (by omega) (by omega) fuel _ S2 m2 a2 w2 (by simp at hfu; omega) (by simpa using hsz) (fun j hj => by
      by_cases e : j = q
      ·subst e; simp [Array.getD, hsl]
      ·rw [getD_set_ne false (Ne.symm e)]
       exact hall j (by omega)) (fun j hj => by
      rw [getD_set_ne false (by omega)]
      exact hnone j (by omega)) hk2 hrel2)
     unfold wpOpIn
     simp only [ho']
     exact this
  refine any_order hE hF hY hlt (by simpa using hfix) hok (e := k) (fun listed rem i hinv hls hsz hi => ?_) (fun fuel listed S' m' a' w' hfu hsz hall hls hk hrel => ?_) ops.size (rem := E.dr id) (A := m) (by simp) inv0 (by omega) ((start_rel hr.drew (E.dr id))) (Mem.le_refl _) (fun j hj => (none0 j hj).elim) (fun j hj => (none0 j hj).elim) (fun _ => rfl) ids0 h2
  ·obtain ⟨_, o2, ho2, hall⟩ := mem_ready.1 hi
   have hi' : i < ops.size := (Array.getElem?_eq_some_iff.1 ho2).1
   by_cases hi2 : i < ops.size - k
   ·exact .inl (hcov' i hi2)
   ·right
    obtain ⟨o3, ho3, hp3, _, hp4⟩ := htl i (by omega) hi'
    have hoe : o2 = o3 := by rw [ho3] at ho2; cases ho2; rfl
    subst hoe
    have hpl : ∀ j ∈ preds o2, listed.getD j false = true := fun j hj => by
     simp only [preds, List.mem_map, List.mem_filter] at hj
     obtain ⟨e, ⟨he, hb⟩, h3⟩ := hj
     have := hall e (by simpa using he) hb
     rw [h3] at this
     exact this
    intro d hd
    by_cases hii : i = ops.size - k
    ·rcases hp4 hii d.i (hds' d hd) with h3 | ⟨p, hp, c, hc, h3, h4⟩
     ·exact hpl _ h3
     ·exact hinv.closed c hc (h3 ▸ hpl p hp) d.i h4
    ·exfalso
     have h3 := hpl _ (hp3 (ops.size - k) (Nat.le_refl _) (by omega))
     obtain ⟨d', hd', h4⟩ := hls _ h3
     have := hds' d' hd'
     omega
  ·unfold lastW at hk
   refine tail _ (ops.size - k) rfl (Nat.le_refl _) (Nat.sub_le _ _) fuel listed S' m' a' w' (by simp; omega) hsz (fun j hj => ?_) (fun j hj => ?_) hk hrel
   ·obtain ⟨d, hd, rfl⟩ := hcov' j hj
    exact hall d hd
   ·cases hb : listed.getD j false with
    | false => rfl
    | true =>
     obtain ⟨d, hd, h3⟩ := hls _ hb
     have := hds' d hd
     omega
theorem Rel.ptrS {C : Ctx} {S : St} {m : Mem} {a : Act} {w : World} (h : Rel C S m a w) (ts : List Nat) : Rel C (ptrS S ts) m a w := by
 refine h.restrict rfl rfl (fun _ _ hx => hx) (fun _ _ ht => .inl ht) (fun t sv he => ?_) h.ids h.tkeys
 have den : ∀ sv, (Eng.ptrS S ts).den sv = S.den sv := fun sv => by cases sv <;> rfl
 rw [den]
 have he : (bif mem ts t then ptrV S (S.env t) else S.env t) = some sv := he
 cases hm : mem ts t with
 | false => rw [hm] at he; exact h.env t sv he
 | true =>
  rw [hm, cond_true] at he
  unfold ptrV at he
  split at he
  ·rename_i i off hi
   cases hx : S.L i with
   | none => simp [hx] at he
   | some x =>
    simp only [hx, Option.some.injEq] at he
    subst he
    obtain ⟨v, h1, h2⟩ := h.env t _ hi
    simp only [St.den, hx] at h1
    cases h1
    exact ⟨_, rfl, h2⟩
  ·exact h.env t sv he
theorem ptrSound {E : Env} (hE : E.ok) (hmix : E.P.follows .mixedOrders = true) {C : Ctx} {F : Fence} (hF : FOk F) (hY : YOk E C) (n : Nat) (id : Nat) (ops : Array Oper) {K : St → Mem → Prop} {S2 : St} {m2 : Mem} {a : Act} {w : World} {Q : Exit → Act → World → Prop}
  (hlt : opsLt C.n ops.toList = true) (hr2 : Rel C S2 m2 a w) (h2 : ptrW (E.ptrAt id) (opDsts ops.toList) (drawW0 E id ops) K S2 m2) (hK : ∀ S' m' a' w', K S' m' → Rel C S' m' a' w' → Q .normal a' w') : (Code.region id ops true).wpIn F n E.P Q a w := by
 unfold ptrW at h2
 split at h2
 ·exact drawSound0 hE hmix hF hY n id ops hlt hr2 h2 hK
 ·rename_i t0 tl hts
  obtain ⟨h3, h4⟩ := chk_elim h2
  generalize E.ptrAt id = ts at *
  have h5 := drawMono0 E id ops _ (fun S' m' => SameOut (opDsts ops.toList) (ptrS S2 ts) S' ∧ samePt S2 S' ts (K (unptr S2 S' ts) m')) _ m2 (fun S' m' hs _ y => ⟨hs, y⟩) h4
  refine drawSound0 hE hmix hF hY n id ops hlt (hr2.ptrS ts) h5 (fun S' m' a' w' hk hrel => ?_)
  obtain ⟨hs, hk⟩ := hk
  obtain ⟨hk, hp⟩ := samePt_elim hk
  refine hK _ m' a' w' hk (hrel.restrict rfl rfl (fun _ _ hx => hx) (fun _ _ ht => .inl ht) (fun t sv he => ?_) hrel.ids hrel.tkeys)
  have den : ∀ sv, (unptr S2 S' ts).den sv = S'.den sv := fun sv => by cases sv <;> rfl
  rw [den]
  have he : (bif mem ts t then S2.env t else S'.env t) = some sv := he
  cases hm : mem ts t with
  | false => rw [hm] at he; exact hrel.env t sv he
  | true =>
   rw [hm, cond_true] at he
   have htm := mem_iff.1 hm
   have hnd : t ∉ opDsts ops.toList := fun hd => by
    have := List.all_eq_true.1 h3 t htm
    simp [mem_iff.2 hd] at this
   have h6 := hs t hnd
   have h7 : (ptrS S2 ts).env t = ptrV S2 (S2.env t) := by show (bif mem ts t then _ else _) = _; rw [hm]; rfl
   rcases hp t htm with ⟨i, off, q1, q2⟩ | ⟨v, q1⟩
   ·rw [q1] at he; cases he
    obtain ⟨v, r1, r2⟩ := hr2.env t _ q1
    simp only [St.den] at r1
    cases hx : S2.L i with
    | none => simp [hx] at r1
    | some x =>
     rw [q1] at h7
     simp only [ptrV, hx] at h7
     obtain ⟨u, r3, r4⟩ := hrel.env t _ (h6.trans h7)
     simp only [St.den] at r3; cases r3
     refine ⟨_, ?_, r4⟩
     simp only [St.den, q2, hx]
   ·rw [q1] at he; cases he
    rw [q1] at h7
    exact hrel.env t _ (h6.trans h7)
theorem drawSound {E : Env} (hE : E.ok) (hmix : E.P.follows .mixedOrders = true) : DrawSound E (drawW E) := by
 intro C F hF hY n id ops K S m a w Q hlt hr h hK
 obtain ⟨S2, m2, hr2, h2⟩ := frzW_sound hr h
 unfold acqW at h2
 split at h2
 ·exact ptrSound hE hmix hF hY n id ops hlt hr2 h2 hK
 ·rename_i key esz _
  obtain ⟨h3, h4⟩ := chk_elim h2
  cases hm0 : E.m0 with
  | none => simp [hm0] at h4
  | some mm =>
   simp only [hm0] at h4
   obtain ⟨z0, p, n', c, z1, z2, z3⟩ := h4
   refine ptrSound hE hmix hF hY n id ops hlt (hr2.acq hY hm0 z0 z1 z2) z3 (fun S' m' a' w' hk hrel => ?_)
   split at hk
   ·exact hk.elim
   ·rename_i t ht
    obtain ⟨hk1, hk2⟩ := chk_elim hk
    obtain ⟨zs, hz1, hz2⟩ := hrel.unacq ht
    exact hK _ _ _ _ (hk2 zs hz1) hz2
def bodyOf (fn : Func) : Code := match fn.body with
 | some c => c
 | none => .skip
def Env.at (E : Env) (m : Mem) : Env := { E with m0 := some m }
def FW (E : Env) (fn : Func) (svs : List SV) (xs : List Box) (m : Mem) (R : Value → Mem → List (List Value) → Prop) : Prop :=
 W (E.at m) (drawW (E.at m)) (bodyOf fn) (retK (E.at m) fn.results.toList m xs R) (S0 svs xs) m
def fnOk (E : Env) (fn : Func) (svs : List SV) (xs : List Box) : Bool :=
 !(fn.name == "runtime.NumGoroutine") && fn.body.isSome && codeAnn E (bodyOf fn) && codeLt fn.ntmps (bodyOf fn) && frzOk E.frz && (E.yl.isNone && E.ylY.isNone) && Nat.ble svs.length fn.ntmps && svsOk xs svs
theorem bodyOf_some {fn : Func} (h : fn.body.isSome = true) : fn.body = some (bodyOf fn) := by
 unfold bodyOf
 cases hb : fn.body with
 | none => rw [hb] at h; cases h
 | some c => rfl
theorem codeAnn_m0 (E : Env) (m : Mem) : ∀ c : Code, codeAnn (E.at m) c = codeAnn E c
 | .region _ _ _ => rfl
 | .seq a b => by simp only [codeAnn, codeAnn_m0 E m a, codeAnn_m0 E m b]; rfl
 | .cond _ a b => by simp only [codeAnn, codeAnn_m0 E m a, codeAnn_m0 E m b]
 | .block _ a => by simp only [codeAnn, codeAnn_m0 E m a]
 | .loop a => by simp only [codeAnn, codeAnn_m0 E m a]; rfl
 | .rangeFunc _ _ a b => by simp only [codeAnn, codeAnn_m0 E m a, codeAnn_m0 E m b]
 | .scope a => by simp only [codeAnn, codeAnn_m0 E m a]
 | .skip => rfl
 | .label _ => rfl
 | .goto _ => rfl
 | .exit _ => rfl
 | .ret => rfl
 | .refuse _ => rfl
theorem CX_of_FW {E : Env} (hE : E.ok) (hmix : E.P.follows .mixedOrders = true) {g : FuncId} {fn : Func} (hf : E.P.funcs[g]? = some fn) {m : Mem} {R : Value → Mem → List (List Value) → Prop} (svs : List SV) (xs : List Box)
  (hok : fnOk E fn svs xs = true) (h : FW E fn svs xs m R) : CX E.P g (svs.map (argV xs)).toArray m xs R := by
 simp only [fnOk, Bool.and_eq_true, Bool.not_eq_true'] at hok
 obtain ⟨⟨⟨⟨⟨⟨⟨h1, h2⟩, h3⟩, h4⟩, h5⟩, h8⟩, h6⟩, h7⟩ := hok
 exact CX_of_W (E := E.at m) hE (drawMono _) (drawSound (E := E.at m) hE hmix) hf h1 (bodyOf_some h2) (by rw [codeAnn_m0]; exact h3) h4 h5 (show E.yl = none ∧ E.ylY = none by simpa using h8) (fun mm hmm => Option.some.inj hmm) svs xs h6 h7 h
theorem codeAnn_yields (E : Env) (l : Nat) (xs : List (List Value)) : ∀ c : Code, codeAnn (E.yields l xs) c = codeAnn E c
 | .region _ _ _ => rfl
 | .seq a b => by simp only [codeAnn, codeAnn_yields E l xs a, codeAnn_yields E l xs b]; rfl
 | .cond _ a b => by simp only [codeAnn, codeAnn_yields E l xs a, codeAnn_yields E l xs b]
 | .block _ a => by simp only [codeAnn, codeAnn_yields E l xs a]
 | .loop a => by simp only [codeAnn, codeAnn_yields E l xs a]; rfl
 | .rangeFunc _ _ a b => by simp only [codeAnn, codeAnn_yields E l xs a, codeAnn_yields E l xs b]
 | .scope a => by simp only [codeAnn, codeAnn_yields E l xs a]
 | .skip => rfl
 | .label _ => rfl
 | .goto _ => rfl
 | .exit _ => rfl
 | .ret => rfl
 | .refuse _ => rfl
def FWI (E : Env) (fn : Func) (first captured : List Value) (m : Mem) (xs : List (List Value)) : Prop :=
 ∀ l, W (E.yields l xs) (drawW (E.yields l xs)) (bodyOf fn) (retKI E fn.results.toList xs.length) (S0 ((first ++ .func (.yield l) #[] #[] :: captured).map .v) []) m
def fnOkI (E : Env) (fn : Func) (k : Nat) : Bool :=
 !(fn.name == "runtime.NumGoroutine") && fn.body.isSome && codeAnn E (bodyOf fn) && codeLt fn.ntmps (bodyOf fn) && Nat.ble (k + 1) fn.ntmps
theorem IX_of_FWI {E : Env} (hE : E.ok) (hmix : E.P.follows .mixedOrders = true) {g : FuncId} {fn : Func} (hf : E.P.funcs[g]? = some fn) {m : Mem} (first captured : List Value) (xs : List (List Value))
  (hok : fnOkI E fn (first.length + captured.length) = true) (h : FWI E fn first captured m xs) : IX E.P g first captured m xs := by
 simp only [fnOkI, Bool.and_eq_true, Bool.not_eq_true'] at hok
 obtain ⟨⟨⟨⟨h1, h2⟩, h3⟩, h4⟩, h5⟩ := hok
 exact IX_of_W (drawW := drawW) hE hf h1 (bodyOf_some h2) h4 first captured xs h5 fun l =>
  ⟨drawMono _, drawSound (E := E.yields l xs) hE hmix, by rw [codeAnn_yields]; exact h3, h l⟩
end Go.Eng
set_option linter.unusedSectionVars false
namespace Go.Eng
open Go Go.RowKit
set_option maxRecDepth 100000
theorem CXT.mono {P : Program} {g : FuncId} {args : Array Value} {m : Mem} {esz : Nat} {R R' : Value → Mem → List (List Value) → Prop} (h : CXT P g args m esz R) (k : ∀ v m' css, m.le m' → R v m' css → R' v m' css) : CXT P g args m esz R' :=
 ⟨h.1, fun w h1 => (h.2 w h1).mono fun _ _ ⟨v, m', a1, a2, a3, a4, a5, a6, a7, a8⟩ => ⟨v, m', a1, a2, a3, a4, a5, a6, a7, k _ _ _ a2 a8⟩⟩
def RoomOk (m m' : Mem) (esz : Nat) (v : Value) : Prop := v = .slice none 0 0 ∨ ∃ b o n c, v = .slice (some ⟨b, o, none⟩) n c ∧ n ≤ c ∧ m.free b ∧ ∀ q, n * esz ≤ q → q < c * esz → ∃ u, m' b (o + q) = some u
theorem CXT.room {P : Program} {g : FuncId} {args : Array Value} {m : Mem} {esz : Nat} {R : Value → Mem → List (List Value) → Prop} (h : CXT P g args m esz R) : CX P g args m [] (fun v m' _ => ∃ m1 : Mem, m.le m1 ∧ m1.le m' ∧ R v m1 [] ∧ RoomOk m m' esz v) := by
 refine ⟨h.1, fun w h1 _ _ => (h.2 w h1).mono ?_⟩
 rintro e w' ⟨v, m', a1, a2, a3, a4, a5, a6, a7, a8⟩
 have a9 := a6
 rcases a6 with h6 | ⟨b, o0, n, c, cur, T, fr, hv, hnc, hh, hsz, _, hroom⟩
 ·exact ⟨v, m', [], a1, a2, a3, a4, a5, rfl, fun i x cs hi => by simp at hi, m', a2, Mem.le_refl _, a8, .inl h6⟩
 ·have hv : v = .slice (some ⟨b, o0, none⟩) n c := hv
  have hb : w.heap.size ≤ b := a7 b (by simp [Tok.blk, hv])
  have hfree : m.free b := fun o => by
   cases he : m b o with
   | none => rfl
   | some u => have := h1.lt he; omega
  have hce : c * esz = n * esz + (c - n) * esz := by rw [← Nat.add_mul]; congr 1; omega
  have hroom : ∀ o, o0 + n * esz ≤ o → o < o0 + c * esz → m' b o = none := hroom
  have hsz : o0 + c * esz ≤ cur.size := hsz
  obtain ⟨P0, hP0⟩ : ∃ P0, P0 = o0 + n * esz := ⟨_, rfl⟩
  obtain ⟨zs, hzs⟩ : ∃ zs, zs = (cur.toList.drop P0).take ((c - n) * esz) := ⟨_, rfl⟩
  have hzl : zs.length = (c - n) * esz := by rw [hzs]; simp; omega
  have hzc : ∀ q v, zs[q]? = some v → cur[P0 + q]? = some v := fun q v hq => by
   rw [hzs, List.getElem?_take] at hq
   split at hq
   ·rw [List.getElem?_drop] at hq; simpa using hq
   ·cases hq
  have hle : m'.le (m'.addAt b P0 zs) := ⟨fun b' o v hv' => by
   simp only [Mem.addAt]
   split
   ·rename_i hc
    obtain ⟨rfl, ho⟩ := hc
    cases hz : zs[o - P0]? with
    | none => simp only [hz]; exact hv'
    | some u =>
     have hq := (List.getElem?_eq_some_iff.1 hz).1
     rw [hroom o (by omega) (by omega)] at hv'; cases hv'
   ·exact hv', fun _ _ h => h⟩
  have hcell : ∀ b' o u, m'.addAt b P0 zs b' o = some u → m' b' o = some u ∨ (b' = b ∧ w'.cell? ⟨b', o, none⟩ = some u) := fun b' o u hu => by
   simp only [Mem.addAt] at hu
   split at hu
   ·rename_i hc
    obtain ⟨rfl, ho⟩ := hc
    cases hz : zs[o - P0]? with
    | none => simp only [hz] at hu; exact .inl hu
    | some x =>
     simp only [hz] at hu; cases hu
     have := hzc _ _ hz
     rw [show P0 + (o - P0) = o by omega] at this
     refine .inr ⟨rfl, ?_⟩
     simp only [World.cell?, hh]
     simpa using this
   ·exact .inl hu
  refine ⟨v, m'.addAt b P0 zs, [], a1, mLt a2 hle, ⟨fun b' o u hu => (hcell b' o u hu).elim (a3 b' o u) (·.2), a3.k⟩, a4.addAt _ ⟨hb, a9.wr (by simp [Tok.blk, hv])⟩, a5, rfl, fun i x cs hi => by simp at hi, m', a2, hle, a8, .inr ⟨b, o0, n, c, hv, hnc, hfree, fun q hq1 hq2 => ?_⟩⟩
  have hlt : o0 + q - P0 < zs.length := by omega
  refine ⟨zs[o0 + q - P0], ?_⟩
  simp only [Mem.addAt]
  rw [if_pos ⟨trivial, by omega⟩, List.getElem?_eq_getElem hlt]
end Go.Eng
namespace Go.Eng
open Go Go.RowKit
set_option maxRecDepth 100000
theorem TokOk.sl {m : Mem} {w : World} {t : Tok} (h : TokOk m w t) : isSl t.v = true := by
 rcases h with h | ⟨b, o0, n, c, _, _, _, h, _⟩
 ·rw [h]; rfl
 ·rw [h]; rfl
theorem CXY.mono {P : Program} {g : FuncId} {args : Array Value} {m : Mem} {Y : Nat → Prop} {X : List Box} {ts : List Tok} {R R' : Value → Mem → List (List Value) → List Value → Prop} (h : CXY P g args m Y X ts R) (k : ∀ v m' css tvs, (m.off Y).le m' → R v m' css tvs → R' v m' css tvs) : CXY P g args m Y X ts R' :=
 ⟨h.1, fun w h1 h2 h3 h4 h5 h6 => (h.2 w h1 h2 h3 h4 h5 h6).mono fun _ _ ⟨v, m', css, tvs, a1, a2, a3, a4, a5, a6, a7, a8, a9, a10, a11⟩ => ⟨v, m', css, tvs, a1, a2, a3, a4, a5, a6, a7, a8, a9, a10, k _ _ _ _ a2 a11⟩⟩
end Go.Eng
namespace Go.Eng
open Go Go.RowKit
set_option maxRecDepth 100000
theorem IXY.mono {P : Program} {g : FuncId} {first captured : List Value} {m : Mem} {Y : Nat → Prop} {n : Nat} {V V' : Nat → List Value → Mem → Prop} {R R' : Mem → Prop} (h : IXY P g first captured m Y n V R) (k : ∀ i v mi, V i v mi → V' i v mi) (k' : ∀ m', R m' → R' m') : IXY P g first captured m Y n V' R' :=
 ⟨h.1, fun p hp l w hs hY hp0 hy => (h.2 p hp l w hs hY hp0 (fun F n' l' g v M w mi hF hlt ⟨e, i, z1, z2, z3⟩ => hy F n' l' g v M w mi hF hlt ⟨e, i, z1, z2, k i v mi z3⟩)).mono
  fun _ _ ⟨v, M, m', a1, a2, a3, a4, a5, a6, a7⟩ => ⟨v, M, m', a1, a2, a3, a4, a5, a6, k' _ a7⟩⟩
end Go.Eng
namespace Go.Eng
open Go Go.RowKit
def zok (i : TI) : Bool := Nat.beq i.zero.cells.size i.size && onesL i.zero.cells.toList && (i.agg || Nat.beq i.size 1)
structure TRow (P : Program) (t : TypeId) (i : TI) : Prop where
 und : P.underlying t = some i.d
 info : (P.info? t).map (fun x => (x.size, x.zero, x.bytes)) = some (i.size, some i.zero, i.bytes)
 ok : zok i = true
theorem TRow.tok {P : Program} {t : TypeId} {i : TI} (h : TRow P t i) : TOk P t i := by
 have hz := h.ok
 simp only [zok, Bool.and_eq_true, Bool.or_eq_true] at hz
 refine ⟨h.und, ?_, Nat.eq_of_beq_eq_true hz.1.1, onesL_all hz.1.2, fun ha => ?_⟩
 ·obtain ⟨x, hx, e⟩ := Option.map_eq_some_iff.1 h.info
  simp only [Prod.mk.injEq] at e
  exact ⟨x, hx, e.1, e.2.1, e.2.2⟩
 ·rcases hz.2 with h1 | h1
  ·rw [ha] at h1; cases h1
  ·exact Nat.eq_of_beq_eq_true h1
def lookT : List (Nat × TI) → Nat → Option TI
 | [], _ => none
 | q :: l, t => bif Nat.beq t q.1 then some q.2 else lookT l t
def tabOk (P : Program) : List (Nat × TI) → Prop
 | [] => True
 | q :: l => TRow P q.1 q.2 ∧ tabOk P l
theorem lookT_ok {P : Program} : ∀ {l : List (Nat × TI)}, tabOk P l → ∀ t i, lookT l t = some i → TOk P t i
 | [], _, t, i, h => by simp [lookT] at h
 | q :: l, hl, t, i, h => by
  simp only [lookT] at h
  cases hb : Nat.beq t q.1 with
  | true =>
   simp only [hb, cond_true, Option.some.injEq] at h
   rw [Nat.eq_of_beq_eq_true hb, ← h]; exact hl.1.tok
  | false => simp only [hb, cond_false] at h; exact lookT_ok hl.2 t i h
abbrev sameBx (l : List (Option Box)) : Prop := l = l
end Go.Eng
namespace Go.Eng
open Go Go.RowKit
abbrev Ret (u : Value) : Value → Mem → List (List Value) → Prop := fun v _ _ => v = u
theorem ret_pure {m m' : Mem} {R : Value → Mem → List (List Value) → Prop} {v : Value} (h : m.le m') (k : R v m []) : ∃ m'' : Mem, m.le m'' ∧ m''.le m' ∧ R v m'' [] := ⟨m, Mem.le_refl m, h, k⟩
theorem ret_all {m m' : Mem} {R : Value → Mem → List (List Value) → Prop} {v : Value} (h : m.le m') (k : R v m' []) : ∃ m'' : Mem, m.le m'' ∧ m''.le m' ∧ R v m'' [] := ⟨m', h, Mem.le_refl _, k⟩
section
variable {P : Program} {g : FuncId} {args : Array Value} {m : Mem}
theorem call_bool {K : Bool → Mem → Prop} {x : Bool} (h : CX P g args m [] (Ret (.bool x))) (k : ∀ m', m.le m' → K x m') :
  ∃ R : Value → Mem → List (List Value) → Prop, True ∧ CX P g args m [] R ∧ (∀ (v : Value) (m' : Mem) (css : List (List Value)), R v m' css → Shape.fits .bool v = true) ∧ ∀ (b : Bool) (m' : Mem), m.le m' → R (.bool b) m' [] → K b m' :=
 ⟨_, trivial, h, fun v _ _ e => by rw [e]; rfl, fun b m' hm e => by cases e; exact k m' hm⟩
theorem call_int {kk : IntKind} {K : Int → Mem → Prop} {x : Int} (h : CX P g args m [] (Ret (.int kk x))) (k : ∀ m', m.le m' → K x m') :
  ∃ R : Value → Mem → List (List Value) → Prop, True ∧ CX P g args m [] R ∧ (∀ (v : Value) (m' : Mem) (css : List (List Value)), R v m' css → Shape.fits (.int kk) v = true) ∧ ∀ (b : Int) (m' : Mem), m.le m' → R (.int kk b) m' [] → K b m' :=
 ⟨_, trivial, h, fun v _ _ e => by rw [e]; simp [Shape.fits], fun b m' hm e => by cases e; exact k m' hm⟩
theorem call_any {s : Shape} {R : Value → Mem → List (List Value) → Prop} {Q : (Value → Mem → List (List Value) → Prop) → Prop} (h : CX P g args m [] R) (hs : ∀ (v : Value) (m' : Mem) (css : List (List Value)), R v m' css → s.fits v = true) (k : Q R) :
  ∃ R : Value → Mem → List (List Value) → Prop, True ∧ CX P g args m [] R ∧ (∀ (v : Value) (m' : Mem) (css : List (List Value)), R v m' css → s.fits v = true) ∧ Q R := ⟨R, trivial, h, hs, k⟩
end
theorem br_ite {b : Bool} {p q : Prop} : br b p q ↔ (if b = true then p else q) := by cases b <;> simp [br]
theorem wrap64 {n : Int} (h1 : -9223372036854775808 ≤ n) (h2 : n ≤ 9223372036854775807) : IntKind.i64.wrap n = n := by
 unfold IntKind.wrap
 simp only [IntKind.bits, IntKind.signed, Bool.true_and]
 have e : (2 : Int) ^ 64 = 18446744073709551616 := by decide
 have e' : (2 : Int) ^ (64 - 1) = 9223372036854775808 := by decide
 simp only [e, e']
 split
 ·rename_i h
  have := of_decide_eq_true h
  omega
 ·rename_i h
  have : ¬ (n % 18446744073709551616 ≥ 9223372036854775808) := fun hh => h (decide_eq_true hh)
  omega
theorem func_inj {f f' : Nat} {a b a' b' : List Value} (h : Value.func (.func f) a.toArray b.toArray = .func (.func f') a'.toArray b'.toArray) : f = f' ∧ a = a' ∧ b = b' := by
 simpa using h
theorem one_bool {a b : Bool} (h : a = b) : [Value.bool a] = [Value.bool b] := by rw [h]
end Go.Eng
namespace Go.Eng
open Go Go.RowKit Go.ChangeShapes Go.WideShapes
def memOf (W : World) : Mem := ⟨fun b o => W.cell? ⟨b, o, none⟩, fun _ => none⟩
theorem trodAll_stays {H : Type} {enc : TypeId × Value → H} {P : Program} (hl : laidOutB P = true) {W W' : World} {sp : Nat → Bool} : ∀ {ts : List TypeId} {vs : List Value} {ds : List (DataW H)} {ps : List MemPlace}, (∀ t ∈ ts, P.readableRec t = true ∧ t < P.types.size) → DataW.TrodAll enc P W 0 (fun _ => true) true ts vs ds ps → (∀ p ∈ ps, W.sameAt W' p) → (∀ p ∈ ps, sp p.block = true) → DataW.TrodAll enc P W' 0 sp true ts vs ds ps
 | [], [], [], ps, _, h, _, _ => h
 | t :: ts, v :: vs, d :: ds, ps, ht, h, hs, hsp => by
  obtain ⟨p, q, h1, h2, rfl⟩ := h
  exact ⟨p, q, WideElems.Trod_stays hl (ht t (by simp)).1 (ht t (by simp)).2 h1 (fun x hx => hs x (by simp [hx])) (fun x hx => hsp x (by simp [hx])), trodAll_stays hl (fun t' h' => ht t' (by simp [h'])) h2 (fun x hx => hs x (by simp [hx])) (fun x hx => hsp x (by simp [hx])), rfl⟩
 | [], [], _ :: _, _, _, h, _, _ => h.elim
 | [], _ :: _, _, _, _, h, _, _ => by simp [DataW.TrodAll] at h
 | _ :: _, [], _, _, _, h, _, _ => by simp [DataW.TrodAll] at h
 | _ :: _, _ :: _, [], _, _, h, _, _ => h.elim
theorem post_true {H : Type} {enc : TypeId × Value → H} {P : Program} {g : FuncId} {f : Func} {s : ChangeSpec} {W : World} {args : Array Value} {ds gs : List (DataW H)} {before : List MemPlace} {tb : TypeId} (hl : laidOutB P = true)
  (hts : ∀ t ∈ f.params.toList, P.readableRec t = true ∧ t < P.types.size) (hW : DataW.Whole enc P f.params.toList s.vars false W args.toList ds gs before) (hv : s.vars = [])
  (hr : (s.fn H (ds ++ gs)).results = [.lit (.bool true)]) (ha : (s.fn H (ds ++ gs)).args = ds) (hw : (s.fn H (ds ++ gs)).vars = []) (hres : f.resultTypes = #[tb]) (htb : P.underlying tb = some .bool)
  (hcx : CX P g args (memOf W) [] (Ret (.bool true))) :
  Calls P g args W fun e W' => ∃ v, e = .returned v ∧ s.post enc P f false true false false W args v W' := by
 refine (hcx.2 W ⟨fun _ _ _ h => h, fun _ _ h => by cases h⟩ (by simp) (by simp)).mono ?_
 rintro e W' ⟨v, m', css, rfl, hm, hsub, hnew, hk, _, _, rfl⟩
 have hb : Below W.heap.size W W' := hk.below
 have hlt : ∀ p ∈ before, p.block < W.heap.size := fun p hp => by simpa using hW.lt p hp
 have hW' := hW
 obtain ⟨p, q, hA, hV, rfl, hz, hn⟩ := hW
 rw [hv] at hV
 obtain ⟨rfl, rfl⟩ : gs = [] ∧ q = [] := by
  cases gs with
  | nil => exact ⟨rfl, hV⟩
  | cons g gs => exact hV.elim
 refine ⟨_, rfl, ds, [], p ++ [], [], p, [], hW', ?_, ?_, ?_, hb.frame _, fun h => by cases h⟩
 ·rw [hr, hres]
  exact trodAll_cons_mk (shut_bool htb _) trodAll_mk0
 ·rw [ha]
  exact trodAll_stays hl hts hA (fun x hx => hb.same (hlt x (by simp [hx]))) (fun x hx => by simpa using hlt x (by simp [hx]))
 ·rw [hw, hv]; rfl
end Go.Eng
