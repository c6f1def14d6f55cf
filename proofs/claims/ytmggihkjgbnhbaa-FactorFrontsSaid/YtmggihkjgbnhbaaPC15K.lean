/- Part of the proof: conditions and contracts of functions of this program. No condition of its own. -/
import Derived.Test.YtmggihkjgbnhbaaPC15J
set_option linter.unusedVariables false
set_option linter.unusedSimpArgs false
set_option linter.unusedSectionVars false
namespace Go.Proofs.Ytmggihkjgbnhbaa
open Go Go.Eng Go.Rx Go.Proofs Go.RowKit
set_option maxRecDepth 100000
mutual
theorem same_er : ∀ t u : T, t.er.same u.er = t.same u
 | .node k s0 s1 s2 s3 mn mx a c l, .node k' s0' s1' s2' s3' mn' mx' a' c' l' => by
  simp only [T.er, T.same, sameL_er l l']
theorem sameL_er : ∀ l r : List T, sameL (erL l) (erL r) = sameL l r
 | [], [] => rfl
 | [], _ :: _ => rfl
 | _ :: _, [] => rfl
 | t :: l, u :: r => by simp only [erL, sameL, same_er t u, sameL_er l r]
end
theorem light_er (t : T) : t.er.light = t.light := by unfold T.light; rw [sz_er]
theorem clean_er (t : T) : t.er.clean = t.clean := by
 show (t.er.light && t.er.good) = (t.light && t.good)
 rw [light_er, good_er]
theorem rgt_er (t : T) : T.rgt t.er = T.rgt t := by
 rw [Bool.eq_iff_iff, rgt_iff, rgt_iff, good_er, sz_er]
theorem gainE_er {t : T} {c : C4} (h : c ∈ t.cuts) : gainE t.er c = gainE t c := by
 unfold gainE
 rw [cutAt_er t 0 (cuts_fit h), sz_er]
theorem factorE_er' (t : T) : factorE t.er = factorE t := factorE_er (er_er t)
def IsE (E : T) : Value → Mem → List (List Value) → Prop := TreeR fun t => t.er = E ∧ t.caps
theorem aw_byte (c : Nat) (hc : c < 256) (m : Mem) : CX Try.prog 31 #[.int .u8 (c : Nat)] m [] (IsE (letterT c)) :=
 (cx_Byte c hc m).mono fun v m' css _ ⟨t, h1, h2, h3⟩ => ⟨t, h1, h2, by subst h3; exact ⟨rfl, caps_node (by simp) (by simp)⟩⟩
theorem goods_of {L E : List T} (hE : L.map T.er = E) (hg : E.all T.good = true) : ∀ x ∈ L, x.good = true := by
 intro x hx
 have : x.er ∈ E := by rw [← hE]; exact List.mem_map_of_mem hx
 have := List.all_eq_true.1 hg _ this
 rwa [good_er] at this
theorem szL_map : ∀ L : List T, szL (L.map T.er) = szL L
 | [] => rfl
 | x :: L => by rw [List.map_cons, szL_cons, szL_cons, sz_er, szL_map L]
theorem aw_seq (L E : List T) (a : Option Addr) (c : Nat) (m : Mem) (hL : RepL m a L) (hE : L.map T.er = E) (hg : E.all T.good = true) (hs : szL E ≤ 900) : CX Try.prog 11 #[.slice a L.length c] m [] (IsE (catE E)) := by
 have hgd := goods_of hE hg
 have hsz : szL L ≤ 900 := by rw [← szL_map, hE]; exact hs
 have hlen := len_szL L
 refine (cx_Seq L a c m hL (by omega) fun x hx => good_clean (hgd x hx) (by have := szL_mem hx; omega)).mono ?_
 rintro v m' css _ ⟨t, h1, h2, ja, jc, hj⟩
 refine ⟨t, h1, h2, ?_, join_caps caps_T1 hj⟩
 rw [seq_spec hgd (by omega) hj, catE_er, hE]
theorem aw_or (L E : List T) (a : Option Addr) (c : Nat) (m : Mem) (hL : RepL m a L) (hE : L.map T.er = E) (hg : E.all T.good = true) (hs : szL E ≤ 900) (hne : L ≠ []) : CX Try.prog 12 #[.slice a L.length c] m [] (IsE (altE E)) := by
 have hgd := goods_of hE hg
 have hsz : szL L ≤ 900 := by rw [← szL_map, hE]; exact hs
 have hlen := len_szL L
 refine (cx_Or L a c m hL (by omega) fun x hx => good_clean (hgd x hx) (by have := szL_mem hx; omega)).mono ?_
 rintro v m' css _ ⟨t, h1, h2, ja, jc, hj⟩
 refine ⟨t, h1, h2, ?_, join_caps caps_T0 hj⟩
 rw [or_spec hgd hne (by omega) hj, altE_er, hE]
def capE (E : T) : T := nodeT 6 0 0 none 0 [E]
theorem aw_cap (t E : T) (m : Mem) (hr : Rep m t) (hE : t.er = E) (hg : E.good = true) (hs : E.nodes.length ≤ 900) : CX Try.prog 18 #[t.v] m [] (IsE (capE E)) := by
 refine (cx_Capture t m hr).mono ?_
 rintro v m' css _ ⟨t', h1, h2, ja, jc, hj⟩
 refine ⟨t', h1, h2, ?_, hj.2⟩
 have hgt : t.good = true := by rw [← good_er, hE]; exact hg
 have hst : t.nodes.length ≤ 900 := by rw [← sz_er, hE]; exact hs
 have hc : (nodeT 6 0 0 ja jc [t]).clean = true := good_clean (grp_good hgt) (by rw [sz_eq]; show 1 + szL [t] ≤ 10000; rw [szL_one]; omega)
 rw [chkd_clean hj hc]
 show nodeT 6 0 0 none 0 [t.er] = _
 rw [hE]; rfl
theorem aw_text (ws : List ByteArray) (E : List T) (a : Option Addr) (c : Nat) (m : Mem) (hw : rowRd m a (ws.map Value.string)) (hn : ws.length ≤ 20) (hs : (ws.all fun s => Nat.ble (bytesN s).length 100) = true) (hne : ws ≠ []) (hE : (ws.map fun s => textE (bytesN s)) = E) : CX Try.prog 32 #[.slice a ws.length c] m [] (IsE (altE E)) := by
 subst hE
 exact cx_ltext ws a c m hw hn (fun s hs' => Nat.le_of_ble_eq_true (List.all_eq_true.1 hs s hs')) hne
theorem row_add {m : Mem} {b : Nat} {cs : List Value} : rowRd (m.add b cs) (some ⟨b, 0, none⟩) cs := .inr ⟨b, 0, rfl, fun j v hj => by rw [Nat.zero_add, Mem.add_same]; exact hj⟩
theorem is_k {E : T} {m : Mem} {K : TRK} (k : ∀ (t : T) (m' : Mem), m.le m' → Rep m' t → t.er = E → t.caps → K t.k t.s0 t.s1 t.s2 t.s3 t.mn t.mx t.a t.subs.length t.c m') :
  ∀ (n0 n1 n2 n3 n4 n5 n6 : Int) (a : Option Addr) (n c : Nat) (m' : Mem), m.le m' → IsE E (.agg #[.int .u8 n0, .int .u64 n1, .int .u64 n2, .int .u64 n3, .int .u64 n4, .int .i64 n5, .int .i64 n6, .slice a n c]) m' [] → K n0 n1 n2 n3 n4 n5 n6 a n c m' :=
 tree_k fun t m' hm hr ⟨h1, h2⟩ => k t m' hm hr h1 h2
theorem is_fits {E : T} : ∀ (v : Value) (m' : Mem) (css : List (List Value)), IsE E v m' css → Shape.fits (.agg [.int .u8, .int .u64, .int .u64, .int .u64, .int .u64, .int .i64, .int .i64, .slice]) v = true := tree_fits
end Go.Proofs.Ytmggihkjgbnhbaa

