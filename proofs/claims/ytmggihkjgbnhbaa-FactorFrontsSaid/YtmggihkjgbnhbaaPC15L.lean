/- Part of the proof: conditions and contracts of functions of this program. No condition of its own. -/
import Derived.Test.YtmggihkjgbnhbaaPC15K
import Derived.Test.YtmggihkjgbnhbaaPVLD
set_option linter.unusedVariables false
set_option linter.unusedSimpArgs false
set_option linter.unusedSectionVars false
namespace Go.Proofs.Ytmggihkjgbnhbaa
open Go Go.Eng Go.Rx Go.Proofs Go.RowKit
set_option maxRecDepth 100000
def aE1 : T := altE [textE [97, 98], textE [97, 99]]
def aE6 : T := altE [letterT 98, letterT 99]
def aE8 : T := catE [letterT 97, aE6]
def aE11 : T := altE [textE [97], textE [97, 98]]
def aE13 : T := altE [textE [97], textE [97, 98]]
def aE16 : T := altE [textE [97, 98, 99], textE [97, 98, 100], textE [97]]
def aE22 : T := altE [letterT 99, letterT 100]
def aE24 : T := catE [letterT 97, letterT 98, aE22]
def aE27 : T := altE [aE24, letterT 97]
def aE30 : T := altE [textE [97, 98], textE [99], textE [97, 100]]
def aE32 : T := altE [textE [97, 98], textE [99], textE [97, 100]]
def aE35 : T := altE [textE [97, 98], textE [97, 98]]
def aE39 : T := catE [letterT 97, letterT 98]
def aE42 : T := capE (letterT 97)
def aE45 : T := catE [aE42, letterT 98]
def aE47 : T := capE (letterT 97)
def aE50 : T := catE [aE47, letterT 99]
def aE52 : T := altE [aE45, aE50]
def aE54 : T := capE (letterT 97)
def aE57 : T := catE [aE54, letterT 98]
def aE59 : T := capE (letterT 97)
def aE62 : T := catE [aE59, letterT 99]
def aE64 : T := altE [aE57, aE62]
def aE66 : T := letterT 120
def aE68 : T := altE [textE [121, 97], textE [121, 98]]
def aE69 : T := letterT 122
def aE71 : T := catE [aE66, aE68, aE69]
def aE72 : T := letterT 120
def aE73 : T := letterT 121
def aE77 : T := altE [letterT 97, letterT 98]
def aE78 : T := letterT 122
def aE80 : T := catE [aE72, aE73, aE77, aE78]
def awF : Fx := fun i _ _ => match i with
 | 1 => IsE aE1
 | 6 => IsE aE6
 | 8 => IsE aE8
 | 11 => IsE aE11
 | 13 => IsE aE13
 | 16 => IsE aE16
 | 22 => IsE aE22
 | 24 => IsE aE24
 | 27 => IsE aE27
 | 30 => IsE aE30
 | 32 => IsE aE32
 | 35 => IsE aE35
 | 39 => IsE aE39
 | 42 => IsE aE42
 | 45 => IsE aE45
 | 47 => IsE aE47
 | 50 => IsE aE50
 | 52 => IsE aE52
 | 54 => IsE aE54
 | 57 => IsE aE57
 | 59 => IsE aE59
 | 62 => IsE aE62
 | 64 => IsE aE64
 | 66 => IsE aE66
 | 68 => IsE aE68
 | 69 => IsE aE69
 | 71 => IsE aE71
 | 72 => IsE aE72
 | 73 => IsE aE73
 | 77 => IsE aE77
 | 78 => IsE aE78
 | 80 => IsE aE80
 | _ => IsE T0
structure Item (n w : T) (c : Nat) : Prop where
 rgt : T.rgt n = true
 cuts : n.cuts.length = c
 same : ((factorE n).1.light && (w.light && (factorE n).1.same w)) = true
 clean : n.clean = true
theorem item1 : Item aE1 aE8 1 := ⟨by decide +kernel, by decide +kernel, by decide +kernel, by decide +kernel⟩
theorem item11 : Item aE11 aE13 1 := ⟨by decide +kernel, by decide +kernel, by decide +kernel, by decide +kernel⟩
theorem item16 : Item aE16 aE27 3 := ⟨by decide +kernel, by decide +kernel, by decide +kernel, by decide +kernel⟩
theorem item30 : Item aE30 aE32 0 := ⟨by decide +kernel, by decide +kernel, by decide +kernel, by decide +kernel⟩
theorem item35 : Item aE35 aE39 1 := ⟨by decide +kernel, by decide +kernel, by decide +kernel, by decide +kernel⟩
theorem item52 : Item aE52 aE64 0 := ⟨by decide +kernel, by decide +kernel, by decide +kernel, by decide +kernel⟩
theorem item71 : Item aE71 aE80 1 := ⟨by decide +kernel, by decide +kernel, by decide +kernel, by decide +kernel⟩
def tupC (x y : T) (c : Nat) : List Value := x.cs ++ (y.cs ++ [.int .i64 (c : Nat)])
set_option maxHeartbeats 6400000 in
theorem cx_awake15 (m : Mem) : CX Try.prog 8 #[] m [] (Ret (.bool true)) := by
 apply cx_law15_awake
 unfold VC_law15_awake
 refine call_any (aw_byte 97 (by omega) m) is_fits (is_k fun ta ma ha ra ea ka => ?_)
 refine call_any (aw_byte 98 (by omega) ma) is_fits (is_k fun tb mb hb rb eb kb => ?_)
 refine call_any (aw_byte 99 (by omega) mb) is_fits (is_k fun tc mc hc rc ec kc => ?_)
 refine call_any (aw_byte 100 (by omega) mc) is_fits (is_k fun td md hd rd ed kd => ?_)
 intro b b1 b2 b3
 refine ⟨awF, ?_⟩
 have g0 : md.le md := Mem.le_refl _
 have ra := ra.mono (Mem.le_trans hb (Mem.le_trans hc hd))
 have rb := rb.mono (Mem.le_trans hc hd)
 have rc := rc.mono (hd)
 have rd := rd.mono (Mem.le_refl _)
 intro b1 f1
 refine ⟨_, rfl, aw_text [⟨#[97, 98]⟩, ⟨#[97, 99]⟩] _ _ _ _ (row_add (m := md) (b := b1) (cs := ([⟨#[97, 98]⟩, ⟨#[97, 99]⟩] : List ByteArray).map Value.string)) (by decide) (by decide +kernel) (by simp) rfl, is_fits, is_k fun t1 m1 h1 r1 e1 k1 => ?_⟩
 have g1 : md.le m1 := (Mem.le_trans (Mem.le_add f1 _) h1)
 intro b6 f6
 intro V6 v6 w6 x6
 refine ⟨_, rfl, aw_or [tb, tc] [letterT 98, letterT 99] _ _ V6 ((repL_add f6 (by intro x hx; simp only [List.mem_cons, List.not_mem_nil, or_false] at hx; rcases hx with rfl | rfl <;> assumption) (by simp)).mono x6) (by show [T.er tb, T.er tc] = _; rw [eb, ec]) (by decide +kernel) (by decide +kernel) (by simp), is_fits, is_k fun t6 m6 h6 r6 e6 k6 => ?_⟩
 have s6 : m1.le m6 := (Mem.le_trans w6 h6)
 have g6 : md.le m6 := Mem.le_trans g1 s6
 intro b8 f8
 have q8_0 : Rep m6 ta := (ra.mono g6)
 have q8_1 : Rep m6 t6 := (r6.mono (Mem.le_refl _))
 refine ⟨_, rfl, aw_seq [ta, t6] [letterT 97, aE6] _ _ _ (repL_add f8 (by intro x hx; simp only [List.mem_cons, List.not_mem_nil, or_false] at hx; rcases hx with rfl | rfl <;> assumption) (by simp)) (by show [T.er ta, T.er t6] = _; rw [ea, e6]) (by decide +kernel) (by decide +kernel), is_fits, is_k fun t8 m8 h8 r8 e8 k8 => ?_⟩
 have s8 : m6.le m8 := (Mem.le_trans (Mem.le_add f8 _) h8)
 have g8 : md.le m8 := Mem.le_trans g6 s8
 intro b11 f11
 intro V11 v11 w11 x11
 refine ⟨_, rfl, aw_text [⟨#[97]⟩, ⟨#[97, 98]⟩] _ _ _ V11 ((row_add (m := md) (b := b11) (cs := ([⟨#[97]⟩, ⟨#[97, 98]⟩] : List ByteArray).map Value.string)).mono x11) (by decide) (by decide +kernel) (by simp) rfl, is_fits, is_k fun t11 m11 h11 r11 e11 k11 => ?_⟩
 have s11 : m8.le m11 := (Mem.le_trans w11 h11)
 have g11 : md.le m11 := Mem.le_trans g8 s11
 intro b13 f13
 intro V13 v13 w13 x13
 refine ⟨_, rfl, aw_text [⟨#[97]⟩, ⟨#[97, 98]⟩] _ _ _ V13 ((row_add (m := md) (b := b13) (cs := ([⟨#[97]⟩, ⟨#[97, 98]⟩] : List ByteArray).map Value.string)).mono x13) (by decide) (by decide +kernel) (by simp) rfl, is_fits, is_k fun t13 m13 h13 r13 e13 k13 => ?_⟩
 have s13 : m11.le m13 := (Mem.le_trans w13 h13)
 have g13 : md.le m13 := Mem.le_trans g11 s13
 intro b16 f16
 intro V16 v16 w16 x16
 refine ⟨_, rfl, aw_text [⟨#[97, 98, 99]⟩, ⟨#[97, 98, 100]⟩, ⟨#[97]⟩] _ _ _ V16 ((row_add (m := md) (b := b16) (cs := ([⟨#[97, 98, 99]⟩, ⟨#[97, 98, 100]⟩, ⟨#[97]⟩] : List ByteArray).map Value.string)).mono x16) (by decide) (by decide +kernel) (by simp) rfl, is_fits, is_k fun t16 m16 h16 r16 e16 k16 => ?_⟩
 have s16 : m13.le m16 := (Mem.le_trans w16 h16)
 have g16 : md.le m16 := Mem.le_trans g13 s16
 intro b22 f22
 intro V22 v22 w22 x22
 refine ⟨_, rfl, aw_or [tc, td] [letterT 99, letterT 100] _ _ V22 ((repL_add f22 (by intro x hx; simp only [List.mem_cons, List.not_mem_nil, or_false] at hx; rcases hx with rfl | rfl <;> assumption) (by simp)).mono x22) (by show [T.er tc, T.er td] = _; rw [ec, ed]) (by decide +kernel) (by decide +kernel) (by simp), is_fits, is_k fun t22 m22 h22 r22 e22 k22 => ?_⟩
 have s22 : m16.le m22 := (Mem.le_trans w22 h22)
 have g22 : md.le m22 := Mem.le_trans g16 s22
 intro b24 f24
 have q24_0 : Rep m22 ta := (ra.mono g22)
 have q24_1 : Rep m22 tb := (rb.mono g22)
 have q24_2 : Rep m22 t22 := (r22.mono (Mem.le_refl _))
 refine ⟨_, rfl, aw_seq [ta, tb, t22] [letterT 97, letterT 98, aE22] _ _ _ (repL_add f24 (by intro x hx; simp only [List.mem_cons, List.not_mem_nil, or_false] at hx; rcases hx with rfl | rfl | rfl <;> assumption) (by simp)) (by show [T.er ta, T.er tb, T.er t22] = _; rw [ea, eb, e22]) (by decide +kernel) (by decide +kernel), is_fits, is_k fun t24 m24 h24 r24 e24 k24 => ?_⟩
 have s24 : m22.le m24 := (Mem.le_trans (Mem.le_add f24 _) h24)
 have g24 : md.le m24 := Mem.le_trans g22 s24
 intro b27 f27
 have q27_0 : Rep m24 t24 := (r24.mono (Mem.le_refl _))
 have q27_1 : Rep m24 ta := (ra.mono g24)
 refine ⟨_, rfl, aw_or [t24, ta] [aE24, letterT 97] _ _ _ (repL_add f27 (by intro x hx; simp only [List.mem_cons, List.not_mem_nil, or_false] at hx; rcases hx with rfl | rfl <;> assumption) (by simp)) (by show [T.er t24, T.er ta] = _; rw [e24, ea]) (by decide +kernel) (by decide +kernel) (by simp), is_fits, is_k fun t27 m27 h27 r27 e27 k27 => ?_⟩
 have s27 : m24.le m27 := (Mem.le_trans (Mem.le_add f27 _) h27)
 have g27 : md.le m27 := Mem.le_trans g24 s27
 intro b30 f30
 intro V30 v30 w30 x30
 refine ⟨_, rfl, aw_text [⟨#[97, 98]⟩, ⟨#[99]⟩, ⟨#[97, 100]⟩] _ _ _ V30 ((row_add (m := md) (b := b30) (cs := ([⟨#[97, 98]⟩, ⟨#[99]⟩, ⟨#[97, 100]⟩] : List ByteArray).map Value.string)).mono x30) (by decide) (by decide +kernel) (by simp) rfl, is_fits, is_k fun t30 m30 h30 r30 e30 k30 => ?_⟩
 have s30 : m27.le m30 := (Mem.le_trans w30 h30)
 have g30 : md.le m30 := Mem.le_trans g27 s30
 intro b32 f32
 intro V32 v32 w32 x32
 refine ⟨_, rfl, aw_text [⟨#[97, 98]⟩, ⟨#[99]⟩, ⟨#[97, 100]⟩] _ _ _ V32 ((row_add (m := md) (b := b32) (cs := ([⟨#[97, 98]⟩, ⟨#[99]⟩, ⟨#[97, 100]⟩] : List ByteArray).map Value.string)).mono x32) (by decide) (by decide +kernel) (by simp) rfl, is_fits, is_k fun t32 m32 h32 r32 e32 k32 => ?_⟩
 have s32 : m30.le m32 := (Mem.le_trans w32 h32)
 have g32 : md.le m32 := Mem.le_trans g30 s32
 intro b35 f35
 intro V35 v35 w35 x35
 refine ⟨_, rfl, aw_text [⟨#[97, 98]⟩, ⟨#[97, 98]⟩] _ _ _ V35 ((row_add (m := md) (b := b35) (cs := ([⟨#[97, 98]⟩, ⟨#[97, 98]⟩] : List ByteArray).map Value.string)).mono x35) (by decide) (by decide +kernel) (by simp) rfl, is_fits, is_k fun t35 m35 h35 r35 e35 k35 => ?_⟩
 have s35 : m32.le m35 := (Mem.le_trans w35 h35)
 have g35 : md.le m35 := Mem.le_trans g32 s35
 intro b39 f39
 intro V39 v39 w39 x39
 refine ⟨_, rfl, aw_seq [ta, tb] [letterT 97, letterT 98] _ _ V39 ((repL_add f39 (by intro x hx; simp only [List.mem_cons, List.not_mem_nil, or_false] at hx; rcases hx with rfl | rfl <;> assumption) (by simp)).mono x39) (by show [T.er ta, T.er tb] = _; rw [ea, eb]) (by decide +kernel) (by decide +kernel), is_fits, is_k fun t39 m39 h39 r39 e39 k39 => ?_⟩
 have s39 : m35.le m39 := (Mem.le_trans w39 h39)
 have g39 : md.le m39 := Mem.le_trans g35 s39
 refine ⟨_, rfl, aw_cap ta (letterT 97) _ (ra.mono g39) ea (by decide +kernel) (by decide +kernel), is_fits, is_k fun t42 m42 h42 r42 e42 k42 => ?_⟩
 have s42 : m39.le m42 := h42
 have g42 : md.le m42 := Mem.le_trans g39 s42
 intro b45 f45
 have q45_0 : Rep m42 t42 := (r42.mono (Mem.le_refl _))
 have q45_1 : Rep m42 tb := (rb.mono g42)
 refine ⟨_, rfl, aw_seq [t42, tb] [aE42, letterT 98] _ _ _ (repL_add f45 (by intro x hx; simp only [List.mem_cons, List.not_mem_nil, or_false] at hx; rcases hx with rfl | rfl <;> assumption) (by simp)) (by show [T.er t42, T.er tb] = _; rw [e42, eb]) (by decide +kernel) (by decide +kernel), is_fits, is_k fun t45 m45 h45 r45 e45 k45 => ?_⟩
 have s45 : m42.le m45 := (Mem.le_trans (Mem.le_add f45 _) h45)
 have g45 : md.le m45 := Mem.le_trans g42 s45
 refine ⟨_, rfl, aw_cap ta (letterT 97) _ (ra.mono g45) ea (by decide +kernel) (by decide +kernel), is_fits, is_k fun t47 m47 h47 r47 e47 k47 => ?_⟩
 have s47 : m45.le m47 := h47
 have g47 : md.le m47 := Mem.le_trans g45 s47
 intro b50 f50
 have q50_0 : Rep m47 t47 := (r47.mono (Mem.le_refl _))
 have q50_1 : Rep m47 tc := (rc.mono g47)
 refine ⟨_, rfl, aw_seq [t47, tc] [aE47, letterT 99] _ _ _ (repL_add f50 (by intro x hx; simp only [List.mem_cons, List.not_mem_nil, or_false] at hx; rcases hx with rfl | rfl <;> assumption) (by simp)) (by show [T.er t47, T.er tc] = _; rw [e47, ec]) (by decide +kernel) (by decide +kernel), is_fits, is_k fun t50 m50 h50 r50 e50 k50 => ?_⟩
 have s50 : m47.le m50 := (Mem.le_trans (Mem.le_add f50 _) h50)
 have g50 : md.le m50 := Mem.le_trans g47 s50
 intro b52 f52
 have q52_0 : Rep m50 t45 := (r45.mono (Mem.le_trans s47 (s50)))
 have q52_1 : Rep m50 t50 := (r50.mono (Mem.le_refl _))
 refine ⟨_, rfl, aw_or [t45, t50] [aE45, aE50] _ _ _ (repL_add f52 (by intro x hx; simp only [List.mem_cons, List.not_mem_nil, or_false] at hx; rcases hx with rfl | rfl <;> assumption) (by simp)) (by show [T.er t45, T.er t50] = _; rw [e45, e50]) (by decide +kernel) (by decide +kernel) (by simp), is_fits, is_k fun t52 m52 h52 r52 e52 k52 => ?_⟩
 have s52 : m50.le m52 := (Mem.le_trans (Mem.le_add f52 _) h52)
 have g52 : md.le m52 := Mem.le_trans g50 s52
 refine ⟨_, rfl, aw_cap ta (letterT 97) _ (ra.mono g52) ea (by decide +kernel) (by decide +kernel), is_fits, is_k fun t54 m54 h54 r54 e54 k54 => ?_⟩
 have s54 : m52.le m54 := h54
 have g54 : md.le m54 := Mem.le_trans g52 s54
 intro b57 f57
 have q57_0 : Rep m54 t54 := (r54.mono (Mem.le_refl _))
 have q57_1 : Rep m54 tb := (rb.mono g54)
 refine ⟨_, rfl, aw_seq [t54, tb] [aE54, letterT 98] _ _ _ (repL_add f57 (by intro x hx; simp only [List.mem_cons, List.not_mem_nil, or_false] at hx; rcases hx with rfl | rfl <;> assumption) (by simp)) (by show [T.er t54, T.er tb] = _; rw [e54, eb]) (by decide +kernel) (by decide +kernel), is_fits, is_k fun t57 m57 h57 r57 e57 k57 => ?_⟩
 have s57 : m54.le m57 := (Mem.le_trans (Mem.le_add f57 _) h57)
 have g57 : md.le m57 := Mem.le_trans g54 s57
 refine ⟨_, rfl, aw_cap ta (letterT 97) _ (ra.mono g57) ea (by decide +kernel) (by decide +kernel), is_fits, is_k fun t59 m59 h59 r59 e59 k59 => ?_⟩
 have s59 : m57.le m59 := h59
 have g59 : md.le m59 := Mem.le_trans g57 s59
 intro b62 f62
 have q62_0 : Rep m59 t59 := (r59.mono (Mem.le_refl _))
 have q62_1 : Rep m59 tc := (rc.mono g59)
 refine ⟨_, rfl, aw_seq [t59, tc] [aE59, letterT 99] _ _ _ (repL_add f62 (by intro x hx; simp only [List.mem_cons, List.not_mem_nil, or_false] at hx; rcases hx with rfl | rfl <;> assumption) (by simp)) (by show [T.er t59, T.er tc] = _; rw [e59, ec]) (by decide +kernel) (by decide +kernel), is_fits, is_k fun t62 m62 h62 r62 e62 k62 => ?_⟩
 have s62 : m59.le m62 := (Mem.le_trans (Mem.le_add f62 _) h62)
 have g62 : md.le m62 := Mem.le_trans g59 s62
 intro b64 f64
 have q64_0 : Rep m62 t57 := (r57.mono (Mem.le_trans s59 (s62)))
 have q64_1 : Rep m62 t62 := (r62.mono (Mem.le_refl _))
 refine ⟨_, rfl, aw_or [t57, t62] [aE57, aE62] _ _ _ (repL_add f64 (by intro x hx; simp only [List.mem_cons, List.not_mem_nil, or_false] at hx; rcases hx with rfl | rfl <;> assumption) (by simp)) (by show [T.er t57, T.er t62] = _; rw [e57, e62]) (by decide +kernel) (by decide +kernel) (by simp), is_fits, is_k fun t64 m64 h64 r64 e64 k64 => ?_⟩
 have s64 : m62.le m64 := (Mem.le_trans (Mem.le_add f64 _) h64)
 have g64 : md.le m64 := Mem.le_trans g62 s64
 refine ⟨_, rfl, aw_byte 120 (by omega) _, is_fits, is_k fun t66 m66 h66 r66 e66 k66 => ?_⟩
 have s66 : m64.le m66 := h66
 have g66 : md.le m66 := Mem.le_trans g64 s66
 intro b68 f68
 intro V68 v68 w68 x68
 refine ⟨_, rfl, aw_text [⟨#[121, 97]⟩, ⟨#[121, 98]⟩] _ _ _ V68 ((row_add (m := md) (b := b68) (cs := ([⟨#[121, 97]⟩, ⟨#[121, 98]⟩] : List ByteArray).map Value.string)).mono x68) (by decide) (by decide +kernel) (by simp) rfl, is_fits, is_k fun t68 m68 h68 r68 e68 k68 => ?_⟩
 have s68 : m66.le m68 := (Mem.le_trans w68 h68)
 have g68 : md.le m68 := Mem.le_trans g66 s68
 refine ⟨_, rfl, aw_byte 122 (by omega) _, is_fits, is_k fun t69 m69 h69 r69 e69 k69 => ?_⟩
 have s69 : m68.le m69 := h69
 have g69 : md.le m69 := Mem.le_trans g68 s69
 intro b71 f71
 have q71_0 : Rep m69 t66 := (r66.mono (Mem.le_trans s68 (s69)))
 have q71_1 : Rep m69 t68 := (r68.mono (s69))
 have q71_2 : Rep m69 t69 := (r69.mono (Mem.le_refl _))
 refine ⟨_, rfl, aw_seq [t66, t68, t69] [aE66, aE68, aE69] _ _ _ (repL_add f71 (by intro x hx; simp only [List.mem_cons, List.not_mem_nil, or_false] at hx; rcases hx with rfl | rfl | rfl <;> assumption) (by simp)) (by show [T.er t66, T.er t68, T.er t69] = _; rw [e66, e68, e69]) (by decide +kernel) (by decide +kernel), is_fits, is_k fun t71 m71 h71 r71 e71 k71 => ?_⟩
 have s71 : m69.le m71 := (Mem.le_trans (Mem.le_add f71 _) h71)
 have g71 : md.le m71 := Mem.le_trans g69 s71
 refine ⟨_, rfl, aw_byte 120 (by omega) _, is_fits, is_k fun t72 m72 h72 r72 e72 k72 => ?_⟩
 have s72 : m71.le m72 := h72
 have g72 : md.le m72 := Mem.le_trans g71 s72
 refine ⟨_, rfl, aw_byte 121 (by omega) _, is_fits, is_k fun t73 m73 h73 r73 e73 k73 => ?_⟩
 have s73 : m72.le m73 := h73
 have g73 : md.le m73 := Mem.le_trans g72 s73
 intro b77 f77
 intro V77 v77 w77 x77
 refine ⟨_, rfl, aw_or [ta, tb] [letterT 97, letterT 98] _ _ V77 ((repL_add f77 (by intro x hx; simp only [List.mem_cons, List.not_mem_nil, or_false] at hx; rcases hx with rfl | rfl <;> assumption) (by simp)).mono x77) (by show [T.er ta, T.er tb] = _; rw [ea, eb]) (by decide +kernel) (by decide +kernel) (by simp), is_fits, is_k fun t77 m77 h77 r77 e77 k77 => ?_⟩
 have s77 : m73.le m77 := (Mem.le_trans w77 h77)
 have g77 : md.le m77 := Mem.le_trans g73 s77
 refine ⟨_, rfl, aw_byte 122 (by omega) _, is_fits, is_k fun t78 m78 h78 r78 e78 k78 => ?_⟩
 have s78 : m77.le m78 := h78
 have g78 : md.le m78 := Mem.le_trans g77 s78
 intro b80 f80
 have q80_0 : Rep m78 t72 := (r72.mono (Mem.le_trans s73 (Mem.le_trans s77 (s78))))
 have q80_1 : Rep m78 t73 := (r73.mono (Mem.le_trans s77 (s78)))
 have q80_2 : Rep m78 t77 := (r77.mono (s78))
 have q80_3 : Rep m78 t78 := (r78.mono (Mem.le_refl _))
 refine ⟨_, rfl, aw_seq [t72, t73, t77, t78] [aE72, aE73, aE77, aE78] _ _ _ (repL_add f80 (by intro x hx; simp only [List.mem_cons, List.not_mem_nil, or_false] at hx; rcases hx with rfl | rfl | rfl | rfl <;> assumption) (by simp)) (by show [T.er t72, T.er t73, T.er t77, T.er t78] = _; rw [e72, e73, e77, e78]) (by decide +kernel) (by decide +kernel), is_fits, is_k fun t80 m80 h80 r80 e80 k80 => ?_⟩
 have s80 : m78.le m80 := (Mem.le_trans (Mem.le_add f80 _) h80)
 have g80 : md.le m80 := Mem.le_trans g78 s80
 intro b90 f90 M
 intro z0 z1 z2 z3 z4 z5 z6 z7 z8 z9 z10 z11 z12 z13 z14 z15 z16 z17 z18 z19 z20 z21 z22 z23 z24 z25 z26 z27 z28 z29 z30 z31 z32 z33 z34 z35 z36 z37 z38 z39 z40 z41 z42 z43 z44 z45 z46 z47 z48 z49 z50 z51 z52 z53 z54 z55 z56
 have hM : m80.le M := by assumption
 have hmM : m.le M := Mem.le_trans ha (Mem.le_trans hb (Mem.le_trans hc (Mem.le_trans hd (Mem.le_trans g80 hM))))
 have u1 : Rep M t1 := r1.mono (Mem.le_trans (Mem.le_trans s6 (Mem.le_trans s8 (Mem.le_trans s11 (Mem.le_trans s13 (Mem.le_trans s16 (Mem.le_trans s22 (Mem.le_trans s24 (Mem.le_trans s27 (Mem.le_trans s30 (Mem.le_trans s32 (Mem.le_trans s35 (Mem.le_trans s39 (Mem.le_trans s42 (Mem.le_trans s45 (Mem.le_trans s47 (Mem.le_trans s50 (Mem.le_trans s52 (Mem.le_trans s54 (Mem.le_trans s57 (Mem.le_trans s59 (Mem.le_trans s62 (Mem.le_trans s64 (Mem.le_trans s66 (Mem.le_trans s68 (Mem.le_trans s69 (Mem.le_trans s71 (Mem.le_trans s72 (Mem.le_trans s73 (Mem.le_trans s77 (Mem.le_trans s78 (s80))))))))))))))))))))))))))))))) hM)
 have u8 : Rep M t8 := r8.mono (Mem.le_trans (Mem.le_trans s11 (Mem.le_trans s13 (Mem.le_trans s16 (Mem.le_trans s22 (Mem.le_trans s24 (Mem.le_trans s27 (Mem.le_trans s30 (Mem.le_trans s32 (Mem.le_trans s35 (Mem.le_trans s39 (Mem.le_trans s42 (Mem.le_trans s45 (Mem.le_trans s47 (Mem.le_trans s50 (Mem.le_trans s52 (Mem.le_trans s54 (Mem.le_trans s57 (Mem.le_trans s59 (Mem.le_trans s62 (Mem.le_trans s64 (Mem.le_trans s66 (Mem.le_trans s68 (Mem.le_trans s69 (Mem.le_trans s71 (Mem.le_trans s72 (Mem.le_trans s73 (Mem.le_trans s77 (Mem.le_trans s78 (s80))))))))))))))))))))))))))))) hM)
 have u11 : Rep M t11 := r11.mono (Mem.le_trans (Mem.le_trans s13 (Mem.le_trans s16 (Mem.le_trans s22 (Mem.le_trans s24 (Mem.le_trans s27 (Mem.le_trans s30 (Mem.le_trans s32 (Mem.le_trans s35 (Mem.le_trans s39 (Mem.le_trans s42 (Mem.le_trans s45 (Mem.le_trans s47 (Mem.le_trans s50 (Mem.le_trans s52 (Mem.le_trans s54 (Mem.le_trans s57 (Mem.le_trans s59 (Mem.le_trans s62 (Mem.le_trans s64 (Mem.le_trans s66 (Mem.le_trans s68 (Mem.le_trans s69 (Mem.le_trans s71 (Mem.le_trans s72 (Mem.le_trans s73 (Mem.le_trans s77 (Mem.le_trans s78 (s80)))))))))))))))))))))))))))) hM)
 have u13 : Rep M t13 := r13.mono (Mem.le_trans (Mem.le_trans s16 (Mem.le_trans s22 (Mem.le_trans s24 (Mem.le_trans s27 (Mem.le_trans s30 (Mem.le_trans s32 (Mem.le_trans s35 (Mem.le_trans s39 (Mem.le_trans s42 (Mem.le_trans s45 (Mem.le_trans s47 (Mem.le_trans s50 (Mem.le_trans s52 (Mem.le_trans s54 (Mem.le_trans s57 (Mem.le_trans s59 (Mem.le_trans s62 (Mem.le_trans s64 (Mem.le_trans s66 (Mem.le_trans s68 (Mem.le_trans s69 (Mem.le_trans s71 (Mem.le_trans s72 (Mem.le_trans s73 (Mem.le_trans s77 (Mem.le_trans s78 (s80))))))))))))))))))))))))))) hM)
 have u16 : Rep M t16 := r16.mono (Mem.le_trans (Mem.le_trans s22 (Mem.le_trans s24 (Mem.le_trans s27 (Mem.le_trans s30 (Mem.le_trans s32 (Mem.le_trans s35 (Mem.le_trans s39 (Mem.le_trans s42 (Mem.le_trans s45 (Mem.le_trans s47 (Mem.le_trans s50 (Mem.le_trans s52 (Mem.le_trans s54 (Mem.le_trans s57 (Mem.le_trans s59 (Mem.le_trans s62 (Mem.le_trans s64 (Mem.le_trans s66 (Mem.le_trans s68 (Mem.le_trans s69 (Mem.le_trans s71 (Mem.le_trans s72 (Mem.le_trans s73 (Mem.le_trans s77 (Mem.le_trans s78 (s80)))))))))))))))))))))))))) hM)
 have u27 : Rep M t27 := r27.mono (Mem.le_trans (Mem.le_trans s30 (Mem.le_trans s32 (Mem.le_trans s35 (Mem.le_trans s39 (Mem.le_trans s42 (Mem.le_trans s45 (Mem.le_trans s47 (Mem.le_trans s50 (Mem.le_trans s52 (Mem.le_trans s54 (Mem.le_trans s57 (Mem.le_trans s59 (Mem.le_trans s62 (Mem.le_trans s64 (Mem.le_trans s66 (Mem.le_trans s68 (Mem.le_trans s69 (Mem.le_trans s71 (Mem.le_trans s72 (Mem.le_trans s73 (Mem.le_trans s77 (Mem.le_trans s78 (s80))))))))))))))))))))))) hM)
 have u30 : Rep M t30 := r30.mono (Mem.le_trans (Mem.le_trans s32 (Mem.le_trans s35 (Mem.le_trans s39 (Mem.le_trans s42 (Mem.le_trans s45 (Mem.le_trans s47 (Mem.le_trans s50 (Mem.le_trans s52 (Mem.le_trans s54 (Mem.le_trans s57 (Mem.le_trans s59 (Mem.le_trans s62 (Mem.le_trans s64 (Mem.le_trans s66 (Mem.le_trans s68 (Mem.le_trans s69 (Mem.le_trans s71 (Mem.le_trans s72 (Mem.le_trans s73 (Mem.le_trans s77 (Mem.le_trans s78 (s80)))))))))))))))))))))) hM)
 have u32 : Rep M t32 := r32.mono (Mem.le_trans (Mem.le_trans s35 (Mem.le_trans s39 (Mem.le_trans s42 (Mem.le_trans s45 (Mem.le_trans s47 (Mem.le_trans s50 (Mem.le_trans s52 (Mem.le_trans s54 (Mem.le_trans s57 (Mem.le_trans s59 (Mem.le_trans s62 (Mem.le_trans s64 (Mem.le_trans s66 (Mem.le_trans s68 (Mem.le_trans s69 (Mem.le_trans s71 (Mem.le_trans s72 (Mem.le_trans s73 (Mem.le_trans s77 (Mem.le_trans s78 (s80))))))))))))))))))))) hM)
 have u35 : Rep M t35 := r35.mono (Mem.le_trans (Mem.le_trans s39 (Mem.le_trans s42 (Mem.le_trans s45 (Mem.le_trans s47 (Mem.le_trans s50 (Mem.le_trans s52 (Mem.le_trans s54 (Mem.le_trans s57 (Mem.le_trans s59 (Mem.le_trans s62 (Mem.le_trans s64 (Mem.le_trans s66 (Mem.le_trans s68 (Mem.le_trans s69 (Mem.le_trans s71 (Mem.le_trans s72 (Mem.le_trans s73 (Mem.le_trans s77 (Mem.le_trans s78 (s80)))))))))))))))))))) hM)
 have u39 : Rep M t39 := r39.mono (Mem.le_trans (Mem.le_trans s42 (Mem.le_trans s45 (Mem.le_trans s47 (Mem.le_trans s50 (Mem.le_trans s52 (Mem.le_trans s54 (Mem.le_trans s57 (Mem.le_trans s59 (Mem.le_trans s62 (Mem.le_trans s64 (Mem.le_trans s66 (Mem.le_trans s68 (Mem.le_trans s69 (Mem.le_trans s71 (Mem.le_trans s72 (Mem.le_trans s73 (Mem.le_trans s77 (Mem.le_trans s78 (s80))))))))))))))))))) hM)
 have u52 : Rep M t52 := r52.mono (Mem.le_trans (Mem.le_trans s54 (Mem.le_trans s57 (Mem.le_trans s59 (Mem.le_trans s62 (Mem.le_trans s64 (Mem.le_trans s66 (Mem.le_trans s68 (Mem.le_trans s69 (Mem.le_trans s71 (Mem.le_trans s72 (Mem.le_trans s73 (Mem.le_trans s77 (Mem.le_trans s78 (s80)))))))))))))) hM)
 have u64 : Rep M t64 := r64.mono (Mem.le_trans (Mem.le_trans s66 (Mem.le_trans s68 (Mem.le_trans s69 (Mem.le_trans s71 (Mem.le_trans s72 (Mem.le_trans s73 (Mem.le_trans s77 (Mem.le_trans s78 (s80))))))))) hM)
 have u71 : Rep M t71 := r71.mono (Mem.le_trans (Mem.le_trans s72 (Mem.le_trans s73 (Mem.le_trans s77 (Mem.le_trans s78 (s80))))) hM)
 have u80 : Rep M t80 := r80.mono (Mem.le_trans (Mem.le_refl _) hM)
 refine ⟨fun xs css tvs m' q => ∃ i : Nat, i ≤ 7 ∧ xs = [.int .i64 i] ∧ q = 7 - i, ⟨7, 0, by omega, rfl, rfl⟩, ?_⟩
 rintro z0 m91 q h91 ⟨i, hi, hxs, hq⟩
 obtain rfl : z0 = i := by simpa using hxs
 refine br_intro (fun hlt => ?_) (fun hge => ?_)
 ·have hlt' : i < 7 := by have := of_decide_eq_true hlt; omega
  have hi7 : i = 0 ∨ i = 1 ∨ i = 2 ∨ i = 3 ∨ i = 4 ∨ i = 5 ∨ i = 6 := by omega
  obtain ⟨x, y, c, X, Y, hrow, hX, hY, hkx, hky, hrx, hry, hit, hcle⟩ : ∃ (x y : T) (c : Nat) (X Y : T), List.take 17 (List.drop ((i : Int).toNat * 17) ([.int .u8 t1.k, .int .u64 t1.s0, .int .u64 t1.s1, .int .u64 t1.s2, .int .u64 t1.s3, .int .i64 t1.mn, .int .i64 t1.mx, .slice t1.a t1.subs.length t1.c, .int .u8 t8.k, .int .u64 t8.s0, .int .u64 t8.s1, .int .u64 t8.s2, .int .u64 t8.s3, .int .i64 t8.mn, .int .i64 t8.mx, .slice t8.a t8.subs.length t8.c, .int .i64 1, .int .u8 t11.k, .int .u64 t11.s0, .int .u64 t11.s1, .int .u64 t11.s2, .int .u64 t11.s3, .int .i64 t11.mn, .int .i64 t11.mx, .slice t11.a t11.subs.length t11.c, .int .u8 t13.k, .int .u64 t13.s0, .int .u64 t13.s1, .int .u64 t13.s2, .int .u64 t13.s3, .int .i64 t13.mn, .int .i64 t13.mx, .slice t13.a t13.subs.length t13.c, .int .i64 1, .int .u8 t16.k, .int .u64 t16.s0, .int .u64 t16.s1, .int .u64 t16.s2, .int .u64 t16.s3, .int .i64 t16.mn, .int .i64 t16.mx, .slice t16.a t16.subs.length t16.c, .int .u8 t27.k, .int .u64 t27.s0, .int .u64 t27.s1, .int .u64 t27.s2, .int .u64 t27.s3, .int .i64 t27.mn, .int .i64 t27.mx, .slice t27.a t27.subs.length t27.c, .int .i64 3, .int .u8 t30.k, .int .u64 t30.s0, .int .u64 t30.s1, .int .u64 t30.s2, .int .u64 t30.s3, .int .i64 t30.mn, .int .i64 t30.mx, .slice t30.a t30.subs.length t30.c, .int .u8 t32.k, .int .u64 t32.s0, .int .u64 t32.s1, .int .u64 t32.s2, .int .u64 t32.s3, .int .i64 t32.mn, .int .i64 t32.mx, .slice t32.a t32.subs.length t32.c, .int .i64 0, .int .u8 t35.k, .int .u64 t35.s0, .int .u64 t35.s1, .int .u64 t35.s2, .int .u64 t35.s3, .int .i64 t35.mn, .int .i64 t35.mx, .slice t35.a t35.subs.length t35.c, .int .u8 t39.k, .int .u64 t39.s0, .int .u64 t39.s1, .int .u64 t39.s2, .int .u64 t39.s3, .int .i64 t39.mn, .int .i64 t39.mx, .slice t39.a t39.subs.length t39.c, .int .i64 1, .int .u8 t52.k, .int .u64 t52.s0, .int .u64 t52.s1, .int .u64 t52.s2, .int .u64 t52.s3, .int .i64 t52.mn, .int .i64 t52.mx, .slice t52.a t52.subs.length t52.c, .int .u8 t64.k, .int .u64 t64.s0, .int .u64 t64.s1, .int .u64 t64.s2, .int .u64 t64.s3, .int .i64 t64.mn, .int .i64 t64.mx, .slice t64.a t64.subs.length t64.c, .int .i64 0, .int .u8 t71.k, .int .u64 t71.s0, .int .u64 t71.s1, .int .u64 t71.s2, .int .u64 t71.s3, .int .i64 t71.mn, .int .i64 t71.mx, .slice t71.a t71.subs.length t71.c, .int .u8 t80.k, .int .u64 t80.s0, .int .u64 t80.s1, .int .u64 t80.s2, .int .u64 t80.s3, .int .i64 t80.mn, .int .i64 t80.mx, .slice t80.a t80.subs.length t80.c, .int .i64 1] : List Value)) = tupC x y c ∧ x.er = X ∧ y.er = Y ∧ x.caps ∧ y.caps ∧ Rep M x ∧ Rep M y ∧ Item X Y c ∧ c ≤ 20 := by
   rcases hi7 with rfl | rfl | rfl | rfl | rfl | rfl | rfl
   ·exact ⟨t1, t8, 1, _, _, rfl, e1, e8, k1, k8, u1, u8, item1, by omega⟩
   ·exact ⟨t11, t13, 1, _, _, rfl, e11, e13, k11, k13, u11, u13, item11, by omega⟩
   ·exact ⟨t16, t27, 3, _, _, rfl, e16, e27, k16, k27, u16, u27, item16, by omega⟩
   ·exact ⟨t30, t32, 0, _, _, rfl, e30, e32, k30, k32, u30, u32, item30, by omega⟩
   ·exact ⟨t35, t39, 1, _, _, rfl, e35, e39, k35, k39, u35, u39, item35, by omega⟩
   ·exact ⟨t52, t64, 0, _, _, rfl, e52, e64, k52, k64, u52, u64, item52, by omega⟩
   ·exact ⟨t71, t80, 1, _, _, rfl, e71, e80, k71, k80, u71, u80, item71, by omega⟩
  have hc20 : c ≤ 1000000 := by omega
  refine ⟨⟨by omega, by omega⟩, chk_intro (by rw [Nat.ble_eq]; show i * 17 ≤ 102; omega) ?_⟩
  intro b92
  unfold X4_law15_awake
  have hx91 := hrx.mono h91
  have hcf : T.rgt x = true := by rw [← rgt_er, hX]; exact hit.rgt
  have hgx := rgt_iff.1 hcf
  have hxl : x.cuts.length = c := by rw [← cuts_er, hX]; exact hit.cuts
  have hcl : x.clean = true := by rw [← clean_er, hX]; exact hit.clean
  rw [hrow]
  have hF : CX Try.prog 13 #[x.v] m91 [] (TreeE 0 (fun t' => t'.er = (factorE x).1)) := (cx_Factor x m91 hx91 hkx).mono fun v m' css _ h => by rw [if_pos hcf] at h; exact h
  refine chk_intro rfl (chk_intro rfl ⟨_, trivial, hF, (fun v _ _ ⟨t, e, _⟩ => by rw [e]; rfl), ?_⟩)
  rintro n1 n2 n3 n4 n5 n6 n7 fa nf fc n8 m92 h92 ⟨f, hv, hfr, hfe, hfc⟩
  simp only [T.v, Value.tuple.injEq, Value.agg.injEq, Array.mk.injEq, List.cons.injEq, Value.int.injEq, Value.slice.injEq, true_and, and_true] at hv
  obtain ⟨⟨rfl, rfl, rfl, rfl, rfl, rfl, rfl, rfl, rfl, rfl⟩, rfl⟩ := hv
  intro b93
  have hx92 := hx91.mono h92
  have hC : CX Try.prog 27 #[x.v] m92 [] (CutsE 0 x.cuts) := (cx_Cuts x m92 hx92 hkx (by rw [hxl]; exact hc20)).mono fun v m' css _ h => by unfold OrE at h; rw [if_neg (by rw [hcf]; simp)] at h; exact h
  refine chk_intro rfl ⟨_, trivial, hC, cutsE_fits, ?_⟩
  rintro ca nc cc n9 m93 h93 ⟨ca', cc', hv, -⟩
  simp only [Value.tuple.injEq, Array.mk.injEq, List.cons.injEq, Value.int.injEq, Value.slice.injEq, true_and, and_true] at hv
  obtain ⟨⟨rfl, rfl, rfl⟩, rfl⟩ := hv
  have hsm : (f.light && (y.light && f.same y)) = true := by
   rw [← light_er f, ← light_er y, ← same_er f y, hfe, hY, ← factorE_er', hX]
   exact hit.same
  refine ⟨false, br_f rfl (chk_intro rfl (call_bool (cx_Same f y m93 (hfr.mono h93) (hry.mono (Mem.le_trans h91 (Mem.le_trans h92 h93)))) fun m94 h94 => ?_)), br_f rfl ⟨by trivial, 7 - (i + 1), by omega, i + 1, by omega, ?_, rfl⟩⟩
  ·rw [hsm]
   refine br_f rfl (look_intro (v := .int .i64 (c : Nat)) rfl (chk_intro rfl (br_f ?_ (chk_intro rfl (call_bool (cx_Clean x m94 (hx92.mono (Mem.le_trans h93 h94))) fun m95 h95 => ⟨by trivial, ?_⟩)))))
   ·rw [hxl]; simp [RowKit.intOf]
   ·rw [hcl]; rfl
  ·rw [wrap64 (by omega) (by omega)]; rfl
 ·have hm91 := Mem.le_trans hmM h91
  have gain : ∀ (t : T) (E : T) (k : C4) (M : Mem) (g : Int), Rep M t → t.caps → t.er = E → T.rgt E = true → k ∈ E.cuts → gainE E k = g → CX Try.prog 25 #[t.v, .agg #[.int .i64 (k.a : Nat), .int .i64 (k.f : Nat), .int .i64 (k.t : Nat), .int .i64 (k.n : Nat)]] M [] (Ret (.tuple #[.int .i64 g, .int .i64 0])) := by
   intro t E k M g hr hc he hg hk hgk
   refine (cx_Gain t _ _ _ _ M hr hc).mono ?_
   rintro v m' css _ ⟨g', e, hv, hp⟩
   have hrt : T.rgt t = true := by rw [← rgt_er, he]; exact hg
   have hkt : k ∈ t.cuts := by rw [← cuts_er, he]; exact hk
   rcases hp with ⟨h, _⟩ | ⟨_, k', hk', h1, h2, h3, h4, rfl, rfl⟩ | ⟨_, h, _⟩
   ·rw [hrt] at h; cases h
   ·obtain ⟨ka, kf, kt, kn⟩ := k
    obtain ⟨ka', kf', kt', kn'⟩ := k'
    simp only [Int.natCast_inj] at h1 h2 h3 h4
    subst h1 h2 h3 h4
    rw [hv, ← hgk, ← he, gainE_er hk']
   ·exact absurd ⟨rfl, rfl, rfl, rfl⟩ (h k hkt)
  have gfit : ∀ {x : Int} (v : Value) (m' : Mem) (css : List (List Value)), Ret (.tuple #[.int .i64 x, .int .i64 0]) v m' css → Shape.fits (.tup [.int .i64, .int .i64]) v = true := fun v _ _ e => by rw [e]; rfl
  intro b101 f101
  refine call_any (aw_text [⟨#[97, 98]⟩, ⟨#[97, 99]⟩] _ _ _ _ (row_add (m := m91) (b := b101) (cs := ([⟨#[97, 98]⟩, ⟨#[97, 99]⟩] : List ByteArray).map Value.string)) (by decide) (by decide +kernel) (by simp) rfl) is_fits (is_k fun t1 m101 h101 r1 e1 k1 => ?_)
  refine call_any (gain t1 aE1 ⟨0, 0, 2, 1⟩ m101 2 r1 k1 e1 (by decide +kernel) (by decide +kernel) (by decide +kernel)) gfit ?_
  rintro g1 w1 m102 h102 hg1
  obtain ⟨rfl, rfl⟩ : g1 = 2 ∧ w1 = 0 := by simpa [Ret] using hg1
  intro b103 f103
  refine call_any (aw_text [⟨#[97]⟩, ⟨#[97, 98]⟩] _ _ _ _ (row_add (m := m102) (b := b103) (cs := ([⟨#[97]⟩, ⟨#[97, 98]⟩] : List ByteArray).map Value.string)) (by decide) (by decide +kernel) (by simp) rfl) is_fits (is_k fun t2 m103 h103 r2 e2 k2 => ?_)
  refine call_any (gain t2 aE11 ⟨0, 0, 2, 1⟩ m103 0 r2 k2 e2 (by decide +kernel) (by decide +kernel) (by decide +kernel)) gfit ?_
  rintro g2 w2 m104 h104 hg2
  obtain ⟨rfl, rfl⟩ : g2 = 0 ∧ w2 = 0 := by simpa [Ret] using hg2
  intro b105 f105
  refine call_any (aw_text [⟨#[97, 98, 99]⟩, ⟨#[97, 98, 100]⟩, ⟨#[97]⟩] _ _ _ _ (row_add (m := m104) (b := b105) (cs := ([⟨#[97, 98, 99]⟩, ⟨#[97, 98, 100]⟩, ⟨#[97]⟩] : List ByteArray).map Value.string)) (by decide) (by decide +kernel) (by simp) rfl) is_fits (is_k fun t3 m105 h105 r3 e3 k3 => ?_)
  refine call_any (gain t3 aE16 ⟨0, 0, 3, 1⟩ m105 0 r3 k3 e3 (by decide +kernel) (by decide +kernel) (by decide +kernel)) gfit ?_
  rintro g3 w3 m106 h106 hg3
  obtain ⟨rfl, rfl⟩ : g3 = 0 ∧ w3 = 0 := by simpa [Ret] using hg3
  intro b107 f107
  refine call_any (aw_text [⟨#[97, 98, 99]⟩, ⟨#[97, 98, 100]⟩, ⟨#[97]⟩] _ _ _ _ (row_add (m := m106) (b := b107) (cs := ([⟨#[97, 98, 99]⟩, ⟨#[97, 98, 100]⟩, ⟨#[97]⟩] : List ByteArray).map Value.string)) (by decide) (by decide +kernel) (by simp) rfl) is_fits (is_k fun t4 m107 h107 r4 e4 k4 => ?_)
  have hr4 : T.rgt t4 = true := by rw [← rgt_er, e4]; decide +kernel
  have hb4 : bestE t4 = bestE aE16 := by rw [← bestE_er t4, e4]; rfl
  have hbb : (bestE aE16).c = ⟨0, 0, 2, 2⟩ ∧ (bestE aE16).g = 2 := by decide +kernel
  have hB : CX Try.prog 24 #[t4.v] m107 [] (Ret (.tuple #[.agg #[.int .i64 0, .int .i64 0, .int .i64 2, .int .i64 2], .int .i64 2, .bool true, .int .i64 0])) := (cx_Best t4 m107 r4 k4).mono fun v m' css _ h => by
   rw [if_neg (by rw [hr4]; simp), hb4, hbb.1, hbb.2, if_neg (by omega)] at h
   exact h
  refine call_any hB (fun v _ _ e => by rw [e]; rfl) ?_
  rintro x1 x2 x3 x4 g4 is w4 m108 h108 hg4
  obtain ⟨⟨rfl, rfl, rfl, rfl⟩, rfl, rfl, rfl⟩ : (x1 = 0 ∧ x2 = 0 ∧ x3 = 2 ∧ x4 = 2) ∧ g4 = 2 ∧ is = true ∧ w4 = 0 := by simpa [Ret] using hg4
  intro b109
  refine ⟨true, br_t rfl (br_t rfl (br_t rfl (br_t rfl ⟨_, eq_cut _ _ _ _ _ _ _ _, br_t rfl (br_t rfl ⟨by trivial, rfl⟩)⟩))), ret_pure ?_ rfl⟩
  exact Mem.le_trans hm91 (Mem.le_trans (Mem.le_add f101 _) (Mem.le_trans h101 (Mem.le_trans h102 (Mem.le_trans (Mem.le_add f103 _) (Mem.le_trans h103 (Mem.le_trans h104 (Mem.le_trans (Mem.le_add f105 _) (Mem.le_trans h105 (Mem.le_trans h106 (Mem.le_trans (Mem.le_add f107 _) (Mem.le_trans h107 h108)))))))))))
end Go.Proofs.Ytmggihkjgbnhbaa

