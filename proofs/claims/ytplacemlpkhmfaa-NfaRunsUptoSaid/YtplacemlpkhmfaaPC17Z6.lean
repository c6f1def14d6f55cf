/- Part of the proof: conditions and contracts of functions of this program. No condition of its own. -/
import Derived.Test.YtplacemlpkhmfaaPC17Q
import Derived.Test.YtplacemlpkhmfaaPC17RC
import Derived.Deep.Slices
import Derived.Laws.IdiomArrays
set_option linter.unusedVariables false
set_option linter.unusedSimpArgs false
namespace Go.Proofs.Ytplacemlpkhmfaa
open Go Go.Eng Go.Rx Go.Proofs Go.RowKit
set_option maxRecDepth 100000
theorem ZiL(m:Mem):CX Try.prog 12 #[] m [] (Ret (.bool true)):=by
 apply Zjh
 unfold ZfM
 refine Zaq (ZiI 97 (by omega) m) ZdE (ZiJ fun m1 aZ=>?_)
 refine Zaq (ZiI 98 (by omega) m1) ZdE (ZiJ fun m2 bO=>?_)
 intro b pV b1
 refine⟨fun _ _ _=>Ret (Zbo 99).v,_,rfl,ZiI 99 (by omega) _,ZdE,ZiJ fun m3 bR b2 na b3 xk b4 M fK eQ jo jU=>?_⟩
 have p9:∀M':Mem,M.le M'→Rep M' (ZwF (some ⟨b,0,none⟩) 2):=fun M' h=>
  Zdx (ZdF (l:=[Zbo 97,Zbo 98]) (Mem.le_trans fK h) (by intro x hx;simp at hx;rcases hx with rfl|rfl <;> exact Zf2 _ _) (by simp)) (by omega) (by omega) (by omega)
 have halt:Rep M (ZfC 4 0 0 (some ⟨b2,0,none⟩) 2 [ZwF (some ⟨b,0,none⟩) 2,Zbo 99]):=
  Zdx (ZdF (l:=[ZwF (some ⟨b,0,none⟩) 2,Zbo 99]) jo (by intro x hx;simp at hx;rcases hx with rfl|rfl;exact p9 M (Mem.le_refl _);exact Zf2 _ _) (by simp)) (by omega) (by omega) (by omega)
 have qa:Rep M (Zwh (some ⟨b3,0,none⟩) (some ⟨b2,0,none⟩) (some ⟨b,0,none⟩) 1 2 2):=
  Zdx (ZdF (l:=[ZfC 4 0 0 (some ⟨b2,0,none⟩) 2 [ZwF (some ⟨b,0,none⟩) 2,Zbo 99]]) jU (by intro x hx;simp at hx;subst hx;exact halt) (by simp)) (by omega) (by omega) (by omega)
 have vf:=Zvz _ M qa
 rw[(Ztr _ _ _ _ _ _).1,(Ztr _ _ _ _ _ _).2]at vf
 refine Zaq vf Zfw (ZuA fun sa fa xa ya sc fc xc yc m4 cT hA b6=>?_)
 refine Zaq (Zl3 97 (by omega) m4) Zlc (ZvK fun m5 cV=>?_)
 refine Zaq (Zl3 98 (by omega) m5) Zlc (ZvK fun m6 eJ=>?_)
 refine Zaq (Zl3 99 (by omega) m6) Zlc (ZvK fun m7 iH=>?_)
 intro b7 xm b8 xn b9 xo b10 tB b11 tC b12 tD b13 tE b14
 have g7:=Mem.le_add xm (ZbC [q1 97,q1 98,q1 99])
 have g8:=Mem.le_add xn (Zap [0,2])
 have g9:=Mem.le_add xo (Zap [1,2])
 have g10:=Mem.le_add tB (Zap [1])
 have g11:=Mem.le_add tC (Zap [0,2])
 have g12:=Mem.le_add tD (Zap [0,2])
 have g13:=Mem.le_add tE [Value.slice (some ⟨b10,0,none⟩) 1 1,Value.slice (some ⟨b11,0,none⟩) 2 2,Value.slice (some ⟨b12,0,none⟩) 2 2]
 have hk:m7.le _:=Mem.le_trans g7 (Mem.le_trans g8 (Mem.le_trans g9 (Mem.le_trans g10 (Mem.le_trans g11 (Mem.le_trans g12 g13)))))
 have qb:NfR false nfS (.agg #[.slice (some ⟨b7,0,none⟩) 3 3,.slice (some ⟨b13,0,none⟩) 3 3,.slice (some ⟨b8,0,none⟩) 2 2,.slice (some ⟨b9,0,none⟩) 2 2,.bool true]) _:=
  ⟨_,_,_,_,rfl,⟨_,3,rfl,Zaz (cs:=ZbC [q1 97,q1 98,q1 99]) (Mem.le_trans g8 (Mem.le_trans g9 (Mem.le_trans g10 (Mem.le_trans g11 (Mem.le_trans g12 g13))))),by decide,fun h=>by cases h⟩,
   Zna (fol:=[[1],[0,2],[0,2]]) (Zaz (Mem.le_refl _)) rfl (by decide) (fun i v l hv hl=>by
    match i with
    | 0=>simp at hv hl;subst hv hl;exact ZcW (l:=[1]) (Zaz (cs:=Zap [1]) (Mem.le_trans g11 (Mem.le_trans g12 g13))) (by decide)
    | 1=>simp at hv hl;subst hv hl;exact ZcW (l:=[0,2]) (Zaz (cs:=Zap [0,2]) (Mem.le_trans g12 g13)) (by decide)
    | 2=>simp at hv hl;subst hv hl;exact ZcW (l:=[0,2]) (Zaz (cs:=Zap [0,2]) g13) (by decide)
    | i+3=>simp at hv),
   ZcW (l:=[0,2]) (Zaz (cs:=Zap [0,2]) (Mem.le_trans g9 (Mem.le_trans g10 (Mem.le_trans g11 (Mem.le_trans g12 g13))))) (by decide),
   ZcW (l:=[1,2]) (Zaz (cs:=Zap [1,2]) (Mem.le_trans g10 (Mem.le_trans g11 (Mem.le_trans g12 g13)))) (by decide)⟩
 refine Zaq (ZiI 97 (by omega) _) ZdE (ZiJ fun m8 je b15 tF=>?_)
 have g15:=Mem.le_add tF (Rx.ZeA [Zbo 97])
 have tG:Rep (m8.add b15 (Rx.ZeA [Zbo 97])) (ZoZ 2 3 (some ⟨b15,0,none⟩) 1):=Zdx (ZdF (l:=[Zbo 97]) (Mem.le_refl _) (by intro x hx;simp at hx;subst hx;exact Zf2 _ _) (by simp)) (by omega) (by omega) (by omega)
 have qc:=Zvz _ _ tG
 rw[(ZvL _ _).1,(ZvL _ _).2]at qc
 refine Zaq qc Zfw (ZuA fun sa2 fa2 xa2 ya2 sc2 fc2 xc2 yc2 m9 jV hF b17=>?_)
 refine Zaq (ZiI 97 (by omega) _) ZdE (ZiJ fun m10 gm b18 tH=>?_)
 have g18:=Mem.le_add tH (Rx.ZeA [Zbo 97])
 have qd:Rep (m10.add b18 (Rx.ZeA [Zbo 97])) (ZoZ 2 (-1) (some ⟨b18,0,none⟩) 1):=Zdx (ZdF (l:=[Zbo 97]) (Mem.le_refl _) (by intro x hx;simp at hx;subst hx;exact Zf2 _ _) (by simp)) (by omega) (by omega) (by omega)
 have qg:=Zvz _ _ qd
 rw[(Zts _ _).1,(Zts _ _).2]at qg
 refine Zaq qg Zfw (ZuA fun sa3 fa3 xa3 ya3 sc3 fc3 xc3 yc3 m11 iz xp b20=>?_)
 refine Zaq (Zl3 97 (by omega) m11) Zlc (ZvK fun m12 jt b21=>Zbe rfl ?_)
 have tI:m7.le m8:=Mem.le_trans hk je
 have mo:m8.le m12:=Mem.le_trans g15 (Mem.le_trans jV (Mem.le_trans gm (Mem.le_trans g18 (Mem.le_trans iz jt))))
 have h4_12:m4.le m12:=Mem.le_trans cV (Mem.le_trans eJ (Mem.le_trans iH (Mem.le_trans tI mo)))
 refine Zah (Zm7 nfS nfS _ _ m12 (hA.mono h4_12) (qb.mono (Mem.le_trans je mo))) fun m13 ju=>Zbe (by decide) ?_
 intro b23 tJ b24 tK b25 tL b26 tM b27 tN b28 tO
 have k23:=Mem.le_add tJ (ZbC [q1 97,q1 97,q1 97])
 have k24:=Mem.le_add tK (Zap [0])
 have k25:=Mem.le_add tL (Zap [1,2])
 have k26:=Mem.le_add tM (Zap [1])
 have k27:=Mem.le_add tN (Zap [2])
 have k28:=Mem.le_add tO [Value.slice (some ⟨b26,0,none⟩) 1 1,Value.slice (some ⟨b27,0,none⟩) 1 1,Value.slice none 0 0]
 have eO:m13.le _:=Mem.le_trans k23 (Mem.le_trans k24 (Mem.le_trans k25 (Mem.le_trans k26 (Mem.le_trans k27 k28))))
 have nP:NfR false nfF (.agg #[.slice (some ⟨b23,0,none⟩) 3 3,.slice (some ⟨b28,0,none⟩) 3 3,.slice (some ⟨b24,0,none⟩) 1 1,.slice (some ⟨b25,0,none⟩) 2 2,.bool false]) _:=
  ⟨_,_,_,_,rfl,⟨_,3,rfl,Zaz (cs:=ZbC [q1 97,q1 97,q1 97]) (Mem.le_trans k24 (Mem.le_trans k25 (Mem.le_trans k26 (Mem.le_trans k27 k28)))),by decide,fun h=>by cases h⟩,
   Zna (fol:=[[1],[2],[]]) (Zaz (Mem.le_refl _)) rfl (by decide) (fun i v l hv hl=>by
    match i with
    | 0=>simp at hv hl;subst hv hl;exact ZcW (l:=[1]) (Zaz (cs:=Zap [1]) (Mem.le_trans k27 k28)) (by decide)
    | 1=>simp at hv hl;subst hv hl;exact ZcW (l:=[2]) (Zaz (cs:=Zap [2]) k28) (by decide)
    | 2=>simp at hv hl;subst hv hl;exact ZcW (l:=[]) (.inl rfl) (by decide)
    | i+3=>simp at hv),
   ZcW (l:=[0]) (Zaz (cs:=Zap [0]) (Mem.le_trans k25 (Mem.le_trans k26 (Mem.le_trans k27 k28)))) (by decide),
   ZcW (l:=[1,2]) (Zaz (cs:=Zap [1,2]) (Mem.le_trans k26 (Mem.le_trans k27 k28))) (by decide)⟩
 have h9_13:m9.le m13:=Mem.le_trans gm (Mem.le_trans g18 (Mem.le_trans iz (Mem.le_trans jt ju)))
 refine Zah (Zm7 nfF nfF _ _ _ ((hF.mono h9_13).mono eO) nP) fun m14 j0=>Zbe (by decide) ?_
 intro b30 tP b31 tQ b32 tR b33 tS b34 tT b35 tU
 have l30:=Mem.le_add tP (ZbC [q1 97,q1 97])
 have l31:=Mem.le_add tQ (Zap [0])
 have l32:=Mem.le_add tR (Zap [1])
 have l33:=Mem.le_add tS (Zap [1])
 have l34:=Mem.le_add tT (Zap [1])
 have l35:=Mem.le_add tU [Value.slice (some ⟨b33,0,none⟩) 1 1,Value.slice (some ⟨b34,0,none⟩) 1 1]
 have eA:m14.le _:=Mem.le_trans l30 (Mem.le_trans l31 (Mem.le_trans l32 (Mem.le_trans l33 (Mem.le_trans l34 l35))))
 have nQ:NfR false nfM (.agg #[.slice (some ⟨b30,0,none⟩) 2 2,.slice (some ⟨b35,0,none⟩) 2 2,.slice (some ⟨b31,0,none⟩) 1 1,.slice (some ⟨b32,0,none⟩) 1 1,.bool false]) _:=
  ⟨_,_,_,_,rfl,⟨_,2,rfl,Zaz (cs:=ZbC [q1 97,q1 97]) (Mem.le_trans l31 (Mem.le_trans l32 (Mem.le_trans l33 (Mem.le_trans l34 l35)))),by decide,fun h=>by cases h⟩,
   Zna (fol:=[[1],[1]]) (Zaz (Mem.le_refl _)) rfl (by decide) (fun i v l hv hl=>by
    match i with
    | 0=>simp at hv hl;subst hv hl;exact ZcW (l:=[1]) (Zaz (cs:=Zap [1]) (Mem.le_trans l34 l35)) (by decide)
    | 1=>simp at hv hl;subst hv hl;exact ZcW (l:=[1]) (Zaz (cs:=Zap [1]) l35) (by decide)
    | i+2=>simp at hv),
   ZcW (l:=[0]) (Zaz (cs:=Zap [0]) (Mem.le_trans l32 (Mem.le_trans l33 (Mem.le_trans l34 l35)))) (by decide),
   ZcW (l:=[1]) (Zaz (cs:=Zap [1]) (Mem.le_trans l33 (Mem.le_trans l34 l35))) (by decide)⟩
 have h11_14:m11.le m14:=Mem.le_trans jt (Mem.le_trans ju (Mem.le_trans eO j0))
 refine Zah (Zm7 nfM nfM _ _ _ ((xp.mono h11_14).mono eA) nQ) fun m15 lL=>Zbe (by decide) ?_
 have h4_15:m4.le m15:=Mem.le_trans h4_12 (Mem.le_trans ju (Mem.le_trans eO (Mem.le_trans j0 (Mem.le_trans eA lL))))
 have vg:∀q∈nfS.sets,QOk q:=by
  intro q hq
  simp only[nfS,List.mem_cons,List.not_mem_nil,or_false]at hq
  rcases hq with rfl|rfl|rfl <;> exact Zw6 (by omega)
 have vh:∀q∈nfC.sets,QOk q:=by
  intro q hq
  simp only[nfC,List.mem_cons,List.not_mem_nil,or_false]at hq
  rcases hq with rfl|rfl <;> exact Zw6 (by omega)
 intro b37 tV
 have j37:=Mem.le_add tV (Zap [-1])
 have tq:=Ztk nfS vg _ [-1] (some ⟨b37,0,none⟩) 1 97 (by omega) _ ((hA.mono h4_15).mono j37) (Zaz (cs:=Zap [-1]) (Mem.le_refl _)) (by decide)
 rw[Zgh.1,if_pos rfl,Zgh.2.1]at tq
 refine Zaq tq (by rintro v m' css ⟨w,rfl,a,c,rfl,_⟩;rfl) ?_
 rintro a71 n70 c16 n71 m16 kM ⟨w,hv,a,c,rfl,qh,_⟩
 simp only[Value.tuple.injEq,Array.mk.injEq,List.cons.injEq,Value.slice.injEq,Value.int.injEq,true_and,and_true]at hv
 obtain⟨⟨rfl,rfl,rfl⟩,rfl⟩:=hv
 intro b38 tW
 have j38:=Mem.le_add tW (Zap [-1])
 have il:=Ztk nfS vg _ [-1] (some ⟨b38,0,none⟩) 1 98 (by omega) _ ((hA.mono (Mem.le_trans h4_15 (Mem.le_trans j37 kM))).mono j38) (Zaz (cs:=Zap [-1]) (Mem.le_refl _)) (by decide)
 rw[Zgh.1,if_pos rfl,Zgh.2.2]at il
 refine Zaq il (by rintro v m' css ⟨w,rfl,a,c,rfl,_⟩;rfl) ?_
 rintro a72 n72 c17 n73 m17 kN ⟨w,hv,a,c,rfl,i5,_⟩
 simp only[Value.tuple.injEq,Array.mk.injEq,List.cons.injEq,Value.slice.injEq,Value.int.injEq,true_and,and_true]at hv
 obtain⟨⟨rfl,rfl,rfl⟩,rfl⟩:=hv
 have h15_17:m15.le m17:=Mem.le_trans j37 (Mem.le_trans kM (Mem.le_trans j38 kN))
 have kO:M.le m17:=Mem.le_trans cT (Mem.le_trans h4_15 h15_17)
 have qi:=Zvz _ _ (p9 m17 kO)
 rw[(ZvM _ _).1,(ZvM _ _).2]at qi
 refine Zaq qi Zfw (ZuA fun sa4 fa4 xa4 ya4 sc4 fc4 xc4 yc4 m18 kP hC b39 b40 tX=>?_)
 have j40:=Mem.le_add tX ([97,98,97,98].map fun c:Nat=>Value.int .u8 c)
 have j1:=Zid nfC ZiK.1 vh _ [97,98,97,98] (some ⟨b40,0,none⟩) 4 _ (hC.mono j40) (Ztq _ (by decide))
 have qj:nfC.runE [97,98,97,98].length=0:=by kernel_rfl
 rw[qj,if_pos rfl,ZiK.2.1]at j1
 refine Zaq j1 Zb7 (ZwE fun a82 c20 m19 kQ i6 _=>?_)
 refine Zaq (Zl0 nfC _ m19 (hC.mono (Mem.le_trans j40 kQ)) ZiK.1) Zfw (ZuA fun sa5 fa5 xa5 ya5 sc5 fc5 xc5 yc5 m20 nR hT b41 b42 tY=>?_)
 have j42:=Mem.le_add tY ([98,97].map fun c:Nat=>Value.int .u8 c)
 have vj:=Zj4 nfC.turn vh _ [98,97] (some ⟨b42,0,none⟩) 2 _ (hT.mono j42) (Ztq _ (by decide)) (by decide)
 rw[ZiK.2.2.1,ZiK.2.2.2,if_pos rfl]at vj
 refine Zaq vj (by rintro v m' css rfl;rfl) ?_
 rintro bb n85 m21 qk hv
 simp only[Ret,Value.tuple.injEq,Array.mk.injEq,List.cons.injEq,Value.bool.injEq,Value.int.injEq,true_and,and_true]at hv
 obtain⟨rfl,rfl⟩:=hv
 have h16_21:m16.le m21:=Mem.le_trans j38 (Mem.le_trans kN (Mem.le_trans kP (Mem.le_trans j40 (Mem.le_trans kQ (Mem.le_trans nR (Mem.le_trans j42 qk))))))
 have h19_21:m19.le m21:=Mem.le_trans nR (Mem.le_trans j42 qk)
 have h0_1:m.le M:=Mem.le_trans aZ (Mem.le_trans bO (Mem.le_trans (Mem.le_add pV _) fK))
 have h0_21:m.le m21:=Mem.le_trans h0_1 (Mem.le_trans kO (Mem.le_trans kP (Mem.le_trans j40 (Mem.le_trans kQ h19_21))))
 refine ZbW rfl fun b43 tZ=>?_
 have j43:=Mem.le_add tZ (Zap [0])
 refine Zah (ZkU [0] [0] a71 (some ⟨b43,0,none⟩) c16 1 _ ((qh.mono h16_21).mono j43) (Zaz (cs:=Zap [0]) (Mem.le_refl _)) (by decide)) fun m22 lM=>ZbW (by decide) (ZbW rfl fun b45 t5=>?_)
 have j45:=Mem.le_add t5 (Zap [2,4])
 refine Zah (ZkU [2,4] [2,4] a82 (some ⟨b45,0,none⟩) c20 2 _ ((i6.mono (Mem.le_trans h19_21 (Mem.le_trans j43 lM))).mono j45) (Zaz (cs:=Zap [2,4]) (Mem.le_refl _)) (by decide)) fun m23 nj=>ZbW (by decide) ?_
 exact Zag (Mem.le_trans h0_21 (Mem.le_trans j43 (Mem.le_trans lM (Mem.le_trans j45 nj)))) rfl
end Go.Proofs.Ytplacemlpkhmfaa
set_option linter.unusedVariables false
set_option linter.unusedSimpArgs false
namespace Go.Proofs.Ytplacemlpkhmfaa
open Go Go.Eng Go.Rx Go.Proofs Go.RowKit
set_option maxRecDepth 100000
theorem ZvN{m M:Mem}{Y:Nat→Prop}(h:m.le M)(hf:∀b,Y b→m.free b):m.le (M.off Y):=fun k o v hv=>by
 have hk:¬Y k:=fun e=>by rw[hf k e o]at hv;cases hv
 rw[Mem.off_at hk];exact h k o v hv
theorem Zrf{m M:Mem}{b b' o:Nat}{v:Value}(hk:m b o=some v)(h:m.le M)(hf:M.free b'):b≠b':=fun e=>by
 subst e
 have:=h _ _ _ hk
 rw[hf o]at this;cases this
end Go.Proofs.Ytplacemlpkhmfaa
set_option linter.unusedVariables false
set_option linter.unusedSimpArgs false
namespace Go.Proofs.Ytplacemlpkhmfaa
open Go Go.Eng Go.Rx Go.Proofs Go.RowKit Go.ChangeShapes Go.WideShapes Go.ChangeAt
set_option maxRecDepth 100000
theorem Zul{H:Type}(d:DataW H):1≤Rows.uptoBulk d:=by
 cases d with
 | lit l=>cases l <;> simp[Rows.uptoBulk]
 | nil=>simp[Rows.uptoBulk]
 | ptr d=>simp[Rows.uptoBulk]
 | slice elems spare=>simp[Rows.uptoBulk]
 | agg parts=>simp[Rows.uptoBulk]
 | iface t d=>simp[Rows.uptoBulk]
 | map entries=>simp[Rows.uptoBulk]
 | held h=>simp[Rows.uptoBulk]
theorem ZsI{H:Type}{d:DataW H}{l:List (DataW H)}(h:d∈l):Rows.uptoBulk d≤Rows.uptoBulkAll l:=by
 induction l with
 | nil=>cases h
 | cons x r ih=>
  simp only[Rows.uptoBulkAll]
  cases List.mem_cons.1 h with
  | inl e=>subst e;omega
  | inr e=>have:=ih e;omega
theorem Znb{H:Type}(l:List (DataW H)):l.length≤Rows.uptoBulkAll l:=by
 induction l with
 | nil=>simp[Rows.uptoBulkAll]
 | cons x r ih=>have:=Zul x;simp only[Rows.uptoBulkAll,List.length_cons];omega
theorem ZiM{H:Type}(elems spare:List (DataW H)):Rows.uptoBulkAll elems+Rows.uptoBulkAll spare+1=Rows.uptoBulk (.slice elems spare):=by simp[Rows.uptoBulk]
theorem Zwi{w:World}{a:Addr}{v:Value}(h:w.cell? (a.add 0)=some v):∃b o,a=⟨b,o,none⟩:=by
 obtain⟨b,o,sp⟩:=a
 cases sp with
 | none=>exact⟨b,o,rfl⟩
 | some s=>
  exfalso
  have e:(Addr.add ⟨b,o,some s⟩ 0)=⟨b,o,some s⟩:=rfl
  rw[e]at h
  unfold World.cell? at h
  split at h
  ·simp at h
  ·cases h
theorem ZsJ{n:Int}(h:(Lit.int .u64 n).wf=true):0≤n∧n < 18446744073709551616:=by
 have:0≤n∧n≤18446744073709551615:=by simpa[Lit.wf,IntKind.min,IntKind.max,IntKind.signed,IntKind.bits]using h
 omega
section
variable {H:Type} {enc:TypeId×Value→H} {W:World} {held:Bool}
theorem Zld{n:Nat}{cs:List Value}{x:DataW H×List MemPlace}(h:DataW.trod enc Try.prog W 0 (fun _=>true) held n 24 cs=some x):
  ∃l a c,cs=[.slice a l.length c]∧rowRd (Zo5 W) a (Zap l)∧l.length≤Rows.uptoBulk x.1:=by
 rcases Go.Deep.open_slice1 Try.underlying24 (by kernel_rfl) h with⟨bT,hx⟩|⟨a,len,m,m',n',V,D,Pl,bT,hb,hl,hm,fM,hx,mq⟩
 ·exact⟨[],none,0,bT,.inl rfl,by simp⟩
 ·simp only[if_true]at fM
  subst fM
  obtain⟨F,hF⟩:=Go.Deep.choose_lt (α:=Int) (n:=m') (p:=fun i s=>W.cell? (a.add i)=some (.int .i64 s)) (fun i hi=>by
   obtain⟨h1,h2⟩:=mq i hi
   obtain⟨k,hk,_,hw⟩:=DataW.trod_int Try.underlying3 h2
   simp at hk
   exact⟨k,by rw[h1,hk]⟩)
  refine⟨(List.range len).map F,some a,m',by rw[bT];simp,?_,?_⟩
  ·by_cases h0:len=0
   ·left;subst h0;rfl
   ·right
    obtain⟨b,o,rfl⟩:=Zwi (hF 0 (by omega))
    refine⟨b,o,rfl,fun j v hj=>?_⟩
    rw[Zap,List.map_map,List.getElem?_map]at hj
    obtain⟨i',hi',rfl⟩:=Option.map_eq_some_iff.1 hj
    have bK:j < len:=by have:=(List.getElem?_eq_some_iff.1 hi').1;simpa using this
    have e:i'=j:=by rw[List.getElem?_range bK]at hi';exact(Option.some.inj hi').symm
    subst e
    have:=hF i' (by omega)
    rw[ZaS]at this
    exact this
  ·rw[hx,←ZiM]
   have:=Znb ((List.range len).map D)
   simp at this ⊢;omega
theorem ZsK{n:Nat}{cs:List Value}{x:DataW H×List MemPlace}(h:DataW.trod enc Try.prog W 0 (fun _=>true) held n 23 cs=some x)(dI:Rows.uptoBulk x.1≤1048576):
  ∃(fol:List (List Int)) (a:Option Addr) (c:Nat) (vs:List Value),cs=[.slice a fol.length c]∧rowRd (Zo5 W) a vs∧vs.length=fol.length∧fol.length≤c∧fol.length≤1048576∧∀(i:Nat)(v:Value)(l:List Int),vs[i]?=some v→fol[i]?=some l→∃a c,v=.slice a l.length c∧rowRd (Zo5 W) a (Zap l)∧l.length≤1048576:=by
 rcases Go.Deep.open_slice1 Try.underlying23 (by kernel_rfl) h with⟨bT,hx⟩|⟨a,len,m,m',n',V,D,Pl,bT,hb,hl,hm,fM,hx,mq⟩
 ·exact⟨[],none,0,[],bT,.inl rfl,rfl,Nat.le_refl _,by simp,fun i v l hv=>by simp at hv⟩
 ·simp only[if_true]at fM
  subst fM
  rw[hx,←ZiM]at dI
  have bN:=Znb ((List.range len).map D)
  simp only[List.length_map,List.length_range]at bN
  obtain⟨F,hF⟩:=Go.Deep.choose_lt (α:=List Int) (n:=len) (p:=fun i l=>∃a1 c1,V i=.slice a1 l.length c1∧rowRd (Zo5 W) a1 (Zap l)∧l.length≤1048576) (fun i hi=>by
   obtain⟨h1,h2⟩:=mq i (by omega)
   obtain⟨l,a1,c1,e,h3,h4⟩:=Zld h2
   simp at e
   have h5:D i∈(List.range len).map D:=List.mem_map.2 ⟨i,List.mem_range.2 hi,rfl⟩
   have h6:=ZsI h5
   exact⟨l,a1,c1,e,h3,by simp only at h4;omega⟩)
  refine⟨(List.range len).map F,some a,m',(List.range len).map V,by rw[bT];simp,?_,by simp,by simpa using hl,by simp;omega,?_⟩
  ·by_cases h0:len=0
   ·left;subst h0;rfl
   ·right
    obtain⟨b,o,rfl⟩:=Zwi (mq 0 (by omega)).1
    refine⟨b,o,rfl,fun j v hj=>?_⟩
    rw[List.getElem?_map]at hj
    obtain⟨i',hi',rfl⟩:=Option.map_eq_some_iff.1 hj
    have bK:j < len:=by have:=(List.getElem?_eq_some_iff.1 hi').1;simpa using this
    have e:i'=j:=by rw[List.getElem?_range bK]at hi';exact(Option.some.inj hi').symm
    subst e
    have:=(mq i' (by omega)).1
    rw[ZaS]at this
    exact this
  ·intro i v l hv hl'
   rw[List.getElem?_map]at hv hl'
   obtain⟨i1,h1,rfl⟩:=Option.map_eq_some_iff.1 hv
   obtain⟨i2,h2,rfl⟩:=Option.map_eq_some_iff.1 hl'
   rw[h1]at h2;cases h2
   have bK:i < len:=by have:=(List.getElem?_eq_some_iff.1 h1).1;simpa using this
   have e:i1=i:=by rw[List.getElem?_range bK]at h1;exact(Option.some.inj h1).symm
   subst e
   exact hF i1 bK
theorem Zum{n:Nat}{cs:List Value}{x:DataW H×List MemPlace}(bN:cs.length=4)(h:DataW.trod enc Try.prog W 0 (fun _=>true) held n 38 cs=some x):∃q:QS,cs=qCs q∧QOk q:=by
 obtain⟨c0,c1,c2,c3,rfl⟩:∃a b c d,cs=[a,b,c,d]:=by
  match cs,bN with
  | [a,b,c,d],_=>exact⟨a,b,c,d,rfl⟩
 obtain⟨y0,y1,y2,y3,n',_,h0,h1,h2,h3⟩:=trod_array4 Try.underlying38 (by kernel_rfl) h
 obtain⟨n0,k0,_,w0⟩:=DataW.trod_int Try.underlying36 h0
 obtain⟨n1,k1,_,w1⟩:=DataW.trod_int Try.underlying36 h1
 obtain⟨n2,k2,_,w2⟩:=DataW.trod_int Try.underlying36 h2
 obtain⟨n3,k3,_,w3⟩:=DataW.trod_int Try.underlying36 h3
 simp at k0 k1 k2 k3
 exact⟨(n0,n1,n2,n3),by rw[k0,k1,k2,k3];rfl,ZsJ w0,ZsJ w1,ZsJ w2,ZsJ w3⟩
theorem ZsL{n:Nat}{cs:List Value}{x:DataW H×List MemPlace}(h:DataW.trod enc Try.prog W 0 (fun _=>true) held n 22 cs=some x):
  ∃(l:List QS)(a:Option Addr)(c:Nat),cs=[.slice a l.length c]∧rowRd (Zo5 W) a (ZbC l)∧l.length≤Rows.uptoBulk x.1∧∀q∈l,QOk q:=by
 have xq:Try.prog.cellsOf 38=4:=by kernel_rfl
 rcases Go.Deep.open_slice Try.underlying22 h with⟨bT,hx⟩|⟨a,len,m,m',n',D,Pl,bT,hb,hl,hm,fM,hx,mq⟩
 ·exact⟨[],none,0,bT,.inl rfl,by simp,by simp⟩
 ·simp only[if_true]at fM
  subst fM
  rw[xq]at mq
  obtain⟨F,hF⟩:=Go.Deep.choose_lt (α:=QS) (n:=m') (p:=fun i q=>QOk q∧∀j v,(qCs q)[j]?=some v→W.cell? ((a.add (i*4)).add j)=some v) (fun i hi=>by
   obtain⟨cs,h1,h2⟩:=mq i hi
   obtain⟨_,bN,hc⟩:=World.cells?_some h1
   obtain⟨q,rfl,hq⟩:=Zum bN h2
   refine⟨q,hq,fun j v hj=>?_⟩
   have bK:=(List.getElem?_eq_some_iff.1 hj).1
   rw[hc j (by simpa[qCs]using bK)];exact hj)
  refine⟨(List.range len).map F,some a,m',by rw[bT];simp,?_,?_,?_⟩
  ·by_cases h0:len=0
   ·left;subst h0;rfl
   ·right
    obtain⟨b,o,rfl⟩:=Zwi (a:=a) (v:=.int .u64 (F 0).1) (by
     have:=(hF 0 (by omega)).2 0 _ rfl
     rw[Nat.zero_mul]at this
     obtain⟨b,o,sp⟩:=a
     cases sp with
     | none=>rw[ZaS,ZaS]at this;rw[ZaS];exact this
     | some s=>exact this)
    refine⟨b,o,rfl,fun j v hj=>?_⟩
    have bK:j < ((List.range len).map F).length*4:=by
     have:=(List.getElem?_eq_some_iff.1 hj).1
     rwa [ZeL]at this
    simp only[List.length_map,List.length_range]at bK
    have hq:((List.range len).map F)[j / 4]?=some (F (j / 4)):=by
     rw[List.getElem?_map,List.getElem?_range (by omega)];rfl
    obtain⟨u,hu⟩:=Zak (l:=qCs (F (j / 4))) (k:=j % 4) (by simp[qCs];omega)
    have h1:=Zm0 hq hu
    rw[show j / 4*4+j % 4=j by omega]at h1
    rw[show ZbC ((List.range len).map F)=Rx.ZbC ((List.range len).map F) from rfl]at hj
    rw[h1]at hj;cases hj
    have:=(hF (j / 4) (by omega)).2 (j % 4) _ hu
    rw[ZaS,ZaS,show o+j / 4*4+j % 4=o+j by omega]at this
    exact this
  ·rw[hx,←ZiM]
   have:=Znb ((List.range len).map D)
   simp at this ⊢;omega
  ·intro q hq
   obtain⟨i,hi,rfl⟩:=List.mem_map.1 hq
   exact(hF i (by have:=List.mem_range.1 hi;omega)).1
theorem Zun{v:Value}{d:DataW H}{ps:List MemPlace}{r:Reach}{b0:Nat}(iM:Value.okWide Try.prog W r b0 26 v)(h:DataW.Trod enc Try.prog W 0 (fun _=>true) held 26 v d ps)(dI:Rows.uptoBulk d≤1048576):
  ∃A sa sc fa fc xa xc ya yc vs,v=VN A sa sc fa fc xa xc ya yc∧NfW A (Zo5 W) sa fa fc xa ya vs:=by
 obtain⟨n,h⟩:=h
 have hf:Try.prog.underlying 26=some (.struct #[⟨ "Sets",22,0,false, "", "",0⟩,⟨ "Follow",23,1,false, "", "",24⟩,⟨ "First",24,2,false, "", "",48⟩,⟨ "Last",24,3,false, "", "",72⟩,⟨ "Empty",4,4,false, "", "",96⟩]):=by kernel_rfl
 obtain⟨cs,rfl,cN⟩:=okWide_struct hf iM
 obtain⟨xs,k,rfl,xr,bN,ib,hx⟩:=DataW.trod_struct hf h
 have xt:Try.prog.cellsOf 26=5:=by kernel_rfl
 obtain⟨L,rfl⟩:∃L:List Value,cs=L.toArray:=⟨cs.toList,by simp⟩
 rw[xt]at bN
 replace bN:L.length=5:=bN
 obtain⟨c0,c1,c2,c3,c4,rfl⟩:∃a b c d e,L=[a,b,c,d,e]:=by
  match L,bN with
  | [a,b,c,d,e],_=>exact⟨a,b,c,d,e,rfl⟩
 obtain⟨z0,z1,z2,z3,z4,rfl⟩:∃a b c d e,xs=[a,b,c,d,e]:=by
  match xs,ib with
  | [a,b,c,d,e],_=>exact⟨a,b,c,d,e,rfl⟩
 have hd:=congrArg Prod.fst xr
 simp only at hd
 have k0:Try.prog.cellsOf 22=1:=by kernel_rfl
 have k1:Try.prog.cellsOf 23=1:=by kernel_rfl
 have k2:Try.prog.cellsOf 24=1:=by kernel_rfl
 have k4:Try.prog.cellsOf 4=1:=by kernel_rfl
 have g0:DataW.trod enc Try.prog W 0 (fun _=>true) held k 22 (List.take (Try.prog.cellsOf 22) (List.drop 0 [c0,c1,c2,c3,c4]))=some z0:=hx 0 _ rfl
 have g1:DataW.trod enc Try.prog W 0 (fun _=>true) held k 23 (List.take (Try.prog.cellsOf 23) (List.drop 1 [c0,c1,c2,c3,c4]))=some z1:=hx 1 _ rfl
 have g2:DataW.trod enc Try.prog W 0 (fun _=>true) held k 24 (List.take (Try.prog.cellsOf 24) (List.drop 2 [c0,c1,c2,c3,c4]))=some z2:=hx 2 _ rfl
 have g3:DataW.trod enc Try.prog W 0 (fun _=>true) held k 24 (List.take (Try.prog.cellsOf 24) (List.drop 3 [c0,c1,c2,c3,c4]))=some z3:=hx 3 _ rfl
 have g4:DataW.trod enc Try.prog W 0 (fun _=>true) held k 4 (List.take (Try.prog.cellsOf 4) (List.drop 4 [c0,c1,c2,c3,c4]))=some z4:=hx 4 _ rfl
 rw[k0]at g0
 rw[k1]at g1
 rw[k2]at g2 g3
 rw[k4]at g4
 replace g0:DataW.trod enc Try.prog W 0 (fun _=>true) held k 22 [c0]=some z0:=g0
 replace g1:DataW.trod enc Try.prog W 0 (fun _=>true) held k 23 [c1]=some z1:=g1
 replace g2:DataW.trod enc Try.prog W 0 (fun _=>true) held k 24 [c2]=some z2:=g2
 replace g3:DataW.trod enc Try.prog W 0 (fun _=>true) held k 24 [c3]=some z3:=g3
 replace g4:DataW.trod enc Try.prog W 0 (fun _=>true) held k 4 [c4]=some z4:=g4
 have hb:Rows.uptoBulk z0.1+(Rows.uptoBulk z1.1+(Rows.uptoBulk z2.1+(Rows.uptoBulk z3.1+(Rows.uptoBulk z4.1+0))))+1≤1048576:=by
  rw[hd]at dI
  simpa[Rows.uptoBulk,Rows.uptoBulkAll]using dI
 obtain⟨l0,a0,e0,q0,r0,s0,o0⟩:=ZsL g0
 obtain⟨l1,a1,e1,vs,q1,r1,s1,t1,u1,o1⟩:=ZsK g1 (by omega)
 obtain⟨l2,a2,e2,q2,r2,s2⟩:=Zld g2
 obtain⟨l3,a3,e3,q3,r3,s3⟩:=Zld g3
 obtain⟨b,q4,_⟩:=DataW.trod_bool Try.underlying4 g4
 simp only[List.cons.injEq,and_true]at q0 q1 q2 q3 q4
 subst q0 q1 q2 q3 q4
 exact⟨⟨l0,l1,l2,l3,b⟩,a0,e0,a1,e1,a2,e2,a3,e3,vs,rfl,r0,r1,s1,t1,o1,r2,r3,by show l0.length≤_;omega,u1,by show l2.length≤_;omega,by show l3.length≤_;omega,o0⟩
end
end Go.Proofs.Ytplacemlpkhmfaa
set_option linter.unusedVariables false
set_option linter.unusedSimpArgs false
namespace Go.Proofs.Ytplacemlpkhmfaa
open Go Go.Eng Go.Rx Go.Proofs Go.RowKit
set_option maxRecDepth 100000
theorem ZwG(bs:List Nat)(a b:Option Addr)(c d:Nat)(m:Mem)(hl:Byt m a bs)(hr:Byt m b bs)(hn:bs.length≤1000000):CX Try.prog 57 #[.slice a bs.length c,.slice b bs.length d] m [] (Ret (.bool true)):=by
 apply ZcD
 unfold ZbH
 refine Zuz (by simp) ?_
 refine⟨fun xs css _ m' q=>∃k:Nat,k≤bs.length∧xs=[.int .i64 k]∧m.le m'∧q=bs.length - k,⟨_,0,by omega,rfl,Mem.le_refl _,rfl⟩,?_⟩
 rintro z m1 q aZ ⟨k,hk,hz,_,hq⟩
 obtain rfl:z=k:=by simpa using hz
 subst hq
 refine Zab (fun bK=>?_) (fun cL=>Zag aZ rfl)
 have aY:k < bs.length:=by have:=of_decide_eq_true bK;omega
 obtain⟨x,hx⟩:=Zak aY
 obtain⟨b1,o1,h1,h1',_⟩:=ZoT (hl.mono aZ) hx
 obtain⟨b2,o2,h2,h2',_⟩:=ZoT (hr.mono aZ) hx
 exact⟨b1,o1,h1,⟨by omega,by omega⟩,_,(by rw[Int.toNat_natCast];exact h1'),b2,o2,h2,⟨by omega,by omega⟩,_,(by rw[Int.toNat_natCast];exact h2'),Zaa rfl (Zuz (by simp) ⟨_,by omega,k+1,aY,by rw[Zat (by omega) (by omega)];rfl,aZ,rfl⟩)⟩
theorem Zqg(bs:List Nat)(a:Option Addr)(c:Nat)(m:Mem)(h:Byt m a bs)(hl:bs.length≤100000):CX Try.prog 17 #[.slice a bs.length c] m [] (fun v m' _=>∃a c,v=.slice a bs.length c∧Byt m' a bs):=
 (Zp9 bs a c m h hl).toCX.mono fun _ _ _ _ ⟨a,c,h1,h2,_⟩=>⟨a,c,h1,h2⟩
theorem Zqh{st:Bool}{A:Nf}{m:Mem}:∀(v:Value)(m':Mem) (css:List (List Value)),Zw4 st A m v m' css→Shape.fits (.tup [.agg [.slice,.slice,.slice,.slice,.bool],.int .i64]) v=true:=by
 rintro v m' css ⟨w,rfl,h⟩;exact congrArg (·&&true) (ZiG w m' [] h)
theorem Zuo(m:Mem):RefR nf0 (.agg #[.slice none 0 0,.slice none 0 0,.slice none 0 0,.slice none 0 0,.bool false]) m:=
 ⟨_,_,_,_,rfl,⟨none,0,rfl,.inl rfl,by simp[nf0]⟩,⟨none,0,[],rfl,.inl rfl,rfl,by simp[nf0],fun i v l hv=>by simp at hv⟩,⟨none,0,rfl,.inl rfl,by simp[nf0],fun _ _=>rfl⟩,⟨none,0,rfl,.inl rfl,by simp[nf0],fun _ _=>rfl⟩⟩
set_option maxHeartbeats 3200000 in
theorem ZvO(A:Nf)(hA:∀q∈A.sets,QOk q)(v:Value)(m:Mem)(h:NfR false A v m)(xu:A.fol.length≤1000)(bs:List Nat)(ba:Option Addr)(bc:Nat)(hb:Byt m ba bs)(oJ:bs.length≤60):
  CX Try.prog 13 #[v,.slice ba bs.length bc] m [] (Ret (.bool true)):=by
 have h':=h
 obtain⟨s,f,x,y,rfl,⟨sa,sc,rfl,hs,dK,iq⟩,⟨fa,fc,vs,rfl,hf,eR,f8,eF⟩,⟨xa,xc,rfl,hx,dU,fX⟩,⟨ya,yc,rfl,hy,dG,gj⟩⟩:=h
 apply ZkM
 unfold ZgL
 intro b0 m1 aZ mZ _ _
 refine⟨fun i _ m=>if i=1 then(fun v m' _=>RefR A v m')else if i=3 then(fun v m' _=>CopyS false A m v m')else(fun v m' _=>∃a c,v=.slice a bs.length c∧Byt m' a bs),?_⟩
 refine⟨_,rfl,ZoS A hA _ m1 (h'.mono aZ),Zla,fun a n c a1 n1 c1 a2 n2 c2 a3 n3 c3 e m2 bO hX=>?_⟩
 replace hX:RefR A _ m2:=hX
 have dD:=Mem.le_trans aZ bO
 refine⟨_,rfl,Zq6 A _ m2 (h'.mono dD) xu,ZiG,fun o0 p0 q0 o1 p1 q1 o2 p2 q2 o3 p3 q3 oe m3 bR hC=>?_⟩
 replace hC:CopyS false A m2 _ m3:=hC
 have gH:=Mem.le_trans dD bR
 refine⟨_,rfl,Zqg bs ba bc m3 (hb.mono gH) (by omega),fun v m' css ⟨a,c,e,_⟩=>by rw[e];rfl,fun a12 n8 c8 m4 cT hT=>?_⟩
 obtain⟨a12',c8',e12,xv⟩:∃a c,Value.slice a12 n8 c8=.slice a bs.length c∧Byt m4 a bs:=hT
 simp only[Value.slice.injEq]at e12
 obtain⟨rfl,rfl,rfl⟩:=e12
 intro _ _ M fK eQ jo jU
 have jZ:=Mem.le_trans aZ fK
 have nT:=hX.mono eQ
 have dP:NfR false A _ M:=(hC.mono jo).nf
 have qP:=xv.mono jU
 refine Zaq (ZvF A hA _ bs a12 c8 M dP qP) Zb7 ?_
 rintro a19 n9 c9 n10 m5 cV ⟨w1,lE,kv⟩
 simp only[Value.tuple.injEq,Array.mk.injEq,List.cons.injEq,Value.int.injEq,true_and,and_true]at lE
 obtain⟨rfl,rfl⟩:=lE
 refine Zaq (Zj4 A hA _ bs a12 c8 m5 (dP.mono cV) (qP.mono cV) (by omega)) (by rintro v m' css rfl;rfl) ?_
 rintro b5 n11 m6 eJ jR
 simp only[Ret,Value.tuple.injEq,Array.mk.injEq,List.cons.injEq,Value.bool.injEq,Value.int.injEq,true_and,and_true]at jR
 obtain⟨rfl,rfl⟩:=jR
 have jT:=Mem.le_trans cV eJ
 have loop:∀(e n10 n11 n13 n18 n20:Int)(M0:Mem),n10=e→n11=e→n13=e→n18=e→n20=e→∀i:Nat,i < 5→([.int .i64 n10,.int .i64 n11,.int .i64 n13,.int .i64 n18,.int .i64 n20]:List Value)[i*1]?=some (.int .i64 e):=by
  rintro e _ _ _ _ _ M0 rfl rfl rfl rfl rfl i hi
  rcases(show i=0∨i=1∨i=2∨i=3∨i=4 by omega)with rfl|rfl|rfl|rfl|rfl <;> rfl
 by_cases hr:A.right=true
 ·have cK:=ZdI.1 hr
  have he:A.runE bs.length=0:=by unfold Nf.runE;rw[if_neg (by rw[hr];simp),if_neg (by omega)]
  rw[he]at kv ⊢
  simp only[if_true,hr]at kv ⊢
  have j1:=Zid A hr hA _ bs a12 c8 m6 (dP.mono jT) (qP.mono jT)
  rw[he]at j1
  simp only[if_true]at j1
  refine Zaq j1 Zb7 ?_
  rintro a24 n12 c10 n13 m7 iH ⟨w3,nM,oz⟩
  simp only[Value.tuple.injEq,Array.mk.injEq,List.cons.injEq,Value.int.injEq,true_and,and_true]at nM
  obtain⟨rfl,rfl⟩:=nM
  have i7:=Mem.le_trans jT iH
  refine Zaq (ZoP A _ m7 (dP.mono i7) hr) Zqh ?_
  rintro a27 n14 c11 a28 n15 c12 a29 n16 c13 a30 n17 c14 b6 n18 m8 je ⟨w4,qm,qQ⟩
  simp only[Value.tuple.injEq,Array.mk.injEq,List.cons.injEq,Value.int.injEq,true_and,and_true]at qm
  obtain⟨rfl,rfl⟩:=qm
  have qo:=Mem.le_trans i7 je
  intro _
  refine Zaq (Zqc A _ m8 (dP.mono qo) hr) Zb7 ?_
  rintro a33 n19 c15 n20 m9 jV ⟨w5,qp,t6⟩
  simp only[Value.tuple.injEq,Array.mk.injEq,List.cons.injEq,Value.int.injEq,true_and,and_true]at qp
  obtain⟨rfl,rfl⟩:=qp
  have nU:=Mem.le_trans qo jV
  have lj:=Zrb A hA _ bs ba bc m9 (nT.mono nU) (hb.mono (Mem.le_trans jZ nU))
  rw[he]at lj
  simp only[if_true]at lj
  refine Zaq lj Zb7 ?_
  rintro a36 n21 c16 n22 m10 gm ⟨w6,qr,t7⟩
  simp only[Value.tuple.injEq,Array.mk.injEq,List.cons.injEq,Value.int.injEq,true_and,and_true]at qr
  obtain⟨rfl,rfl⟩:=qr
  have nV:=Mem.le_trans nU gm
  intro b8 qR
  have kR:=Mem.le_add qR [Value.int .i64 0,.int .i64 0,.int .i64 0,.int .i64 0,.int .i64 0]
  refine⟨fun xs _ _ m' q=>∃k:Nat,k≤5∧xs=[.int .i64 k]∧Mem.le (m10.add b8 [.int .i64 0,.int .i64 0,.int .i64 0,.int .i64 0,.int .i64 0]) m'∧q=5 - k,⟨_,0,by omega,rfl,Mem.le_refl _,rfl⟩,?_⟩
  rintro z m11 q _ ⟨k,hk,hz,iz,hq⟩
  obtain rfl:z=k:=by simpa using hz
  subst hq
  refine Zab (fun bK=>?_) (fun cL=>?_)
  ·have aY:k < 5:=by have:=of_decide_eq_true bK;omega
   refine⟨⟨by omega,by omega⟩,Zas (by rw[Int.toNat_natCast];exact loop 0 0 0 0 0 0 m rfl rfl rfl rfl rfl k aY) (Zaa rfl (Zuz rfl ⟨by trivial,_,by omega,k+1,by omega,by rw[Zat (by omega) (by omega)];rfl,iz,rfl⟩))⟩
  refine Zuz rfl ?_
  have kS:M.le m11:=Mem.le_trans nV (Mem.le_trans kR iz)
  have h10_11:=Mem.le_trans kR iz
  refine Zaq (Zqe A hA _ bs ba bc m11 (nT.mono kS) (hb.mono (Mem.le_trans jZ kS)) (by omega) hr) Zb7 ?_
  rintro a42 n25 c17 n26 m12 jt ⟨w7,vk,xw⟩
  simp only[Value.tuple.injEq,Array.mk.injEq,List.cons.injEq,Value.int.injEq,true_and,and_true]at vk
  obtain⟨rfl,rfl⟩:=vk
  have h10_12:=Mem.le_trans h10_11 jt
  have qs:=Mem.le_trans kS jt
  refine⟨fun i _ _=>if i=20 then(fun v m' _=>RefR A.turn v m')else if i=27 then(fun v m' _=>SlI true (Zo9 A) v m')else if i=8 then Ret (.bool (A.accepts (A.run bs [-1])))else Ret (.bool true),?_⟩
  have eq:∀(l:List Int)(x y:Value)(m':Mem),SlI false l x m'→SlI false l y m'→CX Try.prog 23 #[x,y] m' [] (Ret (.bool true)):=by
   rintro l x y m' ⟨xa,xc,rfl,g1,g2,_⟩ ⟨ya,yc,rfl,g3,_⟩
   have:=ZkU l l xa ya xc yc m' g1 g3 g2
   rw[show decide (l=l)=true by simp]at this;exact this
  refine⟨_,rfl,eq _ _ _ m12 (kv.mono (Mem.le_trans eJ (Mem.le_trans iH (Mem.le_trans je (Mem.le_trans jV (Mem.le_trans gm h10_12)))))) (t7.mono h10_12),fun v _ _ h=>by rw[h];rfl,fun b9 m13 ju oH=>?_⟩
  replace oH:Value.bool b9=.bool true:=oH
  obtain rfl:b9=true:=by simpa using oH
  refine Zuz rfl ?_
  have h10_13:=Mem.le_trans h10_12 ju
  have qt:=Mem.le_trans qs ju
  obtain⟨_,_,e36,r36,g36,_⟩:=id t7
  simp only[Value.slice.injEq,true_and]at e36
  obtain⟨rfl,rfl,rfl⟩:=e36
  refine⟨_,rfl,Zj3 A cK _ (A.run bs [-1]) a36 c16 m13 (nT.mono qt) (r36.mono h10_13) g36 (Zf7 cK bs _ (Zfk A)),fun v _ _ h=>by rw[h];rfl,fun b10 m14 j0 t8=>?_⟩
  replace t8:Value.bool b10=.bool (A.accepts (A.run bs [-1])):=t8
  obtain rfl:b10=A.accepts (A.run bs [-1]):=by simpa using t8
  refine Zuz (by unfold Nf.matches;simp) ?_
  have h10_14:=Mem.le_trans h10_13 j0
  have t9:=Mem.le_trans qt j0
  refine⟨_,rfl,eq _ _ _ m14 (oz.mono (Mem.le_trans je (Mem.le_trans jV (Mem.le_trans gm h10_14)))) (xw.mono (Mem.le_trans ju j0)),fun v _ _ h=>by rw[h];rfl,fun b11 m15 lL nW=>?_⟩
  replace nW:Value.bool b11=.bool true:=nW
  obtain rfl:b11=true:=by simpa using nW
  refine Zuz rfl ?_
  have h10_15:=Mem.le_trans h10_14 lL
  have qu:=Mem.le_trans t9 lL
  refine⟨_,rfl,Zrc A cK _ m15 (nT.mono qu),Zla,fun t0 u0 w0 t1 u1 w1 t2 u2 w2 t3 u3 w3 te m16 kM ub=>?_⟩
  replace ub:RefR A.turn _ m16:=ub
  have h10_16:=Mem.le_trans h10_15 kM
  have ud:=Mem.le_trans qu kM
  have ue:=qQ.mono (Mem.le_trans jV (Mem.le_trans gm h10_16))
  have kT:=Zm9 A.turn A.turn hA hA _ _ m16 ue.nf ub
  rw[show decide (A.turn=A.turn)=true by simp]at kT
  refine⟨_,rfl,kT,fun v _ _ h=>by rw[h];rfl,fun b13 m17 kN nZ=>?_⟩
  replace nZ:Value.bool b13=.bool true:=nZ
  obtain rfl:b13=true:=by simpa using nZ
  refine Zuz rfl ?_
  have kO:=Mem.le_trans ud kN
  have h10_17:=Mem.le_trans h10_16 kN
  refine⟨_,rfl,Zuk A cK _ m17 (nT.mono kO),Za7,fun a59 n31 c22 m18 kP uf=>?_⟩
  replace uf:SlI true (Zo9 A) _ m18:=uf
  have ug:=Mem.le_trans kO kP
  have h10_18:=Mem.le_trans h10_17 kP
  refine⟨_,rfl,eq _ _ _ m18 (t6.mono (Mem.le_trans gm h10_18)) (ZxX uf),fun v _ _ h=>by rw[h];rfl,fun b14 m19 kQ og=>?_⟩
  replace og:Value.bool b14=.bool true:=og
  obtain rfl:b14=true:=by simpa using og
  refine Zuz rfl ?_
  have qv:=Mem.le_trans ug kQ
  refine⟨_,rfl,ZwG bs a12 ba c8 bc m19 (qP.mono qv) (hb.mono (Mem.le_trans jZ qv)) (by omega),fun v _ _ h=>by rw[h];rfl,fun b15 m20 nR oh K vm _ _ _ _ _ _ _ xz=>?_⟩
  replace oh:Value.bool b15=.bool true:=oh
  obtain rfl:b15=true:=by simpa using oh
  refine Zuz rfl ?_
  have xP:=Mem.le_trans qs vm
  have uh:=Mem.le_trans h10_12 vm
  have oi:=Mem.le_trans jV (Mem.le_trans gm uh)
  have xA:=Mem.le_trans je oi
  obtain⟨_,_,_,_,hv,⟨gS,nS⟩,⟨gX,nX⟩,⟨gY,nY⟩,ga,gc,gs,rfl,gr,gl,gb,d1,d2,d3,gF⟩:=id qQ
  simp only[Value.agg.injEq,Array.mk.injEq,List.cons.injEq,Value.bool.injEq,true_and,and_true,Value.slice.injEq]at hv
  obtain⟨rfl,⟨rfl,rfl,rfl⟩,rfl,rfl,rfl⟩:=hv
  obtain⟨_,_,eS,_⟩:=id gS
  obtain⟨_,_,eX,_⟩:=id gX
  obtain⟨_,_,eY,_⟩:=id gY
  simp only[Value.slice.injEq]at eS eX eY
  obtain⟨rfl,rfl,rfl⟩:=eS
  obtain⟨rfl,rfl,rfl⟩:=eX
  obtain⟨rfl,rfl,rfl⟩:=eY
  have kn:∀b,¬m8.free b→∃o v,m8 b o=some v:=fun b hb=>by
   refine Classical.byContradiction fun hh=>hb fun o=>?_
   cases he:m8 b o with
   | none=>rfl
   | some u=>exact absurd ⟨o,u,he⟩ hh
  refine⟨fun b=>m7.free b∧(∃o v,m8 b o=some v)∧∀o',a28≠some ⟨b,o',none⟩,_,ZsF A.turn a27 c11 a28 c12 a29 c13 a30 c14 gs K _ (gS.mono oi) (gX.mono oi) (gY.mono oi) (gr.mono oi) gl gb (fun i v l hv hl=>(gF i v l hv hl).1.mono oi) (fun b o e cM=>⟨nS b o e,kn b (ZxC gS cM e),fun o' e'=>d1 cM b o o' e e'⟩) (fun b o e cM=>⟨nX b o e,kn b (ZvS gX cM e),fun o' e'=>d2 cM b o o' e e'⟩) (fun b o e cM=>⟨nY b o e,kn b (ZvS gY cM e),fun o' e'=>d3 cM b o o' e e'⟩) (fun b o e hY=>hY.2.2 o e) (fun i v l hv hl b o e cM=>⟨(gF i v l hv hl).2.1 b o e,kn b (ZvS (gF i v l hv hl).1 cM e),fun o' e'=>(gF i v l hv hl).2.2 cM b o o' e e'⟩),(fun t ht=>by cases ht),fun b16 hY=>.inr ⟨ZlT (Mem.le_trans jZ i7) hY.1,?_,?_,Zrf (mZ 0 _ rfl) (Mem.le_trans fK i7) hY.1,by trivial⟩,fun v _ _ _ h=>by rw[h];rfl,fun m21 qw _ _=>?_⟩
  ·obtain⟨o,v,ui⟩:=hY.2.1
   exact⟨o,v,oi _ _ _ ui⟩
  ·obtain⟨o,v,ui⟩:=hY.2.1
   exact fun e=>Zrf ui (Mem.le_trans jV gm) qR e.symm
  have h7_21:m7.le m21:=Mem.le_trans (ZvN xA fun b hY=>hY.1) qw
  have kU:=Zm9 A A hA hA _ _ m21 (dP.mono (Mem.le_trans i7 h7_21)) (nT.mono (Mem.le_trans i7 h7_21))
  rw[show decide (A=A)=true by simp]at kU
  exact Zah kU fun m22 lM=>⟨m22,Mem.le_trans jZ (Mem.le_trans i7 (Mem.le_trans h7_21 lM)),Mem.le_refl _,rfl⟩
 ·have hr:A.right=false:=by simpa using hr
  have he:A.runE bs.length=171:=by unfold Nf.runE;rw[if_pos hr]
  rw[he]at kv ⊢
  have n171:¬(171:Int)=0:=by decide
  simp only[if_neg n171,hr,Bool.false_and,Bool.false_eq_true,if_false]at kv ⊢
  refine Zaq (ZmK A hr _ bs a12 c8 m6 (dP.mono jT)) Zb7 ?_
  rintro a24 n12 c10 n13 m7 iH ⟨w3,nM,oz⟩
  simp only[Value.tuple.injEq,Array.mk.injEq,List.cons.injEq,Value.int.injEq,true_and,and_true]at nM
  obtain⟨rfl,rfl⟩:=nM
  have i7:=Mem.le_trans jT iH
  refine Zaq (ZlZ A _ m7 (dP.mono i7) hr) Zfw ?_
  rintro a27 n14 c11 a28 n15 c12 a29 n16 c13 a30 n17 c14 b6 n18 m8 je ⟨w4,qm,qQ⟩
  simp only[Value.tuple.injEq,Array.mk.injEq,List.cons.injEq,Value.int.injEq,true_and,and_true]at qm
  obtain⟨rfl,rfl⟩:=qm
  have qo:=Mem.le_trans i7 je
  intro _
  refine Zaq (Zqd A _ m8 (dP.mono qo) hr) Zb7 ?_
  rintro a33 n19 c15 n20 m9 jV ⟨w5,qp,t6⟩
  simp only[Value.tuple.injEq,Array.mk.injEq,List.cons.injEq,Value.int.injEq,true_and,and_true]at qp
  obtain⟨rfl,rfl⟩:=qp
  have nU:=Mem.le_trans qo jV
  have lj:=Zrb A hA _ bs ba bc m9 (nT.mono nU) (hb.mono (Mem.le_trans jZ nU))
  rw[he]at lj
  simp only[if_neg n171]at lj
  refine Zaq lj Zb7 ?_
  rintro a36 n21 c16 n22 m10 gm ⟨w6,qr,t7⟩
  simp only[Value.tuple.injEq,Array.mk.injEq,List.cons.injEq,Value.int.injEq,true_and,and_true]at qr
  obtain⟨rfl,rfl⟩:=qr
  have nV:=Mem.le_trans nU gm
  intro b8 qR
  have kR:=Mem.le_add qR [Value.int .i64 171,.int .i64 171,.int .i64 171,.int .i64 171,.int .i64 171]
  refine⟨fun xs _ _ m' q=>∃k:Nat,k≤5∧xs=[.int .i64 k]∧Mem.le (m10.add b8 [.int .i64 171,.int .i64 171,.int .i64 171,.int .i64 171,.int .i64 171]) m'∧q=5 - k,⟨_,0,by omega,rfl,Mem.le_refl _,rfl⟩,?_⟩
  rintro z m11 q _ ⟨k,hk,hz,iz,hq⟩
  obtain rfl:z=k:=by simpa using hz
  subst hq
  refine Zab (fun bK=>?_) (fun cL=>?_)
  ·have aY:k < 5:=by have:=of_decide_eq_true bK;omega
   refine⟨⟨by omega,by omega⟩,Zas (by rw[Int.toNat_natCast];exact loop 171 171 171 171 171 171 m rfl rfl rfl rfl rfl k aY) (Zaa rfl (Zuz rfl ⟨by trivial,_,by omega,k+1,by omega,by rw[Zat (by omega) (by omega)];rfl,iz,rfl⟩))⟩
  have kS:M.le m11:=Mem.le_trans nV (Mem.le_trans kR iz)
  obtain⟨_,_,e1,_⟩:=kv
  obtain⟨_,_,e3,_⟩:=oz
  obtain⟨_,_,e5,_⟩:=t6
  simp only[Value.slice.injEq]at e1 e3 e5
  obtain⟨rfl,rfl,rfl⟩:=e1
  obtain⟨rfl,rfl,rfl⟩:=e3
  obtain⟨rfl,rfl,rfl⟩:=e5
  refine Zxq rfl ⟨true,Zxq rfl (Zxq rfl ?_),Zag (Mem.le_trans jZ kS) rfl⟩
  have hz:∀q∈nf0.sets,QOk q:=fun q hq=>by cases hq
  have dE:=Zm9 nf0 nf0 hz hz _ _ m11 (qQ.mono (Mem.le_trans jV (Mem.le_trans gm (Mem.le_trans kR iz)))) (Zuo m11)
  rw[show decide (nf0=nf0)=true by simp]at dE
  exact Zah dE fun m12 jt=>⟨by trivial,rfl⟩
theorem Zqi(A:Nf)(sa:Option Addr)(sc:Nat)(fa:Option Addr)(fc:Nat)(xa:Option Addr)(xc:Nat)(ya:Option Addr)(yc:Nat)(vs:List Value)(bs:List Nat)(ba:Option Addr)(bc:Nat)(m:Mem)(h:NfW A m sa fa fc xa ya vs)(hb:Byt m ba bs):
  CX Try.prog 4 #[VN A sa sc fa fc xa xc ya yc,.slice ba bs.length bc] m [] (Ret (.bool true)):=by
 apply ZgZ
 unfold Zd0
 intro b0 m1 aZ _
 refine⟨true,?_,Zag aZ rfl⟩
 refine Zah (Zuf A sa sc fa fc xa xc ya yc vs m1 (h.mono aZ)) fun m2 bO=>Zab (fun h1=>Zah (ZiL m2) fun m3 bR=>⟨by trivial,rfl⟩) (fun h1=>?_)
 have dD:=Mem.le_trans aZ bO
 obtain⟨nA,fA⟩:=Zsz (sc:=sc) (xc:=xc) (yc:=yc) h (by simpa using h1)
 refine Zab (fun h3=>Zah (ZiL m2) fun m3 bR=>⟨by trivial,rfl⟩) (fun h3=>?_)
 have eA:bs.length≤60:=by have:=of_decide_eq_false h3;omega
 refine Zah (ZvO A h.ok _ m2 (nA.mono dD) (by omega) bs ba bc (hb.mono dD) eA) fun m3 bR=>Zxq rfl ?_
 exact Zah (ZiL m3) fun m4 cT=>⟨by trivial,rfl⟩
end Go.Proofs.Ytplacemlpkhmfaa
set_option linter.unusedVariables false
set_option linter.unusedSimpArgs false
namespace Go.Proofs.Ytplacemlpkhmfaa
open Go Go.Eng Go.Rx Go.Proofs Go.RowKit Go.ChangeShapes Go.WideShapes Go.ChangeAt
set_option maxRecDepth 100000
theorem Zle(H:Type)(enc:TypeId×Value→H)(W:World)(base:Nat)(args:Array Value)(ds gs:List (DataW H))(before:List MemPlace)
  (iM:∀(j:Nat) t v,Try.f4.params[j]?=some t→args[j]?=some v→Value.okWide Try.prog W .any base t v)
  (hW:DataW.Whole enc Try.prog Try.f4.params.toList Rows.nfaRunsSpec.vars false W args.toList ds gs before) (hk:Rows.uptoSmall H (ds++gs)=true):
  Calls Try.prog 4 args W fun e W'=>∃v,e=.returned v∧Rows.nfaRunsSpec.post enc Try.prog Try.f4 false true false false W args v W':=by
 have hW':=hW
 obtain⟨p,q,xB,hV,rfl,j8,eH⟩:=hW
 have hA:DataW.TrodAll enc Try.prog W 0 (fun _=>true) true Try.f4.params.toList args.toList ds p:=xB
 rw[Try.params4]at hA iM
 obtain⟨v0,vs0,d0,ds0,p0,q0,a0,rfl,rfl,h0,r0⟩:=trodAll_cons hA
 obtain⟨v1,vs1,d1,ds1,p1,q1,rfl,rfl,rfl,h1,r1⟩:=trodAll_cons r0
 obtain⟨rfl,rfl,rfl⟩:=trodAll_nil r1
 obtain rfl:args=#[v0,v1]:=by cases args;simp_all
 obtain⟨rfl,rfl⟩:=trodVars_none hV
 have hb:Rows.uptoBulk d0+(Rows.uptoBulk d1+0)≤1048576:=by
  simpa[Rows.uptoSmall,Rows.uptoBulkAll]using hk
 obtain⟨A,sa,sc,fa,fc,xa,xc,ya,yc,vs,rfl,xC⟩:=Zun (iM 0 _ v0 rfl rfl) h0 (by omega)
 obtain⟨bs,ba,bc,rfl,jz,_,_⟩:=ZvJ (iM 1 _ v1 rfl rfl) h1
 exact ZrS (tb:=4) ZvI (by rw[Try.params4];intro t ht;simp at ht;rcases ht with rfl|rfl <;> exact⟨by kernel_rfl,of_decide_eq_true (by kernel_rfl)⟩) hW' rfl rfl rfl rfl rfl Try.underlying4 (Zqi A sa sc fa fc xa xc ya yc vs bs ba bc (Zo5 W) xC jz)
theorem Zo0(os:Os)(started:os.Started)(H:Type)(enc:TypeId×Value→H)(F:Stop.Interp):
  ReturnsInHanded {} Try.checked os 4 .any ((Rows.OpenSpec.upto Rows.nfaRunsSpec).pre6 enc Try.prog Try.f4 Rows.nfaRunsUptoRow.domain false) (((Rows.OpenSpec.upto Rows.nfaRunsSpec).at F).post enc Try.prog Try.f4 false true false false):=by
 refine returnsInHanded_of_cond (C:=Try.checked) (s:=Rows.OpenSpec.upto Rows.nfaRunsSpec) (k:=Rows.uptoSmall) rfl ZwC started (by kernel_rfl) Try.func4
  (OpenSpec.witness (enc:=enc) (C:=Try.checked) (s:=Rows.OpenSpec.upto Rows.nfaRunsSpec) (k:=Rows.uptoSmall) rfl false ⟨#[],#[.agg #[.slice none 0 0,.slice none 0 0,.slice none 0 0,.slice none 0 0,.bool false],.slice none 0 0],[]⟩ 8 (by kernel_rfl) (by kernel_rfl) (by kernel_rfl)
   (x:=([.agg [.nil,.nil,.nil,.nil,.lit (.bool false)],.nil],[],[])) (by kernel_rfl) rfl (by kernel_rfl)) ?_
 intro W base args ds gs before iM hW _ hk _
 exact Zle H enc W base args ds gs before iM hW hk
theorem runs_holds:Rows.NfaRunsUptoSaid:=
 OpenClaim.holds_of_cond 4 Try.f4 rfl rfl rfl rfl rfl rfl rfl ⟨rfl,rfl,rfl,rfl,rfl⟩ rfl rfl rfl rfl rfl (by kernel_rfl) Try.func4 (by kernel_rfl)
  (of_decide_eq_true (by kernel_rfl)) (by unfold Func.isWrapper;first|(rw[if_pos (by decide +kernel)];kernel_rfl)|(rw[if_neg (by decide +kernel)];exact⟨rfl,rfl⟩))
  (fun os started H enc _ F=>Zo0 os started H enc F)
#print axioms runs_holds
end Go.Proofs.Ytplacemlpkhmfaa
