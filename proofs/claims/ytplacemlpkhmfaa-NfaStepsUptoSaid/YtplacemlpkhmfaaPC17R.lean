/- Part of the proof: conditions and contracts of functions of this program. No condition of its own. -/
import Derived.Test.YtplacemlpkhmfaaPC17Q
import Derived.Test.YtplacemlpkhmfaaPC13H
set_option linter.unusedVariables false
set_option linter.unusedSimpArgs false
namespace Go.Proofs.Ytplacemlpkhmfaa
open Go Go.Eng Go.Rx Go.Proofs Go.RowKit
set_option maxRecDepth 100000
theorem ZfY(m:Mem):CX Try.prog 12 #[] m [] (Ret (.bool true)):=by
 apply ZiN
 unfold Zft
 refine Zat (Zid 97 (by omega) m) Zdk (Zie fun m1 bD=>?_)
 refine Zat (Zid 98 (by omega) m1) Zdk (Zie fun m2 bZ=>?_)
 intro b p8 b1
 refine⟨fun _ _ _=>Ret (Zbh 99).v,_,rfl,Zid 99 (by omega) _,Zdk,Zie fun m3 cD b2 mq b3 vU b4 M gj fZ jx j8=>?_⟩
 have pi:∀M':Mem,M.le M'→Rep M' (Zvd (some ⟨b,0,none⟩) 2):=fun M' h=>
  Zde (Zdl (l:=[Zbh 97,Zbh 98]) (Mem.le_trans gj h) (by intro x hx;simp at hx;rcases hx with rfl|rfl <;> exact ZfF _ _) (by simp)) (by omega) (by omega) (by omega)
 have halt:Rep M (Zff 4 0 0 (some ⟨b2,0,none⟩) 2 [Zvd (some ⟨b,0,none⟩) 2,Zbh 99]):=
  Zde (Zdl (l:=[Zvd (some ⟨b,0,none⟩) 2,Zbh 99]) jx (by intro x hx;simp at hx;rcases hx with rfl|rfl;exact pi M (Mem.le_refl _);exact ZfF _ _) (by simp)) (by omega) (by omega) (by omega)
 have pj:Rep M (ZuP (some ⟨b3,0,none⟩) (some ⟨b2,0,none⟩) (some ⟨b,0,none⟩) 1 2 2):=
  Zde (Zdl (l:=[Zff 4 0 0 (some ⟨b2,0,none⟩) 2 [Zvd (some ⟨b,0,none⟩) 2,Zbh 99]]) j8 (by intro x hx;simp at hx;subst hx;exact halt) (by simp)) (by omega) (by omega) (by omega)
 have tV:=Zud _ M pj
 rw[(Zsc _ _ _ _ _ _).1,(Zsc _ _ _ _ _ _).2]at tV
 refine Zat tV Zic (Ztd fun sa fa xa ya sc fc xc yc m4 dC hA b6=>?_)
 refine Zat (Zlm 97 (by omega) m4) Zkv (Zul fun m5 cX=>?_)
 refine Zat (Zlm 98 (by omega) m5) Zkv (Zul fun m6 fQ=>?_)
 refine Zat (Zlm 99 (by omega) m6) Zkv (Zul fun m7 jy=>?_)
 intro b7 vV b8 vW b9 vX b10 sq b11 sr b12 ss b13 su b14
 have g7:=Mem.le_add vV (Zby [q1 97,q1 98,q1 99])
 have g8:=Mem.le_add vW (Zaq [0,2])
 have g9:=Mem.le_add vX (Zaq [1,2])
 have g10:=Mem.le_add sq (Zaq [1])
 have g11:=Mem.le_add sr (Zaq [0,2])
 have g12:=Mem.le_add ss (Zaq [0,2])
 have g13:=Mem.le_add su [Value.slice (some ⟨b10,0,none⟩) 1 1,Value.slice (some ⟨b11,0,none⟩) 2 2,Value.slice (some ⟨b12,0,none⟩) 2 2]
 have hk:m7.le _:=Mem.le_trans g7 (Mem.le_trans g8 (Mem.le_trans g9 (Mem.le_trans g10 (Mem.le_trans g11 (Mem.le_trans g12 g13)))))
 have pk:NfR false nfS (.agg #[.slice (some ⟨b7,0,none⟩) 3 3,.slice (some ⟨b13,0,none⟩) 3 3,.slice (some ⟨b8,0,none⟩) 2 2,.slice (some ⟨b9,0,none⟩) 2 2,.bool true]) _:=
  ⟨_,_,_,_,rfl,⟨_,3,rfl,Zay (cs:=Zby [q1 97,q1 98,q1 99]) (Mem.le_trans g8 (Mem.le_trans g9 (Mem.le_trans g10 (Mem.le_trans g11 (Mem.le_trans g12 g13))))),by decide,fun h=>by cases h⟩,
   Zmm (fol:=[[1],[0,2],[0,2]]) (Zay (Mem.le_refl _)) rfl (by decide) (fun i v l hv hl=>by
    match i with
    | 0=>simp at hv hl;subst hv hl;exact ZcG (l:=[1]) (Zay (cs:=Zaq [1]) (Mem.le_trans g11 (Mem.le_trans g12 g13))) (by decide)
    | 1=>simp at hv hl;subst hv hl;exact ZcG (l:=[0,2]) (Zay (cs:=Zaq [0,2]) (Mem.le_trans g12 g13)) (by decide)
    | 2=>simp at hv hl;subst hv hl;exact ZcG (l:=[0,2]) (Zay (cs:=Zaq [0,2]) g13) (by decide)
    | i+3=>simp at hv),
   ZcG (l:=[0,2]) (Zay (cs:=Zaq [0,2]) (Mem.le_trans g9 (Mem.le_trans g10 (Mem.le_trans g11 (Mem.le_trans g12 g13))))) (by decide),
   ZcG (l:=[1,2]) (Zay (cs:=Zaq [1,2]) (Mem.le_trans g10 (Mem.le_trans g11 (Mem.le_trans g12 g13)))) (by decide)⟩
 refine Zat (Zid 97 (by omega) _) Zdk (Zie fun m8 kj b15 sw=>?_)
 have g15:=Mem.le_add sw (Rx.Zef [Zbh 97])
 have sA:Rep (m8.add b15 (Rx.Zef [Zbh 97])) (Zn7 2 3 (some ⟨b15,0,none⟩) 1):=Zde (Zdl (l:=[Zbh 97]) (Mem.le_refl _) (by intro x hx;simp at hx;subst hx;exact ZfF _ _) (by simp)) (by omega) (by omega) (by omega)
 have pm:=Zud _ _ sA
 rw[(Zum _ _).1,(Zum _ _).2]at pm
 refine Zat pm Zic (Ztd fun sa2 fa2 xa2 ya2 sc2 fc2 xc2 yc2 m9 oV hF b17=>?_)
 refine Zat (Zid 97 (by omega) _) Zdk (Zie fun m10 km b18 sB=>?_)
 have g18:=Mem.le_add sB (Rx.Zef [Zbh 97])
 have po:Rep (m10.add b18 (Rx.Zef [Zbh 97])) (Zn7 2 (-1) (some ⟨b18,0,none⟩) 1):=Zde (Zdl (l:=[Zbh 97]) (Mem.le_refl _) (by intro x hx;simp at hx;subst hx;exact ZfF _ _) (by simp)) (by omega) (by omega) (by omega)
 have pp:=Zud _ _ po
 rw[(Zsd _ _).1,(Zsd _ _).2]at pp
 refine Zat pp Zic (Ztd fun sa3 fa3 xa3 ya3 sc3 fc3 xc3 yc3 m11 mN vY b20=>?_)
 refine Zat (Zlm 97 (by omega) m11) Zkv (Zul fun m12 jc b21=>Zbo rfl ?_)
 have sC:m7.le m8:=Mem.le_trans hk kj
 have lG:m8.le m12:=Mem.le_trans g15 (Mem.le_trans oV (Mem.le_trans km (Mem.le_trans g18 (Mem.le_trans mN jc))))
 have h4_12:m4.le m12:=Mem.le_trans cX (Mem.le_trans fQ (Mem.le_trans jy (Mem.le_trans sC lG)))
 refine Zah (Zkg nfS nfS _ _ m12 (hA.mono h4_12) (pk.mono (Mem.le_trans kj lG))) fun m13 jd=>Zbo (by decide) ?_
 intro b23 sD b24 sE b25 sF b26 sG b27 sH b28 sI
 have k23:=Mem.le_add sD (Zby [q1 97,q1 97,q1 97])
 have k24:=Mem.le_add sE (Zaq [0])
 have k25:=Mem.le_add sF (Zaq [1,2])
 have k26:=Mem.le_add sG (Zaq [1])
 have k27:=Mem.le_add sH (Zaq [2])
 have k28:=Mem.le_add sI [Value.slice (some ⟨b26,0,none⟩) 1 1,Value.slice (some ⟨b27,0,none⟩) 1 1,Value.slice none 0 0]
 have fF:m13.le _:=Mem.le_trans k23 (Mem.le_trans k24 (Mem.le_trans k25 (Mem.le_trans k26 (Mem.le_trans k27 k28))))
 have mO:NfR false nfF (.agg #[.slice (some ⟨b23,0,none⟩) 3 3,.slice (some ⟨b28,0,none⟩) 3 3,.slice (some ⟨b24,0,none⟩) 1 1,.slice (some ⟨b25,0,none⟩) 2 2,.bool false]) _:=
  ⟨_,_,_,_,rfl,⟨_,3,rfl,Zay (cs:=Zby [q1 97,q1 97,q1 97]) (Mem.le_trans k24 (Mem.le_trans k25 (Mem.le_trans k26 (Mem.le_trans k27 k28)))),by decide,fun h=>by cases h⟩,
   Zmm (fol:=[[1],[2],[]]) (Zay (Mem.le_refl _)) rfl (by decide) (fun i v l hv hl=>by
    match i with
    | 0=>simp at hv hl;subst hv hl;exact ZcG (l:=[1]) (Zay (cs:=Zaq [1]) (Mem.le_trans k27 k28)) (by decide)
    | 1=>simp at hv hl;subst hv hl;exact ZcG (l:=[2]) (Zay (cs:=Zaq [2]) k28) (by decide)
    | 2=>simp at hv hl;subst hv hl;exact ZcG (l:=[]) (.inl rfl) (by decide)
    | i+3=>simp at hv),
   ZcG (l:=[0]) (Zay (cs:=Zaq [0]) (Mem.le_trans k25 (Mem.le_trans k26 (Mem.le_trans k27 k28)))) (by decide),
   ZcG (l:=[1,2]) (Zay (cs:=Zaq [1,2]) (Mem.le_trans k26 (Mem.le_trans k27 k28))) (by decide)⟩
 have h9_13:m9.le m13:=Mem.le_trans km (Mem.le_trans g18 (Mem.le_trans mN (Mem.le_trans jc jd)))
 refine Zah (Zkg nfF nfF _ _ _ ((hF.mono h9_13).mono fF) mO) fun m14 jC=>Zbo (by decide) ?_
 intro b30 sJ b31 sK b32 sL b33 sM b34 sN b35 sO
 have l30:=Mem.le_add sJ (Zby [q1 97,q1 97])
 have l31:=Mem.le_add sK (Zaq [0])
 have l32:=Mem.le_add sL (Zaq [1])
 have l33:=Mem.le_add sM (Zaq [1])
 have l34:=Mem.le_add sN (Zaq [1])
 have l35:=Mem.le_add sO [Value.slice (some ⟨b33,0,none⟩) 1 1,Value.slice (some ⟨b34,0,none⟩) 1 1]
 have dM:m14.le _:=Mem.le_trans l30 (Mem.le_trans l31 (Mem.le_trans l32 (Mem.le_trans l33 (Mem.le_trans l34 l35))))
 have mP:NfR false nfM (.agg #[.slice (some ⟨b30,0,none⟩) 2 2,.slice (some ⟨b35,0,none⟩) 2 2,.slice (some ⟨b31,0,none⟩) 1 1,.slice (some ⟨b32,0,none⟩) 1 1,.bool false]) _:=
  ⟨_,_,_,_,rfl,⟨_,2,rfl,Zay (cs:=Zby [q1 97,q1 97]) (Mem.le_trans l31 (Mem.le_trans l32 (Mem.le_trans l33 (Mem.le_trans l34 l35)))),by decide,fun h=>by cases h⟩,
   Zmm (fol:=[[1],[1]]) (Zay (Mem.le_refl _)) rfl (by decide) (fun i v l hv hl=>by
    match i with
    | 0=>simp at hv hl;subst hv hl;exact ZcG (l:=[1]) (Zay (cs:=Zaq [1]) (Mem.le_trans l34 l35)) (by decide)
    | 1=>simp at hv hl;subst hv hl;exact ZcG (l:=[1]) (Zay (cs:=Zaq [1]) l35) (by decide)
    | i+2=>simp at hv),
   ZcG (l:=[0]) (Zay (cs:=Zaq [0]) (Mem.le_trans l32 (Mem.le_trans l33 (Mem.le_trans l34 l35)))) (by decide),
   ZcG (l:=[1]) (Zay (cs:=Zaq [1]) (Mem.le_trans l33 (Mem.le_trans l34 l35))) (by decide)⟩
 have h11_14:m11.le m14:=Mem.le_trans jc (Mem.le_trans jd (Mem.le_trans fF jC))
 refine Zah (Zkg nfM nfM _ _ _ ((vY.mono h11_14).mono dM) mP) fun m15 jD=>Zbo (by decide) ?_
 have h4_15:m4.le m15:=Mem.le_trans h4_12 (Mem.le_trans jd (Mem.le_trans fF (Mem.le_trans jC (Mem.le_trans dM jD))))
 have tW:∀q∈nfS.sets,QOk q:=by
  intro q hq
  simp only[nfS,List.mem_cons,List.not_mem_nil,or_false]at hq
  rcases hq with rfl|rfl|rfl <;> exact ZvA (by omega)
 have tX:∀q∈nfC.sets,QOk q:=by
  intro q hq
  simp only[nfC,List.mem_cons,List.not_mem_nil,or_false]at hq
  rcases hq with rfl|rfl <;> exact ZvA (by omega)
 intro b37 sP
 have j37:=Mem.le_add sP (Zaq [-1])
 have sj:=Zr8 nfS tW _ [-1] (some ⟨b37,0,none⟩) 1 97 (by omega) _ ((hA.mono h4_15).mono j37) (Zay (cs:=Zaq [-1]) (Mem.le_refl _)) (by decide)
 rw[ZfX.1,if_pos rfl,ZfX.2.1]at sj
 refine Zat sj (by rintro v m' css ⟨w,rfl,a,c,rfl,_⟩;rfl) ?_
 rintro a71 n70 c16 n71 m16 iA ⟨w,hv,a,c,rfl,pq,_⟩
 simp only[Value.tuple.injEq,Array.mk.injEq,List.cons.injEq,Value.slice.injEq,Value.int.injEq,true_and,and_true]at hv
 obtain⟨⟨rfl,rfl,rfl⟩,rfl⟩:=hv
 intro b38 sQ
 have j38:=Mem.le_add sQ (Zaq [-1])
 have ic:=Zr8 nfS tW _ [-1] (some ⟨b38,0,none⟩) 1 98 (by omega) _ ((hA.mono (Mem.le_trans h4_15 (Mem.le_trans j37 iA))).mono j38) (Zay (cs:=Zaq [-1]) (Mem.le_refl _)) (by decide)
 rw[ZfX.1,if_pos rfl,ZfX.2.2]at ic
 refine Zat ic (by rintro v m' css ⟨w,rfl,a,c,rfl,_⟩;rfl) ?_
 rintro a72 n72 c17 n73 m17 k6 ⟨w,hv,a,c,rfl,iS,_⟩
 simp only[Value.tuple.injEq,Array.mk.injEq,List.cons.injEq,Value.slice.injEq,Value.int.injEq,true_and,and_true]at hv
 obtain⟨⟨rfl,rfl,rfl⟩,rfl⟩:=hv
 have h15_17:m15.le m17:=Mem.le_trans j37 (Mem.le_trans iA (Mem.le_trans j38 k6))
 have pr:M.le m17:=Mem.le_trans dC (Mem.le_trans h4_15 h15_17)
 have pu:=Zud _ _ (pi m17 pr)
 rw[(Zun _ _).1,(Zun _ _).2]at pu
 refine Zat pu Zic (Ztd fun sa4 fa4 xa4 ya4 sc4 fc4 xc4 yc4 m18 jE hC b39 b40 sR=>?_)
 have j40:=Mem.le_add sR ([97,98,97,98].map fun c:Nat=>Value.int .u8 c)
 have pv:=Zl1 nfC Zif.1 tX _ [97,98,97,98] (some ⟨b40,0,none⟩) 4 _ (hC.mono j40) (ZrZ _ (by decide))
 have pw:nfC.runE [97,98,97,98].length=0:=by kernel_rfl
 rw[pw,if_pos rfl,Zif.2.1]at pv
 refine Zat pv Zn5 (Zvc fun a82 c20 m19 mQ kb _=>?_)
 refine Zat (Zpc nfC _ m19 (hC.mono (Mem.le_trans j40 mQ)) Zif.1) Zic (Ztd fun sa5 fa5 xa5 ya5 sc5 fc5 xc5 yc5 m20 px hT b41 b42 sS=>?_)
 have j42:=Mem.le_add sS ([98,97].map fun c:Nat=>Value.int .u8 c)
 have tY:=Zn6 nfC.turn tX _ [98,97] (some ⟨b42,0,none⟩) 2 _ (hT.mono j42) (ZrZ _ (by decide)) (by decide)
 rw[Zif.2.2.1,Zif.2.2.2,if_pos rfl]at tY
 refine Zat tY (by rintro v m' css rfl;rfl) ?_
 rintro bb n85 m21 py hv
 simp only[Ret,Value.tuple.injEq,Array.mk.injEq,List.cons.injEq,Value.bool.injEq,Value.int.injEq,true_and,and_true]at hv
 obtain⟨rfl,rfl⟩:=hv
 have h16_21:m16.le m21:=Mem.le_trans j38 (Mem.le_trans k6 (Mem.le_trans jE (Mem.le_trans j40 (Mem.le_trans mQ (Mem.le_trans px (Mem.le_trans j42 py))))))
 have h19_21:m19.le m21:=Mem.le_trans px (Mem.le_trans j42 py)
 have h0_1:m.le M:=Mem.le_trans bD (Mem.le_trans bZ (Mem.le_trans (Mem.le_add p8 _) gj))
 have h0_21:m.le m21:=Mem.le_trans h0_1 (Mem.le_trans pr (Mem.le_trans jE (Mem.le_trans j40 (Mem.le_trans mQ h19_21))))
 refine Zcc rfl fun b43 sT=>?_
 have j43:=Mem.le_add sT (Zaq [0])
 refine Zah (ZiB [0] [0] a71 (some ⟨b43,0,none⟩) c16 1 _ ((pq.mono h16_21).mono j43) (Zay (cs:=Zaq [0]) (Mem.le_refl _)) (by decide)) fun m22 pz=>Zcc (by decide) (Zcc rfl fun b45 sU=>?_)
 have j45:=Mem.le_add sU (Zaq [2,4])
 refine Zah (ZiB [2,4] [2,4] a82 (some ⟨b45,0,none⟩) c20 2 _ ((kb.mono (Mem.le_trans h19_21 (Mem.le_trans j43 pz))).mono j45) (Zay (cs:=Zaq [2,4]) (Mem.le_refl _)) (by decide)) fun m23 mz=>Zcc (by decide) ?_
 exact Zad (Mem.le_trans h0_21 (Mem.le_trans j43 (Mem.le_trans pz (Mem.le_trans j45 mz)))) rfl
end Go.Proofs.Ytplacemlpkhmfaa

