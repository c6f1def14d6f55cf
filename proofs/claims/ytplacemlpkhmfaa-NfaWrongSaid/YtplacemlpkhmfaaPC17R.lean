/- Part of the proof: conditions and contracts of functions of this program. No condition of its own. -/
import Derived.Test.YtplacemlpkhmfaaPC17Q
import Derived.Test.YtplacemlpkhmfaaPC13H
set_option linter.unusedVariables false
set_option linter.unusedSimpArgs false
namespace Go.Proofs.Ytplacemlpkhmfaa
open Go Go.Eng Go.Rx Go.Proofs Go.RowKit
set_option maxRecDepth 100000
theorem ZpH(m:Mem):CX Try.prog 12 #[] m [] (Ret (.bool true)):=by
 apply ZiU
 unfold Zf0
 refine Zam (Ziv 97 (by omega) m) ZdJ (Ziw fun m1 bH=>?_)
 refine Zam (Ziv 98 (by omega) m1) ZdJ (Ziw fun m2 bN=>?_)
 intro b jZ b1
 refine⟨fun _ _ _=>Ret (Zaq 99).v,_,rfl,Ziv 99 (by omega) _,ZdJ,Ziw fun m3 cG b2 l5 b3 vW b4 M gR fN jA jB=>?_⟩
 have oQ:∀M':Mem,M.le M'→Rep M' (ZvX (some ⟨b,0,none⟩) 2):=fun M' h=>
  Zbh (ZdK (l:=[Zaq 97,Zaq 98]) (Mem.le_trans gR h) (by intro x hx;simp at hx;rcases hx with rfl|rfl <;> exact ZeO _ _) (by simp)) (by omega) (by omega) (by omega)
 have halt:Rep M (Za0 4 0 0 (some ⟨b2,0,none⟩) 2 [ZvX (some ⟨b,0,none⟩) 2,Zaq 99]):=
  Zbh (ZdK (l:=[ZvX (some ⟨b,0,none⟩) 2,Zaq 99]) jA (by intro x hx;simp at hx;rcases hx with rfl|rfl;exact oQ M (Mem.le_refl _);exact ZeO _ _) (by simp)) (by omega) (by omega) (by omega)
 have oR:Rep M (Zvw (some ⟨b3,0,none⟩) (some ⟨b2,0,none⟩) (some ⟨b,0,none⟩) 1 2 2):=
  Zbh (ZdK (l:=[Za0 4 0 0 (some ⟨b2,0,none⟩) 2 [ZvX (some ⟨b,0,none⟩) 2,Zaq 99]]) jB (by intro x hx;simp at hx;subst hx;exact halt) (by simp)) (by omega) (by omega) (by omega)
 have oS:=ZtM _ M oR
 rw[(ZsH _ _ _ _ _ _).1,(ZsH _ _ _ _ _ _).2]at oS
 refine Zam oS ZeE (Zr0 fun sa fa xa ya sc fc xc yc m4 cY hA b6=>?_)
 refine Zam (ZlB 97 (by omega) m4) ZkJ (Zu0 fun m5 dX=>?_)
 refine Zam (ZlB 98 (by omega) m5) ZkJ (Zu0 fun m6 gu=>?_)
 refine Zam (ZlB 99 (by omega) m6) ZkJ (Zu0 fun m7 lm=>?_)
 intro b7 pP b8 vX b9 vY b10 se b11 mu b12 sg b13 si b14
 have g7:=Mem.le_add pP (ZbU [q1 97,q1 98,q1 99])
 have g8:=Mem.le_add vX (ZaA [0,2])
 have g9:=Mem.le_add vY (ZaA [1,2])
 have g10:=Mem.le_add se (ZaA [1])
 have g11:=Mem.le_add mu (ZaA [0,2])
 have g12:=Mem.le_add sg (ZaA [0,2])
 have g13:=Mem.le_add si [Value.slice (some ⟨b10,0,none⟩) 1 1,Value.slice (some ⟨b11,0,none⟩) 2 2,Value.slice (some ⟨b12,0,none⟩) 2 2]
 have hk:m7.le _:=Mem.le_trans g7 (Mem.le_trans g8 (Mem.le_trans g9 (Mem.le_trans g10 (Mem.le_trans g11 (Mem.le_trans g12 g13)))))
 have oT:NfR false nfS (.agg #[.slice (some ⟨b7,0,none⟩) 3 3,.slice (some ⟨b13,0,none⟩) 3 3,.slice (some ⟨b8,0,none⟩) 2 2,.slice (some ⟨b9,0,none⟩) 2 2,.bool true]) _:=
  ⟨_,_,_,_,rfl,⟨_,3,rfl,ZaB (cs:=ZbU [q1 97,q1 98,q1 99]) (Mem.le_trans g8 (Mem.le_trans g9 (Mem.le_trans g10 (Mem.le_trans g11 (Mem.le_trans g12 g13))))),by decide,fun h=>by cases h⟩,
   Zmx (fol:=[[1],[0,2],[0,2]]) (ZaB (Mem.le_refl _)) rfl (by decide) (fun i v l hv hl=>by
    match i with
    | 0=>simp at hv hl;subst hv hl;exact ZcZ (l:=[1]) (ZaB (cs:=ZaA [1]) (Mem.le_trans g11 (Mem.le_trans g12 g13))) (by decide)
    | 1=>simp at hv hl;subst hv hl;exact ZcZ (l:=[0,2]) (ZaB (cs:=ZaA [0,2]) (Mem.le_trans g12 g13)) (by decide)
    | 2=>simp at hv hl;subst hv hl;exact ZcZ (l:=[0,2]) (ZaB (cs:=ZaA [0,2]) g13) (by decide)
    | i+3=>simp at hv),
   ZcZ (l:=[0,2]) (ZaB (cs:=ZaA [0,2]) (Mem.le_trans g9 (Mem.le_trans g10 (Mem.le_trans g11 (Mem.le_trans g12 g13))))) (by decide),
   ZcZ (l:=[1,2]) (ZaB (cs:=ZaA [1,2]) (Mem.le_trans g10 (Mem.le_trans g11 (Mem.le_trans g12 g13)))) (by decide)⟩
 refine Zam (Ziv 97 (by omega) _) ZdJ (Ziw fun m8 kp b15 sj=>?_)
 have g15:=Mem.le_add sj (Rx.Zcc [Zaq 97])
 have sk:Rep (m8.add b15 (Rx.Zcc [Zaq 97])) (Zop 2 3 (some ⟨b15,0,none⟩) 1):=Zbh (ZdK (l:=[Zaq 97]) (Mem.le_refl _) (by intro x hx;simp at hx;subst hx;exact ZeO _ _) (by simp)) (by omega) (by omega) (by omega)
 have oU:=ZtM _ _ sk
 rw[(Zu1 _ _).1,(Zu1 _ _).2]at oU
 refine Zam oU ZeE (Zr0 fun sa2 fa2 xa2 ya2 sc2 fc2 xc2 yc2 m9 mY hF b17=>?_)
 refine Zam (Ziv 97 (by omega) _) ZdJ (Ziw fun m10 jp b18 sm=>?_)
 have g18:=Mem.le_add sm (Rx.Zcc [Zaq 97])
 have oV:Rep (m10.add b18 (Rx.Zcc [Zaq 97])) (Zop 2 (-1) (some ⟨b18,0,none⟩) 1):=Zbh (ZdK (l:=[Zaq 97]) (Mem.le_refl _) (by intro x hx;simp at hx;subst hx;exact ZeO _ _) (by simp)) (by omega) (by omega) (by omega)
 have oW:=ZtM _ _ oV
 rw[(ZsI _ _).1,(ZsI _ _).2]at oW
 refine Zam oW ZeE (Zr0 fun sa3 fa3 xa3 ya3 sc3 fc3 xc3 yc3 m11 kh vZ b20=>?_)
 refine Zam (ZlB 97 (by omega) m11) ZkJ (Zu0 fun m12 jr b21=>Zbz rfl ?_)
 have sq:m7.le m8:=Mem.le_trans hk kp
 have lq:m8.le m12:=Mem.le_trans g15 (Mem.le_trans mY (Mem.le_trans jp (Mem.le_trans g18 (Mem.le_trans kh jr))))
 have h4_12:m4.le m12:=Mem.le_trans dX (Mem.le_trans gu (Mem.le_trans lm (Mem.le_trans sq lq)))
 refine Zaj (Ziq nfS nfS _ _ m12 (hA.mono h4_12) (oT.mono (Mem.le_trans kp lq))) fun m13 js=>Zbz (by decide) ?_
 intro b23 sr b24 ss b25 su b26 sw b27 sA b28 sB
 have k23:=Mem.le_add sr (ZbU [q1 97,q1 97,q1 97])
 have k24:=Mem.le_add ss (ZaA [0])
 have k25:=Mem.le_add su (ZaA [1,2])
 have k26:=Mem.le_add sw (ZaA [1])
 have k27:=Mem.le_add sA (ZaA [2])
 have k28:=Mem.le_add sB [Value.slice (some ⟨b26,0,none⟩) 1 1,Value.slice (some ⟨b27,0,none⟩) 1 1,Value.slice none 0 0]
 have dZ:m13.le _:=Mem.le_trans k23 (Mem.le_trans k24 (Mem.le_trans k25 (Mem.le_trans k26 (Mem.le_trans k27 k28))))
 have mw:NfR false nfF (.agg #[.slice (some ⟨b23,0,none⟩) 3 3,.slice (some ⟨b28,0,none⟩) 3 3,.slice (some ⟨b24,0,none⟩) 1 1,.slice (some ⟨b25,0,none⟩) 2 2,.bool false]) _:=
  ⟨_,_,_,_,rfl,⟨_,3,rfl,ZaB (cs:=ZbU [q1 97,q1 97,q1 97]) (Mem.le_trans k24 (Mem.le_trans k25 (Mem.le_trans k26 (Mem.le_trans k27 k28)))),by decide,fun h=>by cases h⟩,
   Zmx (fol:=[[1],[2],[]]) (ZaB (Mem.le_refl _)) rfl (by decide) (fun i v l hv hl=>by
    match i with
    | 0=>simp at hv hl;subst hv hl;exact ZcZ (l:=[1]) (ZaB (cs:=ZaA [1]) (Mem.le_trans k27 k28)) (by decide)
    | 1=>simp at hv hl;subst hv hl;exact ZcZ (l:=[2]) (ZaB (cs:=ZaA [2]) k28) (by decide)
    | 2=>simp at hv hl;subst hv hl;exact ZcZ (l:=[]) (.inl rfl) (by decide)
    | i+3=>simp at hv),
   ZcZ (l:=[0]) (ZaB (cs:=ZaA [0]) (Mem.le_trans k25 (Mem.le_trans k26 (Mem.le_trans k27 k28)))) (by decide),
   ZcZ (l:=[1,2]) (ZaB (cs:=ZaA [1,2]) (Mem.le_trans k26 (Mem.le_trans k27 k28))) (by decide)⟩
 have h9_13:m9.le m13:=Mem.le_trans jp (Mem.le_trans g18 (Mem.le_trans kh (Mem.le_trans jr js)))
 refine Zaj (Ziq nfF nfF _ _ _ ((hF.mono h9_13).mono dZ) mw) fun m14 kj=>Zbz (by decide) ?_
 intro b30 sC b31 sD b32 sE b33 sF b34 sG b35 sH
 have l30:=Mem.le_add sC (ZbU [q1 97,q1 97])
 have l31:=Mem.le_add sD (ZaA [0])
 have l32:=Mem.le_add sE (ZaA [1])
 have l33:=Mem.le_add sF (ZaA [1])
 have l34:=Mem.le_add sG (ZaA [1])
 have l35:=Mem.le_add sH [Value.slice (some ⟨b33,0,none⟩) 1 1,Value.slice (some ⟨b34,0,none⟩) 1 1]
 have eL:m14.le _:=Mem.le_trans l30 (Mem.le_trans l31 (Mem.le_trans l32 (Mem.le_trans l33 (Mem.le_trans l34 l35))))
 have my:NfR false nfM (.agg #[.slice (some ⟨b30,0,none⟩) 2 2,.slice (some ⟨b35,0,none⟩) 2 2,.slice (some ⟨b31,0,none⟩) 1 1,.slice (some ⟨b32,0,none⟩) 1 1,.bool false]) _:=
  ⟨_,_,_,_,rfl,⟨_,2,rfl,ZaB (cs:=ZbU [q1 97,q1 97]) (Mem.le_trans l31 (Mem.le_trans l32 (Mem.le_trans l33 (Mem.le_trans l34 l35)))),by decide,fun h=>by cases h⟩,
   Zmx (fol:=[[1],[1]]) (ZaB (Mem.le_refl _)) rfl (by decide) (fun i v l hv hl=>by
    match i with
    | 0=>simp at hv hl;subst hv hl;exact ZcZ (l:=[1]) (ZaB (cs:=ZaA [1]) (Mem.le_trans l34 l35)) (by decide)
    | 1=>simp at hv hl;subst hv hl;exact ZcZ (l:=[1]) (ZaB (cs:=ZaA [1]) l35) (by decide)
    | i+2=>simp at hv),
   ZcZ (l:=[0]) (ZaB (cs:=ZaA [0]) (Mem.le_trans l32 (Mem.le_trans l33 (Mem.le_trans l34 l35)))) (by decide),
   ZcZ (l:=[1]) (ZaB (cs:=ZaA [1]) (Mem.le_trans l33 (Mem.le_trans l34 l35))) (by decide)⟩
 have h11_14:m11.le m14:=Mem.le_trans jr (Mem.le_trans js (Mem.le_trans dZ kj))
 refine Zaj (Ziq nfM nfM _ _ _ ((vZ.mono h11_14).mono eL) my) fun m15 sI=>Zbz (by decide) ?_
 have h4_15:m4.le m15:=Mem.le_trans h4_12 (Mem.le_trans js (Mem.le_trans dZ (Mem.le_trans kj (Mem.le_trans eL sI))))
 have tO:∀q∈nfS.sets,QOk q:=by
  intro q hq
  simp only[nfS,List.mem_cons,List.not_mem_nil,or_false]at hq
  rcases hq with rfl|rfl|rfl <;> exact Zwm (by omega)
 have tP:∀q∈nfC.sets,QOk q:=by
  intro q hq
  simp only[nfC,List.mem_cons,List.not_mem_nil,or_false]at hq
  rcases hq with rfl|rfl <;> exact Zwm (by omega)
 intro b37 sJ
 have j37:=Mem.le_add sJ (ZaA [-1])
 have ru:=ZqD nfS tO _ [-1] (some ⟨b37,0,none⟩) 1 97 (by omega) _ ((hA.mono h4_15).mono j37) (ZaB (cs:=ZaA [-1]) (Mem.le_refl _)) (by decide)
 rw[Zgo.1,if_pos rfl,Zgo.2.1]at ru
 refine Zam ru (by rintro v m' css ⟨w,rfl,a,c,rfl,_⟩;rfl) ?_
 rintro a71 n70 c16 n71 m16 oX ⟨w,hv,a,c,rfl,gH,_⟩
 simp only[Value.tuple.injEq,Array.mk.injEq,List.cons.injEq,Value.slice.injEq,Value.int.injEq,true_and,and_true]at hv
 obtain⟨⟨rfl,rfl,rfl⟩,rfl⟩:=hv
 intro b38 sK
 have j38:=Mem.le_add sK (ZaA [-1])
 have gk:=ZqD nfS tO _ [-1] (some ⟨b38,0,none⟩) 1 98 (by omega) _ ((hA.mono (Mem.le_trans h4_15 (Mem.le_trans j37 oX))).mono j38) (ZaB (cs:=ZaA [-1]) (Mem.le_refl _)) (by decide)
 rw[Zgo.1,if_pos rfl,Zgo.2.2]at gk
 refine Zam gk (by rintro v m' css ⟨w,rfl,a,c,rfl,_⟩;rfl) ?_
 rintro a72 n72 c17 n73 m17 kL ⟨w,hv,a,c,rfl,eS,_⟩
 simp only[Value.tuple.injEq,Array.mk.injEq,List.cons.injEq,Value.slice.injEq,Value.int.injEq,true_and,and_true]at hv
 obtain⟨⟨rfl,rfl,rfl⟩,rfl⟩:=hv
 have h15_17:m15.le m17:=Mem.le_trans j37 (Mem.le_trans oX (Mem.le_trans j38 kL))
 have oY:M.le m17:=Mem.le_trans cY (Mem.le_trans h4_15 h15_17)
 have oZ:=ZtM _ _ (oQ m17 oY)
 rw[(Zu2 _ _).1,(Zu2 _ _).2]at oZ
 refine Zam oZ ZeE (Zr0 fun sa4 fa4 xa4 ya4 sc4 fc4 xc4 yc4 m18 mz hC b39 b40 sL=>?_)
 have j40:=Mem.le_add sL ([97,98,97,98].map fun c:Nat=>Value.int .u8 c)
 have o6:=Zmf nfC Zix.1 tP _ [97,98,97,98] (some ⟨b40,0,none⟩) 4 _ (hC.mono j40) (Zsw _ (by decide))
 have o7:nfC.runE [97,98,97,98].length=0:=by kernel_rfl
 rw[o7,if_pos rfl,Zix.2.1]at o6
 refine Zam o6 Zom (ZvW fun a82 c20 m19 mB j6 _=>?_)
 refine Zam (ZpC nfC _ m19 (hC.mono (Mem.le_trans j40 mB)) Zix.1) ZeE (Zr0 fun sa5 fa5 xa5 ya5 sc5 fc5 xc5 yc5 m20 o8 hT b41 b42 sM=>?_)
 have j42:=Mem.le_add sM ([98,97].map fun c:Nat=>Value.int .u8 c)
 have tQ:=Zon nfC.turn tP _ [98,97] (some ⟨b42,0,none⟩) 2 _ (hT.mono j42) (Zsw _ (by decide)) (by decide)
 rw[Zix.2.2.1,Zix.2.2.2,if_pos rfl]at tQ
 refine Zam tQ (by rintro v m' css rfl;rfl) ?_
 rintro bb n85 m21 o9 hv
 simp only[Ret,Value.tuple.injEq,Array.mk.injEq,List.cons.injEq,Value.bool.injEq,Value.int.injEq,true_and,and_true]at hv
 obtain⟨rfl,rfl⟩:=hv
 have h16_21:m16.le m21:=Mem.le_trans j38 (Mem.le_trans kL (Mem.le_trans mz (Mem.le_trans j40 (Mem.le_trans mB (Mem.le_trans o8 (Mem.le_trans j42 o9))))))
 have h19_21:m19.le m21:=Mem.le_trans o8 (Mem.le_trans j42 o9)
 have h0_1:m.le M:=Mem.le_trans bH (Mem.le_trans bN (Mem.le_trans (Mem.le_add jZ _) gR))
 have h0_21:m.le m21:=Mem.le_trans h0_1 (Mem.le_trans oY (Mem.le_trans mz (Mem.le_trans j40 (Mem.le_trans mB h19_21))))
 refine Zcx rfl fun b43 sN=>?_
 have j43:=Mem.le_add sN (ZaA [0])
 refine Zaj (Zpy [0] [0] a71 (some ⟨b43,0,none⟩) c16 1 _ ((gH.mono h16_21).mono j43) (ZaB (cs:=ZaA [0]) (Mem.le_refl _)) (by decide)) fun m22 iH=>Zcx (by decide) (Zcx rfl fun b45 sO=>?_)
 have j45:=Mem.le_add sO (ZaA [2,4])
 refine Zaj (Zpy [2,4] [2,4] a82 (some ⟨b45,0,none⟩) c20 2 _ ((j6.mono (Mem.le_trans h19_21 (Mem.le_trans j43 iH))).mono j45) (ZaB (cs:=ZaA [2,4]) (Mem.le_refl _)) (by decide)) fun m23 j3=>Zcx (by decide) ?_
 exact Zah (Mem.le_trans h0_21 (Mem.le_trans j43 (Mem.le_trans iH (Mem.le_trans j45 j3)))) rfl
end Go.Proofs.Ytplacemlpkhmfaa

