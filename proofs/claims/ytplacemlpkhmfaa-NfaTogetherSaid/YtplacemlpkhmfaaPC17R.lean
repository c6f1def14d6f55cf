/- Part of the proof: conditions and contracts of functions of this program. No condition of its own. -/
import Derived.Test.YtplacemlpkhmfaaPC17Q
import Derived.Test.YtplacemlpkhmfaaPC13H
set_option linter.unusedVariables false
set_option linter.unusedSimpArgs false
namespace Go.Proofs.Ytplacemlpkhmfaa
open Go Go.Eng Go.Rx Go.Proofs Go.RowKit
set_option maxRecDepth 100000
theorem Zqi(m:Mem):CX Try.prog 12 #[] m [] (Ret (.bool true)):=by
 apply Zjd
 unfold Zf9
 refine Zam (ZiV 97 (by omega) m) ZdX (ZiW fun m1 bJ=>?_)
 refine Zam (ZiV 98 (by omega) m1) ZdX (ZiW fun m2 bP=>?_)
 intro b j9 b1
 refine⟨fun _ _ _=>Ret (Zbw 99).v,_,rfl,ZiV 99 (by omega) _,ZdX,ZiW fun m3 cJ b2 mu b3 wp b4 M gC fJ ju jI=>?_⟩
 have po:∀M':Mem,M.le M'→Rep M' (Zwy (some ⟨b,0,none⟩) 2):=fun M' h=>
  Za5 (ZdY (l:=[Zbw 97,Zbw 98]) (Mem.le_trans gC h) (by intro x hx;simp at hx;rcases hx with rfl|rfl <;> exact Zgp _ _) (by simp)) (by omega) (by omega) (by omega)
 have halt:Rep M (Zbb 4 0 0 (some ⟨b2,0,none⟩) 2 [Zwy (some ⟨b,0,none⟩) 2,Zbw 99]):=
  Za5 (ZdY (l:=[Zwy (some ⟨b,0,none⟩) 2,Zbw 99]) ju (by intro x hx;simp at hx;rcases hx with rfl|rfl;exact po M (Mem.le_refl _);exact Zgp _ _) (by simp)) (by omega) (by omega) (by omega)
 have pp:Rep M (Zwa (some ⟨b3,0,none⟩) (some ⟨b2,0,none⟩) (some ⟨b,0,none⟩) 1 2 2):=
  Za5 (ZdY (l:=[Zbb 4 0 0 (some ⟨b2,0,none⟩) 2 [Zwy (some ⟨b,0,none⟩) 2,Zbw 99]]) jI (by intro x hx;simp at hx;subst hx;exact halt) (by simp)) (by omega) (by omega) (by omega)
 have nE:=ZsE _ M pp
 rw[(Ztq _ _ _ _ _ _).1,(Ztq _ _ _ _ _ _).2]at nE
 refine Zam nE ZeR (Zrl fun sa fa xa ya sc fc xc yc m4 cY hA b6=>?_)
 refine Zam (Zl4 97 (by omega) m4) Zla (ZvC fun m5 eA=>?_)
 refine Zam (Zl4 98 (by omega) m5) Zla (ZvC fun m6 i8=>?_)
 refine Zam (Zl4 99 (by omega) m6) Zla (ZvC fun m7 kX=>?_)
 intro b7 wq b8 wt b9 sI b10 pq b11 sJ b12 sK b13 sL b14
 have g7:=Mem.le_add wq (Zb4 [q1 97,q1 98,q1 99])
 have g8:=Mem.le_add wt (ZaM [0,2])
 have g9:=Mem.le_add sI (ZaM [1,2])
 have g10:=Mem.le_add pq (ZaM [1])
 have g11:=Mem.le_add sJ (ZaM [0,2])
 have g12:=Mem.le_add sK (ZaM [0,2])
 have g13:=Mem.le_add sL [Value.slice (some ⟨b10,0,none⟩) 1 1,Value.slice (some ⟨b11,0,none⟩) 2 2,Value.slice (some ⟨b12,0,none⟩) 2 2]
 have hk:m7.le _:=Mem.le_trans g7 (Mem.le_trans g8 (Mem.le_trans g9 (Mem.le_trans g10 (Mem.le_trans g11 (Mem.le_trans g12 g13)))))
 have pr:NfR false nfS (.agg #[.slice (some ⟨b7,0,none⟩) 3 3,.slice (some ⟨b13,0,none⟩) 3 3,.slice (some ⟨b8,0,none⟩) 2 2,.slice (some ⟨b9,0,none⟩) 2 2,.bool true]) _:=
  ⟨_,_,_,_,rfl,⟨_,3,rfl,ZaF (cs:=Zb4 [q1 97,q1 98,q1 99]) (Mem.le_trans g8 (Mem.le_trans g9 (Mem.le_trans g10 (Mem.le_trans g11 (Mem.le_trans g12 g13))))),by decide,fun h=>by cases h⟩,
   Zm7 (fol:=[[1],[0,2],[0,2]]) (ZaF (Mem.le_refl _)) rfl (by decide) (fun i v l hv hl=>by
    match i with
    | 0=>simp at hv hl;subst hv hl;exact Zdd (l:=[1]) (ZaF (cs:=ZaM [1]) (Mem.le_trans g11 (Mem.le_trans g12 g13))) (by decide)
    | 1=>simp at hv hl;subst hv hl;exact Zdd (l:=[0,2]) (ZaF (cs:=ZaM [0,2]) (Mem.le_trans g12 g13)) (by decide)
    | 2=>simp at hv hl;subst hv hl;exact Zdd (l:=[0,2]) (ZaF (cs:=ZaM [0,2]) g13) (by decide)
    | i+3=>simp at hv),
   Zdd (l:=[0,2]) (ZaF (cs:=ZaM [0,2]) (Mem.le_trans g9 (Mem.le_trans g10 (Mem.le_trans g11 (Mem.le_trans g12 g13))))) (by decide),
   Zdd (l:=[1,2]) (ZaF (cs:=ZaM [1,2]) (Mem.le_trans g10 (Mem.le_trans g11 (Mem.le_trans g12 g13)))) (by decide)⟩
 refine Zam (ZiV 97 (by omega) _) ZdX (ZiW fun m8 kp b15 sM=>?_)
 have g15:=Mem.le_add sM (Rx.Zco [Zbw 97])
 have sN:Rep (m8.add b15 (Rx.Zco [Zbw 97])) (Zo3 2 3 (some ⟨b15,0,none⟩) 1):=Za5 (ZdY (l:=[Zbw 97]) (Mem.le_refl _) (by intro x hx;simp at hx;subst hx;exact Zgp _ _) (by simp)) (by omega) (by omega) (by omega)
 have jA:=ZsE _ _ sN
 rw[(ZvD _ _).1,(ZvD _ _).2]at jA
 refine Zam jA ZeR (Zrl fun sa2 fa2 xa2 ya2 sc2 fc2 xc2 yc2 m9 nA hF b17=>?_)
 refine Zam (ZiV 97 (by omega) _) ZdX (ZiW fun m10 jz b18 sO=>?_)
 have g18:=Mem.le_add sO (Rx.Zco [Zbw 97])
 have pu:Rep (m10.add b18 (Rx.Zco [Zbw 97])) (Zo3 2 (-1) (some ⟨b18,0,none⟩) 1):=Za5 (ZdY (l:=[Zbw 97]) (Mem.le_refl _) (by intro x hx;simp at hx;subst hx;exact Zgp _ _) (by simp)) (by omega) (by omega) (by omega)
 have pv:=ZsE _ _ pu
 rw[(Ztr _ _).1,(Ztr _ _).2]at pv
 refine Zam pv ZeR (Zrl fun sa3 fa3 xa3 ya3 sc3 fc3 xc3 yc3 m11 kv wu b20=>?_)
 refine Zam (Zl4 97 (by omega) m11) Zla (ZvC fun m12 iv b21=>ZbD rfl ?_)
 have sP:m7.le m8:=Mem.le_trans hk kp
 have lH:m8.le m12:=Mem.le_trans g15 (Mem.le_trans nA (Mem.le_trans jz (Mem.le_trans g18 (Mem.le_trans kv iv))))
 have h4_12:m4.le m12:=Mem.le_trans eA (Mem.le_trans i8 (Mem.le_trans kX (Mem.le_trans sP lH)))
 refine Zai (Zm6 nfS nfS _ _ m12 (hA.mono h4_12) (pr.mono (Mem.le_trans kp lH))) fun m13 iQ=>ZbD (by decide) ?_
 intro b23 sQ b24 sR b25 sS b26 sT b27 sU b28 sV
 have k23:=Mem.le_add sQ (Zb4 [q1 97,q1 97,q1 97])
 have k24:=Mem.le_add sR (ZaM [0])
 have k25:=Mem.le_add sS (ZaM [1,2])
 have k26:=Mem.le_add sT (ZaM [1])
 have k27:=Mem.le_add sU (ZaM [2])
 have k28:=Mem.le_add sV [Value.slice (some ⟨b26,0,none⟩) 1 1,Value.slice (some ⟨b27,0,none⟩) 1 1,Value.slice none 0 0]
 have eC:m13.le _:=Mem.le_trans k23 (Mem.le_trans k24 (Mem.le_trans k25 (Mem.le_trans k26 (Mem.le_trans k27 k28))))
 have mR:NfR false nfF (.agg #[.slice (some ⟨b23,0,none⟩) 3 3,.slice (some ⟨b28,0,none⟩) 3 3,.slice (some ⟨b24,0,none⟩) 1 1,.slice (some ⟨b25,0,none⟩) 2 2,.bool false]) _:=
  ⟨_,_,_,_,rfl,⟨_,3,rfl,ZaF (cs:=Zb4 [q1 97,q1 97,q1 97]) (Mem.le_trans k24 (Mem.le_trans k25 (Mem.le_trans k26 (Mem.le_trans k27 k28)))),by decide,fun h=>by cases h⟩,
   Zm7 (fol:=[[1],[2],[]]) (ZaF (Mem.le_refl _)) rfl (by decide) (fun i v l hv hl=>by
    match i with
    | 0=>simp at hv hl;subst hv hl;exact Zdd (l:=[1]) (ZaF (cs:=ZaM [1]) (Mem.le_trans k27 k28)) (by decide)
    | 1=>simp at hv hl;subst hv hl;exact Zdd (l:=[2]) (ZaF (cs:=ZaM [2]) k28) (by decide)
    | 2=>simp at hv hl;subst hv hl;exact Zdd (l:=[]) (.inl rfl) (by decide)
    | i+3=>simp at hv),
   Zdd (l:=[0]) (ZaF (cs:=ZaM [0]) (Mem.le_trans k25 (Mem.le_trans k26 (Mem.le_trans k27 k28)))) (by decide),
   Zdd (l:=[1,2]) (ZaF (cs:=ZaM [1,2]) (Mem.le_trans k26 (Mem.le_trans k27 k28))) (by decide)⟩
 have h9_13:m9.le m13:=Mem.le_trans jz (Mem.le_trans g18 (Mem.le_trans kv (Mem.le_trans iv iQ)))
 refine Zai (Zm6 nfF nfF _ _ _ ((hF.mono h9_13).mono eC) mR) fun m14 gY=>ZbD (by decide) ?_
 intro b30 sW b31 sX b32 sY b33 sZ b34 s4 b35 s5
 have l30:=Mem.le_add sW (Zb4 [q1 97,q1 97])
 have l31:=Mem.le_add sX (ZaM [0])
 have l32:=Mem.le_add sY (ZaM [1])
 have l33:=Mem.le_add sZ (ZaM [1])
 have l34:=Mem.le_add s4 (ZaM [1])
 have l35:=Mem.le_add s5 [Value.slice (some ⟨b33,0,none⟩) 1 1,Value.slice (some ⟨b34,0,none⟩) 1 1]
 have fH:m14.le _:=Mem.le_trans l30 (Mem.le_trans l31 (Mem.le_trans l32 (Mem.le_trans l33 (Mem.le_trans l34 l35))))
 have mS:NfR false nfM (.agg #[.slice (some ⟨b30,0,none⟩) 2 2,.slice (some ⟨b35,0,none⟩) 2 2,.slice (some ⟨b31,0,none⟩) 1 1,.slice (some ⟨b32,0,none⟩) 1 1,.bool false]) _:=
  ⟨_,_,_,_,rfl,⟨_,2,rfl,ZaF (cs:=Zb4 [q1 97,q1 97]) (Mem.le_trans l31 (Mem.le_trans l32 (Mem.le_trans l33 (Mem.le_trans l34 l35)))),by decide,fun h=>by cases h⟩,
   Zm7 (fol:=[[1],[1]]) (ZaF (Mem.le_refl _)) rfl (by decide) (fun i v l hv hl=>by
    match i with
    | 0=>simp at hv hl;subst hv hl;exact Zdd (l:=[1]) (ZaF (cs:=ZaM [1]) (Mem.le_trans l34 l35)) (by decide)
    | 1=>simp at hv hl;subst hv hl;exact Zdd (l:=[1]) (ZaF (cs:=ZaM [1]) l35) (by decide)
    | i+2=>simp at hv),
   Zdd (l:=[0]) (ZaF (cs:=ZaM [0]) (Mem.le_trans l32 (Mem.le_trans l33 (Mem.le_trans l34 l35)))) (by decide),
   Zdd (l:=[1]) (ZaF (cs:=ZaM [1]) (Mem.le_trans l33 (Mem.le_trans l34 l35))) (by decide)⟩
 have h11_14:m11.le m14:=Mem.le_trans iv (Mem.le_trans iQ (Mem.le_trans eC gY))
 refine Zai (Zm6 nfM nfM _ _ _ ((wu.mono h11_14).mono fH) mS) fun m15 kZ=>ZbD (by decide) ?_
 have h4_15:m4.le m15:=Mem.le_trans h4_12 (Mem.le_trans iQ (Mem.le_trans eC (Mem.le_trans gY (Mem.le_trans fH kZ))))
 have uf:∀q∈nfS.sets,QOk q:=by
  intro q hq
  simp only[nfS,List.mem_cons,List.not_mem_nil,or_false]at hq
  rcases hq with rfl|rfl|rfl <;> exact Zw2 (by omega)
 have ug:∀q∈nfC.sets,QOk q:=by
  intro q hq
  simp only[nfC,List.mem_cons,List.not_mem_nil,or_false]at hq
  rcases hq with rfl|rfl <;> exact Zw2 (by omega)
 intro b37 s6
 have j37:=Mem.le_add s6 (ZaM [-1])
 have rU:=Zto nfS uf _ [-1] (some ⟨b37,0,none⟩) 1 97 (by omega) _ ((hA.mono h4_15).mono j37) (ZaF (cs:=ZaM [-1]) (Mem.le_refl _)) (by decide)
 rw[ZgC.1,if_pos rfl,ZgC.2.1]at rU
 refine Zam rU (by rintro v m' css ⟨w,rfl,a,c,rfl,_⟩;rfl) ?_
 rintro a71 n70 c16 n71 m16 je ⟨w,hv,a,c,rfl,gP,_⟩
 simp only[Value.tuple.injEq,Array.mk.injEq,List.cons.injEq,Value.slice.injEq,Value.int.injEq,true_and,and_true]at hv
 obtain⟨⟨rfl,rfl,rfl⟩,rfl⟩:=hv
 intro b38 s7
 have j38:=Mem.le_add s7 (ZaM [-1])
 have gj:=Zto nfS uf _ [-1] (some ⟨b38,0,none⟩) 1 98 (by omega) _ ((hA.mono (Mem.le_trans h4_15 (Mem.le_trans j37 je))).mono j38) (ZaF (cs:=ZaM [-1]) (Mem.le_refl _)) (by decide)
 rw[ZgC.1,if_pos rfl,ZgC.2.2]at gj
 refine Zam gj (by rintro v m' css ⟨w,rfl,a,c,rfl,_⟩;rfl) ?_
 rintro a72 n72 c17 n73 m17 jf ⟨w,hv,a,c,rfl,fC,_⟩
 simp only[Value.tuple.injEq,Array.mk.injEq,List.cons.injEq,Value.slice.injEq,Value.int.injEq,true_and,and_true]at hv
 obtain⟨⟨rfl,rfl,rfl⟩,rfl⟩:=hv
 have h15_17:m15.le m17:=Mem.le_trans j37 (Mem.le_trans je (Mem.le_trans j38 jf))
 have pw:M.le m17:=Mem.le_trans cY (Mem.le_trans h4_15 h15_17)
 have px:=ZsE _ _ (po m17 pw)
 rw[(ZvE _ _).1,(ZvE _ _).2]at px
 refine Zam px ZeR (Zrl fun sa4 fa4 xa4 ya4 sc4 fc4 xc4 yc4 m18 kw hC b39 b40 s8=>?_)
 have j40:=Mem.le_add s8 ([97,98,97,98].map fun c:Nat=>Value.int .u8 c)
 have py:=ZmJ nfC ZiX.1 ug _ [97,98,97,98] (some ⟨b40,0,none⟩) 4 _ (hC.mono j40) (Ztf _ (by decide))
 have pz:nfC.runE [97,98,97,98].length=0:=by kernel_rfl
 rw[pz,if_pos rfl,ZiX.2.1]at py
 refine Zam py Zo2 (Zwx fun a82 c20 m19 jB kg _=>?_)
 refine Zam (Zqh nfC _ m19 (hC.mono (Mem.le_trans j40 jB)) ZiX.1) ZeR (Zrl fun sa5 fa5 xa5 ya5 sc5 fc5 xc5 yc5 m20 pA hT b41 b42 s9=>?_)
 have j42:=Mem.le_add s9 ([98,97].map fun c:Nat=>Value.int .u8 c)
 have uh:=Zj9 nfC.turn ug _ [98,97] (some ⟨b42,0,none⟩) 2 _ (hT.mono j42) (Ztf _ (by decide)) (by decide)
 rw[ZiX.2.2.1,ZiX.2.2.2,if_pos rfl]at uh
 refine Zam uh (by rintro v m' css rfl;rfl) ?_
 rintro bb n85 m21 pB hv
 simp only[Ret,Value.tuple.injEq,Array.mk.injEq,List.cons.injEq,Value.bool.injEq,Value.int.injEq,true_and,and_true]at hv
 obtain⟨rfl,rfl⟩:=hv
 have h16_21:m16.le m21:=Mem.le_trans j38 (Mem.le_trans jf (Mem.le_trans kw (Mem.le_trans j40 (Mem.le_trans jB (Mem.le_trans pA (Mem.le_trans j42 pB))))))
 have h19_21:m19.le m21:=Mem.le_trans pA (Mem.le_trans j42 pB)
 have h0_1:m.le M:=Mem.le_trans bJ (Mem.le_trans bP (Mem.le_trans (Mem.le_add j9 _) gC))
 have h0_21:m.le m21:=Mem.le_trans h0_1 (Mem.le_trans pw (Mem.le_trans kw (Mem.le_trans j40 (Mem.le_trans jB h19_21))))
 refine ZcH rfl fun b43 td=>?_
 have j43:=Mem.le_add td (ZaM [0])
 refine Zai (Zqf [0] [0] a71 (some ⟨b43,0,none⟩) c16 1 _ ((gP.mono h16_21).mono j43) (ZaF (cs:=ZaM [0]) (Mem.le_refl _)) (by decide)) fun m22 pC=>ZcH (by decide) (ZcH rfl fun b45 te=>?_)
 have j45:=Mem.le_add te (ZaM [2,4])
 refine Zai (Zqf [2,4] [2,4] a82 (some ⟨b45,0,none⟩) c20 2 _ ((kg.mono (Mem.le_trans h19_21 (Mem.le_trans j43 pC))).mono j45) (ZaF (cs:=ZaM [2,4]) (Mem.le_refl _)) (by decide)) fun m23 mG=>ZcH (by decide) ?_
 exact Zag (Mem.le_trans h0_21 (Mem.le_trans j43 (Mem.le_trans pC (Mem.le_trans j45 mG)))) rfl
end Go.Proofs.Ytplacemlpkhmfaa

