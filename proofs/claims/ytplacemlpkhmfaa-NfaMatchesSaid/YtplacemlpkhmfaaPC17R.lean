/- Part of the proof: conditions and contracts of functions of this program. No condition of its own. -/
import Derived.Test.YtplacemlpkhmfaaPC17Q
import Derived.Test.YtplacemlpkhmfaaPC13H
set_option linter.unusedVariables false
set_option linter.unusedSimpArgs false
namespace Go.Proofs.Ytplacemlpkhmfaa
open Go Go.Eng Go.Rx Go.Proofs Go.RowKit
set_option maxRecDepth 100000
theorem Zrn(m:Mem):CX Try.prog 12 #[] m [] (Ret (.bool true)):=by
 apply Zj4
 unfold ZgP
 refine Zap (ZjH 97 (by omega) m) Zd4 (ZjI fun m1 bJ=>?_)
 refine Zap (ZjH 98 (by omega) m1) Zd4 (ZjI fun m2 bT=>?_)
 intro b km b1
 refine⟨fun _ _ _=>Ret (Zbq 99).v,_,rfl,ZjH 99 (by omega) _,Zd4,ZjI fun m3 cH b2 mB b3 wj b4 M dR dG gW eJ=>?_⟩
 have ph:∀M':Mem,M.le M'→Rep M' (Zya (some ⟨b,0,none⟩) 2):=fun M' h=>
  Zb5 (Zd5 (l:=[Zbq 97,Zbq 98]) (Mem.le_trans dR h) (by intro x hx;simp at hx;rcases hx with rfl|rfl <;> exact Zg7 _ _) (by simp)) (by omega) (by omega) (by omega)
 have halt:Rep M (ZbD 4 0 0 (some ⟨b2,0,none⟩) 2 [Zya (some ⟨b,0,none⟩) 2,Zbq 99]):=
  Zb5 (Zd5 (l:=[Zya (some ⟨b,0,none⟩) 2,Zbq 99]) gW (by intro x hx;simp at hx;rcases hx with rfl|rfl;exact ph M (Mem.le_refl _);exact Zg7 _ _) (by simp)) (by omega) (by omega) (by omega)
 have pi:Rep M (ZxJ (some ⟨b3,0,none⟩) (some ⟨b2,0,none⟩) (some ⟨b,0,none⟩) 1 2 2):=
  Zb5 (Zd5 (l:=[ZbD 4 0 0 (some ⟨b2,0,none⟩) 2 [Zya (some ⟨b,0,none⟩) 2,Zbq 99]]) eJ (by intro x hx;simp at hx;subst hx;exact halt) (by simp)) (by omega) (by omega) (by omega)
 have pj:=Zv2 _ M pi
 rw[(ZuL _ _ _ _ _ _).1,(ZuL _ _ _ _ _ _).2]at pj
 refine Zap pj ZgA (ZuK fun sa fa xa ya sc fc xc yc m4 cQ hA b6=>?_)
 refine Zap (Zm7 97 (by omega) m4) Zmc (Zxg fun m5 cW=>?_)
 refine Zap (Zm7 98 (by omega) m5) Zmc (Zxg fun m6 eV=>?_)
 refine Zap (Zm7 99 (by omega) m6) Zmc (Zxg fun m7 jb=>?_)
 intro b7 wk b8 wl b9 wm b10 sH b11 sI b12 sJ b13 sK b14
 have g7:=Mem.le_add wk (ZbY [q1 97,q1 98,q1 99])
 have g8:=Mem.le_add wl (ZaA [0,2])
 have g9:=Mem.le_add wm (ZaA [1,2])
 have g10:=Mem.le_add sH (ZaA [1])
 have g11:=Mem.le_add sI (ZaA [0,2])
 have g12:=Mem.le_add sJ (ZaA [0,2])
 have g13:=Mem.le_add sK [Value.slice (some ⟨b10,0,none⟩) 1 1,Value.slice (some ⟨b11,0,none⟩) 2 2,Value.slice (some ⟨b12,0,none⟩) 2 2]
 have hk:m7.le _:=Mem.le_trans g7 (Mem.le_trans g8 (Mem.le_trans g9 (Mem.le_trans g10 (Mem.le_trans g11 (Mem.le_trans g12 g13)))))
 have pk:NfR false nfS (.agg #[.slice (some ⟨b7,0,none⟩) 3 3,.slice (some ⟨b13,0,none⟩) 3 3,.slice (some ⟨b8,0,none⟩) 2 2,.slice (some ⟨b9,0,none⟩) 2 2,.bool true]) _:=
  ⟨_,_,_,_,rfl,⟨_,3,rfl,ZaB (cs:=ZbY [q1 97,q1 98,q1 99]) (Mem.le_trans g8 (Mem.le_trans g9 (Mem.le_trans g10 (Mem.le_trans g11 (Mem.le_trans g12 g13))))),by decide,fun h=>by cases h⟩,
   Zn2 (fol:=[[1],[0,2],[0,2]]) (ZaB (Mem.le_refl _)) rfl (by decide) (fun i v l hv hl=>by
    match i with
    | 0=>simp at hv hl;subst hv hl;exact Zdf (l:=[1]) (ZaB (cs:=ZaA [1]) (Mem.le_trans g11 (Mem.le_trans g12 g13))) (by decide)
    | 1=>simp at hv hl;subst hv hl;exact Zdf (l:=[0,2]) (ZaB (cs:=ZaA [0,2]) (Mem.le_trans g12 g13)) (by decide)
    | 2=>simp at hv hl;subst hv hl;exact Zdf (l:=[0,2]) (ZaB (cs:=ZaA [0,2]) g13) (by decide)
    | i+3=>simp at hv),
   Zdf (l:=[0,2]) (ZaB (cs:=ZaA [0,2]) (Mem.le_trans g9 (Mem.le_trans g10 (Mem.le_trans g11 (Mem.le_trans g12 g13))))) (by decide),
   Zdf (l:=[1,2]) (ZaB (cs:=ZaA [1,2]) (Mem.le_trans g10 (Mem.le_trans g11 (Mem.le_trans g12 g13)))) (by decide)⟩
 refine Zap (ZjH 97 (by omega) _) Zd4 (ZjI fun m8 kH b15 sL=>?_)
 have g15:=Mem.le_add sL (Rx.Zdg [Zbq 97])
 have sM:Rep (m8.add b15 (Rx.Zdg [Zbq 97])) (Zp4 2 3 (some ⟨b15,0,none⟩) 1):=Zb5 (Zd5 (l:=[Zbq 97]) (Mem.le_refl _) (by intro x hx;simp at hx;subst hx;exact Zg7 _ _) (by simp)) (by omega) (by omega) (by omega)
 have pm:=Zv2 _ _ sM
 rw[(Zxh _ _).1,(Zxh _ _).2]at pm
 refine Zap pm ZgA (ZuK fun sa2 fa2 xa2 ya2 sc2 fc2 xc2 yc2 m9 qb hF b17=>?_)
 refine Zap (ZjH 97 (by omega) _) Zd4 (ZjI fun m10 jL b18 sN=>?_)
 have g18:=Mem.le_add sN (Rx.Zdg [Zbq 97])
 have pp:Rep (m10.add b18 (Rx.Zdg [Zbq 97])) (Zp4 2 (-1) (some ⟨b18,0,none⟩) 1):=Zb5 (Zd5 (l:=[Zbq 97]) (Mem.le_refl _) (by intro x hx;simp at hx;subst hx;exact Zg7 _ _) (by simp)) (by omega) (by omega) (by omega)
 have pq:=Zv2 _ _ pp
 rw[(ZuM _ _).1,(ZuM _ _).2]at pq
 refine Zap pq ZgA (ZuK fun sa3 fa3 xa3 ya3 sc3 fc3 xc3 yc3 m11 jp wn b20=>?_)
 refine Zap (Zm7 97 (by omega) m11) Zmc (Zxg fun m12 iV b21=>Za7 rfl ?_)
 have sO:m7.le m8:=Mem.le_trans hk kH
 have lS:m8.le m12:=Mem.le_trans g15 (Mem.le_trans qb (Mem.le_trans jL (Mem.le_trans g18 (Mem.le_trans jp iV))))
 have h4_12:m4.le m12:=Mem.le_trans cW (Mem.le_trans eV (Mem.le_trans jb (Mem.le_trans sO lS)))
 refine Zak (Zn1 nfS nfS _ _ m12 (hA.mono h4_12) (pk.mono (Mem.le_trans kH lS))) fun m13 ji=>Za7 (by decide) ?_
 intro b23 sP b24 sQ b25 sR b26 sS b27 sT b28 sU
 have k23:=Mem.le_add sP (ZbY [q1 97,q1 97,q1 97])
 have k24:=Mem.le_add sQ (ZaA [0])
 have k25:=Mem.le_add sR (ZaA [1,2])
 have k26:=Mem.le_add sS (ZaA [1])
 have k27:=Mem.le_add sT (ZaA [2])
 have k28:=Mem.le_add sU [Value.slice (some ⟨b26,0,none⟩) 1 1,Value.slice (some ⟨b27,0,none⟩) 1 1,Value.slice none 0 0]
 have eP:m13.le _:=Mem.le_trans k23 (Mem.le_trans k24 (Mem.le_trans k25 (Mem.le_trans k26 (Mem.le_trans k27 k28))))
 have mY:NfR false nfF (.agg #[.slice (some ⟨b23,0,none⟩) 3 3,.slice (some ⟨b28,0,none⟩) 3 3,.slice (some ⟨b24,0,none⟩) 1 1,.slice (some ⟨b25,0,none⟩) 2 2,.bool false]) _:=
  ⟨_,_,_,_,rfl,⟨_,3,rfl,ZaB (cs:=ZbY [q1 97,q1 97,q1 97]) (Mem.le_trans k24 (Mem.le_trans k25 (Mem.le_trans k26 (Mem.le_trans k27 k28)))),by decide,fun h=>by cases h⟩,
   Zn2 (fol:=[[1],[2],[]]) (ZaB (Mem.le_refl _)) rfl (by decide) (fun i v l hv hl=>by
    match i with
    | 0=>simp at hv hl;subst hv hl;exact Zdf (l:=[1]) (ZaB (cs:=ZaA [1]) (Mem.le_trans k27 k28)) (by decide)
    | 1=>simp at hv hl;subst hv hl;exact Zdf (l:=[2]) (ZaB (cs:=ZaA [2]) k28) (by decide)
    | 2=>simp at hv hl;subst hv hl;exact Zdf (l:=[]) (.inl rfl) (by decide)
    | i+3=>simp at hv),
   Zdf (l:=[0]) (ZaB (cs:=ZaA [0]) (Mem.le_trans k25 (Mem.le_trans k26 (Mem.le_trans k27 k28)))) (by decide),
   Zdf (l:=[1,2]) (ZaB (cs:=ZaA [1,2]) (Mem.le_trans k26 (Mem.le_trans k27 k28))) (by decide)⟩
 have h9_13:m9.le m13:=Mem.le_trans jL (Mem.le_trans g18 (Mem.le_trans jp (Mem.le_trans iV ji)))
 refine Zak (Zn1 nfF nfF _ _ _ ((hF.mono h9_13).mono eP) mY) fun m14 jG=>Za7 (by decide) ?_
 intro b30 sV b31 sW b32 sX b33 sY b34 sZ b35 s4
 have l30:=Mem.le_add sV (ZbY [q1 97,q1 97])
 have l31:=Mem.le_add sW (ZaA [0])
 have l32:=Mem.le_add sX (ZaA [1])
 have l33:=Mem.le_add sY (ZaA [1])
 have l34:=Mem.le_add sZ (ZaA [1])
 have l35:=Mem.le_add s4 [Value.slice (some ⟨b33,0,none⟩) 1 1,Value.slice (some ⟨b34,0,none⟩) 1 1]
 have fN:m14.le _:=Mem.le_trans l30 (Mem.le_trans l31 (Mem.le_trans l32 (Mem.le_trans l33 (Mem.le_trans l34 l35))))
 have mZ:NfR false nfM (.agg #[.slice (some ⟨b30,0,none⟩) 2 2,.slice (some ⟨b35,0,none⟩) 2 2,.slice (some ⟨b31,0,none⟩) 1 1,.slice (some ⟨b32,0,none⟩) 1 1,.bool false]) _:=
  ⟨_,_,_,_,rfl,⟨_,2,rfl,ZaB (cs:=ZbY [q1 97,q1 97]) (Mem.le_trans l31 (Mem.le_trans l32 (Mem.le_trans l33 (Mem.le_trans l34 l35)))),by decide,fun h=>by cases h⟩,
   Zn2 (fol:=[[1],[1]]) (ZaB (Mem.le_refl _)) rfl (by decide) (fun i v l hv hl=>by
    match i with
    | 0=>simp at hv hl;subst hv hl;exact Zdf (l:=[1]) (ZaB (cs:=ZaA [1]) (Mem.le_trans l34 l35)) (by decide)
    | 1=>simp at hv hl;subst hv hl;exact Zdf (l:=[1]) (ZaB (cs:=ZaA [1]) l35) (by decide)
    | i+2=>simp at hv),
   Zdf (l:=[0]) (ZaB (cs:=ZaA [0]) (Mem.le_trans l32 (Mem.le_trans l33 (Mem.le_trans l34 l35)))) (by decide),
   Zdf (l:=[1]) (ZaB (cs:=ZaA [1]) (Mem.le_trans l33 (Mem.le_trans l34 l35))) (by decide)⟩
 have h11_14:m11.le m14:=Mem.le_trans iV (Mem.le_trans ji (Mem.le_trans eP jG))
 refine Zak (Zn1 nfM nfM _ _ _ ((wn.mono h11_14).mono fN) mZ) fun m15 s5=>Za7 (by decide) ?_
 have h4_15:m4.le m15:=Mem.le_trans h4_12 (Mem.le_trans ji (Mem.le_trans eP (Mem.le_trans jG (Mem.le_trans fN s5))))
 have t6:∀q∈nfS.sets,QOk q:=by
  intro q hq
  simp only[nfS,List.mem_cons,List.not_mem_nil,or_false]at hq
  rcases hq with rfl|rfl|rfl <;> exact Zyx (by omega)
 have t7:∀q∈nfC.sets,QOk q:=by
  intro q hq
  simp only[nfC,List.mem_cons,List.not_mem_nil,or_false]at hq
  rcases hq with rfl|rfl <;> exact Zyx (by omega)
 intro b37 s6
 have j37:=Mem.le_add s6 (ZaA [-1])
 have kI:=ZuH nfS t6 _ [-1] (some ⟨b37,0,none⟩) 1 97 (by omega) _ ((hA.mono h4_15).mono j37) (ZaB (cs:=ZaA [-1]) (Mem.le_refl _)) (by decide)
 rw[Zhk.1,if_pos rfl,Zhk.2.1]at kI
 refine Zap kI (by rintro v m' css ⟨w,rfl,a,c,rfl,_⟩;rfl) ?_
 rintro a71 n70 c16 n71 m16 pr ⟨w,hv,a,c,rfl,pu,_⟩
 simp only[Value.tuple.injEq,Array.mk.injEq,List.cons.injEq,Value.slice.injEq,Value.int.injEq,true_and,and_true]at hv
 obtain⟨⟨rfl,rfl,rfl⟩,rfl⟩:=hv
 intro b38 s7
 have j38:=Mem.le_add s7 (ZaA [-1])
 have fZ:=ZuH nfS t6 _ [-1] (some ⟨b38,0,none⟩) 1 98 (by omega) _ ((hA.mono (Mem.le_trans h4_15 (Mem.le_trans j37 pr))).mono j38) (ZaB (cs:=ZaA [-1]) (Mem.le_refl _)) (by decide)
 rw[Zhk.1,if_pos rfl,Zhk.2.2]at fZ
 refine Zap fZ (by rintro v m' css ⟨w,rfl,a,c,rfl,_⟩;rfl) ?_
 rintro a72 n72 c17 n73 m17 pv ⟨w,hv,a,c,rfl,gj,_⟩
 simp only[Value.tuple.injEq,Array.mk.injEq,List.cons.injEq,Value.slice.injEq,Value.int.injEq,true_and,and_true]at hv
 obtain⟨⟨rfl,rfl,rfl⟩,rfl⟩:=hv
 have h15_17:m15.le m17:=Mem.le_trans j37 (Mem.le_trans pr (Mem.le_trans j38 pv))
 have pw:M.le m17:=Mem.le_trans cQ (Mem.le_trans h4_15 h15_17)
 have px:=Zv2 _ _ (ph m17 pw)
 rw[(Zxi _ _).1,(Zxi _ _).2]at px
 refine Zap px ZgA (ZuK fun sa4 fa4 xa4 ya4 sc4 fc4 xc4 yc4 m18 py hC b39 b40 s8=>?_)
 have j40:=Mem.le_add s8 ([97,98,97,98].map fun c:Nat=>Value.int .u8 c)
 have lg:=Zje nfC ZjJ.1 t7 _ [97,98,97,98] (some ⟨b40,0,none⟩) 4 _ (hC.mono j40) (Zuz _ (by decide))
 have pz:nfC.runE [97,98,97,98].length=0:=by kernel_rfl
 rw[pz,if_pos rfl,ZjJ.2.1]at lg
 refine Zap lg Zjd (ZvQ fun a82 c20 m19 na iY _=>?_)
 refine Zap (Zm4 nfC _ m19 (hC.mono (Mem.le_trans j40 na)) ZjJ.1) ZgA (ZuK fun sa5 fa5 xa5 ya5 sc5 fc5 xc5 yc5 m20 pA hT b41 b42 s9=>?_)
 have j42:=Mem.le_add s9 ([98,97].map fun c:Nat=>Value.int .u8 c)
 have pB:=Zk9 nfC.turn t7 _ [98,97] (some ⟨b42,0,none⟩) 2 _ (hT.mono j42) (Zuz _ (by decide)) (by decide)
 rw[ZjJ.2.2.1,ZjJ.2.2.2,if_pos rfl]at pB
 refine Zap pB (by rintro v m' css rfl;rfl) ?_
 rintro bb n85 m21 pC hv
 simp only[Ret,Value.tuple.injEq,Array.mk.injEq,List.cons.injEq,Value.bool.injEq,Value.int.injEq,true_and,and_true]at hv
 obtain⟨rfl,rfl⟩:=hv
 have h16_21:m16.le m21:=Mem.le_trans j38 (Mem.le_trans pv (Mem.le_trans py (Mem.le_trans j40 (Mem.le_trans na (Mem.le_trans pA (Mem.le_trans j42 pC))))))
 have h19_21:m19.le m21:=Mem.le_trans pA (Mem.le_trans j42 pC)
 have h0_1:m.le M:=Mem.le_trans bJ (Mem.le_trans bT (Mem.le_trans (Mem.le_add km _) dR))
 have h0_21:m.le m21:=Mem.le_trans h0_1 (Mem.le_trans pw (Mem.le_trans py (Mem.le_trans j40 (Mem.le_trans na h19_21))))
 refine ZcG rfl fun b43 td=>?_
 have j43:=Mem.le_add td (ZaA [0])
 refine Zak (Zp0 [0] [0] a71 (some ⟨b43,0,none⟩) c16 1 _ ((pu.mono h16_21).mono j43) (ZaB (cs:=ZaA [0]) (Mem.le_refl _)) (by decide)) fun m22 pD=>ZcG (by decide) (ZcG rfl fun b45 te=>?_)
 have j45:=Mem.le_add te (ZaA [2,4])
 refine Zak (Zp0 [2,4] [2,4] a82 (some ⟨b45,0,none⟩) c20 2 _ ((iY.mono (Mem.le_trans h19_21 (Mem.le_trans j43 pD))).mono j45) (ZaB (cs:=ZaA [2,4]) (Mem.le_refl _)) (by decide)) fun m23 mM=>ZcG (by decide) ?_
 exact Zac (Mem.le_trans h0_21 (Mem.le_trans j43 (Mem.le_trans pD (Mem.le_trans j45 mM)))) rfl
end Go.Proofs.Ytplacemlpkhmfaa

