/- Part of the proof: conditions and contracts of functions of this program. No condition of its own. -/
import Derived.Test.YthiefodednaikaaPVD
import Derived.Test.YthiefodednaikaaPC13G
import Derived.Test.YthiefodednaikaaMr
import Derived.Test.YthiefodednaikaaMc
import Derived.Test.YthiefodednaikaaRows
import Derived.Deep.Slices
import Derived.Laws.IdiomArrays
import Derived.Test.YthiefodednaikaaPEnv
set_option linter.unusedVariables false
set_option linter.unusedSimpArgs false
set_option linter.unusedSectionVars false
namespace Go.Proofs.Ythiefodednaikaa
open Go Go.Eng Go.Rx Go.Proofs Go.RowKit
set_option maxRecDepth 100000
theorem Zc3{m:Mem}{b:Nat}(s:List Nat)(h:∀c∈s,c < 256):Byt (m.add b (s.map fun c:Nat=>Value.int .u8 c)) (some ⟨b,0,none⟩) s:=
 ⟨.inr ⟨b,0,rfl,fun j v hj=>by rw[Nat.zero_add,Mem.add_same];exact hj⟩,h⟩
theorem Zmh{m:Mem}{b:Nat}{l:List T}(hf:m.free b)(hr:∀t∈l,Rep m t)(hl:l.length≤1000000000000000):RepL (m.add b (Zcv l)) (some ⟨b,0,none⟩) l:=
 ZrS (.inr ⟨b,0,rfl,fun j v hj=>by rw[Nat.zero_add,Mem.add_same];exact hj⟩) (fun t ht=>(hr t ht).mono (Mem.le_add hf _)) hl
theorem Zre{m:Mem}{b:Nat}{l:List Rg}(h:m.reads b 0 (l.map Rg.cs).flatten)(hl:l.length≤1000000000000000)(hr:∀r∈l,Rep m r.t):Rgs m (some ⟨b,0,none⟩) l:=by
 refine⟨hl,.inr ⟨b,0,rfl,?_⟩,hr⟩
 have key:∀(l:List Rg)(o:Nat),m.reads b o (l.map Rg.cs).flatten→∀i r,l[i]?=some r→m.reads b (o+i*10) r.cs:=by
  intro l
  induction l with
  | nil=>intro o _ i r hi;simp at hi
  | cons x l ih=>
   intro o h i r hi
   cases i with
   | zero=>
    simp at hi;subst hi
    intro j v hj
    have bA:=(List.getElem?_eq_some_iff.1 hj).1
    rw[Nat.zero_mul,Nat.add_zero]
    exact h j v (by rw[List.map_cons,List.flatten_cons,List.getElem?_append_left bA];exact hj)
   | succ i=>
    rw[show o+(i+1)*10=(o+10)+i*10 by omega]
    refine ih (o+10) (fun j v hj=>?_) i r (by simpa using hi)
    have:=h (10+j) v (by
     rw[List.map_cons,List.flatten_cons,List.getElem?_append_right (by simp[Rg.cs]),show 10+j - x.cs.length=j by simp[Rg.cs]];exact hj)
    rw[show o+10+j=o+(10+j) by omega];exact this
 exact key l 0 h
theorem Zrf(a b c a' b' c':Int):EqIs Try.prog 46 (.agg #[.int .i64 a,.int .i64 b,.int .i64 c]) (.agg #[.int .i64 a',.int .i64 b',.int .i64 c']) (a == a'&&b == b'&&c == c'):=by
 refine⟨fun w=>?_,fun op ox oy w=>Zdk (by kernel_rfl) op ox oy _ _ w⟩
 have u3:=Try.underlying3
 have a3:=Try.isAgg3
 have z3:=Try.sizeOf3
 rw[Op.equal,Op.maxDepth,show(10000:Nat)=9999+1 from rfl]
 rw[run_equalIn_agg _ _ _ _ _ (by kernel_rfl) (by kernel_rfl)]
 have hf:(Try.prog.fieldsOf 46).toList=[⟨ "Rule",3,0,false, "", "",0⟩,⟨ "From",3,1,false, "", "",8⟩,⟨ "To",3,2,false, "", "",16⟩]:=by kernel_rfl
 rw[hf]
 go_simp
 by_cases h1:a=a' <;> by_cases h2:b=b' <;> by_cases h3:c=c' <;> simp[h1,h2,h3]
theorem Zmi(m:Mem):CX Try.prog 11 #[] m [] (Ret (.bool true)):=by
 apply Zie
 unfold Ze8
 refine Zaj (ZdA 97 (by omega) m) Za1 (ZdK fun t1 m1 aW dR rX=>?_)
 refine Zaj (ZuK t1 m1 dR) Za1 (ZdK fun u m2 aY eV rY b b1 nM=>?_)
 refine Zaj (ZuH u (some ⟨b1,0,none⟩) [98,97,97,98] 4 1 (m2.add b1 _) (eV.mono (Mem.le_add nM _)) (fun _=>Zc3 _ (by decide))) ZfI ?_
 obtain⟨ga,gc,rfl⟩:=rY
 subst rX
 have e1:T.wrong (ZbA 5 0 (-1) ga gc [Zaw 97]) [98,97,97,98].length 1=0:=by kernel_rfl
 have e2:T.list (ZbA 5 0 (-1) ga gc [Zaw 97]) [98,97,97,98] 1 false=[1,2,3]:=by kernel_rfl
 have e3:T.wrong (ZbA 5 0 (-1) ga gc [Zaw 97]) [98,97,97,98].length 3=0:=by kernel_rfl
 have e4:T.list (ZbA 5 0 (-1) ga gc [Zaw 97]) [98,97,97,98] 3 true=[1,2,3]:=by kernel_rfl
 rw[e1,e2]
 rintro a3 n3 c3 x3 m3 bQ ⟨a3',c3',qi,iV⟩ b2 qj
 simp only[Value.tuple.injEq,Array.mk.injEq,List.cons.injEq,Value.slice.injEq,Value.int.injEq,true_and,and_true]at qi
 obtain⟨⟨rfl,rfl,rfl⟩,rfl⟩:=qi
 have gP:=Mem.le_trans (Mem.le_add nM _) bQ
 have jX:=Mem.le_trans gP (Mem.le_add qj ([98,97,97,98].map fun c:Nat=>Value.int .u8 c))
 refine Zaj (Zra _ (some ⟨b2,0,none⟩) [98,97,97,98] 4 3 (m3.add b2 _) (eV.mono jX) (fun _=>Zc3 _ (by decide))) ZfI ?_
 rw[e3,e4]
 rintro a4 n4 c4 x4 m4 cG ⟨a4',c4',qk,iW⟩
 simp only[Value.tuple.injEq,Array.mk.injEq,List.cons.injEq,Value.slice.injEq,Value.int.injEq,true_and,and_true]at qk
 obtain⟨⟨rfl,rfl,rfl⟩,rfl⟩:=qk
 refine Zaj (ZnM ⟨#[97,98]⟩ (by decide) m4) Za1 (ZdK fun ab m5 cP jA kJ b3 b4 kQ=>?_)
 obtain⟨xa,xc,rfl⟩:=kJ
 have ml:(ZcT ⟨#[97,98]⟩)=[97,98]:=by rfl
 rw[ml]at jA ⊢
 generalize gm:ZbA 3 0 0 xa xc (([97,98]:List Nat).map Zaw)=abT at *
 have f1:Rg.wrong ⟨false,false,abT⟩ [120,97,98].length 3=0:=by subst gm;kernel_rfl
 have f2:ZnL ⟨false,false,abT⟩ [120,97,98] 3=some 1:=by subst gm;kernel_rfl
 have f3:Rg.wrong ⟨true,false,abT⟩ [120,97,98].length 3=0:=by subst gm;kernel_rfl
 have f4:ZnL ⟨true,false,abT⟩ [120,97,98] 3=none:=by subst gm;kernel_rfl
 have f5:Rg.wrong ⟨false,true,abT⟩ [120,97,98,99].length 3=0:=by subst gm;kernel_rfl
 have f6:ZnL ⟨false,true,abT⟩ [120,97,98,99] 3=none:=by subst gm;kernel_rfl
 have mo:=Mem.le_trans cP (Mem.le_add kQ ([120,97,98].map fun c:Nat=>Value.int .u8 c))
 refine Zaj (Zsa ⟨false,false,abT⟩ (some ⟨b4,0,none⟩) [120,97,98] 3 3 (m5.add b4 _) (jA.mono (Mem.le_add kQ _)) (fun _=>Zc3 _ (by decide))) (fun v _ _ e=>by rw[e,f2];rfl) ?_
 rw[f1,f2]
 intro i5 bb5 e5 m6 dJ ql b6 pn
 simp only[Zl1,List.cons_append,List.nil_append,Value.tuple.injEq,Array.mk.injEq,List.cons.injEq,Value.bool.injEq,Value.int.injEq,true_and,and_true]at ql
 obtain⟨rfl,rfl,rfl⟩:=ql
 refine Zaj (ZpT ⟨true,false,abT⟩ (some ⟨b6,0,none⟩) [120,97,98] 3 3 (m6.add b6 _) ((jA.mono (Mem.le_add kQ _)).mono (Mem.le_trans dJ (Mem.le_add pn _))) (fun _=>Zc3 _ (by decide))) (fun v _ _ e=>by rw[e];rfl) ?_
 rw[f3,f4]
 intro bb7 e7 m7 dZ qm b8 pp
 simp only[Option.isSome_none,Value.tuple.injEq,Array.mk.injEq,List.cons.injEq,Value.bool.injEq,Value.int.injEq,true_and,and_true]at qm
 obtain⟨rfl,rfl⟩:=qm
 have nk:Rep m7 abT:=(jA.mono (Mem.le_add kQ _)).mono (Mem.le_trans dJ (Mem.le_trans (Mem.le_add pn _) dZ))
 refine Zaj (ZpT ⟨false,true,abT⟩ (some ⟨b8,0,none⟩) [120,97,98,99] 4 3 (m7.add b8 _) (nk.mono (Mem.le_add pp _)) (fun _=>Zc3 _ (by decide))) (fun v _ _ e=>by rw[e];rfl) ?_
 rw[f5,f6]
 intro bb9 e9 m9 mq qn
 simp only[Option.isSome_none,Value.tuple.injEq,Array.mk.injEq,List.cons.injEq,Value.bool.injEq,Value.int.injEq,true_and,and_true]at qn
 obtain⟨rfl,rfl⟩:=qn
 refine Zhi rfl ?_
 intro b10 iX
 have jY:m3.le m5:=Mem.le_trans (Mem.le_add qj _) (Mem.le_trans cG cP)
 have ij:m5.le m9:=Mem.le_trans (Mem.le_add kQ _) (Mem.le_trans dJ (Mem.le_trans (Mem.le_add pn _) (Mem.le_trans dZ (Mem.le_trans (Mem.le_add pp _) mq))))
 refine Zah (Zdz [1,2,3] [1,2,3] _ (some ⟨b10,0,none⟩) _ 3 (m9.add b10 _) (iV.mono (Mem.le_trans jY (Mem.le_trans ij (Mem.le_add iX _)))) (.inr ⟨b10,0,rfl,fun j v hj=>by rw[Nat.zero_add,Mem.add_same];exact hj⟩) (by decide)) fun m10 eN=>Zhi rfl ?_
 intro b12 jB
 refine Zah (Zdz [1,2,3] [1,2,3] _ (some ⟨b12,0,none⟩) _ 3 (m10.add b12 _) (iW.mono (Mem.le_trans cP (Mem.le_trans ij (Mem.le_trans (Mem.le_add iX _) (Mem.le_trans eN (Mem.le_add jB _)))))) (.inr ⟨b12,0,rfl,fun j v hj=>by rw[Nat.zero_add,Mem.add_same];exact hj⟩) (by decide)) fun m11 gn=>Zhi rfl ?_
 refine Zhi rfl (Zhi rfl (Zhi rfl (Zhi rfl ?_)))
 refine⟨fun i _ _=>if i=0 then Zh7 (fun t=>∃a c,t=ZbA 3 0 0 a c ([98,99].map Zaw))else Zh7 (fun t=>t=Zaw 98),?_⟩
 have fN:(ZcT ⟨#[98,99]⟩)=[98,99]:=by rfl
 refine⟨Zh7 (fun t=>∃a c,t=ZbA 3 0 0 a c ([98,99].map Zaw)),rfl,by have:=ZnM ⟨#[98,99]⟩ (by decide) m11;rw[fN]at this;exact this,Za1,ZdK fun bc m12 gC pq mT=>?_⟩
 refine⟨Zh7 (fun t=>t=Zaw 98),rfl,ZdA 98 (by omega) m12,Za1,ZdK fun l1 m13 gN rZ jQ b14 r5=>?_⟩
 refine⟨Zh7 (fun t=>t=Zaw 98),rfl,ZdA 98 (by omega) m13,Za1,ZdK fun l2 m14 hO r6 gz b15 r7=>?_⟩
 refine⟨Zh7 (fun t=>t=Zaw 98),rfl,ZdA 98 (by omega) m14,Za1,ZdK fun l3 m15 r8 r9 kA b16 sd b17 se=>?_⟩
 intro V sT sU sV sW sX b18 sf M cY cT gO dK lm ji mr ln jZ sg
 subst jQ gz kA
 obtain⟨ya,yc,rfl⟩:=mT
 have kJ:Rep M abT:=(nk.mono (Mem.le_trans (Mem.le_add pp _) mq)).mono (Mem.le_trans (Mem.le_add iX _) (Mem.le_trans eN (Mem.le_trans (Mem.le_add jB _) (Mem.le_trans gn cY))))
 have R14:Rgs M (some ⟨b14,0,none⟩) [⟨false,false,ZbA 3 0 0 ya yc ([98,99].map Zaw)⟩,⟨false,false,Zaw 98⟩]:=Zre (fun j v hj=>by rw[Nat.zero_add];exact dK _ _ _ (by rw[Mem.add_same];exact hj)) (by simp) (by intro r hr;simp at hr;rcases hr with rfl|rfl;exact pq.mono cT;exact Zd8 _ _)
 have R15:Rgs M (some ⟨b15,0,none⟩) [⟨false,true,Zaw 98⟩,⟨false,false,abT⟩]:=Zre (fun j v hj=>by rw[Nat.zero_add];exact ji _ _ _ (by rw[Mem.add_same];exact hj)) (by simp) (by intro r hr;simp at hr;rcases hr with rfl|rfl;exact Zd8 _ _;exact kJ)
 have R16:Rgs M (some ⟨b16,0,none⟩) [⟨false,true,Zaw 98⟩,⟨false,false,abT⟩]:=Zre (fun j v hj=>by rw[Nat.zero_add];exact ln _ _ _ (by rw[Mem.add_same];exact hj)) (by simp) (by intro r hr;simp at hr;rcases hr with rfl|rfl;exact Zd8 _ _;exact kJ)
 have R17:Rgs M (some ⟨b17,0,none⟩) [⟨false,false,ZbA 5 0 (-1) ga gc [Zaw 97]⟩]:=Zre (fun j v hj=>by rw[Nat.zero_add];exact jZ _ _ _ (by rw[Mem.add_same];exact hj)) (by simp) (by intro r hr;simp at hr;subst hr;exact eV.mono (Mem.le_trans jX (Mem.le_trans cG (Mem.le_trans cP (Mem.le_trans ij (Mem.le_trans (Mem.le_add iX _) (Mem.le_trans eN (Mem.le_trans (Mem.le_add jB _) (Mem.le_trans gn cY)))))))))
 refine⟨fun xs css tvs m' q=>∃k:Nat,k≤4∧xs=[.int .i64 k]∧q=4 - k,⟨4,0,by omega,rfl,rfl⟩,?_⟩
 rintro z m16 q iY ⟨k,hk,hz,hq⟩
 obtain rfl:z=k:=by simpa using hz
 refine Zab (fun bA=>?_) (fun cM=>?_)
 ·have h4:k=0∨k=1∨k=2∨k=3:=by have:=of_decide_eq_true bA;omega
  rcases h4 with rfl|rfl|rfl|rfl
  ·have g1:Zj8 [⟨false,false,ZbA 3 0 0 ya yc ([98,99].map Zaw)⟩,⟨false,false,Zaw 98⟩] [97,98,99]=some (1,1,2):=by kernel_rfl
   have g2:ZcL [⟨false,false,ZbA 3 0 0 ya yc ([98,99].map Zaw)⟩,⟨false,false,Zaw 98⟩] [97,98,99].length 0=0:=by kernel_rfl
   refine⟨⟨by omega,by omega⟩,Zaa rfl fun b19=>Zaa rfl (Zal rfl (Zal rfl (Zaa rfl fun b20 c8 fH lp=>?_)))⟩
   refine Zaj (Zj9 [⟨false,false,ZbA 3 0 0 ya yc ([98,99].map Zaw)⟩,⟨false,false,Zaw 98⟩] (some ⟨b14,0,none⟩) 2 (some ⟨b20,0,none⟩) [97,98,99] c8 (m16.add b20 _) (fun _=>R14.mono (Mem.le_trans iY (Mem.le_add fH _))) (fun _=>Zc3 _ (by decide))) (fun v _ _ e=>by rw[e,g1];rfl) ?_
   rw[g1,g2]
   intro u1 u2 u3 bo er m17 iZ fI b22
   simp only[Zov,List.cons_append,List.nil_append,Value.tuple.injEq,Value.agg.injEq,Array.mk.injEq,List.cons.injEq,Value.bool.injEq,Value.int.injEq,true_and,and_true]at fI
   obtain⟨⟨rfl,rfl,rfl⟩,rfl,rfl⟩:=fI
   refine⟨false,Zaa rfl ⟨true,Zrf _ _ _ _ _ _,Zhi rfl (Zhi rfl ⟨by trivial,rfl⟩)⟩,Zhi rfl ⟨by trivial,3,by omega,1,by omega,rfl,rfl⟩⟩
  ·have g1:Zj8 [⟨false,true,Zaw 98⟩,⟨false,false,abT⟩] [97,98]=some (0,1,2):=by subst gm;kernel_rfl
   have g2:ZcL [⟨false,true,Zaw 98⟩,⟨false,false,abT⟩] [97,98].length 0=0:=by subst gm;kernel_rfl
   refine⟨⟨by omega,by omega⟩,Zaa rfl fun b19=>Zaa rfl (Zal rfl (Zal rfl (Zaa rfl fun b20 c8 fH lp=>?_)))⟩
   refine Zaj (Zj9 [⟨false,true,Zaw 98⟩,⟨false,false,abT⟩] (some ⟨b15,0,none⟩) 2 (some ⟨b20,0,none⟩) [97,98] c8 (m16.add b20 _) (fun _=>R15.mono (Mem.le_trans iY (Mem.le_add fH _))) (fun _=>Zc3 _ (by decide))) (fun v _ _ e=>by rw[e,g1];rfl) ?_
   rw[g1,g2]
   intro u1 u2 u3 bo er m17 iZ fI b22
   simp only[Zov,List.cons_append,List.nil_append,Value.tuple.injEq,Value.agg.injEq,Array.mk.injEq,List.cons.injEq,Value.bool.injEq,Value.int.injEq,true_and,and_true]at fI
   obtain⟨⟨rfl,rfl,rfl⟩,rfl,rfl⟩:=fI
   refine⟨false,Zaa rfl ⟨true,Zrf _ _ _ _ _ _,Zhi rfl (Zhi rfl ⟨by trivial,rfl⟩)⟩,Zhi rfl ⟨by trivial,2,by omega,2,by omega,rfl,rfl⟩⟩
  ·have g1:Zj8 [⟨false,true,Zaw 98⟩,⟨false,false,abT⟩] [97,98,99]=some (1,0,2):=by subst gm;kernel_rfl
   have g2:ZcL [⟨false,true,Zaw 98⟩,⟨false,false,abT⟩] [97,98,99].length 0=0:=by subst gm;kernel_rfl
   refine⟨⟨by omega,by omega⟩,Zaa rfl fun b19=>Zaa rfl (Zal rfl (Zal rfl (Zaa rfl fun b20 c8 fH lp=>?_)))⟩
   refine Zaj (Zj9 [⟨false,true,Zaw 98⟩,⟨false,false,abT⟩] (some ⟨b16,0,none⟩) 2 (some ⟨b20,0,none⟩) [97,98,99] c8 (m16.add b20 _) (fun _=>R16.mono (Mem.le_trans iY (Mem.le_add fH _))) (fun _=>Zc3 _ (by decide))) (fun v _ _ e=>by rw[e,g1];rfl) ?_
   rw[g1,g2]
   intro u1 u2 u3 bo er m17 iZ fI b22
   simp only[Zov,List.cons_append,List.nil_append,Value.tuple.injEq,Value.agg.injEq,Array.mk.injEq,List.cons.injEq,Value.bool.injEq,Value.int.injEq,true_and,and_true]at fI
   obtain⟨⟨rfl,rfl,rfl⟩,rfl,rfl⟩:=fI
   refine⟨false,Zaa rfl ⟨true,Zrf _ _ _ _ _ _,Zhi rfl (Zhi rfl ⟨by trivial,rfl⟩)⟩,Zhi rfl ⟨by trivial,1,by omega,3,by omega,rfl,rfl⟩⟩
  ·have g1:Zj8 [⟨false,false,ZbA 5 0 (-1) ga gc [Zaw 97]⟩] [98,97]=some (0,0,0):=by kernel_rfl
   have g2:ZcL [⟨false,false,ZbA 5 0 (-1) ga gc [Zaw 97]⟩] [98,97].length 0=0:=by kernel_rfl
   refine⟨⟨by omega,by omega⟩,Zaa rfl fun b19=>Zaa rfl (Zal rfl (Zal rfl (Zaa rfl fun b20 c8 fH lp=>?_)))⟩
   refine Zaj (Zj9 [⟨false,false,ZbA 5 0 (-1) ga gc [Zaw 97]⟩] (some ⟨b17,0,none⟩) 1 (some ⟨b20,0,none⟩) [98,97] c8 (m16.add b20 _) (fun _=>R17.mono (Mem.le_trans iY (Mem.le_add fH _))) (fun _=>Zc3 _ (by decide))) (fun v _ _ e=>by rw[e,g1];rfl) ?_
   rw[g1,g2]
   intro u1 u2 u3 bo er m17 iZ fI b22
   simp only[Zov,List.cons_append,List.nil_append,Value.tuple.injEq,Value.agg.injEq,Array.mk.injEq,List.cons.injEq,Value.bool.injEq,Value.int.injEq,true_and,and_true]at fI
   obtain⟨⟨rfl,rfl,rfl⟩,rfl,rfl⟩:=fI
   refine⟨false,Zaa rfl ⟨true,Zrf _ _ _ _ _ _,Zhi rfl (Zhi rfl ⟨by trivial,rfl⟩)⟩,Zhi rfl ⟨by trivial,0,by omega,4,by omega,rfl,rfl⟩⟩
 ·refine Zaj (ZnM ⟨#[97,98]⟩ (by decide) m16) Za1 (ZdK fun t5 m17 iZ si lq=>?_)
  refine Zaj (ZdA 97 (by omega) m17) Za1 (ZdK fun t6 m18 mt sj sk b19 mu=>?_)
  refine Zaj (Zsb (some ⟨b19,0,none⟩) 2 [t5,t6] (m18.add b19 _) (Zmh mu (by intro t ht;simp at ht;rcases ht with rfl|rfl;exact si.mono mt;exact sj) (by simp))) Za1 (ZdK fun t7 m19 pr pu sm=>?_)
  refine Zaj (ZdA 99 (by omega) m19) Za1 (ZdK fun t8 m20 mw sq sr=>?_)
  refine Zaj (ZnM ⟨#[98,99]⟩ (by decide) m20) Za1 (ZdK fun t9 m21 kR ss qo b20 fH=>?_)
  refine Zaj (Zsb (some ⟨b20,0,none⟩) 2 [t8,t9] (m21.add b20 _) (Zmh fH (by intro t ht;simp at ht;rcases ht with rfl|rfl;exact sq.mono kR;exact ss) (by simp))) Za1 (ZdK fun t10 m22 my pv pw b21 mz=>?_)
  refine Zaj (ZuJ (some ⟨b21,0,none⟩) 2 [t7,t10] (m22.add b21 _) (Zmh mz (by intro t ht;simp at ht;rcases ht with rfl|rfl;exact pu.mono (Mem.le_trans mw (Mem.le_trans kR (Mem.le_trans (Mem.le_add fH _) my)));exact pv) (by simp))) Za1 (ZdK fun t11 m23 px kS ip b22 b23 jC=>?_)
  rw[ml]at lq
  rw[fN]at qo
  obtain⟨p1,p2,rfl⟩:=lq
  obtain⟨p3,p4,rfl⟩:=qo
  subst sk sr sm pw
  have w3:t11.wrong [97,98,99].length 0=0:=by subst ip;kernel_rfl
  have w2:t11.wrong [97,99].length 0=0:=by subst ip;kernel_rfl
  have w4:t11.wrong [97,98,98,99].length 0=0:=by subst ip;kernel_rfl
  have y1:T.matches t11 [97,98,99]=true:=by subst ip;kernel_rfl
  have y2:T.matches t11 [97,99]=true:=by subst ip;kernel_rfl
  have y3:T.matches t11 [97,98,98,99]=true:=by subst ip;kernel_rfl
  refine⟨fun xs css tvs m' q=>∃k:Nat,k≤3∧xs=[.int .i64 k]∧q=3 - k,⟨3,0,by omega,rfl,rfl⟩,?_⟩
  rintro z m24 q jD ⟨k,hk,hz,hq⟩
  obtain rfl:z=k:=by simpa using hz
  refine Zab (fun bA=>?_) (fun cM=>?_)
  ·have h4:k=0∨k=1∨k=2:=by have:=of_decide_eq_true bA;omega
   rcases h4 with rfl|rfl|rfl
   ·refine⟨⟨by omega,by omega⟩,Zal rfl (Zaa rfl fun b24 c15 i7 mA=>?_)⟩
    refine Zaj (ZfJ t11 (some ⟨b24,0,none⟩) [97,98,99] c15 (m24.add b24 _) (kS.mono (Mem.le_trans (Mem.le_add jC _) (Mem.le_trans jD (Mem.le_add i7 _)))) (fun _=>Zc3 _ (by decide))) (fun v _ _ e=>by rw[e];rfl) ?_
    rw[y1,w3]
    intro bo er m25 mB gQ
    simp only[Value.tuple.injEq,Array.mk.injEq,List.cons.injEq,Value.bool.injEq,Value.int.injEq,true_and,and_true]at gQ
    obtain⟨rfl,rfl⟩:=gQ
    exact⟨false,Zhi rfl ⟨by trivial,rfl⟩,Zhi rfl ⟨by trivial,2,by omega,1,by omega,rfl,rfl⟩⟩
   ·refine⟨⟨by omega,by omega⟩,Zal rfl (Zaa rfl fun b24 c15 i7 mA=>?_)⟩
    refine Zaj (ZfJ t11 (some ⟨b24,0,none⟩) [97,99] c15 (m24.add b24 _) (kS.mono (Mem.le_trans (Mem.le_add jC _) (Mem.le_trans jD (Mem.le_add i7 _)))) (fun _=>Zc3 _ (by decide))) (fun v _ _ e=>by rw[e];rfl) ?_
    rw[y2,w2]
    intro bo er m25 mB gQ
    simp only[Value.tuple.injEq,Array.mk.injEq,List.cons.injEq,Value.bool.injEq,Value.int.injEq,true_and,and_true]at gQ
    obtain⟨rfl,rfl⟩:=gQ
    exact⟨false,Zhi rfl ⟨by trivial,rfl⟩,Zhi rfl ⟨by trivial,1,by omega,2,by omega,rfl,rfl⟩⟩
   ·refine⟨⟨by omega,by omega⟩,Zal rfl (Zaa rfl fun b24 c15 i7 mA=>?_)⟩
    refine Zaj (ZfJ t11 (some ⟨b24,0,none⟩) [97,98,98,99] c15 (m24.add b24 _) (kS.mono (Mem.le_trans (Mem.le_add jC _) (Mem.le_trans jD (Mem.le_add i7 _)))) (fun _=>Zc3 _ (by decide))) (fun v _ _ e=>by rw[e];rfl) ?_
    rw[y3,w4]
    intro bo er m25 mB gQ
    simp only[Value.tuple.injEq,Array.mk.injEq,List.cons.injEq,Value.bool.injEq,Value.int.injEq,true_and,and_true]at gQ
    obtain⟨rfl,rfl⟩:=gQ
    exact⟨false,Zhi rfl ⟨by trivial,rfl⟩,Zhi rfl ⟨by trivial,0,by omega,3,by omega,rfl,rfl⟩⟩
  ·exact Zac (Mem.le_trans aW (Mem.le_trans aY (Mem.le_trans gP (Mem.le_trans jY (Mem.le_trans ij (Mem.le_trans (Mem.le_add iX _) (Mem.le_trans eN (Mem.le_trans (Mem.le_add jB _) (Mem.le_trans gn (Mem.le_trans cY (Mem.le_trans iY (Mem.le_trans iZ (Mem.le_trans mt (Mem.le_trans (Mem.le_add mu _) (Mem.le_trans pr (Mem.le_trans mw (Mem.le_trans kR (Mem.le_trans (Mem.le_add fH _) (Mem.le_trans my (Mem.le_trans (Mem.le_add mz _) (Mem.le_trans px (Mem.le_trans (Mem.le_add jC _) jD)))))))))))))))))))))) rfl
end Go.Proofs.Ythiefodednaikaa
set_option linter.unusedVariables false
set_option linter.unusedSimpArgs false
set_option linter.unusedSectionVars false
namespace Go.Proofs.Ythiefodednaikaa
open Go Go.Eng Go.Rx Go.Proofs Go.RowKit
set_option maxRecDepth 100000
end Go.Proofs.Ythiefodednaikaa
set_option linter.unusedVariables false
set_option linter.unusedSimpArgs false
set_option linter.unusedSectionVars false
namespace Go.Proofs.Ythiefodednaikaa
open Go Go.Eng Go.Rx Go.Proofs Go.RowKit
set_option maxRecDepth 100000
structure Sm (m:Mem)(a:Option Addr)(l:List (Nat×Nat×Nat)):Prop where
 len:l.length≤9223372036854775807
 byte:∀s∈l,s.1 < 256∧s.2.1 < 256∧s.2.2 < 256
 at':∀i s,l[i]?=some s→∃b o,a=some ⟨b,o,none⟩∧m.reads b (o+i*3) [.int .u8 s.1,.int .u8 s.2.1,.int .u8 s.2.2]
theorem Sm.mono{m m':Mem}{a l}(h:Sm m a l)(hm:m.le m'):Sm m' a l:=
 ⟨h.len,h.byte,fun i s hi=>by obtain⟨b,o,h1,h2⟩:=h.at' i s hi;exact⟨b,o,h1,h2.mono hm⟩⟩
end Go.Proofs.Ythiefodednaikaa
set_option linter.unusedVariables false
set_option linter.unusedSimpArgs false
namespace Go.Proofs.Ythiefodednaikaa
open Go Go.Eng Go.Rx Go.Proofs Go.RowKit Go.ChangeShapes Go.WideShapes Go.ChangeAt
set_option maxRecDepth 100000
theorem ZvG:ownKnob Try.prog.godebug=none:=by kernel_rfl
theorem ZuL:laidOutB Try.prog=true:=by kernel_rfl
theorem Zwd{n:Int}(h:(Lit.int .u8 n).wf=true):0≤n∧n < 256:=by
 have:0≤n∧n≤255:=by simpa[Lit.wf,IntKind.min,IntKind.max,IntKind.signed,IntKind.bits]using h
 omega
theorem ZuM{n:Int}(h:(Lit.int .i64 n).wf=true) : -9223372036854775808≤n∧n≤9223372036854775807:=by
 simpa[Lit.wf,IntKind.min,IntKind.max,IntKind.signed,IntKind.bits]using h
theorem Zrg{w:World}{a:Addr}{v:Value}(h:w.cell? ((a.add (0*3)).add 0)=some v):∃b o,a=⟨b,o,none⟩:=by
 obtain⟨b,o,sp⟩:=a
 cases sp with
 | none=>exact⟨b,o,rfl⟩
 | some s=>
  exfalso
  have e:(Addr.add (Addr.add ⟨b,o,some s⟩ (0*3)) 0)=⟨b,o,some s⟩:=rfl
  rw[e]at h
  unfold World.cell? at h
  split at h
  ·simp at h
  ·cases h
theorem ZnN(a:Option Addr)(n c:Nat):(Value.slice a n c).cells.toList=[.slice a n c]:=rfl
theorem ZvH:Try.prog.cellsOf 5=1:=by kernel_rfl
theorem ZuN{H:Type}{enc:TypeId×Value→H}{W:World}{dX:Bool}{v:Value}{d:DataW H}{ps:List MemPlace}{r:Reach}{b0:Nat}(gp:Value.okWide Try.prog W r b0 32 v)(h:DataW.Trod enc Try.prog W 0 (fun _=>true) dX 32 v d ps):
  ∃s a c,v=.slice a s.length c∧Byt (ZrK W) a s∧s.length≤c∧s.length≤9223372036854775807:=by
 obtain⟨n,h⟩:=h
 obtain⟨a0,len0,cap0,rfl⟩:=okWide_slice Try.underlying32 gp
 rw[ZnN]at h
 rcases Go.Deep.open_slice1 Try.underlying32 ZvH h with⟨cS,_⟩|⟨a,len,m,m',n',V,D,Pl,cS,hb,hl,hm,eH,_,hx⟩
 ·exact⟨[],none,0,by simpa using cS,⟨.inl rfl,by simp⟩,Nat.le_refl _,by simp⟩
 ·simp only[if_true]at eH
  subst eH
  have hm':m'≤9223372036854775807:=by simp[maxLen]at hm;omega
  obtain⟨F,hF⟩:=Go.Deep.choose_lt (α:=Nat) (n:=m') (p:=fun i s=>W.cell? (a.add i)=some (.int .u8 (s:Nat))∧s < 256) (fun i hi=>by
   obtain⟨h1,h2⟩:=hx i hi
   obtain⟨k,hk,_,hw⟩:=DataW.trod_int Try.underlying5 h2
   have:=Zwd hw
   obtain⟨k',rfl⟩:∃k':Nat,k=k':=⟨k.toNat,by omega⟩
   simp at hk
   exact⟨k',by rw[h1,hk],by omega⟩)
  refine⟨(List.range len).map F,some a,m',by have:=cS;simp at this ⊢;exact this,⟨?_,?_⟩,by simpa using hl,by simp;omega⟩
  ·by_cases h0:len=0
   ·left;subst h0;rfl
   ·right
    obtain⟨b,o,rfl⟩:=Zrg (a:=a) (v:=.int .u8 (F 0:Nat)) (by
     have:=(hF 0 (by omega)).1
     exact this)
    refine⟨b,o,rfl,fun j v hj=>?_⟩
    rw[List.map_map,List.getElem?_map]at hj
    obtain⟨i',hi',rfl⟩:=Option.map_eq_some_iff.1 hj
    have bA:j < len:=by have:=(List.getElem?_eq_some_iff.1 hi').1;simpa using this
    have e:i'=j:=by rw[List.getElem?_range bA]at hi';exact(Option.some.inj hi').symm
    subst e
    have:=(hF i' (by omega)).1
    rw[ZbK]at this
    exact this
  ·intro c hc
   obtain⟨i,hi,rfl⟩:=List.mem_map.1 hc
   exact(hF i (by have:=List.mem_range.1 hi;omega)).2
end Go.Proofs.Ythiefodednaikaa
set_option linter.unusedVariables false
set_option linter.unusedSimpArgs false
namespace Go.Proofs.Ythiefodednaikaa
open Go Go.Eng Go.Rx Go.Proofs Go.RowKit Go.ChangeShapes Go.WideShapes Go.ChangeAt
set_option maxRecDepth 100000
theorem ZwF{w:World}{a:Addr}{v:Value}(h:w.cell? ((a.add (0*8)).add 0)=some v):∃b o,a=⟨b,o,none⟩:=by
 obtain⟨b,o,sp⟩:=a
 cases sp with
 | none=>exact⟨b,o,rfl⟩
 | some s=>
  exfalso
  have e:(Addr.add (Addr.add ⟨b,o,some s⟩ (0*8)) 0)=⟨b,o,some s⟩:=rfl
  rw[e]at h
  unfold World.cell? at h
  split at h
  ·simp at h
  ·cases h
theorem ZwG{n:Int}(h:(Lit.int .u64 n).wf=true):0≤n∧n < 18446744073709551616:=by
 have:0≤n∧n≤18446744073709551615:=by simpa[Lit.wf,IntKind.min,IntKind.max,IntKind.signed,IntKind.bits]using h
 omega
section
variable {H:Type} {enc:TypeId×Value→H} {W:World} {dX:Bool}
theorem ZoQ{n:Nat}{c0 c1 c2 c3:Value}{x:DataW H×List MemPlace}(h:DataW.trod enc Try.prog W 0 (fun _=>true) dX n 26 [c0,c1,c2,c3]=some x):∃s0 s1 s2 s3,c0=.int .u64 s0∧c1=.int .u64 s1∧c2=.int .u64 s2∧c3=.int .u64 s3∧(0≤s0∧s0 < 18446744073709551616)∧(0≤s1∧s1 < 18446744073709551616)∧(0≤s2∧s2 < 18446744073709551616)∧(0≤s3∧s3 < 18446744073709551616):=by
 obtain⟨y0,y1,y2,y3,n',_,h0,h1,h2,h3⟩:=trod_array4 Try.underlying26 (by kernel_rfl) h
 obtain⟨n0,k0,_,w0⟩:=DataW.trod_int Try.underlying24 h0
 obtain⟨n1,k1,_,w1⟩:=DataW.trod_int Try.underlying24 h1
 obtain⟨n2,k2,_,w2⟩:=DataW.trod_int Try.underlying24 h2
 obtain⟨n3,k3,_,w3⟩:=DataW.trod_int Try.underlying24 h3
 simp at k0 k1 k2 k3
 exact⟨n0,n1,n2,n3,k0,k1,k2,k3,ZwG w0,ZwG w1,ZwG w2,ZwG w3⟩
theorem Zld:Try.prog.underlying 29=some (.struct #[⟨ "Kind",5,0,false, "", "",0⟩,⟨ "Set",26,1,false, "", "",8⟩,⟨ "Min",3,5,false, "", "",40⟩,⟨ "Max",3,6,false, "", "",48⟩,⟨ "Subs",27,7,false, "", "",56⟩]):=by kernel_rfl
instance:Inhabited T:=⟨T0⟩
theorem Zrh:∀(n:Nat){cs:List Value}{x:DataW H×List MemPlace},DataW.trod enc Try.prog W 0 (fun _=>true) dX n 29 cs=some x→∃t:T,cs=t.cs∧RepW (ZrK W) t:=by
 intro n
 induction n using Nat.strongRecOn with
 | ind n ih=>
  intro cs x h
  obtain⟨xs,k,hk,_,bP,fN,hx⟩:=DataW.trod_struct Zld h
  have lp:Try.prog.cellsOf 29=8:=by kernel_rfl
  rw[lp]at bP
  obtain⟨c0,c1,c2,c3,c4,c5,c6,c7,rfl⟩:∃a b c d e f g h,cs=[a,b,c,d,e,f,g,h]:=by
   match cs,bP with
   | [a,b,c,d,e,f,g,h],_=>exact⟨a,b,c,d,e,f,g,h,rfl⟩
  obtain⟨z0,z1,z2,z3,z4,rfl⟩:∃a b c d e,xs=[a,b,c,d,e]:=by
   match xs,fN with
   | [a,b,c,d,e],_=>exact⟨a,b,c,d,e,rfl⟩
  have k0:Try.prog.cellsOf 5=1:=by kernel_rfl
  have k1:Try.prog.cellsOf 26=4:=by kernel_rfl
  have k2:Try.prog.cellsOf 3=1:=by kernel_rfl
  have k4:Try.prog.cellsOf 27=1:=by kernel_rfl
  have g0:DataW.trod enc Try.prog W 0 (fun _=>true) dX k 5 (List.take (Try.prog.cellsOf 5) (List.drop 0 [c0,c1,c2,c3,c4,c5,c6,c7]))=some z0:=hx 0 _ rfl
  have g1:DataW.trod enc Try.prog W 0 (fun _=>true) dX k 26 (List.take (Try.prog.cellsOf 26) (List.drop 1 [c0,c1,c2,c3,c4,c5,c6,c7]))=some z1:=hx 1 _ rfl
  have g2:DataW.trod enc Try.prog W 0 (fun _=>true) dX k 3 (List.take (Try.prog.cellsOf 3) (List.drop 5 [c0,c1,c2,c3,c4,c5,c6,c7]))=some z2:=hx 2 _ rfl
  have g3:DataW.trod enc Try.prog W 0 (fun _=>true) dX k 3 (List.take (Try.prog.cellsOf 3) (List.drop 6 [c0,c1,c2,c3,c4,c5,c6,c7]))=some z3:=hx 3 _ rfl
  have g4:DataW.trod enc Try.prog W 0 (fun _=>true) dX k 27 (List.take (Try.prog.cellsOf 27) (List.drop 7 [c0,c1,c2,c3,c4,c5,c6,c7]))=some z4:=hx 4 _ rfl
  rw[k0]at g0
  rw[k1]at g1
  rw[k2]at g2 g3
  rw[k4]at g4
  replace g0:DataW.trod enc Try.prog W 0 (fun _=>true) dX k 5 [c0]=some z0:=g0
  replace g1:DataW.trod enc Try.prog W 0 (fun _=>true) dX k 26 [c1,c2,c3,c4]=some z1:=g1
  replace g2:DataW.trod enc Try.prog W 0 (fun _=>true) dX k 3 [c5]=some z2:=g2
  replace g3:DataW.trod enc Try.prog W 0 (fun _=>true) dX k 3 [c6]=some z3:=g3
  replace g4:DataW.trod enc Try.prog W 0 (fun _=>true) dX k 27 [c7]=some z4:=g4
  obtain⟨kk,q0,_,w0⟩:=DataW.trod_int Try.underlying5 g0
  obtain⟨s0,s1,s2,s3,rfl,rfl,rfl,rfl,o0,o1,o2,o3⟩:=ZoQ g1
  obtain⟨mn,q2,_,w2⟩:=DataW.trod_int Try.underlying3 g2
  obtain⟨mx,q3,_,w3⟩:=DataW.trod_int Try.underlying3 g3
  simp only[List.cons.injEq,and_true]at q0 q2 q3
  subst q0 q2 q3
  have ok:OkN kk s0 s1 s2 s3 mn mx:=⟨Zwd w0,o0,o1,o2,o3,ZuM w2,ZuM w3⟩
  rcases DataW.trod_slice Try.underlying27 g4 with⟨q4,_⟩|⟨a,len,cap,elems,rest,n',hn',q4,_,_,hl,hm,sY,qp,_⟩
  ·simp only[List.cons.injEq,and_true]at q4
   subst q4
   exact⟨.node kk s0 s1 s2 s3 mn mx none 0 [],rfl,Zmd.2 ⟨by simp[T.subs],.inl rfl,ok⟩⟩
  ·simp only[List.cons.injEq,and_true]at q4
   subst q4
   rw[lp]at qp
   obtain⟨F,hF⟩:=Go.Deep.choose_lt (α:=T) (n:=len) (p:=fun i t=>(∀j v,t.cs[j]?=some v→W.cell? ((a.add (i*8)).add j)=some v)∧RepW (ZrK W) t) (fun i hi=>by
    have h1:=qp i hi
    rw[List.getElem?_eq_getElem (by omega)]at h1
    obtain⟨cs',h2,h3⟩:=Option.bind_eq_some_iff.1 h1
    obtain⟨_,j0,hc⟩:=World.cells?_some h2
    obtain⟨t,rfl,ht⟩:=ih n' (by omega) h3
    refine⟨t,fun j v hj=>?_,ht⟩
    have bA:=(List.getElem?_eq_some_iff.1 hj).1
    rw[hc j (by rw[j0]at bA;exact bA)];exact hj)
   have pi:cap≤9223372036854775807:=by simp[maxLen]at hm;omega
   refine⟨.node kk s0 s1 s2 s3 mn mx (some a) cap ((List.range len).map F),by simp[T.cs,T.sl,T.k,T.s0,T.s1,T.s2,T.s3,T.mn,T.mx,T.a,T.c,T.subs],Zmd.2 ⟨by simp[T.subs];omega,?_,ok⟩⟩
   by_cases h0:len=0
   ·left;subst h0;rfl
   ·right
    obtain⟨b,o,rfl⟩:=ZwF ((hF 0 (by omega)).1 0 _ rfl)
    refine⟨b,o,rfl,Znq fun i t hi=>?_⟩
    rw[T.subs,List.getElem?_map]at hi
    obtain⟨i',hi',rfl⟩:=Option.map_eq_some_iff.1 hi
    have bA:i < len:=by have:=(List.getElem?_eq_some_iff.1 hi').1;simpa using this
    have e:i'=i:=by rw[List.getElem?_range bA]at hi';exact(Option.some.inj hi').symm
    subst e
    refine⟨fun j v hj=>?_,(hF i' bA).2⟩
    have:=(hF i' bA).1 j v hj
    rw[ZbK,ZbK]at this
    exact this
theorem Zri{v:Value}{d:DataW H}{ps:List MemPlace}{r:Reach}{b0:Nat}(gp:Value.okWide Try.prog W r b0 29 v)(h:DataW.Trod enc Try.prog W 0 (fun _=>true) dX 29 v d ps):
  ∃t:T,v=t.v∧RepW (ZrK W) t:=by
 obtain⟨n,h⟩:=h
 obtain⟨cs,rfl,bW⟩:=okWide_struct Zld gp
 obtain⟨L,rfl⟩:∃L:List Value,cs=L.toArray:=⟨cs.toList,by simp⟩
 obtain⟨t,ht,hr⟩:=Zrh n h
 replace ht:L=t.cs:=ht
 exact⟨t,by rw[ht];rfl,hr⟩
end
end Go.Proofs.Ythiefodednaikaa
set_option linter.unusedVariables false
namespace Go.Proofs.Ythiefodednaikaa
open Go Go.Eng Go.Proofs Go.RowKit
open Go.Value (int slice agg)
open Go.IntKind (u8 u64 i64)
set_option maxRecDepth 100000
noncomputable def Zcr:Env:={ EB with
 tokOf:=(fun i=>bif Nat.beq i 2 then 7 else bif Nat.beq i 7 then 7 else 0)
 tokC:=(fun i=>bif Nat.beq i 5 then some (7,1)else none)
 thaw:=true }
def Zbn(p0a:Option Addr)(p0n p0c:Nat)(m:Mem)(R:RT):Prop:=
 br (Option.isNone p0a) (slice none 0 0=slice none 0 0∧R (slice none 0 0) m []) (((0:Int)=(0:Int)∧(0:Int)≤(0:Int)∧(0:Int)*(↑(1:Nat):Int)≤(281474976710656:Int)∧(0:Int) ≤
 (9223372036854775807:Int))∧∀(b:Nat),Mem.free m b→(Tok.mk (slice (some (Addr.mk b 0 none)) 0 (Int.toNat (0:Int))) 1=Tok.mk (slice (some (Addr.mk b 0 none)) 0 (Int.toNat (0:Int))) 1∨slice (some (Addr.mk
 b 0 none)) 0 (Int.toNat (0:Int))=slice none 0 0∨Int.toNat (0:Int) < 0+p0n)∧∃(xs:List Value),∃(ys:List Value),List.length xs=0*1∧List.length ys=p0n*1∧rowRd m (some (Addr.mk b 0 none)) xs∧
 rowRd m p0a ys∧(∀(u:Value),u∈ys→Value.oneCell' u=true)∧(0+p0n)*1≤140737488355328∧0+p0n≤9223372036854775807∧∀(a':Option Addr)(c':Nat)(m':Mem),Mem.le m m'→rowRd m' a' (List.append
 xs ys)→TokFact m (some (Addr.mk b 0 none)) a' (0+p0n) c'→some (Tok.mk (slice a' (0+p0n) c') 1)=some (Tok.mk (slice a' (0+p0n) c') 1)∧R (slice a' (0+p0n) c') m' [])
theorem Zb2(p0a:Option Addr)(p0n p0c:Nat)(m:Mem)(R:RT)(h:Zbn p0a p0n p0c m R):CXT Try.prog 57 #[.slice p0a p0n p0c] m 1 R:=
 Zoo (E:=Zcr) Zax mix Try.func57 [.v (.slice p0a p0n p0c)] (by kernel_rfl) (Eq.mp (by kernel_rfl) h)
noncomputable def Zka:Env:=EB
def Zff(p0a:Option Addr)(p0n p0c:Nat)(p1a:Option Addr)(p1n p1c:Nat)(m:Mem)(R:RT):Prop:=
 ∃(bs:ByteArray),ByteArray.size bs=p0n∧rowRd m p0a (ZaD bs)∧∃(bs_1:ByteArray),ByteArray.size bs_1=p1n∧rowRd m p1a (ZaD bs_1)∧∃(m'':Mem),Mem.le m m''∧Mem.le m'' m∧R (Value.bool
 (ByteArray.toList bs == ByteArray.toList bs_1)) m'' []
theorem Zir(p0a:Option Addr)(p0n p0c:Nat)(p1a:Option Addr)(p1n p1c:Nat)(m:Mem)(R:RT)(h:Zff p0a p0n p0c p1a p1n p1c m R):CX Try.prog 62 #[.slice p0a p0n p0c,.slice p1a p1n p1c] m [] R:=
 Zad (E:=Zka) Zax mix Try.func62 [.v (.slice p0a p0n p0c),.v (.slice p1a p1n p1c)] [] (by kernel_rfl) (Eq.mp (by kernel_rfl) h)
noncomputable def Zcb:Env:=EB
def Zbb(p0a:Option Addr)(p0n p0c:Nat)(p1:Int)(m:Mem)(R:RT):Prop:=
 ∃(R_1:RT),True∧CX Try.prog 70 (Array.mk [slice p0a p0n p0c,int i64 p1]) m [] R_1∧Zau (Shape.int i64) R_1∧∀(n:Int)(m':Mem),Mem.le m m'→R_1 (int i64 n) m' []→∃(m'':Mem),Mem.le m m''∧Mem.le m''
 m'∧R (Value.bool (decide (n ≥ (0:Int)))) m'' []
theorem Zb3(p0a:Option Addr)(p0n p0c:Nat)(p1:Int)(m:Mem)(R:RT)(h:Zbb p0a p0n p0c p1 m R):CX Try.prog 29 #[.slice p0a p0n p0c,.int .i64 p1] m [] R:=
 Zad (E:=Zcb) Zax mix Try.func29 [.v (.slice p0a p0n p0c),.v (.int .i64 p1)] [] (by kernel_rfl) (Eq.mp (by kernel_rfl) h)
noncomputable def ZcU:Env:={ EB with
 loops:=(fun i=>bif Nat.beq i 2 then⟨[(8,.int .i64)],[],[],false⟩ else⟨[],[],[],false⟩) }
def Zbw(p0a:Option Addr)(p0n p0c:Nat)(p1:Int)(m:Mem)(R:RT):Prop:=
 ∃(I:IT),(∃(n:Nat),I [int i64 0] [] [] m n)∧∀(n:Int)(m':Mem)(n_1:Nat),Mem.le m m'→I [int i64 n] [] [] m' n_1→br (decide (n < (↑p0n:Int))) (∃(b:Nat),∃(o:Nat),p0a=some (Addr.mk b o none)
 ∧ Zaf n p0n∧∃(v:Value),m' b (o+Int.toNat n*1)=some v∧chk (Zak i64 v) (br (p1 == RowKit.intOf v) (∃(m'':Mem),Mem.le m m''∧Mem.le m'' m'∧R (int i64 n) m'' []) (∃(n':Nat),n' < n_1∧I [int
 i64 (IntKind.wrap i64 (n+(1:Int)))] [] [] m' n'))) (∃(m'':Mem),Mem.le m m''∧Mem.le m'' m'∧R (int i64 (-1:Int)) m'' [])
theorem ZcH(p0a:Option Addr)(p0n p0c:Nat)(p1:Int)(m:Mem)(R:RT)(h:Zbw p0a p0n p0c p1 m R):CX Try.prog 70 #[.slice p0a p0n p0c,.int .i64 p1] m [] R:=
 Zad (E:=ZcU) Zax mix Try.func70 [.v (.slice p0a p0n p0c),.v (.int .i64 p1)] [] (by kernel_rfl) (Eq.mp (by kernel_rfl) h)
end Go.Proofs.Ythiefodednaikaa
set_option linter.unusedVariables false
namespace Go.Proofs.Ythiefodednaikaa
open Go Go.Eng Go.Proofs Go.RowKit
open Go.Value (int slice agg)
open Go.IntKind (u8 u64 i64)
set_option maxRecDepth 100000
noncomputable def Zhr:Env:={ EB with
 loops:=(fun i=>bif Nat.beq i 8 then⟨[(29,.int .i64)],[11],[(33,1)],false⟩ else⟨[],[],[],false⟩)
 dr:=(fun i=>bif Nat.beq i 5 then[⟨0,[],[],none,[],[]⟩,⟨1,[],[],none,[],[]⟩,⟨2,[],[],none,[0,1],[]⟩,⟨3,[4],[],none,[],[]⟩,⟨4,[],[],none,[],[]⟩,⟨5,[],[],none,[4],[]⟩,⟨6,[],[],none,[0,1,2,3,4,5],[5]⟩,⟨7,[12],[12],none,[],[]⟩,⟨8,[12],[12],none,[0,1,2,3,4,5,6,7],[]⟩]else[])
 tokOf:=(fun i=>bif Nat.beq i 33 then 33 else 0)
 frzNew:=[4]
 frzAt:=(fun i=>bif Nat.beq i 28 then[12]else[])
 thaw:=true }
def ZdH(aF aD aH aI aJ aE aG:Int)(aB:Option Addr)(aA aC:Nat)(p1a:Option Addr)(p1n p1c:Nat)(p2:Int)(p3:Bool)(m:Mem)(R:RT):Prop:=
 ∀(b:Nat)(m':Mem),Mem.le m m'→Mem.reads m' b 0 [int u8 aF,int u64 aD,int u64 aH,int u64 aI,int u64 aJ,int i64 aE,int i64 aG,slice aB aA aC]→Mem.free m b→(∀(b' o:Nat) (u:
 Value),m' b' o=some u→m b' o=some u∨b'=b)→∃(R_1:RT),True∧CX Try.prog 52 (Array.mk [agg (Array.mk [int u8 aF,int u64 aD,int u64 aH,int u64 aI,int u64 aJ,int i64 aE,int i64 aG,slice
 aB aA aC]),slice p1a p1n p1c,int i64 p2]) m' [] R_1∧Zau (Shape.int i64) R_1∧∀(n:Int)(aa:Mem),Mem.le m' aa→R_1 (int i64 n) aa []→br (!n == (0:Int)) (∃(m'':Mem),Mem.le m m''∧Mem.le m''
 aa∧R (Value.tuple (Array.mk [slice none 0 0,int i64 n])) m'' []) (∀(a0:Nat),∃(f:Fx),∃(R_2:RT),R_2=f 5 [int i64 p2] aa∧CX Try.prog 54 (Array.mk [int i64 p2]) aa [] R_2∧Zau (Shape.agg [Shape.int u64,
 Shape.int u64,Shape.int u64,Shape.int u64,Shape.int u64,Shape.int u64,Shape.int u64,Shape.int u64,Shape.int u64]) R_2∧∀(n ao ap aq ar au av aw ax:Int)(m':Mem),Mem.le aa m'→R_2 (agg (Array.mk [int u64
 n,int u64 ao,int u64 ap,int u64 aq,int u64 ar,int u64 au,int u64 av,int u64 aw,int u64 ax])) m' []→∃(R_3:RT),R_3=f 6 [agg (Array.mk [slice p1a p1n p1c,Value.bool p3]),agg (Array.mk [int u8 aF,int
 u64 aD,int u64 aH,int u64 aI,int u64 aJ,int i64 aE,int i64 aG,slice aB aA aC]),agg (Array.mk [int u64 n,int u64 ao,int u64 ap,int u64 aq,int u64 ar,int u64 au,int u64 av,int u64 aw,
 int u64 ax])] m'∧CX Try.prog 53 (Array.mk [agg (Array.mk [slice p1a p1n p1c,Value.bool p3]),agg (Array.mk [int u8 aF,int u64 aD,int u64 aH,int u64 aI,int u64 aJ,int i64 aE,int i64 aG,slice aB
 aA aC]),agg (Array.mk [int u64 n,int u64 ao,int u64 ap,int u64 aq,int u64 ar,int u64 au,int u64 av,int u64 aw,int u64 ax])]) m' [] R_3∧Zau (Shape.agg [Shape.int u64,Shape.int u64,Shape.int u64,
 Shape.int u64,Shape.int u64,Shape.int u64,Shape.int u64,Shape.int u64,Shape.int u64]) R_3∧∀(n ab ac ad ae af ag ah ai:Int)(ay:Mem),Mem.le m' ay→R_3 (agg (Array.mk [int u64 n,int u64 ab,int u64 ac,int
 u64 ad,int u64 ae,int u64 af,int u64 ag,int u64 ah,int u64 ai])) ay []→∀(aj:Nat)(M:Mem),Mem.le aa M→Mem.le m' M→Mem.le ay M→∀(m':Mem),Mem.le M m'→Mem.reads m' aj 0 [int u64 n,int u64 ab,int
 u64 ac,int u64 ad,int u64 ae,int u64 af,int u64 ag,int u64 ah,int u64 ai]→∃(R_4:RT),True∧CX Try.prog 82 (Array.mk [Value.pointer (some (Addr.mk aj 0 none))]) m' [] R_4∧Zau Shape.fn R_4∧∀(g:Nat) (fi
 ca:List Value) (am:Mem),Mem.le m' am→R_4 (Value.func (Fn.func g) (Array.mk fi) (Array.mk ca)) am []→∃(mi:Mem),Mem.le mi am∧∃(xs:List (List Value)),IX Try.prog g fi ca mi xs∧(∀(x:List Value),x ∈
 xs→Shape.fitsL [Shape.int i64] x=true)∧∃(I:IT),I [] [[slice none 0 0]] [slice none 0 0] am 0∧(∀(al:Int)(cs:List Value)(a:Option Addr)(a1 c:Nat)(m':Mem)(az:Nat),Mem.le mi m'→
 List.get?Internal xs az=some [int i64 al]→I [] [cs] [slice a a1 c] m' az→Eng.Zrt cs 0 fun(v:Value)=>∀(ak:Nat),Mem.free m' ak→chk (ZbJ v&&true) ((Tok.mk (slice a a1 c) 1=Tok.mk v 1∨v=slice none
 0 0∨slC v < slN v+1)∧∃(xs:List Value),∃(ys:List Value),List.length xs=slN v*1∧List.length ys=1*1∧rowRd (Mem.add m' ak [int i64 al]) (slA v) xs∧rowRd (Mem.add m' ak [int i64 al]) (some
 (Addr.mk ak 0 none)) ys∧(∀(u:Value),u∈ys→Value.oneCell' u=true)∧(slN v+1)*8≤140737488355328∧slN v+1≤9223372036854775807∧∀(a':Option Addr)(c':Nat)(an:Mem),Mem.le (Mem.add m' ak [int
 i64 al]) an→rowRd an a' (List.append xs ys)→TokFact (Mem.add m' ak [int i64 al]) (slA v) a' (slN v+1) c'→Mem.le mi an∧[some (Box.mk aj [int u64 n,int u64 ab,int u64 ac,int u64 ad,int u64 ae,int u64 af,
 int u64 ag,int u64 ah,int u64 ai] 95 9 true true),some (Box.mk aj [int u64 n,int u64 ab,int u64 ac,int u64 ad,int u64 ae,int u64 af,int u64 ag,int u64 ah,int u64 ai] 95 9 true true),some (Box.mk a0 [] 38 1
 false true),some (Box.mk b [int u8 aF,int u64 aD,int u64 aH,int u64 aI,int u64 aJ,int i64 aE,int i64 aG,slice aB aA aC] 29 8 true true)]=[some (Box.mk aj [int u64 n,int u64 ab,int u64
 ac,int u64 ad,int u64 ae,int u64 af,int u64 ag,int u64 ah,int u64 ai] 95 9 true true),some (Box.mk aj [int u64 n,int u64 ab,int u64 ac,int u64 ad,int u64 ae,int u64 af,int u64 ag,int u64 ah,int u64 ai] 95
 9 true true),some (Box.mk a0 [] 38 1 false true),some (Box.mk b [int u8 aF,int u64 aD,int u64 aH,int u64 aI,int u64 aJ,int i64 aE,int i64 aG,slice aB aA aC] 29 8 true true)]∧I []
 [[slice a' (slN v+1) c']] [slice a' (slN v+1) c'] an (az+1)))∧∀(cs:List Value)(a:Option Addr)(n c:Nat)(m':Mem),Mem.le mi m'→I [] [cs] [slice a n c] m' (List.length xs)→Eng.Zrt cs 0 fun(v:
 Value)=>∃(m'':Mem),Mem.le m m''∧Mem.le m'' m'∧R (Value.tuple (Array.mk [v,int i64 0])) m'' [])
theorem Zgz(aF aD aH aI aJ aE aG:Int)(aB:Option Addr)(aA aC:Nat)(p1a:Option Addr)(p1n p1c:Nat)(p2:Int)(p3:Bool)(m:Mem)(R:RT)(h:ZdH aF aD aH aI aJ aE aG aB aA aC p1a p1n p1c p2 p3 m R):CX Try.prog 47 #[.agg #[.int .u8 aF,.int .u64 aD,.int .u64 aH,.int .u64 aI,.int .u64 aJ,.int .i64 aE,.int .i64 aG,.slice aB aA aC],.slice p1a p1n p1c,.int .i64 p2,.bool p3] m [] R:=
 Zad (E:=Zhr) Zax mix Try.func47 [.v (.agg #[.int .u8 aF,.int .u64 aD,.int .u64 aH,.int .u64 aI,.int .u64 aJ,.int .i64 aE,.int .i64 aG,.slice aB aA aC]),.v (.slice p1a p1n p1c),.v (.int .i64 p2),.v (.bool p3)] [] (by kernel_rfl) (Eq.mp (by kernel_rfl) h)
noncomputable def Zkb:Env:={ EB with
 loops:=(fun i=>bif Nat.beq i 4 then⟨[(30,.int .i64)],[],[],false⟩ else bif Nat.beq i 17 then⟨[(122,.int .i64)],[],[],false⟩ else bif Nat.beq i 22 then⟨[(131,.int .i64)],[],[],false⟩ else⟨[],[],[],false⟩)
 joins:=(fun i=>bif Nat.beq i 8 then some [(70,.bool)]else bif Nat.beq i 10 then some [(87,.bool)]else bif Nat.beq i 12 then some [(99,.bool)]else bif Nat.beq i 14 then some [(119,.bool)]else none)
 dr:=(fun i=>bif Nat.beq i 2 then[⟨0,[7],[],none,[],[]⟩,⟨1,[],[],none,[],[]⟩,⟨2,[],[],none,[],[]⟩,⟨3,[],[],none,[0,1,2],[]⟩,⟨4,[7],[],none,[],[]⟩,⟨5,[],[],none,[],[]⟩,⟨6,[],[],none,[0,1,2,3,4,5],[3]⟩,⟨7,[],[],none,[0,1,2,3,4,5,6],[]⟩,⟨8,[],[],none,[0,1,2,3,4,5,6,7],[]⟩]else[])
 frzNew:=[3]
 thaw:=true
 stAt:=(fun i=>bif Nat.beq i 127 then some 999 else bif Nat.beq i 136 then some 999 else none)
 gb:=true }
def Zfg(aF aD aH aI aJ aE aG:Int)(aB:Option Addr)(aA aC:Nat)(p1a:Option Addr)(p1n p1c:Nat)(p2:Int)(m:Mem)(R:RT):Prop:=
 ∀(b:Nat)(m':Mem),Mem.le m m'→Mem.reads m' b 0 [int u8 aF,int u64 aD,int u64 aH,int u64 aI,int u64 aJ,int i64 aE,int i64 aG,slice aB aA aC]→Mem.free m b→(∀(b' o:Nat) (u:
 Value),m' b' o=some u→m b' o=some u∨b'=b)→∃(R_1:RT),True∧CX Try.prog 63 (Array.mk [agg (Array.mk [int u8 aF,int u64 aD,int u64 aH,int u64 aI,int u64 aJ,int i64 aE,int i64 aG,slice
 aB aA aC])]) m' [] R_1∧Zau Shape.cells R_1∧∀(cs:List Value)(al:Mem),Mem.le m' al→R_1 (agg (Array.mk cs)) al []→∃(R_2:RT),True∧CX Try.prog 57 (Array.mk [slice p1a p1n p1c]) al [] R_2∧Zau
 Shape.slice R_2∧∀(a:Option Addr)(n c:Nat)(m':Mem),Mem.le al m'→R_2 (slice a n c) m' []→∀(aa:Nat),chk (Nat.beq (List.length cs) 260&&Zca cs) (∃(f:Fx),∃(R_3:RT),R_3=f 3 [agg (Array.mk
 cs),slice p1a p1n p1c,int i64 p2] m'∧CX Try.prog 64 (Array.mk [agg (Array.mk cs),slice p1a p1n p1c,int i64 p2]) m' [] R_3∧Zau (Shape.int i64) R_3∧∀(ag:Int)(ah:Mem),Mem.le m' ah→R_3 (int i64 ag) ah []
 → ∃(R_4:RT),R_4=f 6 [agg (Array.mk cs),slice p1a p1n p1c,int i64 0] ah∧CX Try.prog 64 (Array.mk [agg (Array.mk cs),slice p1a p1n p1c,int i64 0]) ah [] R_4∧Zau (Shape.int i64) R_4∧∀(am:Int) (ao:
 Mem),Mem.le ah ao→R_4 (int i64 am) ao []→∀(M:Mem),Mem.le m' M→Mem.le ah M→Mem.le ao M→∃(I:IT),(∃(n:Nat),I [int i64 0] [] [] M n)∧∀(ap:Int)(m':Mem)(ay:Nat),True→I [int i64 ap] [] []
 m' ay→br (decide (ap < (2:Int))) (∃(R_5:RT),True∧CX Try.prog 19 (Array.mk [agg (Array.mk [int u8 aF,int u64 aD,int u64 aH,int u64 aI,int u64 aJ,int i64 aE,int i64 aG,slice aB aA
 aC]),slice a n c]) m' [] R_5∧Zau (Shape.tup [Shape.bool,Shape.int i64]) R_5∧∀(aq:Bool)(az:Int)(an:Mem),Mem.le m' an→R_5 (Value.tuple (Array.mk [Value.bool aq,int i64 az])) an []→∃(R_6:RT),
 True∧CX Try.prog 14 (Array.mk [agg (Array.mk [int u8 aF,int u64 aD,int u64 aH,int u64 aI,int u64 aJ,int i64 aE,int i64 aG,slice aB aA aC]),slice a n c,int i64 p2]) an [] R_6∧Zau
 (Shape.tup [Shape.slice,Shape.int i64]) R_6∧∀(ar:Option Addr)(ai a0:Nat)(a1:Int)(m':Mem),Mem.le an m'→R_6 (Value.tuple (Array.mk [slice ar ai a0,int i64 a1])) m' []→∃(R_7:RT),True∧CX Try.prog
 15 (Array.mk [agg (Array.mk [int u8 aF,int u64 aD,int u64 aH,int u64 aI,int u64 aJ,int i64 aE,int i64 aG,slice aB aA aC]),slice a n c,int i64 p2]) m' [] R_7∧Zau (Shape.tup
 [Shape.slice,Shape.int i64]) R_7∧∀(au:Option Addr)(aj a2:Nat)(a3:Int)(ac:Mem),Mem.le m' ac→R_7 (Value.tuple (Array.mk [slice au aj a2,int i64 a3])) ac []→∃(ak:Bool),br (!az == am) ([some (Box.mk
 aa cs 109 260 false true),some (Box.mk b [int u8 aF,int u64 aD,int u64 aH,int u64 aI,int u64 aJ,int i64 aE,int i64 aG,slice aB aA aC] 29 8 true true)]=[some (Box.mk aa cs 109 260 false
 true),some (Box.mk b [int u8 aF,int u64 aD,int u64 aH,int u64 aI,int u64 aJ,int i64 aE,int i64 aG,slice aB aA aC] 29 8 true true)]∧[Value.bool true]=[Value.bool ak]) (br (!a1 == ag)
 ([some (Box.mk aa cs 109 260 false true),some (Box.mk b [int u8 aF,int u64 aD,int u64 aH,int u64 aI,int u64 aJ,int i64 aE,int i64 aG,slice aB aA aC] 29 8 true true)]=[some (Box.mk aa cs
 109 260 false true),some (Box.mk b [int u8 aF,int u64 aD,int u64 aH,int u64 aI,int u64 aJ,int i64 aE,int i64 aG,slice aB aA aC] 29 8 true true)]∧[Value.bool true]=[Value.bool ak]) (br
 (!a3 == ag) ([some (Box.mk aa cs 109 260 false true),some (Box.mk b [int u8 aF,int u64 aD,int u64 aH,int u64 aI,int u64 aJ,int i64 aE,int i64 aG,slice aB aA aC] 29 8 true true)]=[some
 (Box.mk aa cs 109 260 false true),some (Box.mk b [int u8 aF,int u64 aD,int u64 aH,int u64 aI,int u64 aJ,int i64 aE,int i64 aG,slice aB aA aC] 29 8 true true)]∧[Value.bool true] =
 [Value.bool ak]) (∃(R:RT),True∧CX Try.prog 62 (Array.mk [slice a n c,slice p1a p1n p1c]) ac [] R∧Zau Shape.bool R∧∀(ad:Bool)(m':Mem),Mem.le ac m'→R (Value.bool ad) m' []→[some (Box.mk aa cs 109
 260 false true),some (Box.mk b [int u8 aF,int u64 aD,int u64 aH,int u64 aI,int u64 aJ,int i64 aE,int i64 aG,slice aB aA aC] 29 8 true true)]=[some (Box.mk aa cs 109 260 false true),some
 (Box.mk b [int u8 aF,int u64 aD,int u64 aH,int u64 aI,int u64 aJ,int i64 aE,int i64 aG,slice aB aA aC] 29 8 true true)]∧[Value.bool !ad]=[Value.bool ak])))∧br ak (∃(m'':Mem),
 Mem.le m m''∧Mem.le m'' ac∧R (Value.bool false) m'' []) (∃(ad:Bool),br (!am == (0:Int)) (br aq ([some (Box.mk aa cs 109 260 false true),some (Box.mk b [int u8 aF,int u64 aD,int u64 aH,int u64 aI,
 int u64 aJ,int i64 aE,int i64 aG,slice aB aA aC] 29 8 true true)]=[some (Box.mk aa cs 109 260 false true),some (Box.mk b [int u8 aF,int u64 aD,int u64 aH,int u64 aI,int u64 aJ,int i64
 aE,int i64 aG,slice aB aA aC] 29 8 true true)]∧[Value.bool true]=[Value.bool ad]) (br (!ag == (0:Int)) ([some (Box.mk aa cs 109 260 false true),some (Box.mk b [int u8 aF,int u64 aD,int u64
 aH,int u64 aI,int u64 aJ,int i64 aE,int i64 aG,slice aB aA aC] 29 8 true true)]=[some (Box.mk aa cs 109 260 false true),some (Box.mk b [int u8 aF,int u64 aD,int u64 aH,int u64 aI,
 int u64 aJ,int i64 aE,int i64 aG,slice aB aA aC] 29 8 true true)]∧[Value.bool !IntKind.wrap i64 ((↑ai:Int)+(↑aj:Int)) == (0:Int)]=[Value.bool ad]) ([some (Box.mk aa cs 109 260 false true),
 some (Box.mk b [int u8 aF,int u64 aD,int u64 aH,int u64 aI,int u64 aJ,int i64 aE,int i64 aG,slice aB aA aC] 29 8 true true)]=[some (Box.mk aa cs 109 260 false true),some (Box.mk b [int
 u8 aF,int u64 aD,int u64 aH,int u64 aI,int u64 aJ,int i64 aE,int i64 aG,slice aB aA aC] 29 8 true true)]∧[Value.bool false]=[Value.bool ad]))) (br (!ag == (0:Int)) ([some (Box.mk aa
 cs 109 260 false true),some (Box.mk b [int u8 aF,int u64 aD,int u64 aH,int u64 aI,int u64 aJ,int i64 aE,int i64 aG,slice aB aA aC] 29 8 true true)]=[some (Box.mk aa cs 109 260 false
 true),some (Box.mk b [int u8 aF,int u64 aD,int u64 aH,int u64 aI,int u64 aJ,int i64 aE,int i64 aG,slice aB aA aC] 29 8 true true)]∧[Value.bool !IntKind.wrap i64 ((↑ai:Int)+(↑aj:
 Int)) == (0:Int)]=[Value.bool ad]) ([some (Box.mk aa cs 109 260 false true),some (Box.mk b [int u8 aF,int u64 aD,int u64 aH,int u64 aI,int u64 aJ,int i64 aE,int i64 aG,slice aB aA aC]
 29 8 true true)]=[some (Box.mk aa cs 109 260 false true),some (Box.mk b [int u8 aF,int u64 aD,int u64 aH,int u64 aI,int u64 aJ,int i64 aE,int i64 aG,slice aB aA aC] 29 8 true true)]∧
 [Value.bool false]=[Value.bool ad]))∧br ad (∃(m'':Mem),Mem.le m m''∧Mem.le m'' ac∧R (Value.bool false) m'' []) (∃(av:Bool),br (am == (0:Int)) (∃(R:RT),True∧CX Try.prog 65 (Array.mk [agg (Array.mk
 cs),slice p1a p1n p1c,int i64 0]) ac [] R∧Zau Shape.slice R∧∀(a:Option Addr)(n c:Nat)(m':Mem),Mem.le ac m'→R (slice a n c) m' []→∃(R:RT),True∧CX Try.prog 29 (Array.mk [slice a n c,int i64
 (↑p1n:Int)]) m' [] R∧Zau Shape.bool R∧∀(ae:Bool)(af:Mem),Mem.le m' af→R (Value.bool ae) af []→[some (Box.mk aa cs 109 260 false true),some (Box.mk b [int u8 aF,int u64 aD,int u64 aH,int u64
 aI,int u64 aJ,int i64 aE,int i64 aG,slice aB aA aC] 29 8 true true)]=[some (Box.mk aa cs 109 260 false true),some (Box.mk b [int u8 aF,int u64 aD,int u64 aH,int u64 aI,int u64 aJ,
 int i64 aE,int i64 aG,slice aB aA aC] 29 8 true true)]∧[Value.bool !aq == ae]=[Value.bool av]) ([some (Box.mk aa cs 109 260 false true),some (Box.mk b [int u8 aF,int u64 aD,int u64 aH,int
 u64 aI,int u64 aJ,int i64 aE,int i64 aG,slice aB aA aC] 29 8 true true)]=[some (Box.mk aa cs 109 260 false true),some (Box.mk b [int u8 aF,int u64 aD,int u64 aH,int u64 aI,int u64
 aJ,int i64 aE,int i64 aG,slice aB aA aC] 29 8 true true)]∧[Value.bool false]=[Value.bool av])∧br av (∃(m'':Mem),Mem.le m m''∧Mem.le m'' ac∧R (Value.bool false) m'' []) (∃(ae:Bool),br
 (ag == (0:Int)) (∃(R:RT),True∧CX Try.prog 65 (Array.mk [agg (Array.mk cs),slice p1a p1n p1c,int i64 p2]) ac [] R∧Zau Shape.slice R∧∀(a:Option Addr)(n c:Nat)(m':Mem),Mem.le ac m'→R (slice a n
 c) m' []→∃(R:RT),True∧CX Try.prog 28 (Array.mk [slice ar ai a0,slice a n c]) m' [] R∧Zau Shape.bool R∧∀(ab:Bool)(af:Mem),Mem.le m' af→R (Value.bool ab) af []→br (!ab) ([some (Box.mk aa cs 109
 260 false true),some (Box.mk b [int u8 aF,int u64 aD,int u64 aH,int u64 aI,int u64 aJ,int i64 aE,int i64 aG,slice aB aA aC] 29 8 true true)]=[some (Box.mk aa cs 109 260 false true),some
 (Box.mk b [int u8 aF,int u64 aD,int u64 aH,int u64 aI,int u64 aJ,int i64 aE,int i64 aG,slice aB aA aC] 29 8 true true)]∧[Value.bool true]=[Value.bool ae]) (∃(R:RT),True∧CX
 Try.prog 66 (Array.mk [agg (Array.mk cs),slice p1a p1n p1c,int i64 p2]) af [] R∧Zau Shape.slice R∧∀(a:Option Addr)(n c:Nat)(m':Mem),Mem.le af m'→R (slice a n c) m' []→∃(R:RT),True∧CX Try.prog
 28 (Array.mk [slice au aj a2,slice a n c]) m' [] R∧Zau Shape.bool R∧∀(a4:Bool)(a5:Mem),Mem.le m' a5→R (Value.bool a4) a5 []→[some (Box.mk aa cs 109 260 false true),some (Box.mk b [int u8 aF,int u64
 aD,int u64 aH,int u64 aI,int u64 aJ,int i64 aE,int i64 aG,slice aB aA aC] 29 8 true true)]=[some (Box.mk aa cs 109 260 false true),some (Box.mk b [int u8 aF,int u64 aD,int u64 aH,
 int u64 aI,int u64 aJ,int i64 aE,int i64 aG,slice aB aA aC] 29 8 true true)]∧[Value.bool !a4]=[Value.bool ae])) ([some (Box.mk aa cs 109 260 false true),some (Box.mk b [int u8 aF,int u64
 aD,int u64 aH,int u64 aI,int u64 aJ,int i64 aE,int i64 aG,slice aB aA aC] 29 8 true true)]=[some (Box.mk aa cs 109 260 false true),some (Box.mk b [int u8 aF,int u64 aD,int u64 aH,
 int u64 aI,int u64 aJ,int i64 aE,int i64 aG,slice aB aA aC] 29 8 true true)]∧[Value.bool false]=[Value.bool ae])∧br ae (∃(m'':Mem),Mem.le m m''∧Mem.le m'' ac∧R (Value.bool false) m''
 []) (∃(aw:IT),(∃(n:Nat),aw [int i64 0] [] [] ac n)∧∀(n:Int)(m':Mem)(a6:Nat),True→aw [int i64 n] [] [] m' a6→br (decide (n < (↑ai:Int))) (∃(ab:Nat),∃(o:Nat),ar=some (Addr.mk ab o none)
 ∧ Zaf n ai∧(∃(vs:List Value),List.length vs=1∧Mem.reads m' ab (o+Int.toNat n*1) vs)∧Mem.free m ab∧true=true∧b≠ab∧[some (Box.mk aa cs 109 260 false true),some (Box.mk b [int u8 aF,int
 u64 aD,int u64 aH,int u64 aI,int u64 aJ,int i64 aE,int i64 aG,slice aB aA aC] 29 8 true true)]=[some (Box.mk aa cs 109 260 false true),some (Box.mk b [int u8 aF,int u64 aD,int u64
 aH,int u64 aI,int u64 aJ,int i64 aE,int i64 aG,slice aB aA aC] 29 8 true true)]∧∃(n':Nat),n' < a6∧aw [int i64 (IntKind.wrap i64 (n+(1:Int)))] [] [] (Mem.upd m' ab (o+Int.toNat n *
 1) [int i64 (-7:Int)]) n') (∃(ax:IT),(∃(n:Nat),ax [int i64 0] [] [] m' n)∧∀(n:Int)(m':Mem)(a7:Nat),True→ax [int i64 n] [] [] m' a7→br (decide (n < (↑aj:Int))) (∃(ab:Nat),∃(o:Nat),au =
 some (Addr.mk ab o none)∧Zaf n aj∧(∃(vs:List Value),List.length vs=1∧Mem.reads m' ab (o+Int.toNat n*1) vs)∧Mem.free m ab∧true=true∧b≠ab∧[some (Box.mk aa cs 109 260 false true),some
 (Box.mk b [int u8 aF,int u64 aD,int u64 aH,int u64 aI,int u64 aJ,int i64 aE,int i64 aG,slice aB aA aC] 29 8 true true)]=[some (Box.mk aa cs 109 260 false true),some (Box.mk b [int u8
 aF,int u64 aD,int u64 aH,int u64 aI,int u64 aJ,int i64 aE,int i64 aG,slice aB aA aC] 29 8 true true)]∧∃(n':Nat),n' < a7∧ax [int i64 (IntKind.wrap i64 (n+(1:Int)))] [] []
 (Mem.upd m' ab (o+Int.toNat n*1) [int i64 (-7:Int)]) n') ([some (Box.mk aa cs 109 260 false true),some (Box.mk b [int u8 aF,int u64 aD,int u64 aH,int u64 aI,int u64 aJ,int i64 aE,int i64 aG,
 slice aB aA aC] 29 8 true true)]=[some (Box.mk aa cs 109 260 false true),some (Box.mk b [int u8 aF,int u64 aD,int u64 aH,int u64 aI,int u64 aJ,int i64 aE,int i64 aG,slice aB aA
 aC] 29 8 true true)]∧∃(n':Nat),n' < ay∧I [int i64 (IntKind.wrap i64 (ap+(1:Int)))] [] [] m' n'))))))) (∃(m'':Mem),Mem.le m m''∧Mem.le m'' m'∧R (Value.bool true) m'' []))
theorem Zis(aF aD aH aI aJ aE aG:Int)(aB:Option Addr)(aA aC:Nat)(p1a:Option Addr)(p1n p1c:Nat)(p2:Int)(m:Mem)(R:RT)(h:Zfg aF aD aH aI aJ aE aG aB aA aC p1a p1n p1c p2 m R):CX Try.prog 23 #[.agg #[.int .u8 aF,.int .u64 aD,.int .u64 aH,.int .u64 aI,.int .u64 aJ,.int .i64 aE,.int .i64 aG,.slice aB aA aC],.slice p1a p1n p1c,.int .i64 p2] m [] R:=
 Zad (E:=Zkb) Zax mix Try.func23 [.v (.agg #[.int .u8 aF,.int .u64 aD,.int .u64 aH,.int .u64 aI,.int .u64 aJ,.int .i64 aE,.int .i64 aG,.slice aB aA aC]),.v (.slice p1a p1n p1c),.v (.int .i64 p2)] [] (by kernel_rfl) (Eq.mp (by kernel_rfl) h)
noncomputable def ZeC:Env:={ EB with
 joins:=(fun i=>bif Nat.beq i 1 then some [(6,.bool)]else none)
 frzNew:=[3] }
def Zb9(aF aD aH aI aJ aE aG:Int)(aB:Option Addr)(aA aC:Nat)(p1a:Option Addr)(p1n p1c:Nat)(p2:Int)(m:Mem)(R:RT):Prop:=
 ∀(b:Nat)(m':Mem),Mem.le m m'→Mem.reads m' b 0 [int u8 aF,int u64 aD,int u64 aH,int u64 aI,int u64 aJ,int i64 aE,int i64 aG,slice aB aA aC]→∃(ac:Bool),(∃(R:RT),True∧CX
 Try.prog 21 (Array.mk [agg (Array.mk [int u8 aF,int u64 aD,int u64 aH,int u64 aI,int u64 aJ,int i64 aE,int i64 aG,slice aB aA aC]),int i64 200]) m' [] R∧Zau (Shape.int i64) R∧∀(n:
 Int) (aa:Mem),Mem.le m' aa→R (int i64 n) aa []→br (decide (n > (200:Int))) (∃(R:RT),True∧CX Try.prog 11 (Array.mk []) aa [] R∧Zau Shape.bool R∧∀(ab:Bool)(m':Mem),Mem.le aa m'→R (Value.bool
 ab) m' []→[some (Box.mk b [int u8 aF,int u64 aD,int u64 aH,int u64 aI,int u64 aJ,int i64 aE,int i64 aG,slice aB aA aC] 29 8 true true)]=[some (Box.mk b [int u8 aF,int u64 aD,int
 u64 aH,int u64 aI,int u64 aJ,int i64 aE,int i64 aG,slice aB aA aC] 29 8 true true)]∧[Value.bool ab]=[Value.bool ac]) (br (decide ((↑p1n:Int) > (30:Int))) (∃(R:RT),True∧CX Try.prog
 11 (Array.mk []) aa [] R∧Zau Shape.bool R∧∀(ab:Bool)(m':Mem),Mem.le aa m'→R (Value.bool ab) m' []→[some (Box.mk b [int u8 aF,int u64 aD,int u64 aH,int u64 aI,int u64 aJ,int i64 aE,int
 i64 aG,slice aB aA aC] 29 8 true true)]=[some (Box.mk b [int u8 aF,int u64 aD,int u64 aH,int u64 aI,int u64 aJ,int i64 aE,int i64 aG,slice aB aA aC] 29 8 true true)]∧
 [Value.bool ab]=[Value.bool ac]) (∃(R:RT),True∧CX Try.prog 23 (Array.mk [agg (Array.mk [int u8 aF,int u64 aD,int u64 aH,int u64 aI,int u64 aJ,int i64 aE,int i64 aG,slice aB aA aC]),
 slice p1a p1n p1c,int i64 p2]) aa [] R∧Zau Shape.bool R∧∀(ab:Bool)(m':Mem),Mem.le aa m'→R (Value.bool ab) m' []→br ab (∃(R:RT),True∧CX Try.prog 11 (Array.mk []) m' [] R∧Zau Shape.bool R∧∀(ad
 : Bool) (ae:Mem),Mem.le m' ae→R (Value.bool ad) ae []→[some (Box.mk b [int u8 aF,int u64 aD,int u64 aH,int u64 aI,int u64 aJ,int i64 aE,int i64 aG,slice aB aA aC] 29 8 true true)] =
 [some (Box.mk b [int u8 aF,int u64 aD,int u64 aH,int u64 aI,int u64 aJ,int i64 aE,int i64 aG,slice aB aA aC] 29 8 true true)]∧[Value.bool ad]=[Value.bool ac]) ([some (Box.mk b [int u8
 aF,int u64 aD,int u64 aH,int u64 aI,int u64 aJ,int i64 aE,int i64 aG,slice aB aA aC] 29 8 true true)]=[some (Box.mk b [int u8 aF,int u64 aD,int u64 aH,int u64 aI,int u64 aJ,
 int i64 aE,int i64 aG,slice aB aA aC] 29 8 true true)]∧[Value.bool false]=[Value.bool ac]))))∧∃(m'':Mem),Mem.le m m''∧Mem.le m'' m'∧R (Value.bool ac) m'' []
theorem ZdX(aF aD aH aI aJ aE aG:Int)(aB:Option Addr)(aA aC:Nat)(p1a:Option Addr)(p1n p1c:Nat)(p2:Int)(m:Mem)(R:RT)(h:Zb9 aF aD aH aI aJ aE aG aB aA aC p1a p1n p1c p2 m R):CX Try.prog 5 #[.agg #[.int .u8 aF,.int .u64 aD,.int .u64 aH,.int .u64 aI,.int .u64 aJ,.int .i64 aE,.int .i64 aG,.slice aB aA aC],.slice p1a p1n p1c,.int .i64 p2] m [] R:=
 Zad (E:=ZeC) Zax mix Try.func5 [.v (.agg #[.int .u8 aF,.int .u64 aD,.int .u64 aH,.int .u64 aI,.int .u64 aJ,.int .i64 aE,.int .i64 aG,.slice aB aA aC]),.v (.slice p1a p1n p1c),.v (.int .i64 p2)] [] (by kernel_rfl) (Eq.mp (by kernel_rfl) h)
end Go.Proofs.Ythiefodednaikaa
