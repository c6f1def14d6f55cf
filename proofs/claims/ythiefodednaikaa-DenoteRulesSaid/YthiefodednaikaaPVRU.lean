/- Part of the proof: conditions and contracts of functions of this program. No condition of its own. -/
import Derived.Test.YthiefodednaikaaPVD
import Derived.Test.YthiefodednaikaaPC13G
import Derived.Test.YthiefodednaikaaMr
import Derived.Test.YthiefodednaikaaMc
import Derived.Test.YthiefodednaikaaRows
import Derived.Deep.Slices
import Derived.Laws.IdiomArrays
import Derived.Test.YthiefodednaikaaPEnv
set_option linter.unusedVariables false
set_option linter.unusedSimpArgs false
set_option linter.unusedSectionVars false
namespace Go.Proofs.Ythiefodednaikaa
open Go Go.Eng Go.Rx Go.Proofs Go.RowKit
set_option maxRecDepth 100000
theorem Zc2{m:Mem}{b:Nat}(s:List Nat)(h:∀c∈s,c < 256):Byt (m.add b (s.map fun c:Nat=>Value.int .u8 c)) (some ⟨b,0,none⟩) s:=
 ⟨.inr ⟨b,0,rfl,fun j v hj=>by rw[Nat.zero_add,Mem.add_same];exact hj⟩,h⟩
theorem ZmD{m:Mem}{b:Nat}{l:List T}(hf:m.free b)(hr:∀t∈l,Rep m t)(hl:l.length≤1000000000000000):RepL (m.add b (Zcy l)) (some ⟨b,0,none⟩) l:=
 Zsd (.inr ⟨b,0,rfl,fun j v hj=>by rw[Nat.zero_add,Mem.add_same];exact hj⟩) (fun t ht=>(hr t ht).mono (Mem.le_add hf _)) hl
theorem ZrC{m:Mem}{b:Nat}{l:List Rg}(h:m.reads b 0 (l.map Rg.cs).flatten)(hl:l.length≤1000000000000000)(hr:∀r∈l,Rep m r.t):Rgs m (some ⟨b,0,none⟩) l:=by
 refine⟨hl,.inr ⟨b,0,rfl,?_⟩,hr⟩
 have key:∀(l:List Rg)(o:Nat),m.reads b o (l.map Rg.cs).flatten→∀i r,l[i]?=some r→m.reads b (o+i*10) r.cs:=by
  intro l
  induction l with
  | nil=>intro o _ i r hi;simp at hi
  | cons x l ih=>
   intro o h i r hi
   cases i with
   | zero=>
    simp at hi;subst hi
    intro j v hj
    have bA:=(List.getElem?_eq_some_iff.1 hj).1
    rw[Nat.zero_mul,Nat.add_zero]
    exact h j v (by rw[List.map_cons,List.flatten_cons,List.getElem?_append_left bA];exact hj)
   | succ i=>
    rw[show o+(i+1)*10=(o+10)+i*10 by omega]
    refine ih (o+10) (fun j v hj=>?_) i r (by simpa using hi)
    have:=h (10+j) v (by
     rw[List.map_cons,List.flatten_cons,List.getElem?_append_right (by simp[Rg.cs]),show 10+j - x.cs.length=j by simp[Rg.cs]];exact hj)
    rw[show o+10+j=o+(10+j) by omega];exact this
 exact key l 0 h
theorem ZhA(a b c a' b' c':Int):EqIs Try.prog 46 (.agg #[.int .i64 a,.int .i64 b,.int .i64 c]) (.agg #[.int .i64 a',.int .i64 b',.int .i64 c']) (a == a'&&b == b'&&c == c'):=by
 refine⟨fun w=>?_,fun op ox oy w=>Zdi (by kernel_rfl) op ox oy _ _ w⟩
 have u3:=Try.underlying3
 have a3:=Try.isAgg3
 have z3:=Try.sizeOf3
 rw[Op.equal,Op.maxDepth,show(10000:Nat)=9999+1 from rfl]
 rw[run_equalIn_agg _ _ _ _ _ (by kernel_rfl) (by kernel_rfl)]
 have hf:(Try.prog.fieldsOf 46).toList=[⟨ "Rule",3,0,false, "", "",0⟩,⟨ "From",3,1,false, "", "",8⟩,⟨ "To",3,2,false, "", "",16⟩]:=by kernel_rfl
 rw[hf]
 go_simp
 by_cases h1:a=a' <;> by_cases h2:b=b' <;> by_cases h3:c=c' <;> simp[h1,h2,h3]
theorem ZmE(m:Mem):CX Try.prog 11 #[] m [] (Ret (.bool true)):=by
 apply Zio
 unfold Zfa
 refine Zan (Zdx 97 (by omega) m) Za7 (ZdI fun t1 m1 aW dU r6=>?_)
 refine Zan (ZuZ t1 m1 dU) Za7 (ZdI fun u m2 aY fA r7 b b1 nM=>?_)
 refine Zan (ZuW u (some ⟨b1,0,none⟩) [98,97,97,98] 4 1 (m2.add b1 _) (fA.mono (Mem.le_add nM _)) (fun _=>Zc2 _ (by decide))) ZfP ?_
 obtain⟨ga,gc,rfl⟩:=r7
 subst r6
 have e1:T.wrong (ZbF 5 0 (-1) ga gc [Zaz 97]) [98,97,97,98].length 1=0:=by kernel_rfl
 have e2:T.list (ZbF 5 0 (-1) ga gc [Zaz 97]) [98,97,97,98] 1 false=[1,2,3]:=by kernel_rfl
 have e3:T.wrong (ZbF 5 0 (-1) ga gc [Zaz 97]) [98,97,97,98].length 3=0:=by kernel_rfl
 have e4:T.list (ZbF 5 0 (-1) ga gc [Zaz 97]) [98,97,97,98] 3 true=[1,2,3]:=by kernel_rfl
 rw[e1,e2]
 rintro a3 n3 c3 x3 m3 bR ⟨a3',c3',qk,iY⟩ b2 ql
 simp only[Value.tuple.injEq,Array.mk.injEq,List.cons.injEq,Value.slice.injEq,Value.int.injEq,true_and,and_true]at qk
 obtain⟨⟨rfl,rfl,rfl⟩,rfl⟩:=qk
 have gQ:=Mem.le_trans (Mem.le_add nM _) bR
 have j4:=Mem.le_trans gQ (Mem.le_add ql ([98,97,97,98].map fun c:Nat=>Value.int .u8 c))
 refine Zan (ZrA _ (some ⟨b2,0,none⟩) [98,97,97,98] 4 3 (m3.add b2 _) (fA.mono j4) (fun _=>Zc2 _ (by decide))) ZfP ?_
 rw[e3,e4]
 rintro a4 n4 c4 x4 m4 cF ⟨a4',c4',qm,iZ⟩
 simp only[Value.tuple.injEq,Array.mk.injEq,List.cons.injEq,Value.slice.injEq,Value.int.injEq,true_and,and_true]at qm
 obtain⟨⟨rfl,rfl,rfl⟩,rfl⟩:=qm
 refine Zan (Zoc ⟨#[97,98]⟩ (by decide) m4) Za7 (ZdI fun ab m5 cO jF kN b3 b4 kU=>?_)
 obtain⟨xa,xc,rfl⟩:=kN
 have mw:(ZcU ⟨#[97,98]⟩)=[97,98]:=by rfl
 rw[mw]at jF ⊢
 generalize gq:ZbF 3 0 0 xa xc (([97,98]:List Nat).map Zaz)=abT at *
 have f1:Rg.wrong ⟨false,false,abT⟩ [120,97,98].length 3=0:=by subst gq;kernel_rfl
 have f2:ZfQ ⟨false,false,abT⟩ [120,97,98] 3=some 1:=by subst gq;kernel_rfl
 have f3:Rg.wrong ⟨true,false,abT⟩ [120,97,98].length 3=0:=by subst gq;kernel_rfl
 have f4:ZfQ ⟨true,false,abT⟩ [120,97,98] 3=none:=by subst gq;kernel_rfl
 have f5:Rg.wrong ⟨false,true,abT⟩ [120,97,98,99].length 3=0:=by subst gq;kernel_rfl
 have f6:ZfQ ⟨false,true,abT⟩ [120,97,98,99] 3=none:=by subst gq;kernel_rfl
 have gR:=Mem.le_trans cO (Mem.le_add kU ([120,97,98].map fun c:Nat=>Value.int .u8 c))
 refine Zan (Zqd ⟨false,false,abT⟩ (some ⟨b4,0,none⟩) [120,97,98] 3 3 (m5.add b4 _) (jF.mono (Mem.le_add kU _)) (fun _=>Zc2 _ (by decide))) (fun v _ _ e=>by rw[e,f2];rfl) ?_
 rw[f1,f2]
 intro i5 bb5 e5 m6 dK qn b6 pl
 simp only[Zlh,List.cons_append,List.nil_append,Value.tuple.injEq,Array.mk.injEq,List.cons.injEq,Value.bool.injEq,Value.int.injEq,true_and,and_true]at qn
 obtain⟨rfl,rfl,rfl⟩:=qn
 refine Zan (ZmC ⟨true,false,abT⟩ (some ⟨b6,0,none⟩) [120,97,98] 3 3 (m6.add b6 _) ((jF.mono (Mem.le_add kU _)).mono (Mem.le_trans dK (Mem.le_add pl _))) (fun _=>Zc2 _ (by decide))) (fun v _ _ e=>by rw[e];rfl) ?_
 rw[f3,f4]
 intro bb7 e7 m7 eA qo b8 pm
 simp only[Option.isSome_none,Value.tuple.injEq,Array.mk.injEq,List.cons.injEq,Value.bool.injEq,Value.int.injEq,true_and,and_true]at qo
 obtain⟨rfl,rfl⟩:=qo
 have j5:Rep m7 abT:=(jF.mono (Mem.le_add kU _)).mono (Mem.le_trans dK (Mem.le_trans (Mem.le_add pl _) eA))
 refine Zan (ZmC ⟨false,true,abT⟩ (some ⟨b8,0,none⟩) [120,97,98,99] 4 3 (m7.add b8 _) (j5.mono (Mem.le_add pm _)) (fun _=>Zc2 _ (by decide))) (fun v _ _ e=>by rw[e];rfl) ?_
 rw[f5,f6]
 intro bb9 e9 m9 ls qp
 simp only[Option.isSome_none,Value.tuple.injEq,Array.mk.injEq,List.cons.injEq,Value.bool.injEq,Value.int.injEq,true_and,and_true]at qp
 obtain⟨rfl,rfl⟩:=qp
 refine Zda rfl ?_
 intro b10 i7
 have j6:m3.le m5:=Mem.le_trans (Mem.le_add ql _) (Mem.le_trans cF cO)
 have io:m5.le m9:=Mem.le_trans (Mem.le_add kU _) (Mem.le_trans dK (Mem.le_trans (Mem.le_add pl _) (Mem.le_trans eA (Mem.le_trans (Mem.le_add pm _) ls))))
 refine Zak (Zhz [1,2,3] [1,2,3] _ (some ⟨b10,0,none⟩) _ 3 (m9.add b10 _) (iY.mono (Mem.le_trans j6 (Mem.le_trans io (Mem.le_add i7 _)))) (.inr ⟨b10,0,rfl,fun j v hj=>by rw[Nat.zero_add,Mem.add_same];exact hj⟩) (by decide)) fun m10 jG=>Zda rfl ?_
 intro b12 jH
 refine Zak (Zhz [1,2,3] [1,2,3] _ (some ⟨b12,0,none⟩) _ 3 (m10.add b12 _) (iZ.mono (Mem.le_trans cO (Mem.le_trans io (Mem.le_trans (Mem.le_add i7 _) (Mem.le_trans jG (Mem.le_add jH _)))))) (.inr ⟨b12,0,rfl,fun j v hj=>by rw[Nat.zero_add,Mem.add_same];exact hj⟩) (by decide)) fun m11 kV=>Zda rfl ?_
 refine Zda rfl (Zda rfl (Zda rfl (Zda rfl ?_)))
 refine⟨fun i _ _=>if i=0 then Zih (fun t=>∃a c,t=ZbF 3 0 0 a c ([98,99].map Zaz))else Zih (fun t=>t=Zaz 98),?_⟩
 have eY:(ZcU ⟨#[98,99]⟩)=[98,99]:=by rfl
 refine⟨Zih (fun t=>∃a c,t=ZbF 3 0 0 a c ([98,99].map Zaz)),rfl,by have:=Zoc ⟨#[98,99]⟩ (by decide) m11;rw[eY]at this;exact this,Za7,ZdI fun bc m12 hZ pn mV=>?_⟩
 refine⟨Zih (fun t=>t=Zaz 98),rfl,Zdx 98 (by omega) m12,Za7,ZdI fun l1 m13 ia r8 jX b14 r9=>?_⟩
 refine⟨Zih (fun t=>t=Zaz 98),rfl,Zdx 98 (by omega) m13,Za7,ZdI fun l2 m14 ib sd fU b15 se=>?_⟩
 refine⟨Zih (fun t=>t=Zaz 98),rfl,Zdx 98 (by omega) m14,Za7,ZdI fun l3 m15 sf sg jk b16 si b17 sj=>?_⟩
 intro V s7 s8 s9 ta tc b18 sk M dD cW ic dO lr iX td sm sn sq
 subst jX fU jk
 obtain⟨ya,yc,rfl⟩:=mV
 have kN:Rep M abT:=(j5.mono (Mem.le_trans (Mem.le_add pm _) ls)).mono (Mem.le_trans (Mem.le_add i7 _) (Mem.le_trans jG (Mem.le_trans (Mem.le_add jH _) (Mem.le_trans kV dD))))
 have R14:Rgs M (some ⟨b14,0,none⟩) [⟨false,false,ZbF 3 0 0 ya yc ([98,99].map Zaz)⟩,⟨false,false,Zaz 98⟩]:=ZrC (fun j v hj=>by rw[Nat.zero_add];exact dO _ _ _ (by rw[Mem.add_same];exact hj)) (by simp) (by intro r hr;simp at hr;rcases hr with rfl|rfl;exact pn.mono cW;exact Zd6 _ _)
 have R15:Rgs M (some ⟨b15,0,none⟩) [⟨false,true,Zaz 98⟩,⟨false,false,abT⟩]:=ZrC (fun j v hj=>by rw[Nat.zero_add];exact iX _ _ _ (by rw[Mem.add_same];exact hj)) (by simp) (by intro r hr;simp at hr;rcases hr with rfl|rfl;exact Zd6 _ _;exact kN)
 have R16:Rgs M (some ⟨b16,0,none⟩) [⟨false,true,Zaz 98⟩,⟨false,false,abT⟩]:=ZrC (fun j v hj=>by rw[Nat.zero_add];exact sm _ _ _ (by rw[Mem.add_same];exact hj)) (by simp) (by intro r hr;simp at hr;rcases hr with rfl|rfl;exact Zd6 _ _;exact kN)
 have R17:Rgs M (some ⟨b17,0,none⟩) [⟨false,false,ZbF 5 0 (-1) ga gc [Zaz 97]⟩]:=ZrC (fun j v hj=>by rw[Nat.zero_add];exact sn _ _ _ (by rw[Mem.add_same];exact hj)) (by simp) (by intro r hr;simp at hr;subst hr;exact fA.mono (Mem.le_trans j4 (Mem.le_trans cF (Mem.le_trans cO (Mem.le_trans io (Mem.le_trans (Mem.le_add i7 _) (Mem.le_trans jG (Mem.le_trans (Mem.le_add jH _) (Mem.le_trans kV dD)))))))))
 refine⟨fun xs css tvs m' q=>∃k:Nat,k≤4∧xs=[.int .i64 k]∧q=4 - k,⟨4,0,by omega,rfl,rfl⟩,?_⟩
 rintro z m16 q i8 ⟨k,hk,hz,hq⟩
 obtain rfl:z=k:=by simpa using hz
 refine Zab (fun bA=>?_) (fun cN=>?_)
 ·have h4:k=0∨k=1∨k=2∨k=3:=by have:=of_decide_eq_true bA;omega
  rcases h4 with rfl|rfl|rfl|rfl
  ·have g1:ZeU [⟨false,false,ZbF 3 0 0 ya yc ([98,99].map Zaz)⟩,⟨false,false,Zaz 98⟩] [97,98,99]=some (1,1,2):=by kernel_rfl
   have g2:ZaY [⟨false,false,ZbF 3 0 0 ya yc ([98,99].map Zaz)⟩,⟨false,false,Zaz 98⟩] [97,98,99].length 0=0:=by kernel_rfl
   refine⟨⟨by omega,by omega⟩,Zaa rfl fun b19=>Zaa rfl (Zag rfl (Zag rfl (Zaa rfl fun b20 c8 fL lu=>?_)))⟩
   refine Zan (Zib [⟨false,false,ZbF 3 0 0 ya yc ([98,99].map Zaz)⟩,⟨false,false,Zaz 98⟩] (some ⟨b14,0,none⟩) 2 (some ⟨b20,0,none⟩) [97,98,99] c8 (m16.add b20 _) (fun _=>R14.mono (Mem.le_trans i8 (Mem.le_add fL _))) (fun _=>Zc2 _ (by decide))) (fun v _ _ e=>by rw[e,g1];rfl) ?_
   rw[g1,g2]
   intro u1 u2 u3 bo er m17 i9 fM b22
   simp only[ZlY,List.cons_append,List.nil_append,Value.tuple.injEq,Value.agg.injEq,Array.mk.injEq,List.cons.injEq,Value.bool.injEq,Value.int.injEq,true_and,and_true]at fM
   obtain⟨⟨rfl,rfl,rfl⟩,rfl,rfl⟩:=fM
   refine⟨false,Zaa rfl ⟨true,ZhA _ _ _ _ _ _,Zda rfl (Zda rfl ⟨by trivial,rfl⟩)⟩,Zda rfl ⟨by trivial,3,by omega,1,by omega,rfl,rfl⟩⟩
  ·have g1:ZeU [⟨false,true,Zaz 98⟩,⟨false,false,abT⟩] [97,98]=some (0,1,2):=by subst gq;kernel_rfl
   have g2:ZaY [⟨false,true,Zaz 98⟩,⟨false,false,abT⟩] [97,98].length 0=0:=by subst gq;kernel_rfl
   refine⟨⟨by omega,by omega⟩,Zaa rfl fun b19=>Zaa rfl (Zag rfl (Zag rfl (Zaa rfl fun b20 c8 fL lu=>?_)))⟩
   refine Zan (Zib [⟨false,true,Zaz 98⟩,⟨false,false,abT⟩] (some ⟨b15,0,none⟩) 2 (some ⟨b20,0,none⟩) [97,98] c8 (m16.add b20 _) (fun _=>R15.mono (Mem.le_trans i8 (Mem.le_add fL _))) (fun _=>Zc2 _ (by decide))) (fun v _ _ e=>by rw[e,g1];rfl) ?_
   rw[g1,g2]
   intro u1 u2 u3 bo er m17 i9 fM b22
   simp only[ZlY,List.cons_append,List.nil_append,Value.tuple.injEq,Value.agg.injEq,Array.mk.injEq,List.cons.injEq,Value.bool.injEq,Value.int.injEq,true_and,and_true]at fM
   obtain⟨⟨rfl,rfl,rfl⟩,rfl,rfl⟩:=fM
   refine⟨false,Zaa rfl ⟨true,ZhA _ _ _ _ _ _,Zda rfl (Zda rfl ⟨by trivial,rfl⟩)⟩,Zda rfl ⟨by trivial,2,by omega,2,by omega,rfl,rfl⟩⟩
  ·have g1:ZeU [⟨false,true,Zaz 98⟩,⟨false,false,abT⟩] [97,98,99]=some (1,0,2):=by subst gq;kernel_rfl
   have g2:ZaY [⟨false,true,Zaz 98⟩,⟨false,false,abT⟩] [97,98,99].length 0=0:=by subst gq;kernel_rfl
   refine⟨⟨by omega,by omega⟩,Zaa rfl fun b19=>Zaa rfl (Zag rfl (Zag rfl (Zaa rfl fun b20 c8 fL lu=>?_)))⟩
   refine Zan (Zib [⟨false,true,Zaz 98⟩,⟨false,false,abT⟩] (some ⟨b16,0,none⟩) 2 (some ⟨b20,0,none⟩) [97,98,99] c8 (m16.add b20 _) (fun _=>R16.mono (Mem.le_trans i8 (Mem.le_add fL _))) (fun _=>Zc2 _ (by decide))) (fun v _ _ e=>by rw[e,g1];rfl) ?_
   rw[g1,g2]
   intro u1 u2 u3 bo er m17 i9 fM b22
   simp only[ZlY,List.cons_append,List.nil_append,Value.tuple.injEq,Value.agg.injEq,Array.mk.injEq,List.cons.injEq,Value.bool.injEq,Value.int.injEq,true_and,and_true]at fM
   obtain⟨⟨rfl,rfl,rfl⟩,rfl,rfl⟩:=fM
   refine⟨false,Zaa rfl ⟨true,ZhA _ _ _ _ _ _,Zda rfl (Zda rfl ⟨by trivial,rfl⟩)⟩,Zda rfl ⟨by trivial,1,by omega,3,by omega,rfl,rfl⟩⟩
  ·have g1:ZeU [⟨false,false,ZbF 5 0 (-1) ga gc [Zaz 97]⟩] [98,97]=some (0,0,0):=by kernel_rfl
   have g2:ZaY [⟨false,false,ZbF 5 0 (-1) ga gc [Zaz 97]⟩] [98,97].length 0=0:=by kernel_rfl
   refine⟨⟨by omega,by omega⟩,Zaa rfl fun b19=>Zaa rfl (Zag rfl (Zag rfl (Zaa rfl fun b20 c8 fL lu=>?_)))⟩
   refine Zan (Zib [⟨false,false,ZbF 5 0 (-1) ga gc [Zaz 97]⟩] (some ⟨b17,0,none⟩) 1 (some ⟨b20,0,none⟩) [98,97] c8 (m16.add b20 _) (fun _=>R17.mono (Mem.le_trans i8 (Mem.le_add fL _))) (fun _=>Zc2 _ (by decide))) (fun v _ _ e=>by rw[e,g1];rfl) ?_
   rw[g1,g2]
   intro u1 u2 u3 bo er m17 i9 fM b22
   simp only[ZlY,List.cons_append,List.nil_append,Value.tuple.injEq,Value.agg.injEq,Array.mk.injEq,List.cons.injEq,Value.bool.injEq,Value.int.injEq,true_and,and_true]at fM
   obtain⟨⟨rfl,rfl,rfl⟩,rfl,rfl⟩:=fM
   refine⟨false,Zaa rfl ⟨true,ZhA _ _ _ _ _ _,Zda rfl (Zda rfl ⟨by trivial,rfl⟩)⟩,Zda rfl ⟨by trivial,0,by omega,4,by omega,rfl,rfl⟩⟩
 ·refine Zan (Zoc ⟨#[97,98]⟩ (by decide) m16) Za7 (ZdI fun t5 m17 i9 sr lw=>?_)
  refine Zan (Zdx 97 (by omega) m17) Za7 (ZdI fun t6 m18 my ss su b19 mz=>?_)
  refine Zan (Zsv (some ⟨b19,0,none⟩) 2 [t5,t6] (m18.add b19 _) (ZmD mz (by intro t ht;simp at ht;rcases ht with rfl|rfl;exact sr.mono my;exact ss) (by simp))) Za7 (ZdI fun t7 m19 pp pq sw=>?_)
  refine Zan (Zdx 99 (by omega) m19) Za7 (ZdI fun t8 m20 mA sx sy=>?_)
  refine Zan (Zoc ⟨#[98,99]⟩ (by decide) m20) Za7 (ZdI fun t9 m21 kW pr qq b20 fL=>?_)
  refine Zan (Zsv (some ⟨b20,0,none⟩) 2 [t8,t9] (m21.add b20 _) (ZmD fL (by intro t ht;simp at ht;rcases ht with rfl|rfl;exact sx.mono kW;exact pr) (by simp))) Za7 (ZdI fun t10 m22 mB pu pv b21 mC=>?_)
  refine Zan (ZuY (some ⟨b21,0,none⟩) 2 [t7,t10] (m22.add b21 _) (ZmD mC (by intro t ht;simp at ht;rcases ht with rfl|rfl;exact pq.mono (Mem.le_trans mA (Mem.le_trans kW (Mem.le_trans (Mem.le_add fL _) mB)));exact pu) (by simp))) Za7 (ZdI fun t11 m23 pw kX iz b22 b23 jI=>?_)
  rw[mw]at lw
  rw[eY]at qq
  obtain⟨p1,p2,rfl⟩:=lw
  obtain⟨p3,p4,rfl⟩:=qq
  subst su sy sw pv
  have w3:t11.wrong [97,98,99].length 0=0:=by subst iz;kernel_rfl
  have w2:t11.wrong [97,99].length 0=0:=by subst iz;kernel_rfl
  have w4:t11.wrong [97,98,98,99].length 0=0:=by subst iz;kernel_rfl
  have y1:T.matches t11 [97,98,99]=true:=by subst iz;kernel_rfl
  have y2:T.matches t11 [97,99]=true:=by subst iz;kernel_rfl
  have y3:T.matches t11 [97,98,98,99]=true:=by subst iz;kernel_rfl
  refine⟨fun xs css tvs m' q=>∃k:Nat,k≤3∧xs=[.int .i64 k]∧q=3 - k,⟨3,0,by omega,rfl,rfl⟩,?_⟩
  rintro z m24 q jJ ⟨k,hk,hz,hq⟩
  obtain rfl:z=k:=by simpa using hz
  refine Zab (fun bA=>?_) (fun cN=>?_)
  ·have h4:k=0∨k=1∨k=2:=by have:=of_decide_eq_true bA;omega
   rcases h4 with rfl|rfl|rfl
   ·refine⟨⟨by omega,by omega⟩,Zag rfl (Zaa rfl fun b24 c15 ja mD=>?_)⟩
    refine Zan (Zia t11 (some ⟨b24,0,none⟩) [97,98,99] c15 (m24.add b24 _) (kX.mono (Mem.le_trans (Mem.le_add jI _) (Mem.le_trans jJ (Mem.le_add ja _)))) (fun _=>Zc2 _ (by decide))) (fun v _ _ e=>by rw[e];rfl) ?_
    rw[y1,w3]
    intro bo er m25 mE gS
    simp only[Value.tuple.injEq,Array.mk.injEq,List.cons.injEq,Value.bool.injEq,Value.int.injEq,true_and,and_true]at gS
    obtain⟨rfl,rfl⟩:=gS
    exact⟨false,Zda rfl ⟨by trivial,rfl⟩,Zda rfl ⟨by trivial,2,by omega,1,by omega,rfl,rfl⟩⟩
   ·refine⟨⟨by omega,by omega⟩,Zag rfl (Zaa rfl fun b24 c15 ja mD=>?_)⟩
    refine Zan (Zia t11 (some ⟨b24,0,none⟩) [97,99] c15 (m24.add b24 _) (kX.mono (Mem.le_trans (Mem.le_add jI _) (Mem.le_trans jJ (Mem.le_add ja _)))) (fun _=>Zc2 _ (by decide))) (fun v _ _ e=>by rw[e];rfl) ?_
    rw[y2,w2]
    intro bo er m25 mE gS
    simp only[Value.tuple.injEq,Array.mk.injEq,List.cons.injEq,Value.bool.injEq,Value.int.injEq,true_and,and_true]at gS
    obtain⟨rfl,rfl⟩:=gS
    exact⟨false,Zda rfl ⟨by trivial,rfl⟩,Zda rfl ⟨by trivial,1,by omega,2,by omega,rfl,rfl⟩⟩
   ·refine⟨⟨by omega,by omega⟩,Zag rfl (Zaa rfl fun b24 c15 ja mD=>?_)⟩
    refine Zan (Zia t11 (some ⟨b24,0,none⟩) [97,98,98,99] c15 (m24.add b24 _) (kX.mono (Mem.le_trans (Mem.le_add jI _) (Mem.le_trans jJ (Mem.le_add ja _)))) (fun _=>Zc2 _ (by decide))) (fun v _ _ e=>by rw[e];rfl) ?_
    rw[y3,w4]
    intro bo er m25 mE gS
    simp only[Value.tuple.injEq,Array.mk.injEq,List.cons.injEq,Value.bool.injEq,Value.int.injEq,true_and,and_true]at gS
    obtain⟨rfl,rfl⟩:=gS
    exact⟨false,Zda rfl ⟨by trivial,rfl⟩,Zda rfl ⟨by trivial,0,by omega,3,by omega,rfl,rfl⟩⟩
  ·exact Zac (Mem.le_trans aW (Mem.le_trans aY (Mem.le_trans gQ (Mem.le_trans j6 (Mem.le_trans io (Mem.le_trans (Mem.le_add i7 _) (Mem.le_trans jG (Mem.le_trans (Mem.le_add jH _) (Mem.le_trans kV (Mem.le_trans dD (Mem.le_trans i8 (Mem.le_trans i9 (Mem.le_trans my (Mem.le_trans (Mem.le_add mz _) (Mem.le_trans pp (Mem.le_trans mA (Mem.le_trans kW (Mem.le_trans (Mem.le_add fL _) (Mem.le_trans mB (Mem.le_trans (Mem.le_add mC _) (Mem.le_trans pw (Mem.le_trans (Mem.le_add jI _) jJ)))))))))))))))))))))) rfl
end Go.Proofs.Ythiefodednaikaa
set_option linter.unusedVariables false
set_option linter.unusedSimpArgs false
set_option linter.unusedSectionVars false
namespace Go.Proofs.Ythiefodednaikaa
open Go Go.Eng Go.Rx Go.Proofs Go.RowKit
set_option maxRecDepth 100000
end Go.Proofs.Ythiefodednaikaa
set_option linter.unusedVariables false
set_option linter.unusedSimpArgs false
set_option linter.unusedSectionVars false
namespace Go.Proofs.Ythiefodednaikaa
open Go Go.Eng Go.Rx Go.Proofs Go.RowKit
set_option maxRecDepth 100000
structure Sm (m:Mem)(a:Option Addr)(l:List (Nat×Nat×Nat)):Prop where
 len:l.length≤9223372036854775807
 byte:∀s∈l,s.1 < 256∧s.2.1 < 256∧s.2.2 < 256
 at':∀i s,l[i]?=some s→∃b o,a=some ⟨b,o,none⟩∧m.reads b (o+i*3) [.int .u8 s.1,.int .u8 s.2.1,.int .u8 s.2.2]
theorem Sm.mono{m m':Mem}{a l}(h:Sm m a l)(hm:m.le m'):Sm m' a l:=
 ⟨h.len,h.byte,fun i s hi=>by obtain⟨b,o,h1,h2⟩:=h.at' i s hi;exact⟨b,o,h1,h2.mono hm⟩⟩
end Go.Proofs.Ythiefodednaikaa
set_option linter.unusedVariables false
set_option linter.unusedSimpArgs false
namespace Go.Proofs.Ythiefodednaikaa
open Go Go.Eng Go.Rx Go.Proofs Go.RowKit Go.ChangeShapes Go.WideShapes Go.ChangeAt
set_option maxRecDepth 100000
theorem ZvX:ownKnob Try.prog.godebug=none:=by kernel_rfl
theorem Zu0:laidOutB Try.prog=true:=by kernel_rfl
theorem Zww{n:Int}(h:(Lit.int .u8 n).wf=true):0≤n∧n < 256:=by
 have:0≤n∧n≤255:=by simpa[Lit.wf,IntKind.min,IntKind.max,IntKind.signed,IntKind.bits]using h
 omega
theorem Zu1{n:Int}(h:(Lit.int .i64 n).wf=true) : -9223372036854775808≤n∧n≤9223372036854775807:=by
 simpa[Lit.wf,IntKind.min,IntKind.max,IntKind.signed,IntKind.bits]using h
theorem ZrD{w:World}{a:Addr}{v:Value}(h:w.cell? ((a.add (0*3)).add 0)=some v):∃b o,a=⟨b,o,none⟩:=by
 obtain⟨b,o,sp⟩:=a
 cases sp with
 | none=>exact⟨b,o,rfl⟩
 | some s=>
  exfalso
  have e:(Addr.add (Addr.add ⟨b,o,some s⟩ (0*3)) 0)=⟨b,o,some s⟩:=rfl
  rw[e]at h
  unfold World.cell? at h
  split at h
  ·simp at h
  ·cases h
theorem Zjz(a:Option Addr)(n c:Nat):(Value.slice a n c).cells.toList=[.slice a n c]:=rfl
theorem ZvY:Try.prog.cellsOf 5=1:=by kernel_rfl
theorem Zu2{H:Type}{enc:TypeId×Value→H}{W:World}{dC:Bool}{v:Value}{d:DataW H}{ps:List MemPlace}{r:Reach}{b0:Nat}(gt:Value.okWide Try.prog W r b0 32 v)(h:DataW.Trod enc Try.prog W 0 (fun _=>true) dC 32 v d ps):
  ∃s a c,v=.slice a s.length c∧Byt (ZpL W) a s∧s.length≤c∧s.length≤9223372036854775807:=by
 obtain⟨n,h⟩:=h
 obtain⟨a0,len0,cap0,rfl⟩:=okWide_slice Try.underlying32 gt
 rw[Zjz]at h
 rcases Go.Deep.open_slice1 Try.underlying32 ZvY h with⟨cR,_⟩|⟨a,len,m,m',n',V,D,Pl,cR,hb,hl,hm,eU,_,hx⟩
 ·exact⟨[],none,0,by simpa using cR,⟨.inl rfl,by simp⟩,Nat.le_refl _,by simp⟩
 ·simp only[if_true]at eU
  subst eU
  have hm':m'≤9223372036854775807:=by simp[maxLen]at hm;omega
  obtain⟨F,hF⟩:=Go.Deep.choose_lt (α:=Nat) (n:=m') (p:=fun i s=>W.cell? (a.add i)=some (.int .u8 (s:Nat))∧s < 256) (fun i hi=>by
   obtain⟨h1,h2⟩:=hx i hi
   obtain⟨k,hk,_,hw⟩:=DataW.trod_int Try.underlying5 h2
   have:=Zww hw
   obtain⟨k',rfl⟩:∃k':Nat,k=k':=⟨k.toNat,by omega⟩
   simp at hk
   exact⟨k',by rw[h1,hk],by omega⟩)
  refine⟨(List.range len).map F,some a,m',by have:=cR;simp at this ⊢;exact this,⟨?_,?_⟩,by simpa using hl,by simp;omega⟩
  ·by_cases h0:len=0
   ·left;subst h0;rfl
   ·right
    obtain⟨b,o,rfl⟩:=ZrD (a:=a) (v:=.int .u8 (F 0:Nat)) (by
     have:=(hF 0 (by omega)).1
     exact this)
    refine⟨b,o,rfl,fun j v hj=>?_⟩
    rw[List.map_map,List.getElem?_map]at hj
    obtain⟨i',hi',rfl⟩:=Option.map_eq_some_iff.1 hj
    have bA:j < len:=by have:=(List.getElem?_eq_some_iff.1 hi').1;simpa using this
    have e:i'=j:=by rw[List.getElem?_range bA]at hi';exact(Option.some.inj hi').symm
    subst e
    have:=(hF i' (by omega)).1
    rw[Zbu]at this
    exact this
  ·intro c hc
   obtain⟨i,hi,rfl⟩:=List.mem_map.1 hc
   exact(hF i (by have:=List.mem_range.1 hi;omega)).2
end Go.Proofs.Ythiefodednaikaa
set_option linter.unusedVariables false
set_option linter.unusedSimpArgs false
namespace Go.Proofs.Ythiefodednaikaa
open Go Go.Eng Go.Rx Go.Proofs Go.RowKit Go.ChangeShapes Go.WideShapes Go.ChangeAt
set_option maxRecDepth 100000
theorem ZwZ{w:World}{a:Addr}{v:Value}(h:w.cell? ((a.add (0*8)).add 0)=some v):∃b o,a=⟨b,o,none⟩:=by
 obtain⟨b,o,sp⟩:=a
 cases sp with
 | none=>exact⟨b,o,rfl⟩
 | some s=>
  exfalso
  have e:(Addr.add (Addr.add ⟨b,o,some s⟩ (0*8)) 0)=⟨b,o,some s⟩:=rfl
  rw[e]at h
  unfold World.cell? at h
  split at h
  ·simp at h
  ·cases h
theorem Zw0{n:Int}(h:(Lit.int .u64 n).wf=true):0≤n∧n < 18446744073709551616:=by
 have:0≤n∧n≤18446744073709551615:=by simpa[Lit.wf,IntKind.min,IntKind.max,IntKind.signed,IntKind.bits]using h
 omega
section
variable {H:Type} {enc:TypeId×Value→H} {W:World} {dC:Bool}
theorem Zpb{n:Nat}{c0 c1 c2 c3:Value}{x:DataW H×List MemPlace}(h:DataW.trod enc Try.prog W 0 (fun _=>true) dC n 26 [c0,c1,c2,c3]=some x):∃s0 s1 s2 s3,c0=.int .u64 s0∧c1=.int .u64 s1∧c2=.int .u64 s2∧c3=.int .u64 s3∧(0≤s0∧s0 < 18446744073709551616)∧(0≤s1∧s1 < 18446744073709551616)∧(0≤s2∧s2 < 18446744073709551616)∧(0≤s3∧s3 < 18446744073709551616):=by
 obtain⟨y0,y1,y2,y3,n',_,h0,h1,h2,h3⟩:=trod_array4 Try.underlying26 (by kernel_rfl) h
 obtain⟨n0,k0,_,w0⟩:=DataW.trod_int Try.underlying24 h0
 obtain⟨n1,k1,_,w1⟩:=DataW.trod_int Try.underlying24 h1
 obtain⟨n2,k2,_,w2⟩:=DataW.trod_int Try.underlying24 h2
 obtain⟨n3,k3,_,w3⟩:=DataW.trod_int Try.underlying24 h3
 simp at k0 k1 k2 k3
 exact⟨n0,n1,n2,n3,k0,k1,k2,k3,Zw0 w0,Zw0 w1,Zw0 w2,Zw0 w3⟩
theorem Zpc:Try.prog.underlying 29=some (.struct #[⟨ "Kind",5,0,false, "", "",0⟩,⟨ "Set",26,1,false, "", "",8⟩,⟨ "Min",3,5,false, "", "",40⟩,⟨ "Max",3,6,false, "", "",48⟩,⟨ "Subs",27,7,false, "", "",56⟩]):=by kernel_rfl
instance:Inhabited T:=⟨T0⟩
theorem ZrE:∀(n:Nat){cs:List Value}{x:DataW H×List MemPlace},DataW.trod enc Try.prog W 0 (fun _=>true) dC n 29 cs=some x→∃t:T,cs=t.cs∧RepW (ZpL W) t:=by
 intro n
 induction n using Nat.strongRecOn with
 | ind n ih=>
  intro cs x h
  obtain⟨xs,k,hk,_,bQ,eY,hx⟩:=DataW.trod_struct Zpc h
  have lu:Try.prog.cellsOf 29=8:=by kernel_rfl
  rw[lu]at bQ
  obtain⟨c0,c1,c2,c3,c4,c5,c6,c7,rfl⟩:∃a b c d e f g h,cs=[a,b,c,d,e,f,g,h]:=by
   match cs,bQ with
   | [a,b,c,d,e,f,g,h],_=>exact⟨a,b,c,d,e,f,g,h,rfl⟩
  obtain⟨z0,z1,z2,z3,z4,rfl⟩:∃a b c d e,xs=[a,b,c,d,e]:=by
   match xs,eY with
   | [a,b,c,d,e],_=>exact⟨a,b,c,d,e,rfl⟩
  have k0:Try.prog.cellsOf 5=1:=by kernel_rfl
  have k1:Try.prog.cellsOf 26=4:=by kernel_rfl
  have k2:Try.prog.cellsOf 3=1:=by kernel_rfl
  have k4:Try.prog.cellsOf 27=1:=by kernel_rfl
  have g0:DataW.trod enc Try.prog W 0 (fun _=>true) dC k 5 (List.take (Try.prog.cellsOf 5) (List.drop 0 [c0,c1,c2,c3,c4,c5,c6,c7]))=some z0:=hx 0 _ rfl
  have g1:DataW.trod enc Try.prog W 0 (fun _=>true) dC k 26 (List.take (Try.prog.cellsOf 26) (List.drop 1 [c0,c1,c2,c3,c4,c5,c6,c7]))=some z1:=hx 1 _ rfl
  have g2:DataW.trod enc Try.prog W 0 (fun _=>true) dC k 3 (List.take (Try.prog.cellsOf 3) (List.drop 5 [c0,c1,c2,c3,c4,c5,c6,c7]))=some z2:=hx 2 _ rfl
  have g3:DataW.trod enc Try.prog W 0 (fun _=>true) dC k 3 (List.take (Try.prog.cellsOf 3) (List.drop 6 [c0,c1,c2,c3,c4,c5,c6,c7]))=some z3:=hx 3 _ rfl
  have g4:DataW.trod enc Try.prog W 0 (fun _=>true) dC k 27 (List.take (Try.prog.cellsOf 27) (List.drop 7 [c0,c1,c2,c3,c4,c5,c6,c7]))=some z4:=hx 4 _ rfl
  rw[k0]at g0
  rw[k1]at g1
  rw[k2]at g2 g3
  rw[k4]at g4
  replace g0:DataW.trod enc Try.prog W 0 (fun _=>true) dC k 5 [c0]=some z0:=g0
  replace g1:DataW.trod enc Try.prog W 0 (fun _=>true) dC k 26 [c1,c2,c3,c4]=some z1:=g1
  replace g2:DataW.trod enc Try.prog W 0 (fun _=>true) dC k 3 [c5]=some z2:=g2
  replace g3:DataW.trod enc Try.prog W 0 (fun _=>true) dC k 3 [c6]=some z3:=g3
  replace g4:DataW.trod enc Try.prog W 0 (fun _=>true) dC k 27 [c7]=some z4:=g4
  obtain⟨kk,q0,_,w0⟩:=DataW.trod_int Try.underlying5 g0
  obtain⟨s0,s1,s2,s3,rfl,rfl,rfl,rfl,o0,o1,o2,o3⟩:=Zpb g1
  obtain⟨mn,q2,_,w2⟩:=DataW.trod_int Try.underlying3 g2
  obtain⟨mx,q3,_,w3⟩:=DataW.trod_int Try.underlying3 g3
  simp only[List.cons.injEq,and_true]at q0 q2 q3
  subst q0 q2 q3
  have ok:OkN kk s0 s1 s2 s3 mn mx:=⟨Zww w0,o0,o1,o2,o3,Zu1 w2,Zu1 w3⟩
  rcases DataW.trod_slice Try.underlying27 g4 with⟨q4,_⟩|⟨a,len,cap,elems,rest,n',hn',q4,_,_,hl,hm,sA,mF,_⟩
  ·simp only[List.cons.injEq,and_true]at q4
   subst q4
   exact⟨.node kk s0 s1 s2 s3 mn mx none 0 [],rfl,Zmy.2 ⟨by simp[T.subs],.inl rfl,ok⟩⟩
  ·simp only[List.cons.injEq,and_true]at q4
   subst q4
   rw[lu]at mF
   obtain⟨F,hF⟩:=Go.Deep.choose_lt (α:=T) (n:=len) (p:=fun i t=>(∀j v,t.cs[j]?=some v→W.cell? ((a.add (i*8)).add j)=some v)∧RepW (ZpL W) t) (fun i hi=>by
    have h1:=mF i hi
    rw[List.getElem?_eq_getElem (by omega)]at h1
    obtain⟨cs',h2,h3⟩:=Option.bind_eq_some_iff.1 h1
    obtain⟨_,ip,hc⟩:=World.cells?_some h2
    obtain⟨t,rfl,ht⟩:=ih n' (by omega) h3
    refine⟨t,fun j v hj=>?_,ht⟩
    have bA:=(List.getElem?_eq_some_iff.1 hj).1
    rw[hc j (by rw[ip]at bA;exact bA)];exact hj)
   have pg:cap≤9223372036854775807:=by simp[maxLen]at hm;omega
   refine⟨.node kk s0 s1 s2 s3 mn mx (some a) cap ((List.range len).map F),by simp[T.cs,T.sl,T.k,T.s0,T.s1,T.s2,T.s3,T.mn,T.mx,T.a,T.c,T.subs],Zmy.2 ⟨by simp[T.subs];omega,?_,ok⟩⟩
   by_cases h0:len=0
   ·left;subst h0;rfl
   ·right
    obtain⟨b,o,rfl⟩:=ZwZ ((hF 0 (by omega)).1 0 _ rfl)
    refine⟨b,o,rfl,ZnL fun i t hi=>?_⟩
    rw[T.subs,List.getElem?_map]at hi
    obtain⟨i',hi',rfl⟩:=Option.map_eq_some_iff.1 hi
    have bA:i < len:=by have:=(List.getElem?_eq_some_iff.1 hi').1;simpa using this
    have e:i'=i:=by rw[List.getElem?_range bA]at hi';exact(Option.some.inj hi').symm
    subst e
    refine⟨fun j v hj=>?_,(hF i' bA).2⟩
    have:=(hF i' bA).1 j v hj
    rw[Zbu,Zbu]at this
    exact this
end
end Go.Proofs.Ythiefodednaikaa
set_option linter.unusedVariables false
namespace Go.Proofs.Ythiefodednaikaa
open Go Go.Eng Go.Proofs Go.RowKit
open Go.Value (int slice agg)
open Go.IntKind (u8 u64 i64)
set_option maxRecDepth 100000
noncomputable def ZfR:Env:={ EB with
 loops:=(fun i=>bif Nat.beq i 4 then⟨[(7,.int .i64)],[],[],false⟩ else⟨[],[],[],false⟩)
 joins:=(fun i=>bif Nat.beq i 1 then some [(16,.bool)]else bif Nat.beq i 6 then some [(38,.bool)]else none)
 frzNew:=[3]
 gb:=true
 ldF:=(fun i=>bif Nat.beq i 9 then some none else bif Nat.beq i 35 then some none else none) }
def ZcJ(p0:List Value)(p1a:Option Addr)(p1n p1c:Nat)(p2:Int)(m:Mem)(R:RT):Prop:=
 chk (Nat.beq (List.length p0) 262) (∀(b:Nat)(m':Mem),Mem.le m m'→Mem.reads m' b 0 p0→∃(b_1:Bool),(Eng.ZrO p0 1 fun(v:Value)=>∃(b_2:Bool),v=Value.bool b_2∧br b_2 ([some (Box.mk b p0 111 262
 true true)]=[some (Box.mk b p0 111 262 true true)]∧[Value.bool (decide (p2 < IntKind.wrap i64 ((↑p1n:Int) - (1:Int))))]=[Value.bool b_1]) ([some (Box.mk b p0 111 262 true true)]=[some (Box.mk b p0 111 262
 true true)]∧[Value.bool false]=[Value.bool b_1]))∧br b_1 (∃(m'':Mem),Mem.le m m''∧Mem.le m'' m'∧R (int i64 (-1:Int)) m'' []) (∃(I:IT),(∃(n:Nat),I [int i64 0] [] [] m' n)∧∀(n:Int) (m'_1:
 Mem) (n_1:Nat),Mem.le m' m'_1→I [int i64 n] [] [] m'_1 n_1→br (decide (n≤p2)) (∃(b_2:Bool),(∃(b_3:Nat),∃(o:Nat),p1a=some (Addr.mk b_3 o none)∧Zaf n p1n∧∃(v:Value),m'_1 b_3 (o +
 Int.toNat n*1)=some v∧chk (ZbS v) (∃(b_4:Nat),∃(o:Nat),slA v=some (Addr.mk b_4 o none)∧Zaf p2 (slN v)∧∃(v:Value),m'_1 b_4 (o+Int.toNat p2*1)=some v∧chk (Zal i64 v&&decide (i64 =
 i64)) (br (RowKit.intOf v == (1:Int)) (br (n == (0:Int)) ([some (Box.mk b p0 111 262 true true)]=[some (Box.mk b p0 111 262 true true)]∧[Value.bool true]=[Value.bool b_2]) (Eng.ZrO p0 0 fun(v:Value)=>∃
 (b_5:Bool),v=Value.bool b_5∧[some (Box.mk b p0 111 262 true true)]=[some (Box.mk b p0 111 262 true true)]∧[Value.bool !b_5]=[Value.bool b_2])) ([some (Box.mk b p0 111 262 true true)]=[some (Box.mk b p0
 111 262 true true)]∧[Value.bool false]=[Value.bool b_2]))))∧br b_2 (∃(m'':Mem),Mem.le m m''∧Mem.le m'' m'_1∧R (int i64 n) m'' []) ([some (Box.mk b p0 111 262 true true)]=[some (Box.mk b p0 111 262 true
 true)]∧∃(n':Nat),n' < n_1∧I [int i64 (IntKind.wrap i64 (n+(1:Int)))] [] [] m'_1 n')) (∃(m'':Mem),Mem.le m m''∧Mem.le m'' m'_1∧R (int i64 (-1:Int)) m'' [])))
theorem ZeV(p0:List Value)(p1a:Option Addr)(p1n p1c:Nat)(p2:Int)(m:Mem)(R:RT)(h:ZcJ p0 p1a p1n p1c p2 m R):CX Try.prog 86 #[.agg p0.toArray,.slice p1a p1n p1c,.int .i64 p2] m [] R:=
 Zad (E:=ZfR) ZaA mix Try.func86 [.v (.agg p0.toArray),.v (.slice p1a p1n p1c),.v (.int .i64 p2)] [] (by kernel_rfl) (Eq.mp (by kernel_rfl) h)
noncomputable def ZeW:Env:={ EB with
 frzNew:=[3] }
def Zcj(p0:List Value)(p1a:Option Addr)(p1n p1c:Nat)(p2:Int)(m:Mem)(R:RT):Prop:=
 chk (Nat.beq (List.length p0) 262) (∀(b:Nat)(m':Mem),Mem.le m m'→Mem.reads m' b 0 p0→chk (Nat.ble 262 (List.length p0)) (∃(R_1:RT),True∧CX Try.prog 85 (Array.mk [agg (Array.mk (List.take 260 (List.drop
 2 p0)))]) m' [] R_1∧Zax (Shape.int i64) R_1∧∀(n:Int)(m'_1:Mem),Mem.le m' m'_1→R_1 (int i64 n) m'_1 []→br (!n == (0:Int)) (∃(m'':Mem),Mem.le m m''∧Mem.le m'' m'_1∧R (int i64 130) m'' []) (chk
 (Nat.ble 262 (List.length p0)) (∃(R_2:RT),True∧CX Try.prog 64 (Array.mk [agg (Array.mk (List.take 260 (List.drop 2 p0))),slice p1a p1n p1c,int i64 p2]) m'_1 [] R_2∧Zax (Shape.int i64) R_2∧∀(n:Int) (m':
 Mem),Mem.le m'_1 m'→R_2 (int i64 n) m' []→∃(m'':Mem),Mem.le m m''∧Mem.le m'' m'∧R (int i64 n) m'' []))))
theorem Zey(p0:List Value)(p1a:Option Addr)(p1n p1c:Nat)(p2:Int)(m:Mem)(R:RT)(h:Zcj p0 p1a p1n p1c p2 m R):CX Try.prog 58 #[.agg p0.toArray,.slice p1a p1n p1c,.int .i64 p2] m [] R:=
 Zad (E:=ZeW) ZaA mix Try.func58 [.v (.agg p0.toArray),.v (.slice p1a p1n p1c),.v (.int .i64 p2)] [] (by kernel_rfl) (Eq.mp (by kernel_rfl) h)
noncomputable def Zmc:Env:={ EB with
 dr:=(fun i=>bif Nat.beq i 1 then[⟨0,[3],[],none,[],[]⟩,⟨1,[3],[],none,[],[]⟩,⟨2,[3],[],none,[1],[]⟩,⟨3,[],[],none,[],[]⟩,⟨4,[],[],none,[1,2,3],[]⟩,⟨5,[],[],none,[],[]⟩,⟨6,[],[],none,[0,1,2,3,4,5],[4]⟩,⟨7,[],[],none,[0,1,2,3,4,5,6],[]⟩]else[])
 frzNew:=[3] }
def Zgu(p0:List Value)(p1a:Option Addr)(p1n p1c:Nat)(p2:Int)(m:Mem)(R:RT):Prop:=
 chk (Nat.beq (List.length p0) 262) (∀(b:Nat)(m':Mem),Mem.le m m'→Mem.reads m' b 0 p0→∃(f:Fx),chk (Nat.ble 262 (List.length p0)) (∃(R_1:RT),R_1=f 4 [agg (Array.mk (List.take 260 (List.drop 2 p0))),
 slice p1a p1n p1c] m'∧CX Try.prog 87 (Array.mk [agg (Array.mk (List.take 260 (List.drop 2 p0))),slice p1a p1n p1c]) m' [] R_1∧Zax Shape.slice R_1∧∀(a:Option Addr)(n c:Nat)(m'_1:Mem),Mem.le m' m'_1→
 R_1 (slice a n c) m'_1 []→∃(R_2:RT),R_2=f 6 [agg (Array.mk p0),slice a n c,int i64 p2] m'_1∧CX Try.prog 86 (Array.mk [agg (Array.mk p0),slice a n c,int i64 p2]) m'_1 [] R_2∧Zax (Shape.int i64) R_2∧∀
 (n:Int) (m'_2:Mem),Mem.le m'_1 m'_2→R_2 (int i64 n) m'_2 []→∀(M:Mem),Mem.le m' M→Mem.le m'_1 M→Mem.le m'_2 M→∃(m'':Mem),Mem.le m m''∧Mem.le m'' M∧R (int i64 n) m'' []))
theorem Zks(p0:List Value)(p1a:Option Addr)(p1n p1c:Nat)(p2:Int)(m:Mem)(R:RT)(h:Zgu p0 p1a p1n p1c p2 m R):CX Try.prog 59 #[.agg p0.toArray,.slice p1a p1n p1c,.int .i64 p2] m [] R:=
 Zad (E:=Zmc) ZaA mix Try.func59 [.v (.agg p0.toArray),.v (.slice p1a p1n p1c),.v (.int .i64 p2)] [] (by kernel_rfl) (Eq.mp (by kernel_rfl) h)
noncomputable def ZeX:Env:={ EB with
 loops:=(fun i=>bif Nat.beq i 4 then⟨[(7,.int .i64)],[],[],false⟩ else⟨[],[],[],false⟩)
 gb:=true }
def Zck(p0a:Option Addr)(p0n p0c:Nat)(p1a:Option Addr)(p1n p1c:Nat)(p2:Int)(m:Mem)(R:RT):Prop:=
 br (decide ((↑p0n:Int) > (64:Int))) (∃(m'':Mem),Mem.le m m''∧Mem.le m'' m∧R (int i64 5) m'' []) (∃(I:IT),(∃(n:Nat),I [int i64 0] [] [] m n)∧∀(n:Int)(m':Mem)(ab:Nat),Mem.le m m'→I [int
 i64 n] [] [] m' ab→br (decide (n < (↑p0n:Int))) (∃(b:Nat),∃(o:Nat),p0a=some (Addr.mk b o none)∧Zaf n p0n∧∃(vs:List Value),List.length vs=260∧Mem.reads m' b (o+Int.toNat n*262+2) vs∧
 ∃(R_1:RT),True∧CX Try.prog 85 (Array.mk [agg (Array.mk vs)]) m' [] R_1∧Zax (Shape.int i64) R_1∧∀(ac:Int)(aa:Mem),Mem.le m' aa→R_1 (int i64 ac) aa []→br (!ac == (0:Int)) (∃(m'':Mem),Mem.le m
 m''∧Mem.le m'' aa∧R (int i64 130) m'' []) (∃(n':Nat),n' < ab∧I [int i64 (IntKind.wrap i64 (n+(1:Int)))] [] [] aa n')) (∃(R_1:RT),True∧CX Try.prog 64 (Array.mk [agg (Array.mk [int i64 1,int i64 0,
 int i64 0,int i64 0,int i64 0,int i64 0,int i64 0,int i64 0,int i64 0,int i64 0,int i64 0,int i64 0,int i64 0,int i64 0,int i64 0,int i64 0,int i64 0,int i64 0,int i64 0,int i64 0,int i64 0,int i64 0,
 int i64 0,int i64 0,int i64 0,int i64 0,int i64 0,int i64 0,int i64 0,int i64 0,int i64 0,int i64 0,int i64 0,int i64 0,int i64 0,int i64 0,int i64 0,int i64 0,int i64 0,int i64 0,int i64 0,int i64 0,
 int i64 0,int i64 0,int i64 0,int i64 0,int i64 0,int i64 0,int i64 0,int i64 0,int i64 0,int i64 0,int i64 0,int i64 0,int i64 0,int i64 0,int i64 0,int i64 0,int i64 0,int i64 0,int i64 0,int i64 0,
 int i64 0,int i64 0,int i64 0,int i64 0,int i64 0,int i64 0,int i64 0,int i64 0,int i64 0,int i64 0,int i64 0,int i64 0,int i64 0,int i64 0,int i64 0,int i64 0,int i64 0,int i64 0,int i64 0,int i64 0,
 int i64 0,int i64 0,int i64 0,int i64 0,int i64 0,int i64 0,int i64 0,int i64 0,int i64 0,int i64 0,int i64 0,int i64 0,int i64 0,int i64 0,int i64 0,int i64 0,int i64 0,int i64 0,int i64 0,int i64 0,
 int i64 0,int i64 0,int i64 0,int i64 0,int i64 0,int i64 0,int i64 0,int i64 0,int i64 0,int i64 0,int i64 0,int i64 0,int i64 0,int i64 0,int i64 0,int i64 0,int i64 0,int i64 0,int i64 0,int i64 0,
 int i64 0,int i64 0,int i64 0,int i64 0,int i64 0,int i64 0,int i64 0,int i64 0,int i64 0,int i64 0,int i64 0,int i64 0,int i64 0,int i64 0,int i64 0,int i64 0,int i64 0,int i64 0,int i64 0,int i64 0,
 int i64 0,int i64 0,int i64 0,int i64 0,int i64 0,int i64 0,int i64 0,int i64 0,int i64 0,int i64 0,int i64 0,int i64 0,int i64 0,int i64 0,int i64 0,int i64 0,int i64 0,int i64 0,int i64 0,int i64 0,
 int i64 0,int i64 0,int i64 0,int i64 0,int i64 0,int i64 0,int i64 0,int i64 0,int i64 0,int i64 0,int i64 0,int i64 0,int i64 0,int i64 0,int i64 0,int i64 0,int i64 0,int i64 0,int i64 0,int i64 0,
 int i64 0,int i64 0,int i64 0,int i64 0,int i64 0,int i64 0,int i64 0,int i64 0,int i64 0,int i64 0,int i64 0,int i64 0,int i64 0,int i64 0,int i64 0,int i64 0,int i64 0,int i64 0,int i64 0,int i64 0,
 int i64 0,int i64 0,int i64 0,int i64 0,int i64 0,int i64 0,int i64 0,int i64 0,int i64 0,int i64 0,int i64 0,int i64 0,int i64 0,int i64 0,int i64 0,int i64 0,int i64 0,int i64 0,int i64 0,int i64 0,
 int i64 0,int i64 0,int i64 0,int i64 0,int i64 0,int i64 0,int i64 0,int i64 0,int i64 0,int i64 0,int i64 0,int i64 0,int i64 0,int i64 0,int i64 0,int i64 0,int i64 0,int i64 0,int i64 0,int i64 0,
 int i64 0,int i64 0,int i64 0,int i64 0,int i64 0,int i64 0,int i64 0,int i64 0,int i64 0,int i64 0,int i64 0,int i64 0,int i64 0,int i64 0,int i64 0,int i64 0,int i64 0,slice none 0 0]),slice p1a p1n
 p1c,int i64 p2]) m' [] R_1∧Zax (Shape.int i64) R_1∧∀(n:Int)(aa:Mem),Mem.le m' aa→R_1 (int i64 n) aa []→∃(m'':Mem),Mem.le m m''∧Mem.le m'' aa∧R (int i64 n) m'' []))
theorem Zez(p0a:Option Addr)(p0n p0c:Nat)(p1a:Option Addr)(p1n p1c:Nat)(p2:Int)(m:Mem)(R:RT)(h:Zck p0a p0n p0c p1a p1n p1c p2 m R):CX Try.prog 60 #[.slice p0a p0n p0c,.slice p1a p1n p1c,.int .i64 p2] m [] R:=
 Zad (E:=ZeX) ZaA mix Try.func60 [.v (.slice p0a p0n p0c),.v (.slice p1a p1n p1c),.v (.int .i64 p2)] [] (by kernel_rfl) (Eq.mp (by kernel_rfl) h)
noncomputable def ZhB:Env:={ EB with
 loops:=(fun i=>bif Nat.beq i 3 then⟨[(11,.slice),(12,.int .i64)],[],[(31,1)],false⟩ else bif Nat.beq i 7 then⟨[(13,.int .i64)],[],[],false⟩ else bif Nat.beq i 10 then⟨[(14,.int .i64)],[],[],false⟩ else⟨[],[],[],false⟩)
 dr:=(fun i=>bif Nat.beq i 12 then[⟨0,[],[],none,[],[]⟩,⟨1,[],[],none,[],[]⟩,⟨2,[],[],none,[0,1],[]⟩,⟨3,[],[],none,[0,1,2],[]⟩,⟨4,[],[],none,[],[]⟩,⟨5,[],[],none,[],[]⟩,⟨6,[],[],none,[4,5],[]⟩,⟨7,[],[],none,[4,5,6],[]⟩,⟨8,[],[],none,[],[]⟩,⟨9,[],[],none,[0,1,2,3,4,5,6,7,8],[]⟩,⟨10,[],[],none,[0,1,2,3,4,5,6,7,8,9],[]⟩]else[])
 tokOf:=(fun i=>bif Nat.beq i 31 then 31 else 0)
 gb:=true }
def ZdF(p0a:Option Addr)(p0n p0c:Nat)(p1a:Option Addr)(p1n p1c:Nat)(p2 p3:Int)(m:Mem)(R:RT):Prop:=
 ∃(I:IT),(∃(n:Nat),I [slice none 0 0,int i64 0] [] [slice none 0 0] m n)∧∀(a:Option Addr)(n c:Nat)(ag:Int)(ad:Option Addr)(ae af:Nat)(m':Mem)(al:Nat),Mem.le m m'→I [slice a n c,int i64
 ag] [] [slice ad ae af] m' al→br (decide (ag < (↑p0n:Int))) (∃(b:Nat),∃(o:Nat),p0a=some (Addr.mk b o none)∧Zaf ag p0n∧∃(vs:List Value),List.length vs=260∧Mem.reads m' b (o+Int.toNat ag *
 262+2) vs∧∃(R:RT),True∧CX Try.prog 87 (Array.mk [agg (Array.mk vs),slice p1a p1n p1c]) m' [] R∧Zax Shape.slice R∧∀(ah:Option Addr)(ab ai:Nat)(aa:Mem),Mem.le m' aa→R (slice ah ab ai) aa []→∀
 (b:Nat),Mem.free aa b→(Tok.mk (slice ad ae af) 1=Tok.mk (slice a n c) 1∨slice a n c=slice none 0 0∨c < n+1)∧∃(xs:List Value),∃(ys:List Value),List.length xs=n*1∧List.length ys=1*1∧
 rowRd (Mem.add aa b [slice ah ab ai]) a xs∧rowRd (Mem.add aa b [slice ah ab ai]) (some (Addr.mk b 0 none)) ys∧(∀(u:Value),u∈ys→Value.oneCell' u=true)∧(n+1)*24≤140737488355328∧n+1 ≤
 9223372036854775807∧∀(a':Option Addr)(c':Nat)(m':Mem),Mem.le (Mem.add aa b [slice ah ab ai]) m'→rowRd m' a' (List.append xs ys)→∃(n':Nat),n' < al∧I [slice a' (n+1) c',int i64 (IntKind.wrap i64
 (ag+(1:Int)))] [] [slice a' (n+1) c'] m' n') (∃(I:IT),(∃(n:Nat),I [int i64 p2] [] [] m' n)∧∀(ab:Int)(aa:Mem)(am:Nat),Mem.le m' aa→I [int i64 ab] [] [] aa am→br (decide (ab≤p3)) (∃(aj:
 IT),(∃(n:Nat),aj [int i64 0] [] [] aa n)∧∀(ac:Int)(m':Mem)(an:Nat),Mem.le aa m'→aj [int i64 ac] [] [] m' an→br (decide (ac < (↑p0n:Int))) (∃(f:Fx),∃(b:Nat),∃(o:Nat),p0a=some (Addr.mk
 b o none)∧Zaf ac p0n∧∃(vs:List Value),List.length vs=262∧Mem.reads m' b (o+Int.toNat ac*262) vs∧∃(b:Nat),∃(o:Nat),a=some (Addr.mk b o none)∧Zaf ac n∧∃(v:Value),m' b (o +
 Int.toNat ac*1)=some v∧∃(R_1:RT),R_1=f 9 [agg (Array.mk vs),v,int i64 ab] m'∧CX Try.prog 86 (Array.mk [agg (Array.mk vs),v,int i64 ab]) m' [] R_1∧Zax (Shape.int i64) R_1∧∀(n:Int)(ak:Mem),
 Mem.le m' ak→R_1 (int i64 n) ak []→∀(M:Mem),Mem.le m' M→Mem.le ak M→br (decide (n ≥ (0:Int))) (∃(m'':Mem),Mem.le m m''∧Mem.le m'' M∧R (Value.tuple (Array.mk [int i64 ac,int i64 n,int i64 ab]))
 m'' []) ([some (Tok.mk (slice ad ae af) 1)]=[some (Tok.mk (slice ad ae af) 1)]∧∃(n':Nat),n' < an∧aj [int i64 (IntKind.wrap i64 (ac+(1:Int)))] [] [] M n')) ([some (Tok.mk (slice ad ae af) 1)]=[some
 (Tok.mk (slice ad ae af) 1)]∧∃(n':Nat),n' < am∧I [int i64 (IntKind.wrap i64 (ab+(1:Int)))] [] [] m' n')) (∃(m'':Mem),Mem.le m m''∧Mem.le m'' aa∧R (Value.tuple (Array.mk [int i64 (-1:Int),int i64
 (-1:Int),int i64 (-1:Int)])) m'' []))
theorem ZgH(p0a:Option Addr)(p0n p0c:Nat)(p1a:Option Addr)(p1n p1c:Nat)(p2 p3:Int)(m:Mem)(R:RT)(h:ZdF p0a p0n p0c p1a p1n p1c p2 p3 m R):CX Try.prog 61 #[.slice p0a p0n p0c,.slice p1a p1n p1c,.int .i64 p2,.int .i64 p3] m [] R:=
 Zad (E:=ZhB) ZaA mix Try.func61 [.v (.slice p0a p0n p0c),.v (.slice p1a p1n p1c),.v (.int .i64 p2),.v (.int .i64 p3)] [] (by kernel_rfl) (Eq.mp (by kernel_rfl) h)
noncomputable def ZiD:Env:={ EB with
 loops:=(fun i=>bif Nat.beq i 3 then⟨[(3,.slice),(8,.int .i64)],[],[(22,262)],false⟩ else⟨[],[],[],false⟩)
 dr:=(fun i=>bif Nat.beq i 5 then[⟨0,[],[],none,[],[]⟩,⟨1,[5],[],none,[],[]⟩,⟨2,[5],[],none,[1],[]⟩,⟨3,[5],[],none,[],[]⟩,⟨4,[5],[],none,[3],[]⟩,⟨5,[5],[],none,[],[]⟩,⟨6,[5],[],none,[5],[]⟩,⟨7,[],[],none,[5,6],[]⟩,⟨8,[],[],none,[1,2,3,4,5,6,7],[]⟩,⟨9,[21],[21],none,[1,2,3,4,5,6,7,8],[7]⟩,⟨10,[21],[],some 22,[0,1,2,3,4,5,6,7,8,9],[9]⟩,⟨11,[],[],none,[0,1,2,3,4,5,6,7,8,9,10],[]⟩]else[])
 tokOf:=(fun i=>bif Nat.beq i 22 then 22 else 0) }
abbrev Zao:List Value:=[Value.bool false,Value.bool false,int i64 0,int i64 0,int i64 0,int i64 0,int i64 0,int i64 0,int i64 0,int i64 0,int i64 0,int i64 0,int i64 0,int i64 0,int i64 0,
 int i64 0,int i64 0,int i64 0,int i64 0,int i64 0,int i64 0,int i64 0,int i64 0,int i64 0,int i64 0,int i64 0,int i64 0,int i64 0,int i64 0,int i64 0,int i64 0,int i64 0,int i64 0,int i64 0,int i64 0,
 int i64 0,int i64 0,int i64 0,int i64 0,int i64 0,int i64 0,int i64 0,int i64 0,int i64 0,int i64 0,int i64 0,int i64 0,int i64 0,int i64 0,int i64 0,int i64 0,int i64 0,int i64 0,int i64 0,int i64 0,
 int i64 0,int i64 0,int i64 0,int i64 0,int i64 0,int i64 0,int i64 0,int i64 0,int i64 0,int i64 0,int i64 0,int i64 0,int i64 0,int i64 0,int i64 0,int i64 0,int i64 0,int i64 0,int i64 0,int i64 0,
 int i64 0,int i64 0,int i64 0,int i64 0,int i64 0,int i64 0,int i64 0,int i64 0,int i64 0,int i64 0,int i64 0,int i64 0,int i64 0,int i64 0,int i64 0,int i64 0,int i64 0,int i64 0,int i64 0,int i64 0,
 int i64 0,int i64 0,int i64 0,int i64 0,int i64 0,int i64 0,int i64 0,int i64 0,int i64 0,int i64 0,int i64 0,int i64 0,int i64 0,int i64 0,int i64 0,int i64 0,int i64 0,int i64 0,int i64 0,int i64 0,
 int i64 0,int i64 0,int i64 0,int i64 0,int i64 0,int i64 0,int i64 0,int i64 0,int i64 0,int i64 0,int i64 0,int i64 0,int i64 0,int i64 0,int i64 0,int i64 0,int i64 0,int i64 0,int i64 0,int i64 0,
 int i64 0,int i64 0,int i64 0,int i64 0,int i64 0,int i64 0,int i64 0,int i64 0,int i64 0,int i64 0,int i64 0,int i64 0,int i64 0,int i64 0,int i64 0,int i64 0,int i64 0,int i64 0,int i64 0,int i64 0,
 int i64 0,int i64 0,int i64 0,int i64 0,int i64 0,int i64 0,int i64 0,int i64 0,int i64 0,int i64 0,int i64 0,int i64 0,int i64 0,int i64 0,int i64 0,int i64 0,int i64 0,int i64 0,int i64 0,int i64 0,
 int i64 0,int i64 0,int i64 0,int i64 0,int i64 0,int i64 0,int i64 0,int i64 0,int i64 0,int i64 0,int i64 0,int i64 0,int i64 0,int i64 0,int i64 0,int i64 0,int i64 0,int i64 0,int i64 0,int i64 0,
 int i64 0,int i64 0,int i64 0,int i64 0,int i64 0,int i64 0,int i64 0,int i64 0,int i64 0,int i64 0,int i64 0,int i64 0,int i64 0,int i64 0,int i64 0,int i64 0,int i64 0,int i64 0,int i64 0,int i64 0,
 int i64 0,int i64 0,int i64 0,int i64 0,int i64 0,int i64 0,int i64 0,int i64 0,int i64 0,int i64 0,int i64 0,int i64 0,int i64 0,int i64 0,int i64 0,int i64 0,int i64 0,int i64 0,int i64 0,int i64 0,
 int i64 0,int i64 0,int i64 0,int i64 0,int i64 0,int i64 0,int i64 0,int i64 0,int i64 0,int i64 0,int i64 0,int i64 0,int i64 0,int i64 0,int i64 0,int i64 0,int i64 0,int i64 0,int i64 0,int i64 0,
 int i64 0,int i64 0,int i64 0,int i64 0,int i64 0,int i64 0,slice none 0 0]
def ZeA(p0a:Option Addr)(p0n p0c:Nat)(m:Mem)(R:RT):Prop:=
 ∃(I:IT),(∃(n:Nat),I [slice none 0 0,int i64 0] [] [slice none 0 0] m n)∧∀(a:Option Addr)(n c:Nat)(n_1:Int)(a_1:Option Addr)(n_2 c_1:Nat)(m':Mem)(n_3:Nat),Mem.le m m'→I [slice a n c,
 int i64 n_1] [] [slice a_1 n_2 c_1] m' n_3→br (decide (n_1 < (↑p0n:Int))) (∃(b:Nat),∃(o:Nat),p0a=some (Addr.mk b o none)∧Zaf n_1 p0n∧∃(v:Value),∃(v_1:Value),∃(v_2:Value),∃(v_3:
 Value),∃(v_4:Value),∃(v_5:Value),∃(v_6:Value),∃(v_7:Value),∃(v_8:Value),∃(v_9:Value),Mem.reads m' b (o+Int.toNat n_1*10) [v,v_1,v_2,v_3,v_4,v_5,v_6,v_7,v_8,v_9]∧∀(b:Nat),chk
 (Value.oneCell' v&&(Value.oneCell' v_1&&(Value.oneCell' v_2&&(Value.oneCell' v_3&&(Value.oneCell' v_4&&(Value.oneCell' v_5&&(Value.oneCell' v_6&&(Value.oneCell' v_7&&(Value.oneCell' v_8 &&
 (Value.oneCell' v_9&&true)))))))))) (∃(f:Fx),∃(R:RT),R=f 7 [agg (Array.mk [v_2,v_3,v_4,v_5,v_6,v_7,v_8,v_9])] m'∧CX Try.prog 63 (Array.mk [agg (Array.mk [v_2,v_3,v_4,v_5,v_6,v_7,v_8,v_9])])
 m' [] R∧Zax Shape.cells R∧∀(cs:List Value)(m'_1:Mem),Mem.le m' m'_1→R (agg (Array.mk cs)) m'_1 []→chk (Nat.beq (List.length (Array.toList (Value.cells v))) 1&&true) (chk (Nat.beq (List.length
 (Array.toList (Value.cells v_1))) 1&&Nat.ble 2 (List.length (Zaj Zao 0 (Array.toList (Value.cells v))))) (chk (Nat.beq (List.length cs) 260&&Nat.ble 262 (List.length (Zaj (Zaj Zao 0
 (Array.toList (Value.cells v))) 1 (Array.toList (Value.cells v_1))))) (chk (Nat.beq (List.length (Zaj (Zaj (Zaj Zao 0 (Array.toList (Value.cells v))) 1 (Array.toList (Value.cells v_1))) 2 cs)) 262
 && true) (∀(b:Nat),Mem.free m'_1 b→(Tok.mk (slice a_1 n_2 c_1) 262=Tok.mk (slice a n c) 262∨slice a n c=slice none 0 0∨c < n+1)∧∃(xs:List Value),∃(ys:List Value),List.length xs=n*262∧
 List.length ys=1*262∧rowRd (Mem.add m'_1 b (List.append (Zaj (Zaj (Zaj Zao 0 (Array.toList (Value.cells v))) 1 (Array.toList (Value.cells v_1))) 2 cs) [])) a xs∧rowRd (Mem.add m'_1 b
 (List.append (Zaj (Zaj (Zaj Zao 0 (Array.toList (Value.cells v))) 1 (Array.toList (Value.cells v_1))) 2 cs) [])) (some (Addr.mk b 0 none)) ys∧(∀(u:Value),u∈ys→Value.oneCell' u=true)∧(n
 + 1)*2104≤140737488355328∧n+1≤9223372036854775807∧∀(a':Option Addr)(c':Nat)(m'_2:Mem),Mem.le (Mem.add m'_1 b (List.append (Zaj (Zaj (Zaj Zao 0 (Array.toList (Value.cells v))) 1
 (Array.toList (Value.cells v_1))) 2 cs) [])) m'_2→rowRd m'_2 a' (List.append xs ys)→∀(M:Mem),Mem.le m' M→Mem.le m'_1 M→Mem.le (Mem.add m'_1 b (List.append (Zaj (Zaj (Zaj Zao 0
 (Array.toList (Value.cells v))) 1 (Array.toList (Value.cells v_1))) 2 cs) [])) M→Mem.le m'_2 M→∃(n':Nat),n' < n_3∧I [slice a' (n+1) c',int i64 (IntKind.wrap i64 (n_1+(1:Int)))] [] [slice a' (n+1) c']
 M n')))))) (∃(m'':Mem),Mem.le m m''∧Mem.le m'' m'∧R (slice a n c) m'' [])
theorem ZhC(p0a:Option Addr)(p0n p0c:Nat)(m:Mem)(R:RT)(h:ZeA p0a p0n p0c m R):CX Try.prog 56 #[.slice p0a p0n p0c] m [] R:=
 Zad (E:=ZiD) ZaA mix Try.func56 [.v (.slice p0a p0n p0c)] [] (by kernel_rfl) (Eq.mp (by kernel_rfl) h)
noncomputable def Zkt:Env:={ EB with
 loops:=(fun i=>bif Nat.beq i 3 then⟨[(41,.int .i64)],[],[],false⟩ else bif Nat.beq i 20 then⟨[(147,.int .i64)],[],[],false⟩ else⟨[],[],[],false⟩)
 joins:=(fun i=>bif Nat.beq i 11 then some [(101,.bool)]else bif Nat.beq i 17 then some [(132,.bool)]else bif Nat.beq i 25 then some [(193,.bool)]else none)
 gb:=true
 ldF:=(fun i=>bif Nat.beq i 166 then some none else bif Nat.beq i 172 then some none else bif Nat.beq i 183 then some none else none) }
abbrev ZiE:Value→Value→Value→Value→Value→Value→Value→Value→Value→Value→Nat→Option Box:=fun(v ap ar au av aw ax ay az a0:Value)(b:Nat)=>some (Box.mk b [v,ap,ar,au,av,aw,
 ax,ay,az,a0] 37 10 false true)
abbrev ZaQ:Value→Value→Value→Value→Value→Value→Value→Value→Value→Value→Nat→List (Option Box):=fun(v ap ar au av aw ax ay az a0:Value)(b:Nat)=>[ZiE v ap ar au av aw
 ax ay az a0 b]
abbrev Zfi:Int→Int→Int→Nat→Int→Int→Int→Nat→List (Option Box):=fun(n ao am:Int)(b:Nat)(aq aa ab:Int)(ak:Nat)=>[some (Box.mk ak [int i64 aq,int i64 aa,int i64 ab] 46 3 false
 true),some (Box.mk b [int i64 n,int i64 ao,int i64 am] 46 3 false true)]
abbrev Zai:Nat→Int→Int→Int→Int→Bool→Int→Int→Int→Bool→Int→Int→List Value:=fun(p1n:Nat)(p2 n ao am:Int)(b:Bool)(aq aa ab:Int)(ak:Bool)(ac a1:Int)=>[int i64 n,int
 i64 ao,int i64 am,Value.bool b,int i64 ac,int i64 p2,int i64 p2,int i64 aq,int i64 aa,int i64 ab,Value.bool ak,int i64 a1,int i64 0,int i64 (↑p1n:Int)]
abbrev ZiF:Nat→Int→Int→Int→Int→Bool→Int→Int→Int→Bool→Int→Int→Int→Nat→Option Box:=fun(p1n:Nat)(p2 n ao am:Int)(b:Bool)(aq aa ab:Int)(ak:Bool)(ac a1 ae:Int) (ad
 : Nat)=>some (Box.mk ad (List.take 7 (List.drop (Int.toNat ae*7) (Zai p1n p2 n ao am b aq aa ab ak ac a1))) 113 7 false true)
abbrev Zfj:Nat→Int→Int→Int→Int→Bool→Int→Int→Int→Bool→Int→Int→Nat→Option Box:=fun(p1n:Nat)(p2 n ao am:Int)(b:Bool)(aq aa ab:Int)(ak:Bool)(ac a1:Int)(ad:Nat)
 => some (Box.mk ad (Zai p1n p2 n ao am b aq aa ab ak ac a1) 113 14 true true)
abbrev ZaF:Nat→Int→Int→Int→Int→Bool→Nat→Int→Int→Int→Bool→Nat→Int→Int→Nat→Int→Nat→List (Option Box):=fun(p1n:Nat)(p2 n ao am:Int)(b:Bool)(ak:Nat) (aq aa ab:
 Int) (ad:Bool) (an:Nat) (ac a1:Int) (a2:Nat) (ae:Int) (al:Nat)=>[ZiF p1n p2 n ao am b aq aa ab ad ac a1 ae al,Zfj p1n p2 n ao am b aq aa ab ad ac a1 a2,some (Box.mk an [int i64 aq,
 int i64 aa,int i64 ab] 46 3 false true),some (Box.mk ak [int i64 n,int i64 ao,int i64 am] 46 3 false true)]
abbrev Zfk:Nat→Int→Int→Int→Int→Bool→Nat→Int→Int→Int→Bool→Nat→Int→Int→Nat→List (Option Box):=fun(p1n:Nat)(p2 n ao am:Int)(b:Bool)(ak:Nat)(aq aa ab:Int) (ad:
 Bool) (an:Nat) (ac a1:Int) (a2:Nat)=>[Zfj p1n p2 n ao am b aq aa ab ad ac a1 a2,some (Box.mk an [int i64 aq,int i64 aa,int i64 ab] 46 3 false true),some (Box.mk ak [int i64 n,int i64 ao,int i64
 am] 46 3 false true)]
def Zfl(p0a:Option Addr)(p0n p0c:Nat)(p1a:Option Addr)(p1n p1c:Nat)(p2:Int)(m:Mem)(R:RT):Prop:=
 ∃(R_1:RT),True∧CX Try.prog 56 (Array.mk [slice p0a p0n p0c]) m [] R_1∧Zax Shape.slice R_1∧∀(a:Option Addr)(n c:Nat)(m':Mem),Mem.le m m'→R_1 (slice a n c) m' []→∃(R_2:RT),True∧CX Try.prog
 57 (Array.mk [slice p1a p1n p1c]) m' [] R_2∧Zax Shape.slice R_2∧∀(ba:Option Addr)(ao bb:Nat)(bf:Mem),Mem.le m' bf→R_2 (slice ba ao bb) bf []→(((0:Int)≤if(8:Int) < (↑p0n:Int)then(8:Int)
 else(↑p0n:Int))∧(if(8:Int) < (↑p0n:Int)then(8:Int)else(↑p0n:Int))≤(↑p0c:Int))∧∃(I:IT),(∃(n:Nat),I [int i64 0] [] [] bf n)∧∀(am:Int)(m':Mem)(aq:Nat),Mem.le bf m'→I [int i64
 am] [] [] m' aq→br (decide (am < (↑(Int.toNat (if(8:Int) < (↑p0n:Int)then(8:Int)else(↑p0n:Int)) - 0):Int))) (∃(b:Nat),∃(o:Nat),Zfz p0a 0 p0c 10=some (Addr.mk b o none)∧Zaf am
 (Int.toNat (if(8:Int) < (↑p0n:Int)then(8:Int)else(↑p0n:Int)) - 0)∧∃(v:Value),∃(ap:Value),∃(ar:Value),∃(au:Value),∃(av:Value),∃(aw:Value),∃(ax:Value),∃(ay:Value),∃(az:
 Value),∃(a0:Value),Mem.reads m' b (o+Int.toNat am*10) [v,ap,ar,au,av,aw,ax,ay,az,a0]∧∀(b:Nat),chk (Value.oneCell' v&&(Value.oneCell' ap&&(Value.oneCell' ar&&(Value.oneCell' au &&
 (Value.oneCell' av&&(Value.oneCell' aw&&(Value.oneCell' ax&&(Value.oneCell' ay&&(Value.oneCell' az&&(Value.oneCell' a0&&true)))))))))) (∃(ak:Nat),∃(o:Nat),a=some (Addr.mk ak o none)∧Zaf am n
 ∧ ∃(vs:List Value),List.length vs=262∧Mem.reads m' ak (o+Int.toNat am*262) vs∧∃(R_3:RT),True∧CX Try.prog 58 (Array.mk [agg (Array.mk vs),slice p1a p1n p1c,int i64 p2]) m' [] R_3∧Zax (Shape.int
 i64) R_3∧∀(aa:Int)(a8:Mem),Mem.le m' a8→R_3 (int i64 aa) a8 []→∃(R_4:RT),True∧CX Try.prog 16 (Array.mk [agg (Array.mk [v,ap,ar,au,av,aw,ax,ay,az,a0]),slice ba ao bb,int i64 p2]) a8 [] R_4∧
 Zax (Shape.tup [Shape.bool,Shape.int i64]) R_4∧∀(ad:Bool)(ab:Int)(m':Mem),Mem.le a8 m'→R_4 (Value.tuple (Array.mk [Value.bool ad,int i64 ab])) m' []→∃(R_5:RT),True∧CX Try.prog 17 (Array.mk [agg
 (Array.mk [v,ap,ar,au,av,aw,ax,ay,az,a0]),slice ba ao bb,int i64 p2]) m' [] R_5∧Zax (Shape.tup [Shape.int i64,Shape.bool,Shape.int i64]) R_5∧∀(ac:Int)(an:Bool)(a1:Int)(a4:Mem),Mem.le m' a4
 → R_5 (Value.tuple (Array.mk [int i64 ac,Value.bool an,int i64 a1])) a4 []→br (aa == (0:Int)) (∃(a2:Nat),∃(o:Nat),a=some (Addr.mk a2 o none)∧Zaf am n∧∃(vs:List Value),List.length vs=262∧
 Mem.reads a4 a2 (o+Int.toNat am*262) vs∧∃(R_6:RT),True∧CX Try.prog 59 (Array.mk [agg (Array.mk vs),slice p1a p1n p1c,int i64 p2]) a4 [] R_6∧Zax (Shape.int i64) R_6∧∀(n:Int)(m':Mem),Mem.le a4 m'
 → R_6 (int i64 n) m' []→∃(al:Bool),br (!ab == aa) (Za0 (ZaQ v ap ar au av aw ax ay az a0 b)∧[Value.bool true]=[Value.bool al]) (br (!a1 == aa) (Za0 (ZaQ v ap ar au av aw ax ay az a0
 b)∧[Value.bool true]=[Value.bool al]) (br (!ad == decide (n ≥ (0:Int))) (Za0 (ZaQ v ap ar au av aw ax ay az a0 b)∧[Value.bool true]=[Value.bool al]) (br (!an == ad) (Za0 (ZaQ v ap
 ar au av aw ax ay az a0 b)∧[Value.bool true]=[Value.bool al]) (Za0 (ZaQ v ap ar au av aw ax ay az a0 b)∧[Value.bool !ac == if(0:Int) > n then(0:Int)else n]=[Value.bool al]))))∧br al (∃
 (m'':Mem),Mem.le m m''∧Mem.le m'' m'∧R (Value.bool false) m'' []) (∃(n':Nat),n' < aq∧I [int i64 (IntKind.wrap i64 (am+(1:Int)))] [] [] m' n')) (∃(a2:Bool),br (!ab == aa) (Za0 (ZaQ v ap
 ar au av aw ax ay az a0 b)∧[Value.bool true]=[Value.bool a2]) (br (!a1 == aa) (Za0 (ZaQ v ap ar au av aw ax ay az a0 b)∧[Value.bool true]=[Value.bool a2]) (br (!ad == decide ((-1:Int) ≥ (0:
 Int))) (Za0 (ZaQ v ap ar au av aw ax ay az a0 b)∧[Value.bool true]=[Value.bool a2]) (br (!an == ad) (Za0 (ZaQ v ap ar au av aw ax ay az a0 b)∧[Value.bool true]=[Value.bool a2])
 (Za0 (ZaQ v ap ar au av aw ax ay az a0 b)∧[Value.bool !ac == if(0:Int) > (-1:Int)then(0:Int)else(-1:Int)]=[Value.bool a2]))))∧br a2 (∃(m'':Mem),Mem.le m m''∧Mem.le m'' a4∧R
 (Value.bool false) m'' []) (∃(n':Nat),n' < aq∧I [int i64 (IntKind.wrap i64 (am+(1:Int)))] [] [] a4 n')))) (∃(R_3:RT),True∧CX Try.prog 18 (Array.mk [slice p0a p0n p0c,slice ba ao bb,int i64 p2]) m' []
 R_3∧Zax (Shape.tup [Shape.agg [Shape.int i64,Shape.int i64,Shape.int i64],Shape.bool,Shape.int i64]) R_3∧∀(aa ab ac:Int)(b:Bool)(a1:Int)(a8:Mem),Mem.le m' a8→R_3 (Value.tuple (Array.mk [agg
 (Array.mk [int i64 aa,int i64 ab,int i64 ac]),Value.bool b,int i64 a1])) a8 []→∀(ak:Nat),∃(R_4:RT),True∧CX Try.prog 20 (Array.mk [slice p0a p0n p0c,slice ba ao bb]) a8 [] R_4∧Zax (Shape.tup
 [Shape.agg [Shape.int i64,Shape.int i64,Shape.int i64],Shape.bool,Shape.int i64]) R_4∧∀(ae af ag:Int)(ad:Bool)(bj:Int)(m':Mem),Mem.le a8 m'→R_4 (Value.tuple (Array.mk [agg (Array.mk [int i64 ae,int
 i64 af,int i64 ag]),Value.bool ad,int i64 bj])) m' []→∀(an:Nat),∃(R_5:RT),True∧CX Try.prog 60 (Array.mk [slice a n c,slice p1a p1n p1c,int i64 p2]) m' [] R_5∧Zax (Shape.int i64) R_5∧∀(ah:Int)
 (a4:Mem),Mem.le m' a4→R_5 (int i64 ah) a4 []→∃(R_6:RT),True∧CX Try.prog 60 (Array.mk [slice a n c,slice p1a p1n p1c,int i64 0]) a4 [] R_6∧Zax (Shape.int i64) R_6∧∀(ai:Int)(m':Mem),Mem.le a4 m'
 → R_6 (int i64 ai) m' []→∃(a2:Bool),br (!a1 == ah) (Za0 (Zfi aa ab ac ak ae af ag an)∧[Value.bool true]=[Value.bool a2]) (Za0 (Zfi aa ab ac ak ae af ag an)∧[Value.bool !bj == ai]
 = [Value.bool a2])∧br a2 (∃(m'':Mem),Mem.le m m''∧Mem.le m'' m'∧R (Value.bool false) m'' []) (∀(al:Nat),Mem.free m' al→∃(I:IT),(∃(n:Nat),I [int i64 0] [] [] (Mem.add m' al (Zai p1n p2
 aa ab ac b ae af ag ad ah ai)) n)∧∀(aj:Int)(a9:Mem)(bg:Nat),Mem.le (Mem.add m' al (Zai p1n p2 aa ab ac b ae af ag ad ah ai)) a9→I [int i64 aj] [] [] a9 bg→br (decide (aj < (↑(2:Nat):Int)))
 (Zaf aj 2∧chk (Nat.ble (Int.toNat aj*7) (1+1+1+1+1+1+1)) (∀(a5:Nat),chk (Nat.beq (List.length (List.take 7 (List.drop (Int.toNat aj*7) (Zai p1n p2 aa ab ac b ae af ag ad ah ai)))) 7
 && Zcb (List.take 7 (List.drop (Int.toNat aj*7) (Zai p1n p2 aa ab ac b ae af ag ad ah ai)))) (Eng.ZrO (List.take 7 (List.drop (Int.toNat aj*7) (Zai p1n p2 aa ab ac b ae af ag ad ah ai))) 4
 fun(v:Value)=>chk (Zal i64 v&&decide (i64=i64)) (br (RowKit.intOf v == (0:Int)) (Eng.ZrO (List.take 7 (List.drop (Int.toNat aj*7) (Zai p1n p2 aa ab ac b ae af ag ad ah ai))) 5 fun(v:Value)
 => Eng.ZrO (List.take 7 (List.drop (Int.toNat aj*7) (Zai p1n p2 aa ab ac b ae af ag ad ah ai))) 6 fun(ap:Value)=>∃(R_7:RT),True∧CX Try.prog 61 (Array.mk [slice a n c,slice p1a p1n p1c,v,ap])
 a9 [] R_7∧Zax (Shape.tup [Shape.int i64,Shape.int i64,Shape.int i64]) R_7∧∀(n bh bi:Int)(m':Mem),Mem.le a9 m'→R_7 (Value.tuple (Array.mk [int i64 n,int i64 bh,int i64 bi])) m' []→∃(a3:Bool),
 (Eng.ZrO (List.take 7 (List.drop (Int.toNat aj*7) (Zai p1n p2 aa ab ac b ae af ag ad ah ai))) 3 fun(v:Value)=>∃(bc:Bool),v=Value.bool bc∧br (!bc == decide (n ≥ (0:Int))) (Za0
 (ZaF p1n p2 aa ab ac b ak ae af ag ad an ah ai al aj a5)∧[Value.bool true]=[Value.bool a3]) (Eng.ZrO (List.take 7 (List.drop (Int.toNat aj*7) (Zai p1n p2 aa ab ac b ae af ag ad ah ai))) 3
 fun(v:Value)=>∃(bd:Bool),v=Value.bool bd∧br (!bd) (chk (Nat.ble 3 (List.length (List.take 7 (List.drop (Int.toNat aj*7) (Zai p1n p2 aa ab ac b ae af ag ad ah ai))))) (∃(a6:Bool),EqIs
 Try.prog 46 (agg (Array.mk (List.take 3 (List.take 7 (List.drop (Int.toNat aj*7) (Zai p1n p2 aa ab ac b ae af ag ad ah ai)))))) (agg (Array.mk [int i64 0,int i64 0,int i64 0])) a6∧br (!a6) (Za0
 (ZaF p1n p2 aa ab ac b ak ae af ag ad an ah ai al aj a5)∧[Value.bool true]=[Value.bool a3]) (Eng.ZrO (List.take 7 (List.drop (Int.toNat aj*7) (Zai p1n p2 aa ab ac b ae af ag ad ah ai))) 3
 fun(v:Value)=>∃(a7:Bool),v=Value.bool a7∧br a7 (chk (Nat.ble 3 (List.length (List.take 7 (List.drop (Int.toNat aj*7) (Zai p1n p2 aa ab ac b ae af ag ad ah ai))))) (∃(be:Bool),EqIs Try.prog
 46 (agg (Array.mk (List.take 3 (List.take 7 (List.drop (Int.toNat aj*7) (Zai p1n p2 aa ab ac b ae af ag ad ah ai)))))) (agg (Array.mk [int i64 n,int i64 bh,int i64 bi])) be∧Za0 (ZaF p1n p2
 aa ab ac b ak ae af ag ad an ah ai al aj a5)∧[Value.bool !be]=[Value.bool a3])) (Za0 (ZaF p1n p2 aa ab ac b ak ae af ag ad an ah ai al aj a5)∧[Value.bool false]=[Value.bool a3])))) (Eng.ZrO
 (List.take 7 (List.drop (Int.toNat aj*7) (Zai p1n p2 aa ab ac b ae af ag ad ah ai))) 3 fun(v:Value)=>∃(a6:Bool),v=Value.bool a6∧br a6 (chk (Nat.ble 3 (List.length (List.take 7 (List.drop
 (Int.toNat aj*7) (Zai p1n p2 aa ab ac b ae af ag ad ah ai))))) (∃(a7:Bool),EqIs Try.prog 46 (agg (Array.mk (List.take 3 (List.take 7 (List.drop (Int.toNat aj*7) (Zai p1n p2 aa ab ac b ae af
 ag ad ah ai)))))) (agg (Array.mk [int i64 n,int i64 bh,int i64 bi])) a7∧Za0 (ZaF p1n p2 aa ab ac b ak ae af ag ad an ah ai al aj a5)∧[Value.bool !a7]=[Value.bool a3])) (Za0 (ZaF p1n
 p2 aa ab ac b ak ae af ag ad an ah ai al aj a5)∧[Value.bool false]=[Value.bool a3]))))∧br a3 (∃(m'':Mem),Mem.le m m''∧Mem.le m'' m'∧R (Value.bool false) m'' []) (Za0 (Zfk p1n p2 aa ab ac b ak
 ae af ag ad an ah ai al)∧∃(n':Nat),n' < bg∧I [int i64 (IntKind.wrap i64 (aj+(1:Int)))] [] [] m' n')) (∃(a3:Bool),(Eng.ZrO (List.take 7 (List.drop (Int.toNat aj*7) (Zai p1n p2 aa ab ac b ae
 af ag ad ah ai))) 3 fun(v:Value)=>∃(bc:Bool),v=Value.bool bc∧br (!bc == decide ((-1:Int) ≥ (0:Int))) (Za0 (ZaF p1n p2 aa ab ac b ak ae af ag ad an ah ai al aj a5)∧[Value.bool true] =
 [Value.bool a3]) (Eng.ZrO (List.take 7 (List.drop (Int.toNat aj*7) (Zai p1n p2 aa ab ac b ae af ag ad ah ai))) 3 fun(v:Value)=>∃(bd:Bool),v=Value.bool bd∧br (!bd) (chk (Nat.ble 3 (List.length
 (List.take 7 (List.drop (Int.toNat aj*7) (Zai p1n p2 aa ab ac b ae af ag ad ah ai))))) (∃(a6:Bool),EqIs Try.prog 46 (agg (Array.mk (List.take 3 (List.take 7 (List.drop (Int.toNat aj*7) (Zai
 p1n p2 aa ab ac b ae af ag ad ah ai)))))) (agg (Array.mk [int i64 0,int i64 0,int i64 0])) a6∧br (!a6) (Za0 (ZaF p1n p2 aa ab ac b ak ae af ag ad an ah ai al aj a5)∧[Value.bool true]=[Value.bool
 a3]) (Eng.ZrO (List.take 7 (List.drop (Int.toNat aj*7) (Zai p1n p2 aa ab ac b ae af ag ad ah ai))) 3 fun(v:Value)=>∃(a7:Bool),v=Value.bool a7∧br a7 (chk (Nat.ble 3 (List.length (List.take 7
 (List.drop (Int.toNat aj*7) (Zai p1n p2 aa ab ac b ae af ag ad ah ai))))) (∃(be:Bool),EqIs Try.prog 46 (agg (Array.mk (List.take 3 (List.take 7 (List.drop (Int.toNat aj*7) (Zai p1n p2 aa ab
 ac b ae af ag ad ah ai)))))) (agg (Array.mk [int i64 (-1:Int),int i64 (-1:Int),int i64 (-1:Int)])) be∧Za0 (ZaF p1n p2 aa ab ac b ak ae af ag ad an ah ai al aj a5)∧[Value.bool !be]=[Value.bool
 a3])) (Za0 (ZaF p1n p2 aa ab ac b ak ae af ag ad an ah ai al aj a5)∧[Value.bool false]=[Value.bool a3])))) (Eng.ZrO (List.take 7 (List.drop (Int.toNat aj*7) (Zai p1n p2 aa ab ac b ae af
 ag ad ah ai))) 3 fun(v:Value)=>∃(a6:Bool),v=Value.bool a6∧br a6 (chk (Nat.ble 3 (List.length (List.take 7 (List.drop (Int.toNat aj*7) (Zai p1n p2 aa ab ac b ae af ag ad ah ai))))) (∃(a7:
 Bool),EqIs Try.prog 46 (agg (Array.mk (List.take 3 (List.take 7 (List.drop (Int.toNat aj*7) (Zai p1n p2 aa ab ac b ae af ag ad ah ai)))))) (agg (Array.mk [int i64 (-1:Int),int i64 (-1:Int),int i64
 (-1:Int)])) a7∧Za0 (ZaF p1n p2 aa ab ac b ak ae af ag ad an ah ai al aj a5)∧[Value.bool !a7]=[Value.bool a3])) (Za0 (ZaF p1n p2 aa ab ac b ak ae af ag ad an ah ai al aj a5)∧
 [Value.bool false]=[Value.bool a3]))))∧br a3 (∃(m'':Mem),Mem.le m m''∧Mem.le m'' a9∧R (Value.bool false) m'' []) (Za0 (Zfk p1n p2 aa ab ac b ak ae af ag ad an ah ai al)∧∃(n':Nat),n' < bg
 ∧ I [int i64 (IntKind.wrap i64 (aj+(1:Int)))] [] [] a9 n')))))) (∃(R_7:RT),True∧CX Try.prog 62 (Array.mk [slice ba ao bb,slice p1a p1n p1c]) a9 [] R_7∧Zax Shape.bool R_7∧∀(b:Bool)(m':Mem),Mem.le
 a9 m'→R_7 (Value.bool b) m' []→∃(m'':Mem),Mem.le m m''∧Mem.le m'' m'∧R (Value.bool b) m'' [])))
theorem ZiG(p0a:Option Addr)(p0n p0c:Nat)(p1a:Option Addr)(p1n p1c:Nat)(p2:Int)(m:Mem)(R:RT)(h:Zfl p0a p0n p0c p1a p1n p1c p2 m R):CX Try.prog 22 #[.slice p0a p0n p0c,.slice p1a p1n p1c,.int .i64 p2] m [] R:=
 Zad (E:=Zkt) ZaA mix Try.func22 [.v (.slice p0a p0n p0c),.v (.slice p1a p1n p1c),.v (.int .i64 p2)] [] (by kernel_rfl) (Eq.mp (by kernel_rfl) h)
noncomputable def ZeB:Env:={ EB with
 loops:=(fun i=>bif Nat.beq i 4 then⟨[(30,.int .i64)],[],[],false⟩ else⟨[],[],[],false⟩)
 joins:=(fun i=>bif Nat.beq i 1 then some [(26,.bool)]else bif Nat.beq i 9 then some [(6,.bool)]else none)
 gb:=true }
def Zca(p0a:Option Addr)(p0n p0c:Nat)(p1a:Option Addr)(p1n p1c:Nat)(p2:Int)(m:Mem)(R:RT):Prop:=
 ∃(b:Bool),br (decide ((↑p0n:Int) > (8:Int))) (br (decide ((↑p0n:Int)≤(64:Int))) ([Value.bool true]=[Value.bool b]) (br (decide ((↑p0n:Int) > (70:Int))) ([Value.bool true]=[Value.bool b])
 ([Value.bool (decide ((↑p1n:Int) > (30:Int)))]=[Value.bool b]))) (br (decide ((↑p0n:Int) > (70:Int))) ([Value.bool true]=[Value.bool b]) ([Value.bool (decide ((↑p1n:Int) > (30:Int)))]=[Value.bool b]))
 ∧ br b (∃(R_1:RT),True∧CX Try.prog 11 (Array.mk []) m [] R_1∧Zax Shape.bool R_1∧∀(b:Bool)(m':Mem),Mem.le m m'→R_1 (Value.bool b) m' []→∃(m'':Mem),Mem.le m m''∧Mem.le m'' m'∧R (Value.bool b)
 m'' []) (∃(I:IT),(∃(n:Nat),I [int i64 0] [] [] m n)∧∀(n:Int)(m':Mem)(n_1:Nat),Mem.le m m'→I [int i64 n] [] [] m' n_1→br (decide (n < (↑p0n:Int))) (∃(b:Nat),∃(o:Nat),p0a=some (Addr.mk
 b o none)∧Zaf n p0n∧∃(v:Value),∃(v_1:Value),∃(v_2:Value),∃(v_3:Value),∃(v_4:Value),∃(v_5:Value),∃(v_6:Value),∃(v_7:Value),∃(v_8:Value),∃(v_9:Value),Mem.reads m' b (o +
 Int.toNat n*10) [v,v_1,v_2,v_3,v_4,v_5,v_6,v_7,v_8,v_9]∧∀(b:Nat),chk (Value.oneCell' v&&(Value.oneCell' v_1&&(Value.oneCell' v_2&&(Value.oneCell' v_3&&(Value.oneCell' v_4&&(Value.oneCell' v_5
 && (Value.oneCell' v_6&&(Value.oneCell' v_7&&(Value.oneCell' v_8&&(Value.oneCell' v_9&&true)))))))))) (∃(R_1:RT),True∧CX Try.prog 21 (Array.mk [agg (Array.mk [v_2,v_3,v_4,v_5,v_6,v_7,v_8,v_9]),int
 i64 60]) m' [] R_1∧Zax (Shape.int i64) R_1∧∀(n_2:Int)(m'_1:Mem),Mem.le m' m'_1→R_1 (int i64 n_2) m'_1 []→br (decide (n_2 > (60:Int))) (∃(R_2:RT),True∧CX Try.prog 11 (Array.mk []) m'_1 [] R_2∧
 Zax Shape.bool R_2∧∀(b:Bool)(m':Mem),Mem.le m'_1 m'→R_2 (Value.bool b) m' []→∃(m'':Mem),Mem.le m m''∧Mem.le m'' m'∧R (Value.bool b) m'' []) (∃(n':Nat),n' < n_1∧I [int i64 (IntKind.wrap i64 (n
 + (1:Int)))] [] [] m'_1 n'))) (∃(b:Bool),(∃(R:RT),True∧CX Try.prog 22 (Array.mk [slice p0a p0n p0c,slice p1a p1n p1c,int i64 p2]) m' [] R∧Zax Shape.bool R∧∀(b_1:Bool)(m'_1:Mem),Mem.le m' m'_1→
 R (Value.bool b_1) m'_1 []→br b_1 (∃(R:RT),True∧CX Try.prog 11 (Array.mk []) m'_1 [] R∧Zax Shape.bool R∧∀(b_2:Bool)(m':Mem),Mem.le m'_1 m'→R (Value.bool b_2) m' []→[Value.bool b_2]=[Value.bool
 b]) ([Value.bool false]=[Value.bool b]))∧∃(m'':Mem),Mem.le m m''∧Mem.le m'' m'∧R (Value.bool b) m'' []))
theorem ZdV(p0a:Option Addr)(p0n p0c:Nat)(p1a:Option Addr)(p1n p1c:Nat)(p2:Int)(m:Mem)(R:RT)(h:Zca p0a p0n p0c p1a p1n p1c p2 m R):CX Try.prog 4 #[.slice p0a p0n p0c,.slice p1a p1n p1c,.int .i64 p2] m [] R:=
 Zad (E:=ZeB) ZaA mix Try.func4 [.v (.slice p0a p0n p0c),.v (.slice p1a p1n p1c),.v (.int .i64 p2)] [] (by kernel_rfl) (Eq.mp (by kernel_rfl) h)
end Go.Proofs.Ythiefodednaikaa
set_option linter.unusedVariables false
namespace Go.Proofs.Ythiefodednaikaa
open Go Go.Eng Go.Proofs Go.RowKit
open Go.Value (int slice agg)
open Go.IntKind (u8 u64 i64)
set_option maxRecDepth 100000
noncomputable def Zcu:Env:={ EB with
 tokOf:=(fun i=>bif Nat.beq i 2 then 7 else bif Nat.beq i 7 then 7 else 0)
 tokC:=(fun i=>bif Nat.beq i 5 then some (7,1)else none)
 thaw:=true }
def Zbt(p0a:Option Addr)(p0n p0c:Nat)(m:Mem)(R:RT):Prop:=
 br (Option.isNone p0a) (slice none 0 0=slice none 0 0∧R (slice none 0 0) m []) (((0:Int)=(0:Int)∧(0:Int)≤(0:Int)∧(0:Int)*(↑(1:Nat):Int)≤(281474976710656:Int)∧(0:Int) ≤
 (9223372036854775807:Int))∧∀(b:Nat),Mem.free m b→(Tok.mk (slice (some (Addr.mk b 0 none)) 0 (Int.toNat (0:Int))) 1=Tok.mk (slice (some (Addr.mk b 0 none)) 0 (Int.toNat (0:Int))) 1∨slice (some (Addr.mk
 b 0 none)) 0 (Int.toNat (0:Int))=slice none 0 0∨Int.toNat (0:Int) < 0+p0n)∧∃(xs:List Value),∃(ys:List Value),List.length xs=0*1∧List.length ys=p0n*1∧rowRd m (some (Addr.mk b 0 none)) xs∧
 rowRd m p0a ys∧(∀(u:Value),u∈ys→Value.oneCell' u=true)∧(0+p0n)*1≤140737488355328∧0+p0n≤9223372036854775807∧∀(a':Option Addr)(c':Nat)(m':Mem),Mem.le m m'→rowRd m' a' (List.append
 xs ys)→TokFact m (some (Addr.mk b 0 none)) a' (0+p0n) c'→some (Tok.mk (slice a' (0+p0n) c') 1)=some (Tok.mk (slice a' (0+p0n) c') 1)∧R (slice a' (0+p0n) c') m' [])
theorem Zb4(p0a:Option Addr)(p0n p0c:Nat)(m:Mem)(R:RT)(h:Zbt p0a p0n p0c m R):CXT Try.prog 57 #[.slice p0a p0n p0c] m 1 R:=
 ZoJ (E:=Zcu) ZaA mix Try.func57 [.v (.slice p0a p0n p0c)] (by kernel_rfl) (Eq.mp (by kernel_rfl) h)
noncomputable def Zku:Env:=EB
def Zfm(p0a:Option Addr)(p0n p0c:Nat)(p1a:Option Addr)(p1n p1c:Nat)(m:Mem)(R:RT):Prop:=
 ∃(bs:ByteArray),ByteArray.size bs=p0n∧rowRd m p0a (ZaH bs)∧∃(bs_1:ByteArray),ByteArray.size bs_1=p1n∧rowRd m p1a (ZaH bs_1)∧∃(m'':Mem),Mem.le m m''∧Mem.le m'' m∧R (Value.bool
 (ByteArray.toList bs == ByteArray.toList bs_1)) m'' []
theorem ZiH(p0a:Option Addr)(p0n p0c:Nat)(p1a:Option Addr)(p1n p1c:Nat)(m:Mem)(R:RT)(h:Zfm p0a p0n p0c p1a p1n p1c m R):CX Try.prog 62 #[.slice p0a p0n p0c,.slice p1a p1n p1c] m [] R:=
 Zad (E:=Zku) ZaA mix Try.func62 [.v (.slice p0a p0n p0c),.v (.slice p1a p1n p1c)] [] (by kernel_rfl) (Eq.mp (by kernel_rfl) h)
end Go.Proofs.Ythiefodednaikaa
set_option linter.unusedVariables false
namespace Go.Proofs.Ythiefodednaikaa
open Go Go.Eng Go.Proofs Go.RowKit
open Go.Value (int slice agg)
open Go.IntKind (u8 u64 i64)
set_option maxRecDepth 100000
end Go.Proofs.Ythiefodednaikaa
