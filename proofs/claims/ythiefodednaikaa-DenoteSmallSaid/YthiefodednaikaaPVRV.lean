/- Part of the proof: conditions and contracts of functions of this program. No condition of its own. -/
import Derived.Test.YthiefodednaikaaPVD
import Derived.Test.YthiefodednaikaaPC13G
import Derived.Test.YthiefodednaikaaMr
import Derived.Test.YthiefodednaikaaMc
import Derived.Test.YthiefodednaikaaRows
import Derived.Deep.Slices
import Derived.Laws.IdiomArrays
import Derived.Test.YthiefodednaikaaPEnv
set_option linter.unusedVariables false
set_option linter.unusedSimpArgs false
set_option linter.unusedSectionVars false
namespace Go.Proofs.Ythiefodednaikaa
open Go Go.Eng Go.Rx Go.Proofs Go.RowKit
set_option maxRecDepth 100000
theorem ZbZ{m:Mem}{b:Nat}(s:List Nat)(h:∀c∈s,c < 256):Byt (m.add b (s.map λc:Nat=>Value.int .u8 c)) (some ⟨b,0,none⟩) s:=
 ⟨.inr ⟨b,0,rfl,λj v hj=>by rw[Nat.zero_add,Mem.add_same];exact hj⟩,h⟩
theorem Zf0{m:Mem}{b:Nat}{l:List T}(hf:m.free b)(hr:∀t∈l,Rep m t)(hl:l.length<=1000000000000000):RepL (m.add b (ZcD l)) (some ⟨b,0,none⟩) l:=
 Ziv (.inr ⟨b,0,rfl,λj v hj=>by rw[Nat.zero_add,Mem.add_same];exact hj⟩) (λt ht=>(hr t ht).mono (Mem.le_add hf _)) hl
theorem ZhP{m:Mem}{b:Nat}{l:List Rg}(h:m.reads b 0 (l.map Rg.cs).flatten)(hl:l.length<=1000000000000000)(hr:∀r∈l,Rep m r.t):Rgs m (some ⟨b,0,none⟩) l:=by
 refine⟨hl,.inr ⟨b,0,rfl,?_⟩,hr⟩
 have key:∀(l:List Rg)(o:Nat),m.reads b o (l.map Rg.cs).flatten->∀i r,l[i]?=some r->m.reads b (o+i*10) r.cs:=by
  intro l
  induction l with
  | nil=>intro o _ i r hi;simp at hi
  | cons x l ih=>
   intro o h i r hi
   cases i with
   | zero=>
    simp at hi;subst hi
    intro j v hj
    have bB:=(List.getElem?_eq_some_iff.1 hj).1
    rw[Nat.zero_mul,Nat.add_zero]
    exact h j v (by rw[List.map_cons,List.flatten_cons,List.getElem?_append_left bB];exact hj)
   | succ i=>
    rw[show o+(i+1)*10=(o+10)+i*10 by omega]
    refine ih (o+10) (λj v hj=>?_) i r (by simpa using hi)
    have:=h (10+j) v (by
     rw[List.map_cons,List.flatten_cons,List.getElem?_append_right (by simp[Rg.cs]),show 10+j - x.cs.length=j by simp[Rg.cs]];exact hj)
    rw[show o+10+j=o+(10+j) by omega];exact this
 exact key l 0 h
theorem ZhQ(a b c a' b' c':Int):EqIs Try.prog 46 (.agg #[.int .i64 a,.int .i64 b,.int .i64 c]) (.agg #[.int .i64 a',.int .i64 b',.int .i64 c']) (a == a'&&b == b'&&c == c'):=by
 refine⟨λw=>?_,λop ox oy w=>Zd8 (by kernel_rfl) op ox oy _ _ w⟩
 have u3:=Try.underlying3
 have a3:=Try.isAgg3
 have z3:=Try.sizeOf3
 rw[Op.equal,Op.maxDepth,show(10000:Nat)=9999+1 from rfl]
 rw[run_equalIn_agg _ _ _ _ _ (by kernel_rfl) (by kernel_rfl)]
 have hf:(Try.prog.fieldsOf 46).toList=[⟨ "Rule",3,0,false, "", "",0⟩,⟨ "From",3,1,false, "", "",8⟩,⟨ "To",3,2,false, "", "",16⟩]:=by kernel_rfl
 rw[hf]
 go_simp
 by_cases h1:a=a' <;> by_cases h2:b=b' <;> by_cases h3:c=c' <;> simp[h1,h2,h3]
theorem Zvh(m:Mem):CX Try.prog 11 #[] m [] (Ret (.bool true)):=by
 apply ZjJ
 unfold Zgi
 refine Zal (ZbK 97 (by omega) m) ZaA (Zbo λt1 m1 aW dU uG=>?_)
 refine Zal (ZrS t1 m1 dU) ZaA (Zbo λu m2 aY eT uH b b1 l9=>?_)
 refine Zal (ZrO u (some ⟨b1,0,none⟩) [98,97,97,98] 4 1 (m2.add b1 _) (eT.mono (Mem.le_add l9 _)) (λ_=>ZbZ _ (by decide))) ZdQ ?_
 obtain⟨ga,gc,rfl⟩:=uH
 subst uG
 have e1:T.wrong (Zaw 5 0 (-1) ga gc [Zai 97]) [98,97,97,98].length 1=0:=by kernel_rfl
 have e2:T.list (Zaw 5 0 (-1) ga gc [Zai 97]) [98,97,97,98] 1 false=[1,2,3]:=by kernel_rfl
 have e3:T.wrong (Zaw 5 0 (-1) ga gc [Zai 97]) [98,97,97,98].length 3=0:=by kernel_rfl
 have e4:T.list (Zaw 5 0 (-1) ga gc [Zai 97]) [98,97,97,98] 3 true=[1,2,3]:=by kernel_rfl
 rw[e1,e2]
 rintro a3 n3 c3 x3 m3 bN ⟨a3',c3',nL,jn⟩ b2 mA
 simp only[Value.tuple.injEq,Array.mk.injEq,List.cons.injEq,Value.slice.injEq,Value.int.injEq,true_and,and_true]at nL
 obtain⟨⟨rfl,rfl,rfl⟩,rfl⟩:=nL
 have hZ:=mLt (Mem.le_add l9 _) bN
 have kO:=mLt hZ (Mem.le_add mA ([98,97,97,98].map λc:Nat=>Value.int .u8 c))
 refine Zal (Zti _ (some ⟨b2,0,none⟩) [98,97,97,98] 4 3 (m3.add b2 _) (eT.mono kO) (λ_=>ZbZ _ (by decide))) ZdQ ?_
 rw[e3,e4]
 rintro a4 n4 c4 x4 m4 cE ⟨a4',c4',nM,jo⟩
 simp only[Value.tuple.injEq,Array.mk.injEq,List.cons.injEq,Value.slice.injEq,Value.int.injEq,true_and,and_true]at nM
 obtain⟨⟨rfl,rfl,rfl⟩,rfl⟩:=nM
 refine Zal (Zm0 ⟨#[97,98]⟩ (by decide) m4) ZaA (Zbo λab m5 cN j7 lF b3 b4 jL=>?_)
 obtain⟨xa,xc,rfl⟩:=lF
 have nN:(Zdo ⟨#[97,98]⟩)=[97,98]:=by rfl
 rw[nN]at j7 ⊢
 generalize gC:Zaw 3 0 0 xa xc (([97,98]:List Nat).map Zai)=abT at *
 have f1:Rg.wrong ⟨false,false,abT⟩ [120,97,98].length 3=0:=by subst gC;kernel_rfl
 have f2:ZgW ⟨false,false,abT⟩ [120,97,98] 3=some 1:=by subst gC;kernel_rfl
 have f3:Rg.wrong ⟨true,false,abT⟩ [120,97,98].length 3=0:=by subst gC;kernel_rfl
 have f4:ZgW ⟨true,false,abT⟩ [120,97,98] 3=none:=by subst gC;kernel_rfl
 have f5:Rg.wrong ⟨false,true,abT⟩ [120,97,98,99].length 3=0:=by subst gC;kernel_rfl
 have f6:ZgW ⟨false,true,abT⟩ [120,97,98,99] 3=none:=by subst gC;kernel_rfl
 have ia:=mLt cN (Mem.le_add jL ([120,97,98].map λc:Nat=>Value.int .u8 c))
 refine Zal (ZrQ ⟨false,false,abT⟩ (some ⟨b4,0,none⟩) [120,97,98] 3 3 (m5.add b4 _) (j7.mono (Mem.le_add jL _)) (λ_=>ZbZ _ (by decide))) (λv _ _ e=>by rw[e,f2];rfl) ?_
 rw[f1,f2]
 intro i5 bb5 e5 m6 dA sG b6 lM
 simp only[ZmG,List.cons_append,List.nil_append,Value.tuple.injEq,Array.mk.injEq,List.cons.injEq,Value.bool.injEq,Value.int.injEq,true_and,and_true]at sG
 obtain⟨rfl,rfl,rfl⟩:=sG
 refine Zal (Zoa ⟨true,false,abT⟩ (some ⟨b6,0,none⟩) [120,97,98] 3 3 (m6.add b6 _) ((j7.mono (Mem.le_add jL _)).mono (mLt dA (Mem.le_add lM _))) (λ_=>ZbZ _ (by decide))) (λv _ _ e=>by rw[e];rfl) ?_
 rw[f3,f4]
 intro bb7 e7 m7 dN sH b8 j9
 simp only[Option.isSome_none,Value.tuple.injEq,Array.mk.injEq,List.cons.injEq,Value.bool.injEq,Value.int.injEq,true_and,and_true]at sH
 obtain⟨rfl,rfl⟩:=sH
 have jM:Rep m7 abT:=(j7.mono (Mem.le_add jL _)).mono (mLt dA (mLt (Mem.le_add lM _) dN))
 refine Zal (Zoa ⟨false,true,abT⟩ (some ⟨b8,0,none⟩) [120,97,98,99] 4 3 (m7.add b8 _) (jM.mono (Mem.le_add j9 _)) (λ_=>ZbZ _ (by decide))) (λv _ _ e=>by rw[e];rfl) ?_
 rw[f5,f6]
 intro bb9 e9 m9 iO sI
 simp only[Option.isSome_none,Value.tuple.injEq,Array.mk.injEq,List.cons.injEq,Value.bool.injEq,Value.int.injEq,true_and,and_true]at sI
 obtain⟨rfl,rfl⟩:=sI
 refine ZbV rfl ?_
 intro b10 iA
 have kP:m3.le m5:=mLt (Mem.le_add mA _) (mLt cE cN)
 have iJ:m5.le m9:=mLt (Mem.le_add jL _) (mLt dA (mLt (Mem.le_add lM _) (mLt dN (mLt (Mem.le_add j9 _) iO))))
 refine Zan (Zen [1,2,3] [1,2,3] _ (some ⟨b10,0,none⟩) _ 3 (m9.add b10 _) (jn.mono (mLt kP (mLt iJ (Mem.le_add iA _)))) (.inr ⟨b10,0,rfl,λj v hj=>by rw[Nat.zero_add,Mem.add_same];exact hj⟩) (by decide)) λm10 eA=>ZbV rfl ?_
 intro b12 ka
 refine Zan (Zen [1,2,3] [1,2,3] _ (some ⟨b12,0,none⟩) _ 3 (m10.add b12 _) (jo.mono (mLt cN (mLt iJ (mLt (Mem.le_add iA _) (mLt eA (Mem.le_add ka _)))))) (.inr ⟨b12,0,rfl,λj v hj=>by rw[Nat.zero_add,Mem.add_same];exact hj⟩) (by decide)) λm11 fW=>ZbV rfl ?_
 refine ZbV rfl (ZbV rfl (ZbV rfl (ZbV rfl ?_)))
 refine⟨λi _ _=>if i=0 then Zb1 (λt=>∃a c,t=Zaw 3 0 0 a c ([98,99].map Zai))else Zb1 (λt=>t=Zai 98),?_⟩
 have gF:(Zdo ⟨#[98,99]⟩)=[98,99]:=by rfl
 refine⟨Zb1 (λt=>∃a c,t=Zaw 3 0 0 a c ([98,99].map Zai)),rfl,by have:=Zm0 ⟨#[98,99]⟩ (by decide) m11;rw[gF]at this;exact this,ZaA,Zbo λbc m12 fG qT oQ=>?_⟩
 refine⟨Zb1 (λt=>t=Zai 98),rfl,ZbK 98 (by omega) m12,ZaA,Zbo λl1 m13 eV uI kH b14 uJ=>?_⟩
 refine⟨Zb1 (λt=>t=Zai 98),rfl,ZbK 98 (by omega) m13,ZaA,Zbo λl2 m14 hC uK gp b15 uL=>?_⟩
 refine⟨Zb1 (λt=>t=Zai 98),rfl,ZbK 98 (by omega) m14,ZaA,Zbo λl3 m15 lN qU jH b16 kd b17 qV=>?_⟩
 intro V mB pd mC wf wg b18 lO M cR cT fV dM kN iz lP kQ jp uM
 subst kH gp jH
 obtain⟨ya,yc,rfl⟩:=oQ
 have lF:Rep M abT:=(jM.mono (mLt (Mem.le_add j9 _) iO)).mono (mLt (Mem.le_add iA _) (mLt eA (mLt (Mem.le_add ka _) (mLt fW cR))))
 have R14:Rgs M (some ⟨b14,0,none⟩) [⟨false,false,Zaw 3 0 0 ya yc ([98,99].map Zai)⟩,⟨false,false,Zai 98⟩]:=ZhP (λj v hj=>by rw[Nat.zero_add];exact dM _ _ _ (by rw[Mem.add_same];exact hj)) (by simp) (by intro r hr;simp at hr;rcases hr with rfl|rfl;exact qT.mono cT;exact Zcc _ _)
 have R15:Rgs M (some ⟨b15,0,none⟩) [⟨false,true,Zai 98⟩,⟨false,false,abT⟩]:=ZhP (λj v hj=>by rw[Nat.zero_add];exact iz _ _ _ (by rw[Mem.add_same];exact hj)) (by simp) (by intro r hr;simp at hr;rcases hr with rfl|rfl;exact Zcc _ _;exact lF)
 have R16:Rgs M (some ⟨b16,0,none⟩) [⟨false,true,Zai 98⟩,⟨false,false,abT⟩]:=ZhP (λj v hj=>by rw[Nat.zero_add];exact kQ _ _ _ (by rw[Mem.add_same];exact hj)) (by simp) (by intro r hr;simp at hr;rcases hr with rfl|rfl;exact Zcc _ _;exact lF)
 have R17:Rgs M (some ⟨b17,0,none⟩) [⟨false,false,Zaw 5 0 (-1) ga gc [Zai 97]⟩]:=ZhP (λj v hj=>by rw[Nat.zero_add];exact jp _ _ _ (by rw[Mem.add_same];exact hj)) (by simp) (by intro r hr;simp at hr;subst hr;exact eT.mono (mLt kO (mLt cE (mLt cN (mLt iJ (mLt (Mem.le_add iA _) (mLt eA (mLt (Mem.le_add ka _) (mLt fW cR)))))))))
 refine⟨λxs css tvs m' q=>∃k:Nat,k<=4/\xs=[.int .i64 k]/\q=4 - k,⟨4,0,by omega,rfl,rfl⟩,?_⟩
 rintro z m16 q jq ⟨k,hk,hz,hq⟩
 obtain rfl:z=k:=by simpa using hz
 refine Zab (λbB=>?_) (λcK=>?_)
 ·have h4:k=0\/k=1\/k=2\/k=3:=by have:=of_decide_eq_true bB;omega
  rcases h4 with rfl|rfl|rfl|rfl
  ·have g1:ZdH [⟨false,false,Zaw 3 0 0 ya yc ([98,99].map Zai)⟩,⟨false,false,Zai 98⟩] [97,98,99]=some (1,1,2):=by kernel_rfl
   have g2:Za7 [⟨false,false,Zaw 3 0 0 ya yc ([98,99].map Zai)⟩,⟨false,false,Zai 98⟩] [97,98,99].length 0=0:=by kernel_rfl
   refine⟨⟨by omega,by omega⟩,Zaa rfl λb19=>Zaa rfl (Zah rfl (Zah rfl (Zaa rfl λb20 c8 eW qW=>?_)))⟩
   refine Zal (ZfZ [⟨false,false,Zaw 3 0 0 ya yc ([98,99].map Zai)⟩,⟨false,false,Zai 98⟩] (some ⟨b14,0,none⟩) 2 (some ⟨b20,0,none⟩) [97,98,99] c8 (m16.add b20 _) (λ_=>R14.mono (mLt jq (Mem.le_add eW _))) (λ_=>ZbZ _ (by decide))) (λv _ _ e=>by rw[e,g1];rfl) ?_
   rw[g1,g2]
   intro u1 u2 u3 bo er m17 iB eK b22
   simp only[Znv,List.cons_append,List.nil_append,Value.tuple.injEq,Value.agg.injEq,Array.mk.injEq,List.cons.injEq,Value.bool.injEq,Value.int.injEq,true_and,and_true]at eK
   obtain⟨⟨rfl,rfl,rfl⟩,rfl,rfl⟩:=eK
   refine⟨false,Zaa rfl ⟨true,ZhQ _ _ _ _ _ _,ZbV rfl (ZbV rfl ⟨by trivial,rfl⟩)⟩,ZbV rfl ⟨by trivial,3,by omega,1,by omega,rfl,rfl⟩⟩
  ·have g1:ZdH [⟨false,true,Zai 98⟩,⟨false,false,abT⟩] [97,98]=some (0,1,2):=by subst gC;kernel_rfl
   have g2:Za7 [⟨false,true,Zai 98⟩,⟨false,false,abT⟩] [97,98].length 0=0:=by subst gC;kernel_rfl
   refine⟨⟨by omega,by omega⟩,Zaa rfl λb19=>Zaa rfl (Zah rfl (Zah rfl (Zaa rfl λb20 c8 eW qW=>?_)))⟩
   refine Zal (ZfZ [⟨false,true,Zai 98⟩,⟨false,false,abT⟩] (some ⟨b15,0,none⟩) 2 (some ⟨b20,0,none⟩) [97,98] c8 (m16.add b20 _) (λ_=>R15.mono (mLt jq (Mem.le_add eW _))) (λ_=>ZbZ _ (by decide))) (λv _ _ e=>by rw[e,g1];rfl) ?_
   rw[g1,g2]
   intro u1 u2 u3 bo er m17 iB eK b22
   simp only[Znv,List.cons_append,List.nil_append,Value.tuple.injEq,Value.agg.injEq,Array.mk.injEq,List.cons.injEq,Value.bool.injEq,Value.int.injEq,true_and,and_true]at eK
   obtain⟨⟨rfl,rfl,rfl⟩,rfl,rfl⟩:=eK
   refine⟨false,Zaa rfl ⟨true,ZhQ _ _ _ _ _ _,ZbV rfl (ZbV rfl ⟨by trivial,rfl⟩)⟩,ZbV rfl ⟨by trivial,2,by omega,2,by omega,rfl,rfl⟩⟩
  ·have g1:ZdH [⟨false,true,Zai 98⟩,⟨false,false,abT⟩] [97,98,99]=some (1,0,2):=by subst gC;kernel_rfl
   have g2:Za7 [⟨false,true,Zai 98⟩,⟨false,false,abT⟩] [97,98,99].length 0=0:=by subst gC;kernel_rfl
   refine⟨⟨by omega,by omega⟩,Zaa rfl λb19=>Zaa rfl (Zah rfl (Zah rfl (Zaa rfl λb20 c8 eW qW=>?_)))⟩
   refine Zal (ZfZ [⟨false,true,Zai 98⟩,⟨false,false,abT⟩] (some ⟨b16,0,none⟩) 2 (some ⟨b20,0,none⟩) [97,98,99] c8 (m16.add b20 _) (λ_=>R16.mono (mLt jq (Mem.le_add eW _))) (λ_=>ZbZ _ (by decide))) (λv _ _ e=>by rw[e,g1];rfl) ?_
   rw[g1,g2]
   intro u1 u2 u3 bo er m17 iB eK b22
   simp only[Znv,List.cons_append,List.nil_append,Value.tuple.injEq,Value.agg.injEq,Array.mk.injEq,List.cons.injEq,Value.bool.injEq,Value.int.injEq,true_and,and_true]at eK
   obtain⟨⟨rfl,rfl,rfl⟩,rfl,rfl⟩:=eK
   refine⟨false,Zaa rfl ⟨true,ZhQ _ _ _ _ _ _,ZbV rfl (ZbV rfl ⟨by trivial,rfl⟩)⟩,ZbV rfl ⟨by trivial,1,by omega,3,by omega,rfl,rfl⟩⟩
  ·have g1:ZdH [⟨false,false,Zaw 5 0 (-1) ga gc [Zai 97]⟩] [98,97]=some (0,0,0):=by kernel_rfl
   have g2:Za7 [⟨false,false,Zaw 5 0 (-1) ga gc [Zai 97]⟩] [98,97].length 0=0:=by kernel_rfl
   refine⟨⟨by omega,by omega⟩,Zaa rfl λb19=>Zaa rfl (Zah rfl (Zah rfl (Zaa rfl λb20 c8 eW qW=>?_)))⟩
   refine Zal (ZfZ [⟨false,false,Zaw 5 0 (-1) ga gc [Zai 97]⟩] (some ⟨b17,0,none⟩) 1 (some ⟨b20,0,none⟩) [98,97] c8 (m16.add b20 _) (λ_=>R17.mono (mLt jq (Mem.le_add eW _))) (λ_=>ZbZ _ (by decide))) (λv _ _ e=>by rw[e,g1];rfl) ?_
   rw[g1,g2]
   intro u1 u2 u3 bo er m17 iB eK b22
   simp only[Znv,List.cons_append,List.nil_append,Value.tuple.injEq,Value.agg.injEq,Array.mk.injEq,List.cons.injEq,Value.bool.injEq,Value.int.injEq,true_and,and_true]at eK
   obtain⟨⟨rfl,rfl,rfl⟩,rfl,rfl⟩:=eK
   refine⟨false,Zaa rfl ⟨true,ZhQ _ _ _ _ _ _,ZbV rfl (ZbV rfl ⟨by trivial,rfl⟩)⟩,ZbV rfl ⟨by trivial,0,by omega,4,by omega,rfl,rfl⟩⟩
 ·refine Zal (Zm0 ⟨#[97,98]⟩ (by decide) m16) ZaA (Zbo λt5 m17 iB qX mD=>?_)
  refine Zal (ZbK 97 (by omega) m17) ZaA (Zbo λt6 m18 nO qY uN b19 lQ=>?_)
  refine Zal (ZmY (some ⟨b19,0,none⟩) 2 [t5,t6] (m18.add b19 _) (Zf0 lQ (by intro t ht;simp at ht;rcases ht with rfl|rfl;exact qX.mono nO;exact qY) (by simp))) ZaA (Zbo λt7 m19 qZ q7 uO=>?_)
  refine Zal (ZbK 99 (by omega) m19) ZaA (Zbo λt8 m20 nP uP uQ=>?_)
  refine Zal (Zm0 ⟨#[98,99]⟩ (by decide) m20) ZaA (Zbo λt9 m21 lR q8 sJ b20 eW=>?_)
  refine Zal (ZmY (some ⟨b20,0,none⟩) 2 [t8,t9] (m21.add b20 _) (Zf0 eW (by intro t ht;simp at ht;rcases ht with rfl|rfl;exact uP.mono lR;exact q8) (by simp))) ZaA (Zbo λt10 m22 nQ q9 ra b21 kf=>?_)
  refine Zal (ZmX (some ⟨b21,0,none⟩) 2 [t7,t10] (m22.add b21 _) (Zf0 kf (by intro t ht;simp at ht;rcases ht with rfl|rfl;exact q7.mono (mLt nP (mLt lR (mLt (Mem.le_add eW _) nQ)));exact q9) (by simp))) ZaA (Zbo λt11 m23 rb lS iP b22 b23 gD=>?_)
  rw[nN]at mD
  rw[gF]at sJ
  obtain⟨p1,p2,rfl⟩:=mD
  obtain⟨p3,p4,rfl⟩:=sJ
  subst uN uQ uO ra
  have w3:t11.wrong [97,98,99].length 0=0:=by subst iP;kernel_rfl
  have w2:t11.wrong [97,99].length 0=0:=by subst iP;kernel_rfl
  have w4:t11.wrong [97,98,98,99].length 0=0:=by subst iP;kernel_rfl
  have y1:T.matches t11 [97,98,99]=true:=by subst iP;kernel_rfl
  have y2:T.matches t11 [97,99]=true:=by subst iP;kernel_rfl
  have y3:T.matches t11 [97,98,98,99]=true:=by subst iP;kernel_rfl
  refine⟨λxs css tvs m' q=>∃k:Nat,k<=3/\xs=[.int .i64 k]/\q=3 - k,⟨3,0,by omega,rfl,rfl⟩,?_⟩
  rintro z m24 q kg ⟨k,hk,hz,hq⟩
  obtain rfl:z=k:=by simpa using hz
  refine Zab (λbB=>?_) (λcK=>?_)
  ·have h4:k=0\/k=1\/k=2:=by have:=of_decide_eq_true bB;omega
   rcases h4 with rfl|rfl|rfl
   ·refine⟨⟨by omega,by omega⟩,Zah rfl (Zaa rfl λb24 c15 ib nR=>?_)⟩
    refine Zal (ZdR t11 (some ⟨b24,0,none⟩) [97,98,99] c15 (m24.add b24 _) (lS.mono (mLt (Mem.le_add gD _) (mLt kg (Mem.le_add ib _)))) (λ_=>ZbZ _ (by decide))) (λv _ _ e=>by rw[e];rfl) ?_
    rw[y1,w3]
    intro bo er m25 nS ic
    simp only[Value.tuple.injEq,Array.mk.injEq,List.cons.injEq,Value.bool.injEq,Value.int.injEq,true_and,and_true]at ic
    obtain⟨rfl,rfl⟩:=ic
    exact⟨false,ZbV rfl ⟨by trivial,rfl⟩,ZbV rfl ⟨by trivial,2,by omega,1,by omega,rfl,rfl⟩⟩
   ·refine⟨⟨by omega,by omega⟩,Zah rfl (Zaa rfl λb24 c15 ib nR=>?_)⟩
    refine Zal (ZdR t11 (some ⟨b24,0,none⟩) [97,99] c15 (m24.add b24 _) (lS.mono (mLt (Mem.le_add gD _) (mLt kg (Mem.le_add ib _)))) (λ_=>ZbZ _ (by decide))) (λv _ _ e=>by rw[e];rfl) ?_
    rw[y2,w2]
    intro bo er m25 nS ic
    simp only[Value.tuple.injEq,Array.mk.injEq,List.cons.injEq,Value.bool.injEq,Value.int.injEq,true_and,and_true]at ic
    obtain⟨rfl,rfl⟩:=ic
    exact⟨false,ZbV rfl ⟨by trivial,rfl⟩,ZbV rfl ⟨by trivial,1,by omega,2,by omega,rfl,rfl⟩⟩
   ·refine⟨⟨by omega,by omega⟩,Zah rfl (Zaa rfl λb24 c15 ib nR=>?_)⟩
    refine Zal (ZdR t11 (some ⟨b24,0,none⟩) [97,98,98,99] c15 (m24.add b24 _) (lS.mono (mLt (Mem.le_add gD _) (mLt kg (Mem.le_add ib _)))) (λ_=>ZbZ _ (by decide))) (λv _ _ e=>by rw[e];rfl) ?_
    rw[y3,w4]
    intro bo er m25 nS ic
    simp only[Value.tuple.injEq,Array.mk.injEq,List.cons.injEq,Value.bool.injEq,Value.int.injEq,true_and,and_true]at ic
    obtain⟨rfl,rfl⟩:=ic
    exact⟨false,ZbV rfl ⟨by trivial,rfl⟩,ZbV rfl ⟨by trivial,0,by omega,3,by omega,rfl,rfl⟩⟩
  ·exact Zac (mLt aW (mLt aY (mLt hZ (mLt kP (mLt iJ (mLt (Mem.le_add iA _) (mLt eA (mLt (Mem.le_add ka _) (mLt fW (mLt cR (mLt jq (mLt iB (mLt nO (mLt (Mem.le_add lQ _) (mLt qZ (mLt nP (mLt lR (mLt (Mem.le_add eW _) (mLt nQ (mLt (Mem.le_add kf _) (mLt rb (mLt (Mem.le_add gD _) kg)))))))))))))))))))))) rfl
structure Sm (m:Mem)(a:Option Addr)(l:List (Nat×Nat×Nat)):Prop where
 len:l.length<=9223372036854775807
 byte:∀s∈l,s.1 < 256/\s.2.1 < 256/\s.2.2 < 256
 at':∀i s,l[i]?=some s->∃b o,a=some ⟨b,o,none⟩/\m.reads b (o+i*3) [.int .u8 s.1,.int .u8 s.2.1,.int .u8 s.2.2]
theorem Sm.mono{m m':Mem}{a l}(h:Sm m a l)(hm:m.le m'):Sm m' a l:=
 ⟨h.len,h.byte,λi s hi=>by obtain⟨b,o,h1,h2⟩:=h.at' i s hi;exact⟨b,o,h1,h2.mono hm⟩⟩
end Go.Proofs.Ythiefodednaikaa
namespace Go.Proofs.Ythiefodednaikaa
open Go Go.Eng Go.Rx Go.Proofs Go.RowKit Go.ChangeShapes Go.WideShapes Go.ChangeAt
set_option maxRecDepth 100000
theorem ZxK:ownKnob Try.prog.godebug=none:=by kernel_rfl
theorem ZwQ:laidOutB Try.prog=true:=by kernel_rfl
section
variable {H:Type} {enc:TypeId×Value->H} {W:World} {uR:Bool}
instance:Inhabited T:=⟨T0⟩
end
end Go.Proofs.Ythiefodednaikaa
namespace Go.Proofs.Ythiefodednaikaa
open Go Go.Eng Go.Proofs Go.RowKit
open Go.Value (int slice agg bool string tuple func)
open Go.IntKind (u8 u64 i64)
set_option maxRecDepth 100000
noncomputable def ZgX:Env:={ EB with
 loops:=(λi=>bif Nat.beq i 4 then⟨[(7,.int .i64)],[],[],false⟩ else⟨[],[],[],false⟩)
 joins:=(λi=>bif Nat.beq i 1 then some [(16,.bool)]else bif Nat.beq i 6 then some [(38,.bool)]else none)
 frzNew:=[3]
 gb:=true
 ldF:=(λi=>bif Nat.beq i 9 then some none else bif Nat.beq i 35 then some none else none) }
def Zdp(p0:List Value)(p1a:Option Addr)(p1n p1c:Nat)(p2:Int)(m:Mem)(R:RT):Prop:=
 chk (Nat.beq (List.length p0) 262) (∀(b:Nat)(m':Mem),Mem.le m m'->Mem.reads m' b 0 p0->∃(b_1:Bool),(Eng.Zty p0 1 λ(v:Value)=>∃(b_2:Bool),v=bool b_2/\br b_2 ([some (Box.mk b p0 111 262 true
 true)]=[some (Box.mk b p0 111 262 true true)]/\[bool (decide (p2 < IntKind.wrap i64 ((↑p1n:Int) - (1:Int))))]=[bool b_1]) ([some (Box.mk b p0 111 262 true true)]=[some (Box.mk b p0 111 262 true true)]/\[bool
 false]=[bool b_1]))/\br b_1 (∃(m'':Mem),Mem.le m m''/\Mem.le m'' m'/\R (int i64 (-1:Int)) m'' []) (∃(I:IT),(∃(n:Nat),I [int i64 0] [] [] m' n)/\∀(n:Int)(m'_1:Mem)(n_1:Nat),Mem.le m' m'_1->
 I [int i64 n] [] [] m'_1 n_1->br (decide (n<=p2)) (∃(b_2:Bool),(∃(b_3:Nat),∃(o:Nat),p1a=some (Addr.mk b_3 o none)/\Zaf n p1n/\∃(v:Value),m'_1 b_3 (o+Int.toNat n*1)=some v/\chk (Zcf v)
 (∃(b_4:Nat),∃(o:Nat),slA v=some (Addr.mk b_4 o none)/\Zaf p2 (slN v)/\∃(v:Value),m'_1 b_4 (o+Int.toNat p2*1)=some v/\chk (Zar i64 v&&decide (i64=i64)) (br (RowKit.intOf v == (1:Int))
 (br (n == (0:Int)) ([some (Box.mk b p0 111 262 true true)]=[some (Box.mk b p0 111 262 true true)]/\[bool true]=[bool b_2]) (Eng.Zty p0 0 λ(v:Value)=>∃(b_5:Bool),v=bool b_5/\[some (Box.mk b p0 111
 262 true true)]=[some (Box.mk b p0 111 262 true true)]/\[bool !b_5]=[bool b_2])) ([some (Box.mk b p0 111 262 true true)]=[some (Box.mk b p0 111 262 true true)]/\[bool false]=[bool b_2]))))/\br b_2 (∃(m'':
 Mem),Mem.le m m''/\Mem.le m'' m'_1/\R (int i64 n) m'' []) ([some (Box.mk b p0 111 262 true true)]=[some (Box.mk b p0 111 262 true true)]/\∃(n':Nat),n' < n_1/\I [int i64 (IntKind.wrap i64 (n+(1:Int)))] []
 [] m'_1 n')) (∃(m'':Mem),Mem.le m m''/\Mem.le m'' m'_1/\R (int i64 (-1:Int)) m'' [])))
theorem Zf1(p0:List Value)(p1a:Option Addr)(p1n p1c:Nat)(p2:Int)(m:Mem)(R:RT)(h:Zdp p0 p1a p1n p1c p2 m R):CX Try.prog 86 #[.agg p0.toArray,.slice p1a p1n p1c,.int .i64 p2] m [] R:=
 Zae (E:=ZgX) Zax mix Try.func86 [.v (.agg p0.toArray),.v (.slice p1a p1n p1c),.v (.int .i64 p2)] [] (by kernel_rfl) (Eq.mp (by kernel_rfl) h)
noncomputable def Zf2:Env:={ EB with
 frzNew:=[3] }
def ZcX(p0:List Value)(p1a:Option Addr)(p1n p1c:Nat)(p2:Int)(m:Mem)(R:RT):Prop:=
 chk (Nat.beq (List.length p0) 262) (∀(b:Nat)(m':Mem),Mem.le m m'->Mem.reads m' b 0 p0->chk (Nat.ble 262 (List.length p0)) (∃(R_1:RT),True/\CX Try.prog 85 (Array.mk [agg (Array.mk (List.take 260 (List.drop
 2 p0)))]) m' [] R_1/\Zaq (Shape.int i64) R_1/\∀(n:Int)(m'_1:Mem),Mem.le m' m'_1->R_1 (int i64 n) m'_1 []->br (!n == (0:Int)) (∃(m'':Mem),Mem.le m m''/\Mem.le m'' m'_1/\R (int i64 130) m'' []) (chk
 (Nat.ble 262 (List.length p0)) (∃(R_2:RT),True/\CX Try.prog 64 (Array.mk [agg (Array.mk (List.take 260 (List.drop 2 p0))),slice p1a p1n p1c,int i64 p2]) m'_1 [] R_2/\Zaq (Shape.int i64) R_2/\∀(n:Int) (m':
 Mem),Mem.le m'_1 m'->R_2 (int i64 n) m' []->∃(m'':Mem),Mem.le m m''/\Mem.le m'' m'/\R (int i64 n) m'' []))))
theorem Zfx(p0:List Value)(p1a:Option Addr)(p1n p1c:Nat)(p2:Int)(m:Mem)(R:RT)(h:ZcX p0 p1a p1n p1c p2 m R):CX Try.prog 58 #[.agg p0.toArray,.slice p1a p1n p1c,.int .i64 p2] m [] R:=
 Zae (E:=Zf2) Zax mix Try.func58 [.v (.agg p0.toArray),.v (.slice p1a p1n p1c),.v (.int .i64 p2)] [] (by kernel_rfl) (Eq.mp (by kernel_rfl) h)
noncomputable def ZnI:Env:={ EB with
 dr:=(λi=>bif Nat.beq i 1 then[⟨0,[3],[],none,[],[]⟩,⟨1,[3],[],none,[],[]⟩,⟨2,[3],[],none,[1],[]⟩,⟨3,[],[],none,[],[]⟩,⟨4,[],[],none,[1,2,3],[]⟩,⟨5,[],[],none,[],[]⟩,⟨6,[],[],none,[0,1,2,3,4,5],[4]⟩,⟨7,[],[],none,[0,1,2,3,4,5,6],[]⟩]else[])
 frzNew:=[3] }
def ZhB(p0:List Value)(p1a:Option Addr)(p1n p1c:Nat)(p2:Int)(m:Mem)(R:RT):Prop:=
 chk (Nat.beq (List.length p0) 262) (∀(b:Nat)(m':Mem),Mem.le m m'->Mem.reads m' b 0 p0->∃(f:Fx),chk (Nat.ble 262 (List.length p0)) (∃(R_1:RT),R_1=f 4 [agg (Array.mk (List.take 260 (List.drop 2 p0))),
 slice p1a p1n p1c] m'/\CX Try.prog 87 (Array.mk [agg (Array.mk (List.take 260 (List.drop 2 p0))),slice p1a p1n p1c]) m' [] R_1/\Zaq Shape.slice R_1/\∀(a:Option Addr)(n c:Nat)(m'_1:Mem),Mem.le m' m'_1->
 R_1 (slice a n c) m'_1 []->∃(R_2:RT),R_2=f 6 [agg (Array.mk p0),slice a n c,int i64 p2] m'_1/\CX Try.prog 86 (Array.mk [agg (Array.mk p0),slice a n c,int i64 p2]) m'_1 [] R_2/\Zaq (Shape.int i64) R_2/\∀
 (n:Int) (m'_2:Mem),Mem.le m'_1 m'_2->R_2 (int i64 n) m'_2 []->∀(M:Mem),Mem.le m' M->Mem.le m'_1 M->Mem.le m'_2 M->∃(m'':Mem),Mem.le m m''/\Mem.le m'' M/\R (int i64 n) m'' []))
theorem ZlK(p0:List Value)(p1a:Option Addr)(p1n p1c:Nat)(p2:Int)(m:Mem)(R:RT)(h:ZhB p0 p1a p1n p1c p2 m R):CX Try.prog 59 #[.agg p0.toArray,.slice p1a p1n p1c,.int .i64 p2] m [] R:=
 Zae (E:=ZnI) Zax mix Try.func59 [.v (.agg p0.toArray),.v (.slice p1a p1n p1c),.v (.int .i64 p2)] [] (by kernel_rfl) (Eq.mp (by kernel_rfl) h)
noncomputable def Zf3:Env:={ EB with
 loops:=(λi=>bif Nat.beq i 4 then⟨[(7,.int .i64)],[],[],false⟩ else⟨[],[],[],false⟩)
 gb:=true }
def ZcY(p0a:Option Addr)(p0n p0c:Nat)(p1a:Option Addr)(p1n p1c:Nat)(p2:Int)(m:Mem)(R:RT):Prop:=
 br (decide ((↑p0n:Int) > (64:Int))) (∃(m'':Mem),Mem.le m m''/\Mem.le m'' m/\R (int i64 5) m'' []) (∃(I:IT),(∃(n:Nat),I [int i64 0] [] [] m n)/\∀(n:Int)(m':Mem)(ab:Nat),Mem.le m m'->I [int
 i64 n] [] [] m' ab->br (decide (n < (↑p0n:Int))) (∃(b:Nat),∃(o:Nat),p0a=some (Addr.mk b o none)/\Zaf n p0n/\∃(vs:List Value),List.length vs=260/\Mem.reads m' b (o+Int.toNat n*262+2) vs/\
 ∃(R_1:RT),True/\CX Try.prog 85 (Array.mk [agg (Array.mk vs)]) m' [] R_1/\Zaq (Shape.int i64) R_1/\∀(ac:Int)(aa:Mem),Mem.le m' aa->R_1 (int i64 ac) aa []->br (!ac == (0:Int)) (∃(m'':Mem),Mem.le m
 m''/\Mem.le m'' aa/\R (int i64 130) m'' []) (∃(n':Nat),n' < ab/\I [int i64 (IntKind.wrap i64 (n+(1:Int)))] [] [] aa n')) (∃(R_1:RT),True/\CX Try.prog 64 (Array.mk [agg (Array.mk [int i64 1,int i64 0,
 int i64 0,int i64 0,int i64 0,int i64 0,int i64 0,int i64 0,int i64 0,int i64 0,int i64 0,int i64 0,int i64 0,int i64 0,int i64 0,int i64 0,int i64 0,int i64 0,int i64 0,int i64 0,int i64 0,int i64 0,
 int i64 0,int i64 0,int i64 0,int i64 0,int i64 0,int i64 0,int i64 0,int i64 0,int i64 0,int i64 0,int i64 0,int i64 0,int i64 0,int i64 0,int i64 0,int i64 0,int i64 0,int i64 0,int i64 0,int i64 0,
 int i64 0,int i64 0,int i64 0,int i64 0,int i64 0,int i64 0,int i64 0,int i64 0,int i64 0,int i64 0,int i64 0,int i64 0,int i64 0,int i64 0,int i64 0,int i64 0,int i64 0,int i64 0,int i64 0,int i64 0,
 int i64 0,int i64 0,int i64 0,int i64 0,int i64 0,int i64 0,int i64 0,int i64 0,int i64 0,int i64 0,int i64 0,int i64 0,int i64 0,int i64 0,int i64 0,int i64 0,int i64 0,int i64 0,int i64 0,int i64 0,
 int i64 0,int i64 0,int i64 0,int i64 0,int i64 0,int i64 0,int i64 0,int i64 0,int i64 0,int i64 0,int i64 0,int i64 0,int i64 0,int i64 0,int i64 0,int i64 0,int i64 0,int i64 0,int i64 0,int i64 0,
 int i64 0,int i64 0,int i64 0,int i64 0,int i64 0,int i64 0,int i64 0,int i64 0,int i64 0,int i64 0,int i64 0,int i64 0,int i64 0,int i64 0,int i64 0,int i64 0,int i64 0,int i64 0,int i64 0,int i64 0,
 int i64 0,int i64 0,int i64 0,int i64 0,int i64 0,int i64 0,int i64 0,int i64 0,int i64 0,int i64 0,int i64 0,int i64 0,int i64 0,int i64 0,int i64 0,int i64 0,int i64 0,int i64 0,int i64 0,int i64 0,
 int i64 0,int i64 0,int i64 0,int i64 0,int i64 0,int i64 0,int i64 0,int i64 0,int i64 0,int i64 0,int i64 0,int i64 0,int i64 0,int i64 0,int i64 0,int i64 0,int i64 0,int i64 0,int i64 0,int i64 0,
 int i64 0,int i64 0,int i64 0,int i64 0,int i64 0,int i64 0,int i64 0,int i64 0,int i64 0,int i64 0,int i64 0,int i64 0,int i64 0,int i64 0,int i64 0,int i64 0,int i64 0,int i64 0,int i64 0,int i64 0,
 int i64 0,int i64 0,int i64 0,int i64 0,int i64 0,int i64 0,int i64 0,int i64 0,int i64 0,int i64 0,int i64 0,int i64 0,int i64 0,int i64 0,int i64 0,int i64 0,int i64 0,int i64 0,int i64 0,int i64 0,
 int i64 0,int i64 0,int i64 0,int i64 0,int i64 0,int i64 0,int i64 0,int i64 0,int i64 0,int i64 0,int i64 0,int i64 0,int i64 0,int i64 0,int i64 0,int i64 0,int i64 0,int i64 0,int i64 0,int i64 0,
 int i64 0,int i64 0,int i64 0,int i64 0,int i64 0,int i64 0,int i64 0,int i64 0,int i64 0,int i64 0,int i64 0,int i64 0,int i64 0,int i64 0,int i64 0,int i64 0,int i64 0,int i64 0,int i64 0,int i64 0,
 int i64 0,int i64 0,int i64 0,int i64 0,int i64 0,int i64 0,int i64 0,int i64 0,int i64 0,int i64 0,int i64 0,int i64 0,int i64 0,int i64 0,int i64 0,int i64 0,int i64 0,slice none 0 0]),slice p1a p1n
 p1c,int i64 p2]) m' [] R_1/\Zaq (Shape.int i64) R_1/\∀(n:Int)(aa:Mem),Mem.le m' aa->R_1 (int i64 n) aa []->∃(m'':Mem),Mem.le m m''/\Mem.le m'' aa/\R (int i64 n) m'' []))
theorem Zfy(p0a:Option Addr)(p0n p0c:Nat)(p1a:Option Addr)(p1n p1c:Nat)(p2:Int)(m:Mem)(R:RT)(h:ZcY p0a p0n p0c p1a p1n p1c p2 m R):CX Try.prog 60 #[.slice p0a p0n p0c,.slice p1a p1n p1c,.int .i64 p2] m [] R:=
 Zae (E:=Zf3) Zax mix Try.func60 [.v (.slice p0a p0n p0c),.v (.slice p1a p1n p1c),.v (.int .i64 p2)] [] (by kernel_rfl) (Eq.mp (by kernel_rfl) h)
noncomputable def ZiT:Env:={ EB with
 loops:=(λi=>bif Nat.beq i 3 then⟨[(11,.slice),(12,.int .i64)],[],[(31,1)],false⟩ else bif Nat.beq i 7 then⟨[(13,.int .i64)],[],[],false⟩ else bif Nat.beq i 10 then⟨[(14,.int .i64)],[],[],false⟩ else⟨[],[],[],false⟩)
 dr:=(λi=>bif Nat.beq i 12 then[⟨0,[],[],none,[],[]⟩,⟨1,[],[],none,[],[]⟩,⟨2,[],[],none,[0,1],[]⟩,⟨3,[],[],none,[0,1,2],[]⟩,⟨4,[],[],none,[],[]⟩,⟨5,[],[],none,[],[]⟩,⟨6,[],[],none,[4,5],[]⟩,⟨7,[],[],none,[4,5,6],[]⟩,⟨8,[],[],none,[],[]⟩,⟨9,[],[],none,[0,1,2,3,4,5,6,7,8],[]⟩,⟨10,[],[],none,[0,1,2,3,4,5,6,7,8,9],[]⟩]else[])
 tokOf:=(λi=>bif Nat.beq i 31 then 31 else 0)
 gb:=true }
def Zez(p0a:Option Addr)(p0n p0c:Nat)(p1a:Option Addr)(p1n p1c:Nat)(p2 p3:Int)(m:Mem)(R:RT):Prop:=
 ∃(I:IT),(∃(n:Nat),I [slice none 0 0,int i64 0] [] [slice none 0 0] m n)/\∀(a:Option Addr)(n c:Nat)(ag:Int)(ad:Option Addr)(ae af:Nat)(m':Mem)(al:Nat),Mem.le m m'->I [slice a n c,int i64
 ag] [] [slice ad ae af] m' al->br (decide (ag < (↑p0n:Int))) (∃(b:Nat),∃(o:Nat),p0a=some (Addr.mk b o none)/\Zaf ag p0n/\∃(vs:List Value),List.length vs=260/\Mem.reads m' b (o+Int.toNat ag *
 262+2) vs/\∃(R:RT),True/\CX Try.prog 87 (Array.mk [agg (Array.mk vs),slice p1a p1n p1c]) m' [] R/\Zaq Shape.slice R/\∀(ah:Option Addr)(ab ai:Nat)(aa:Mem),Mem.le m' aa->R (slice ah ab ai) aa []->∀
 (b:Nat),Mem.free aa b->(Tok.mk (slice ad ae af) 1=Tok.mk (slice a n c) 1\/slice a n c=slice none 0 0\/c < n+1)/\∃(xs:List Value),∃(ys:List Value),List.length xs=n*1/\List.length ys=1*1/\
 rowRd (Mem.add aa b [slice ah ab ai]) a xs/\rowRd (Mem.add aa b [slice ah ab ai]) (some (Addr.mk b 0 none)) ys/\(∀(u:Value),u∈ys->Value.oneCell' u=true)/\(n+1)*24<=140737488355328/\n+1 <=
 9223372036854775807/\∀(a':Option Addr)(c':Nat)(m':Mem),Mem.le (Mem.add aa b [slice ah ab ai]) m'->rowRd m' a' (List.append xs ys)->∃(n':Nat),n' < al/\I [slice a' (n+1) c',int i64 (IntKind.wrap i64
 (ag+(1:Int)))] [] [slice a' (n+1) c'] m' n') (∃(I:IT),(∃(n:Nat),I [int i64 p2] [] [] m' n)/\∀(ab:Int)(aa:Mem)(am:Nat),Mem.le m' aa->I [int i64 ab] [] [] aa am->br (decide (ab<=p3)) (∃(aj:
 IT),(∃(n:Nat),aj [int i64 0] [] [] aa n)/\∀(ac:Int)(m':Mem)(an:Nat),Mem.le aa m'->aj [int i64 ac] [] [] m' an->br (decide (ac < (↑p0n:Int))) (∃(f:Fx),∃(b:Nat),∃(o:Nat),p0a=some (Addr.mk
 b o none)/\Zaf ac p0n/\∃(vs:List Value),List.length vs=262/\Mem.reads m' b (o+Int.toNat ac*262) vs/\∃(b:Nat),∃(o:Nat),a=some (Addr.mk b o none)/\Zaf ac n/\∃(v:Value),m' b (o +
 Int.toNat ac*1)=some v/\∃(R_1:RT),R_1=f 9 [agg (Array.mk vs),v,int i64 ab] m'/\CX Try.prog 86 (Array.mk [agg (Array.mk vs),v,int i64 ab]) m' [] R_1/\Zaq (Shape.int i64) R_1/\∀(n:Int)(ak:Mem),
 Mem.le m' ak->R_1 (int i64 n) ak []->∀(M:Mem),Mem.le m' M->Mem.le ak M->br (decide (n ≥ (0:Int))) (∃(m'':Mem),Mem.le m m''/\Mem.le m'' M/\R (tuple (Array.mk [int i64 ac,int i64 n,int i64 ab])) m'' [])
 ([some (Tok.mk (slice ad ae af) 1)]=[some (Tok.mk (slice ad ae af) 1)]/\∃(n':Nat),n' < an/\aj [int i64 (IntKind.wrap i64 (ac+(1:Int)))] [] [] M n')) ([some (Tok.mk (slice ad ae af) 1)]=[some (Tok.mk (slice
 ad ae af) 1)]/\∃(n':Nat),n' < am/\I [int i64 (IntKind.wrap i64 (ab+(1:Int)))] [] [] m' n')) (∃(m'':Mem),Mem.le m m''/\Mem.le m'' aa/\R (tuple (Array.mk [int i64 (-1:Int),int i64 (-1:Int),int i64
 (-1:Int)])) m'' []))
theorem ZhR(p0a:Option Addr)(p0n p0c:Nat)(p1a:Option Addr)(p1n p1c:Nat)(p2 p3:Int)(m:Mem)(R:RT)(h:Zez p0a p0n p0c p1a p1n p1c p2 p3 m R):CX Try.prog 61 #[.slice p0a p0n p0c,.slice p1a p1n p1c,.int .i64 p2,.int .i64 p3] m [] R:=
 Zae (E:=ZiT) Zax mix Try.func61 [.v (.slice p0a p0n p0c),.v (.slice p1a p1n p1c),.v (.int .i64 p2),.v (.int .i64 p3)] [] (by kernel_rfl) (Eq.mp (by kernel_rfl) h)
noncomputable def ZjX:Env:={ EB with
 loops:=(λi=>bif Nat.beq i 3 then⟨[(3,.slice),(8,.int .i64)],[],[(22,262)],false⟩ else⟨[],[],[],false⟩)
 dr:=(λi=>bif Nat.beq i 5 then[⟨0,[],[],none,[],[]⟩,⟨1,[5],[],none,[],[]⟩,⟨2,[5],[],none,[1],[]⟩,⟨3,[5],[],none,[],[]⟩,⟨4,[5],[],none,[3],[]⟩,⟨5,[5],[],none,[],[]⟩,⟨6,[5],[],none,[5],[]⟩,⟨7,[],[],none,[5,6],[]⟩,⟨8,[],[],none,[1,2,3,4,5,6,7],[]⟩,⟨9,[21],[21],none,[1,2,3,4,5,6,7,8],[7]⟩,⟨10,[21],[],some 22,[0,1,2,3,4,5,6,7,8,9],[9]⟩,⟨11,[],[],none,[0,1,2,3,4,5,6,7,8,9,10],[]⟩]else[])
 tokOf:=(λi=>bif Nat.beq i 22 then 22 else 0) }
abbrev Zat:List Value:=[bool false,bool false,int i64 0,int i64 0,int i64 0,int i64 0,int i64 0,int i64 0,int i64 0,int i64 0,int i64 0,int i64 0,int i64 0,int i64 0,int i64 0,int i64 0,
 int i64 0,int i64 0,int i64 0,int i64 0,int i64 0,int i64 0,int i64 0,int i64 0,int i64 0,int i64 0,int i64 0,int i64 0,int i64 0,int i64 0,int i64 0,int i64 0,int i64 0,int i64 0,int i64 0,int i64 0,
 int i64 0,int i64 0,int i64 0,int i64 0,int i64 0,int i64 0,int i64 0,int i64 0,int i64 0,int i64 0,int i64 0,int i64 0,int i64 0,int i64 0,int i64 0,int i64 0,int i64 0,int i64 0,int i64 0,int i64 0,
 int i64 0,int i64 0,int i64 0,int i64 0,int i64 0,int i64 0,int i64 0,int i64 0,int i64 0,int i64 0,int i64 0,int i64 0,int i64 0,int i64 0,int i64 0,int i64 0,int i64 0,int i64 0,int i64 0,int i64 0,
 int i64 0,int i64 0,int i64 0,int i64 0,int i64 0,int i64 0,int i64 0,int i64 0,int i64 0,int i64 0,int i64 0,int i64 0,int i64 0,int i64 0,int i64 0,int i64 0,int i64 0,int i64 0,int i64 0,int i64 0,
 int i64 0,int i64 0,int i64 0,int i64 0,int i64 0,int i64 0,int i64 0,int i64 0,int i64 0,int i64 0,int i64 0,int i64 0,int i64 0,int i64 0,int i64 0,int i64 0,int i64 0,int i64 0,int i64 0,int i64 0,
 int i64 0,int i64 0,int i64 0,int i64 0,int i64 0,int i64 0,int i64 0,int i64 0,int i64 0,int i64 0,int i64 0,int i64 0,int i64 0,int i64 0,int i64 0,int i64 0,int i64 0,int i64 0,int i64 0,int i64 0,
 int i64 0,int i64 0,int i64 0,int i64 0,int i64 0,int i64 0,int i64 0,int i64 0,int i64 0,int i64 0,int i64 0,int i64 0,int i64 0,int i64 0,int i64 0,int i64 0,int i64 0,int i64 0,int i64 0,int i64 0,
 int i64 0,int i64 0,int i64 0,int i64 0,int i64 0,int i64 0,int i64 0,int i64 0,int i64 0,int i64 0,int i64 0,int i64 0,int i64 0,int i64 0,int i64 0,int i64 0,int i64 0,int i64 0,int i64 0,int i64 0,
 int i64 0,int i64 0,int i64 0,int i64 0,int i64 0,int i64 0,int i64 0,int i64 0,int i64 0,int i64 0,int i64 0,int i64 0,int i64 0,int i64 0,int i64 0,int i64 0,int i64 0,int i64 0,int i64 0,int i64 0,
 int i64 0,int i64 0,int i64 0,int i64 0,int i64 0,int i64 0,int i64 0,int i64 0,int i64 0,int i64 0,int i64 0,int i64 0,int i64 0,int i64 0,int i64 0,int i64 0,int i64 0,int i64 0,int i64 0,int i64 0,
 int i64 0,int i64 0,int i64 0,int i64 0,int i64 0,int i64 0,int i64 0,int i64 0,int i64 0,int i64 0,int i64 0,int i64 0,int i64 0,int i64 0,int i64 0,int i64 0,int i64 0,int i64 0,int i64 0,int i64 0,
 int i64 0,int i64 0,int i64 0,int i64 0,int i64 0,int i64 0,int i64 0,int i64 0,int i64 0,int i64 0,int i64 0,int i64 0,int i64 0,int i64 0,int i64 0,int i64 0,int i64 0,int i64 0,int i64 0,int i64 0,
 int i64 0,int i64 0,int i64 0,int i64 0,int i64 0,slice none 0 0]
def Zfz(p0a:Option Addr)(p0n p0c:Nat)(m:Mem)(R:RT):Prop:=
 ∃(I:IT),(∃(n:Nat),I [slice none 0 0,int i64 0] [] [slice none 0 0] m n)/\∀(a:Option Addr)(n c:Nat)(n_1:Int)(a_1:Option Addr)(n_2 c_1:Nat)(m':Mem)(n_3:Nat),Mem.le m m'->I [slice a n c,
 int i64 n_1] [] [slice a_1 n_2 c_1] m' n_3->br (decide (n_1 < (↑p0n:Int))) (∃(b:Nat),∃(o:Nat),p0a=some (Addr.mk b o none)/\Zaf n_1 p0n/\∃(v:Value),∃(v_1:Value),∃(v_2:Value),∃(v_3:
 Value),∃(v_4:Value),∃(v_5:Value),∃(v_6:Value),∃(v_7:Value),∃(v_8:Value),∃(v_9:Value),Mem.reads m' b (o+Int.toNat n_1*10) [v,v_1,v_2,v_3,v_4,v_5,v_6,v_7,v_8,v_9]/\∀(b:Nat),chk
 (Value.oneCell' v&&(Value.oneCell' v_1&&(Value.oneCell' v_2&&(Value.oneCell' v_3&&(Value.oneCell' v_4&&(Value.oneCell' v_5&&(Value.oneCell' v_6&&(Value.oneCell' v_7&&(Value.oneCell' v_8 &&
 (Value.oneCell' v_9&&true)))))))))) (∃(f:Fx),∃(R:RT),R=f 7 [agg (Array.mk [v_2,v_3,v_4,v_5,v_6,v_7,v_8,v_9])] m'/\CX Try.prog 63 (Array.mk [agg (Array.mk [v_2,v_3,v_4,v_5,v_6,v_7,v_8,v_9])])
 m' [] R/\Zaq Shape.cells R/\∀(cs:List Value)(m'_1:Mem),Mem.le m' m'_1->R (agg (Array.mk cs)) m'_1 []->chk (Nat.beq (List.length (Array.toList (Value.cells v))) 1&&true) (chk (Nat.beq (List.length
 (Array.toList (Value.cells v_1))) 1&&Nat.ble 2 (List.length (Zam Zat 0 (Array.toList (Value.cells v))))) (chk (Nat.beq (List.length cs) 260&&Nat.ble 262 (List.length (Zam (Zam Zat 0
 (Array.toList (Value.cells v))) 1 (Array.toList (Value.cells v_1))))) (chk (Nat.beq (List.length (Zam (Zam (Zam Zat 0 (Array.toList (Value.cells v))) 1 (Array.toList (Value.cells v_1))) 2 cs)) 262
 && true) (∀(b:Nat),Mem.free m'_1 b->(Tok.mk (slice a_1 n_2 c_1) 262=Tok.mk (slice a n c) 262\/slice a n c=slice none 0 0\/c < n+1)/\∃(xs:List Value),∃(ys:List Value),List.length xs=n*262/\
 List.length ys=1*262/\rowRd (Mem.add m'_1 b (List.append (Zam (Zam (Zam Zat 0 (Array.toList (Value.cells v))) 1 (Array.toList (Value.cells v_1))) 2 cs) [])) a xs/\rowRd (Mem.add m'_1 b
 (List.append (Zam (Zam (Zam Zat 0 (Array.toList (Value.cells v))) 1 (Array.toList (Value.cells v_1))) 2 cs) [])) (some (Addr.mk b 0 none)) ys/\(∀(u:Value),u∈ys->Value.oneCell' u=true)/\(n
 + 1)*2104<=140737488355328/\n+1<=9223372036854775807/\∀(a':Option Addr)(c':Nat)(m'_2:Mem),Mem.le (Mem.add m'_1 b (List.append (Zam (Zam (Zam Zat 0 (Array.toList (Value.cells v))) 1
 (Array.toList (Value.cells v_1))) 2 cs) [])) m'_2->rowRd m'_2 a' (List.append xs ys)->∀(M:Mem),Mem.le m' M->Mem.le m'_1 M->Mem.le (Mem.add m'_1 b (List.append (Zam (Zam (Zam Zat 0
 (Array.toList (Value.cells v))) 1 (Array.toList (Value.cells v_1))) 2 cs) [])) M->Mem.le m'_2 M->∃(n':Nat),n' < n_3/\I [slice a' (n+1) c',int i64 (IntKind.wrap i64 (n_1+(1:Int)))] [] [slice a' (n+1) c']
 M n')))))) (∃(m'':Mem),Mem.le m m''/\Mem.le m'' m'/\R (slice a n c) m'' [])
theorem ZiU(p0a:Option Addr)(p0n p0c:Nat)(m:Mem)(R:RT)(h:Zfz p0a p0n p0c m R):CX Try.prog 56 #[.slice p0a p0n p0c] m [] R:=
 Zae (E:=ZjX) Zax mix Try.func56 [.v (.slice p0a p0n p0c)] [] (by kernel_rfl) (Eq.mp (by kernel_rfl) h)
noncomputable def ZlL:Env:={ EB with
 loops:=(λi=>bif Nat.beq i 3 then⟨[(41,.int .i64)],[],[],false⟩ else bif Nat.beq i 20 then⟨[(147,.int .i64)],[],[],false⟩ else⟨[],[],[],false⟩)
 joins:=(λi=>bif Nat.beq i 11 then some [(101,.bool)]else bif Nat.beq i 17 then some [(132,.bool)]else bif Nat.beq i 25 then some [(193,.bool)]else none)
 gb:=true
 ldF:=(λi=>bif Nat.beq i 166 then some none else bif Nat.beq i 172 then some none else bif Nat.beq i 183 then some none else none) }
abbrev ZjY:Value->Value->Value->Value->Value->Value->Value->Value->Value->Value->Nat->Option Box:=λ(v ap ar au av aw ax ay az a0:Value)(b:Nat)=>some (Box.mk b [v,ap,ar,au,av,aw,
 ax,ay,az,a0] 37 10 false true)
abbrev ZaZ:Value->Value->Value->Value->Value->Value->Value->Value->Value->Value->Nat->List (Option Box):=λ(v ap ar au av aw ax ay az a0:Value)(b:Nat)=>[ZjY v ap ar au av aw
 ax ay az a0 b]
abbrev Zgq:Int->Int->Int->Nat->Int->Int->Int->Nat->List (Option Box):=λ(n ao am:Int)(b:Nat)(aq aa ab:Int)(ak:Nat)=>[some (Box.mk ak [int i64 aq,int i64 aa,int i64 ab] 46 3 false
 true),some (Box.mk b [int i64 n,int i64 ao,int i64 am] 46 3 false true)]
abbrev Zak:Nat->Int->Int->Int->Int->Bool->Int->Int->Int->Bool->Int->Int->List Value:=λ(p1n:Nat)(p2 n ao am:Int)(b:Bool)(aq aa ab:Int)(ak:Bool)(ac a1:Int)=>[int i64 n,int
 i64 ao,int i64 am,bool b,int i64 ac,int i64 p2,int i64 p2,int i64 aq,int i64 aa,int i64 ab,bool ak,int i64 a1,int i64 0,int i64 (↑p1n:Int)]
abbrev ZjZ:Nat->Int->Int->Int->Int->Bool->Int->Int->Int->Bool->Int->Int->Int->Nat->Option Box:=λ(p1n:Nat)(p2 n ao am:Int)(b:Bool)(aq aa ab:Int)(ak:Bool)(ac a1 ae:Int) (ad
 : Nat)=>some (Box.mk ad (List.take 7 (List.drop (Int.toNat ae*7) (Zak p1n p2 n ao am b aq aa ab ak ac a1))) 113 7 false true)
abbrev Zgr:Nat->Int->Int->Int->Int->Bool->Int->Int->Int->Bool->Int->Int->Nat->Option Box:=λ(p1n:Nat)(p2 n ao am:Int)(b:Bool)(aq aa ab:Int)(ak:Bool)(ac a1:Int)(ad:Nat)
 => some (Box.mk ad (Zak p1n p2 n ao am b aq aa ab ak ac a1) 113 14 true true)
abbrev ZaO:Nat->Int->Int->Int->Int->Bool->Nat->Int->Int->Int->Bool->Nat->Int->Int->Nat->Int->Nat->List (Option Box):=λ(p1n:Nat)(p2 n ao am:Int)(b:Bool)(ak:Nat) (aq aa ab:
 Int) (ad:Bool) (an:Nat) (ac a1:Int) (a2:Nat) (ae:Int) (al:Nat)=>[ZjZ p1n p2 n ao am b aq aa ab ad ac a1 ae al,Zgr p1n p2 n ao am b aq aa ab ad ac a1 a2,some (Box.mk an [int i64 aq,
 int i64 aa,int i64 ab] 46 3 false true),some (Box.mk ak [int i64 n,int i64 ao,int i64 am] 46 3 false true)]
abbrev Zgs:Nat->Int->Int->Int->Int->Bool->Nat->Int->Int->Int->Bool->Nat->Int->Int->Nat->List (Option Box):=λ(p1n:Nat)(p2 n ao am:Int)(b:Bool)(ak:Nat)(aq aa ab:Int) (ad:
 Bool) (an:Nat) (ac a1:Int) (a2:Nat)=>[Zgr p1n p2 n ao am b aq aa ab ad ac a1 a2,some (Box.mk an [int i64 aq,int i64 aa,int i64 ab] 46 3 false true),some (Box.mk ak [int i64 n,int i64 ao,int i64
 am] 46 3 false true)]
def Zgt(p0a:Option Addr)(p0n p0c:Nat)(p1a:Option Addr)(p1n p1c:Nat)(p2:Int)(m:Mem)(R:RT):Prop:=
 ∃(R_1:RT),True/\CX Try.prog 56 (Array.mk [slice p0a p0n p0c]) m [] R_1/\Zaq Shape.slice R_1/\∀(a:Option Addr)(n c:Nat)(m':Mem),Mem.le m m'->R_1 (slice a n c) m' []->∃(R_2:RT),True/\CX Try.prog
 57 (Array.mk [slice p1a p1n p1c]) m' [] R_2/\Zaq Shape.slice R_2/\∀(ba:Option Addr)(ao bb:Nat)(bf:Mem),Mem.le m' bf->R_2 (slice ba ao bb) bf []->(((0:Int)<=if(8:Int) < (↑p0n:Int)then(8:Int)
 else(↑p0n:Int))/\(if(8:Int) < (↑p0n:Int)then(8:Int)else(↑p0n:Int))<=(↑p0c:Int))/\∃(I:IT),(∃(n:Nat),I [int i64 0] [] [] bf n)/\∀(am:Int)(m':Mem)(aq:Nat),Mem.le bf m'->I [int i64
 am] [] [] m' aq->br (decide (am < (↑(Int.toNat (if(8:Int) < (↑p0n:Int)then(8:Int)else(↑p0n:Int)) - 0):Int))) (∃(b:Nat),∃(o:Nat),Za4 p0a 0 p0c 10=some (Addr.mk b o none)/\Zaf am
 (Int.toNat (if(8:Int) < (↑p0n:Int)then(8:Int)else(↑p0n:Int)) - 0)/\∃(v:Value),∃(ap:Value),∃(ar:Value),∃(au:Value),∃(av:Value),∃(aw:Value),∃(ax:Value),∃(ay:Value),∃(az:
 Value),∃(a0:Value),Mem.reads m' b (o+Int.toNat am*10) [v,ap,ar,au,av,aw,ax,ay,az,a0]/\∀(b:Nat),chk (Value.oneCell' v&&(Value.oneCell' ap&&(Value.oneCell' ar&&(Value.oneCell' au &&
 (Value.oneCell' av&&(Value.oneCell' aw&&(Value.oneCell' ax&&(Value.oneCell' ay&&(Value.oneCell' az&&(Value.oneCell' a0&&true)))))))))) (∃(ak:Nat),∃(o:Nat),a=some (Addr.mk ak o none)/\Zaf am n
 /\ ∃(vs:List Value),List.length vs=262/\Mem.reads m' ak (o+Int.toNat am*262) vs/\∃(R_3:RT),True/\CX Try.prog 58 (Array.mk [agg (Array.mk vs),slice p1a p1n p1c,int i64 p2]) m' [] R_3/\Zaq (Shape.int
 i64) R_3/\∀(aa:Int)(a8:Mem),Mem.le m' a8->R_3 (int i64 aa) a8 []->∃(R_4:RT),True/\CX Try.prog 16 (Array.mk [agg (Array.mk [v,ap,ar,au,av,aw,ax,ay,az,a0]),slice ba ao bb,int i64 p2]) a8 [] R_4/\
 Zaq (Shape.tup [Shape.bool,Shape.int i64]) R_4/\∀(ad:Bool)(ab:Int)(m':Mem),Mem.le a8 m'->R_4 (tuple (Array.mk [bool ad,int i64 ab])) m' []->∃(R_5:RT),True/\CX Try.prog 17 (Array.mk [agg (Array.mk
 [v,ap,ar,au,av,aw,ax,ay,az,a0]),slice ba ao bb,int i64 p2]) m' [] R_5/\Zaq (Shape.tup [Shape.int i64,Shape.bool,Shape.int i64]) R_5/\∀(ac:Int)(an:Bool)(a1:Int)(a4:Mem),Mem.le m' a4->R_5
 (tuple (Array.mk [int i64 ac,bool an,int i64 a1])) a4 []->br (aa == (0:Int)) (∃(a2:Nat),∃(o:Nat),a=some (Addr.mk a2 o none)/\Zaf am n/\∃(vs:List Value),List.length vs=262/\Mem.reads a4 a2 (o
 + Int.toNat am*262) vs/\∃(R_6:RT),True/\CX Try.prog 59 (Array.mk [agg (Array.mk vs),slice p1a p1n p1c,int i64 p2]) a4 [] R_6/\Zaq (Shape.int i64) R_6/\∀(n:Int)(m':Mem),Mem.le a4 m'->R_6 (int i64 n)
 m' []->∃(al:Bool),br (!ab == aa) (ZaM (ZaZ v ap ar au av aw ax ay az a0 b)/\[bool true]=[bool al]) (br (!a1 == aa) (ZaM (ZaZ v ap ar au av aw ax ay az a0 b)/\[bool true]=[bool al])
 (br (!ad == decide (n ≥ (0:Int))) (ZaM (ZaZ v ap ar au av aw ax ay az a0 b)/\[bool true]=[bool al]) (br (!an == ad) (ZaM (ZaZ v ap ar au av aw ax ay az a0 b)/\[bool true]=[bool al])
 (ZaM (ZaZ v ap ar au av aw ax ay az a0 b)/\[bool !ac == if(0:Int) > n then(0:Int)else n]=[bool al]))))/\br al (∃(m'':Mem),Mem.le m m''/\Mem.le m'' m'/\R (bool false) m'' []) (∃(n':Nat),
 n' < aq/\I [int i64 (IntKind.wrap i64 (am+(1:Int)))] [] [] m' n')) (∃(a2:Bool),br (!ab == aa) (ZaM (ZaZ v ap ar au av aw ax ay az a0 b)/\[bool true]=[bool a2]) (br (!a1 == aa) (ZaM
 (ZaZ v ap ar au av aw ax ay az a0 b)/\[bool true]=[bool a2]) (br (!ad == decide ((-1:Int) ≥ (0:Int))) (ZaM (ZaZ v ap ar au av aw ax ay az a0 b)/\[bool true]=[bool a2]) (br (!an == ad)
 (ZaM (ZaZ v ap ar au av aw ax ay az a0 b)/\[bool true]=[bool a2]) (ZaM (ZaZ v ap ar au av aw ax ay az a0 b)/\[bool !ac == if(0:Int) > (-1:Int)then(0:Int)else(-1:Int)]=[bool
 a2]))))/\br a2 (∃(m'':Mem),Mem.le m m''/\Mem.le m'' a4/\R (bool false) m'' []) (∃(n':Nat),n' < aq/\I [int i64 (IntKind.wrap i64 (am+(1:Int)))] [] [] a4 n')))) (∃(R_3:RT),True/\CX Try.prog 18
 (Array.mk [slice p0a p0n p0c,slice ba ao bb,int i64 p2]) m' [] R_3/\Zaq (Shape.tup [Shape.agg [Shape.int i64,Shape.int i64,Shape.int i64],Shape.bool,Shape.int i64]) R_3/\∀(aa ab ac:Int)(b:Bool)(a1:Int)
 (a8:Mem),Mem.le m' a8->R_3 (tuple (Array.mk [agg (Array.mk [int i64 aa,int i64 ab,int i64 ac]),bool b,int i64 a1])) a8 []->∀(ak:Nat),∃(R_4:RT),True/\CX Try.prog 20 (Array.mk [slice p0a p0n p0c,slice
 ba ao bb]) a8 [] R_4/\Zaq (Shape.tup [Shape.agg [Shape.int i64,Shape.int i64,Shape.int i64],Shape.bool,Shape.int i64]) R_4/\∀(ae af ag:Int)(ad:Bool)(bj:Int)(m':Mem),Mem.le a8 m'->R_4 (tuple
 (Array.mk [agg (Array.mk [int i64 ae,int i64 af,int i64 ag]),bool ad,int i64 bj])) m' []->∀(an:Nat),∃(R_5:RT),True/\CX Try.prog 60 (Array.mk [slice a n c,slice p1a p1n p1c,int i64 p2]) m' [] R_5/\Zaq
 (Shape.int i64) R_5/\∀(ah:Int)(a4:Mem),Mem.le m' a4->R_5 (int i64 ah) a4 []->∃(R_6:RT),True/\CX Try.prog 60 (Array.mk [slice a n c,slice p1a p1n p1c,int i64 0]) a4 [] R_6/\Zaq (Shape.int i64) R_6/\∀
 (ai:Int) (m':Mem),Mem.le a4 m'->R_6 (int i64 ai) m' []->∃(a2:Bool),br (!a1 == ah) (ZaM (Zgq aa ab ac ak ae af ag an)/\[bool true]=[bool a2]) (ZaM (Zgq aa ab ac ak ae af ag an)/\
 [bool !bj == ai]=[bool a2])/\br a2 (∃(m'':Mem),Mem.le m m''/\Mem.le m'' m'/\R (bool false) m'' []) (∀(al:Nat),Mem.free m' al->∃(I:IT),(∃(n:Nat),I [int i64 0] [] [] (Mem.add m' al (Zak
 p1n p2 aa ab ac b ae af ag ad ah ai)) n)/\∀(aj:Int)(a9:Mem)(bg:Nat),Mem.le (Mem.add m' al (Zak p1n p2 aa ab ac b ae af ag ad ah ai)) a9->I [int i64 aj] [] [] a9 bg->br (decide (aj < (↑(2:Nat):
 Int))) (Zaf aj 2/\chk (Nat.ble (Int.toNat aj*7) (1+1+1+1+1+1+1)) (∀(a5:Nat),chk (Nat.beq (List.length (List.take 7 (List.drop (Int.toNat aj*7) (Zak p1n p2 aa ab ac b ae af ag ad ah
 ai)))) 7&&Zcp (List.take 7 (List.drop (Int.toNat aj*7) (Zak p1n p2 aa ab ac b ae af ag ad ah ai)))) (Eng.Zty (List.take 7 (List.drop (Int.toNat aj*7) (Zak p1n p2 aa ab ac b ae af ag ad ah
 ai))) 4 λ(v:Value)=>chk (Zar i64 v&&decide (i64=i64)) (br (RowKit.intOf v == (0:Int)) (Eng.Zty (List.take 7 (List.drop (Int.toNat aj*7) (Zak p1n p2 aa ab ac b ae af ag ad ah ai))) 5 λ(v:
 Value)=>Eng.Zty (List.take 7 (List.drop (Int.toNat aj*7) (Zak p1n p2 aa ab ac b ae af ag ad ah ai))) 6 λ(ap:Value)=>∃(R_7:RT),True/\CX Try.prog 61 (Array.mk [slice a n c,slice p1a p1n p1c,
 v,ap]) a9 [] R_7/\Zaq (Shape.tup [Shape.int i64,Shape.int i64,Shape.int i64]) R_7/\∀(n bh bi:Int)(m':Mem),Mem.le a9 m'->R_7 (tuple (Array.mk [int i64 n,int i64 bh,int i64 bi])) m' []->∃(a3:Bool),
 (Eng.Zty (List.take 7 (List.drop (Int.toNat aj*7) (Zak p1n p2 aa ab ac b ae af ag ad ah ai))) 3 λ(v:Value)=>∃(bc:Bool),v=bool bc/\br (!bc == decide (n ≥ (0:Int))) (ZaM (ZaO
 p1n p2 aa ab ac b ak ae af ag ad an ah ai al aj a5)/\[bool true]=[bool a3]) (Eng.Zty (List.take 7 (List.drop (Int.toNat aj*7) (Zak p1n p2 aa ab ac b ae af ag ad ah ai))) 3 λ(v:Value)=>∃(bd:
 Bool),v=bool bd/\br (!bd) (chk (Nat.ble 3 (List.length (List.take 7 (List.drop (Int.toNat aj*7) (Zak p1n p2 aa ab ac b ae af ag ad ah ai))))) (∃(a6:Bool),EqIs Try.prog 46 (agg (Array.mk (List.take 3
 (List.take 7 (List.drop (Int.toNat aj*7) (Zak p1n p2 aa ab ac b ae af ag ad ah ai)))))) (agg (Array.mk [int i64 0,int i64 0,int i64 0])) a6/\br (!a6) (ZaM (ZaO p1n p2 aa ab ac b ak ae af ag
 ad an ah ai al aj a5)/\[bool true]=[bool a3]) (Eng.Zty (List.take 7 (List.drop (Int.toNat aj*7) (Zak p1n p2 aa ab ac b ae af ag ad ah ai))) 3 λ(v:Value)=>∃(a7:Bool),v=bool a7/\br a7 (chk
 (Nat.ble 3 (List.length (List.take 7 (List.drop (Int.toNat aj*7) (Zak p1n p2 aa ab ac b ae af ag ad ah ai))))) (∃(be:Bool),EqIs Try.prog 46 (agg (Array.mk (List.take 3 (List.take 7 (List.drop (Int.toNat
 aj*7) (Zak p1n p2 aa ab ac b ae af ag ad ah ai)))))) (agg (Array.mk [int i64 n,int i64 bh,int i64 bi])) be/\ZaM (ZaO p1n p2 aa ab ac b ak ae af ag ad an ah ai al aj a5)/\[bool !be]=[bool
 a3])) (ZaM (ZaO p1n p2 aa ab ac b ak ae af ag ad an ah ai al aj a5)/\[bool false]=[bool a3])))) (Eng.Zty (List.take 7 (List.drop (Int.toNat aj*7) (Zak p1n p2 aa ab ac b ae af ag ad ah
 ai))) 3 λ(v:Value)=>∃(a6:Bool),v=bool a6/\br a6 (chk (Nat.ble 3 (List.length (List.take 7 (List.drop (Int.toNat aj*7) (Zak p1n p2 aa ab ac b ae af ag ad ah ai))))) (∃(a7:Bool),EqIs
 Try.prog 46 (agg (Array.mk (List.take 3 (List.take 7 (List.drop (Int.toNat aj*7) (Zak p1n p2 aa ab ac b ae af ag ad ah ai)))))) (agg (Array.mk [int i64 n,int i64 bh,int i64 bi])) a7/\ZaM
 (ZaO p1n p2 aa ab ac b ak ae af ag ad an ah ai al aj a5)/\[bool !a7]=[bool a3])) (ZaM (ZaO p1n p2 aa ab ac b ak ae af ag ad an ah ai al aj a5)/\[bool false]=[bool a3]))))/\br a3 (∃(m'':
 Mem),Mem.le m m''/\Mem.le m'' m'/\R (bool false) m'' []) (ZaM (Zgs p1n p2 aa ab ac b ak ae af ag ad an ah ai al)/\∃(n':Nat),n' < bg/\I [int i64 (IntKind.wrap i64 (aj+(1:Int)))] [] [] m' n'))
 (∃(a3:Bool),(Eng.Zty (List.take 7 (List.drop (Int.toNat aj*7) (Zak p1n p2 aa ab ac b ae af ag ad ah ai))) 3 λ(v:Value)=>∃(bc:Bool),v=bool bc/\br (!bc == decide ((-1:Int) ≥ (0:Int)))
 (ZaM (ZaO p1n p2 aa ab ac b ak ae af ag ad an ah ai al aj a5)/\[bool true]=[bool a3]) (Eng.Zty (List.take 7 (List.drop (Int.toNat aj*7) (Zak p1n p2 aa ab ac b ae af ag ad ah ai))) 3 λ(v
 : Value)=>∃(bd:Bool),v=bool bd/\br (!bd) (chk (Nat.ble 3 (List.length (List.take 7 (List.drop (Int.toNat aj*7) (Zak p1n p2 aa ab ac b ae af ag ad ah ai))))) (∃(a6:Bool),EqIs Try.prog 46 (agg
 (Array.mk (List.take 3 (List.take 7 (List.drop (Int.toNat aj*7) (Zak p1n p2 aa ab ac b ae af ag ad ah ai)))))) (agg (Array.mk [int i64 0,int i64 0,int i64 0])) a6/\br (!a6) (ZaM (ZaO p1n p2
 aa ab ac b ak ae af ag ad an ah ai al aj a5)/\[bool true]=[bool a3]) (Eng.Zty (List.take 7 (List.drop (Int.toNat aj*7) (Zak p1n p2 aa ab ac b ae af ag ad ah ai))) 3 λ(v:Value)=>∃(a7:Bool),v =
 bool a7/\br a7 (chk (Nat.ble 3 (List.length (List.take 7 (List.drop (Int.toNat aj*7) (Zak p1n p2 aa ab ac b ae af ag ad ah ai))))) (∃(be:Bool),EqIs Try.prog 46 (agg (Array.mk (List.take 3 (List.take 7
 (List.drop (Int.toNat aj*7) (Zak p1n p2 aa ab ac b ae af ag ad ah ai)))))) (agg (Array.mk [int i64 (-1:Int),int i64 (-1:Int),int i64 (-1:Int)])) be/\ZaM (ZaO p1n p2 aa ab ac b ak ae
 af ag ad an ah ai al aj a5)/\[bool !be]=[bool a3])) (ZaM (ZaO p1n p2 aa ab ac b ak ae af ag ad an ah ai al aj a5)/\[bool false]=[bool a3])))) (Eng.Zty (List.take 7 (List.drop (Int.toNat aj*7)
 (Zak p1n p2 aa ab ac b ae af ag ad ah ai))) 3 λ(v:Value)=>∃(a6:Bool),v=bool a6/\br a6 (chk (Nat.ble 3 (List.length (List.take 7 (List.drop (Int.toNat aj*7) (Zak p1n p2 aa ab ac b ae
 af ag ad ah ai))))) (∃(a7:Bool),EqIs Try.prog 46 (agg (Array.mk (List.take 3 (List.take 7 (List.drop (Int.toNat aj*7) (Zak p1n p2 aa ab ac b ae af ag ad ah ai)))))) (agg (Array.mk [int i64 (-1:Int),
 int i64 (-1:Int),int i64 (-1:Int)])) a7/\ZaM (ZaO p1n p2 aa ab ac b ak ae af ag ad an ah ai al aj a5)/\[bool !a7]=[bool a3])) (ZaM (ZaO p1n p2 aa ab ac b ak ae af ag ad an ah ai al
 aj a5)/\[bool false]=[bool a3]))))/\br a3 (∃(m'':Mem),Mem.le m m''/\Mem.le m'' a9/\R (bool false) m'' []) (ZaM (Zgs p1n p2 aa ab ac b ak ae af ag ad an ah ai al)/\∃(n':Nat),n' < bg/\I [int
 i64 (IntKind.wrap i64 (aj+(1:Int)))] [] [] a9 n')))))) (∃(R_7:RT),True/\CX Try.prog 62 (Array.mk [slice ba ao bb,slice p1a p1n p1c]) a9 [] R_7/\Zaq Shape.bool R_7/\∀(b:Bool)(m':Mem),Mem.le a9 m'->
 R_7 (bool b) m' []->∃(m'':Mem),Mem.le m m''/\Mem.le m'' m'/\R (bool b) m'' [])))
theorem Zj0(p0a:Option Addr)(p0n p0c:Nat)(p1a:Option Addr)(p1n p1c:Nat)(p2:Int)(m:Mem)(R:RT)(h:Zgt p0a p0n p0c p1a p1n p1c p2 m R):CX Try.prog 22 #[.slice p0a p0n p0c,.slice p1a p1n p1c,.int .i64 p2] m [] R:=
 Zae (E:=ZlL) Zax mix Try.func22 [.v (.slice p0a p0n p0c),.v (.slice p1a p1n p1c),.v (.int .i64 p2)] [] (by kernel_rfl) (Eq.mp (by kernel_rfl) h)
noncomputable def Zc7:Env:={ EB with
 tokOf:=(λi=>bif Nat.beq i 2 then 7 else bif Nat.beq i 7 then 7 else 0)
 tokC:=(λi=>bif Nat.beq i 5 then some (7,1)else none)
 thaw:=true }
def ZbQ(p0a:Option Addr)(p0n p0c:Nat)(m:Mem)(R:RT):Prop:=
 br (Option.isNone p0a) (slice none 0 0=slice none 0 0/\R (slice none 0 0) m []) (((0:Int)=(0:Int)/\(0:Int)<=(0:Int)/\(0:Int)*(↑(1:Nat):Int)<=(281474976710656:Int)/\(0:Int) <=
 (9223372036854775807:Int))/\∀(b:Nat),Mem.free m b->(Tok.mk (slice (some (Addr.mk b 0 none)) 0 (Int.toNat (0:Int))) 1=Tok.mk (slice (some (Addr.mk b 0 none)) 0 (Int.toNat (0:Int))) 1\/slice (some (Addr.mk
 b 0 none)) 0 (Int.toNat (0:Int))=slice none 0 0\/Int.toNat (0:Int) < 0+p0n)/\∃(xs:List Value),∃(ys:List Value),List.length xs=0*1/\List.length ys=p0n*1/\rowRd m (some (Addr.mk b 0 none)) xs/\
 rowRd m p0a ys/\(∀(u:Value),u∈ys->Value.oneCell' u=true)/\(0+p0n)*1<=140737488355328/\0+p0n<=9223372036854775807/\∀(a':Option Addr)(c':Nat)(m':Mem),Mem.le m m'->rowRd m' a' (List.append
 xs ys)->TokFact m (some (Addr.mk b 0 none)) a' (0+p0n) c'->some (Tok.mk (slice a' (0+p0n) c') 1)=some (Tok.mk (slice a' (0+p0n) c') 1)/\R (slice a' (0+p0n) c') m' [])
theorem ZcE(p0a:Option Addr)(p0n p0c:Nat)(m:Mem)(R:RT)(h:ZbQ p0a p0n p0c m R):CXT Try.prog 57 #[.slice p0a p0n p0c] m 1 R:=
 ZmD (E:=Zc7) Zax mix Try.func57 [.v (.slice p0a p0n p0c)] (by kernel_rfl) (Eq.mp (by kernel_rfl) h)
noncomputable def ZlM:Env:=EB
def Zgu(p0a:Option Addr)(p0n p0c:Nat)(p1a:Option Addr)(p1n p1c:Nat)(m:Mem)(R:RT):Prop:=
 ∃(bs:ByteArray),ByteArray.size bs=p0n/\rowRd m p0a (ZaP bs)/\∃(bs_1:ByteArray),ByteArray.size bs_1=p1n/\rowRd m p1a (ZaP bs_1)/\∃(m'':Mem),Mem.le m m''/\Mem.le m'' m/\R (bool
 (ByteArray.toList bs == ByteArray.toList bs_1)) m'' []
theorem Zj1(p0a:Option Addr)(p0n p0c:Nat)(p1a:Option Addr)(p1n p1c:Nat)(m:Mem)(R:RT)(h:Zgu p0a p0n p0c p1a p1n p1c m R):CX Try.prog 62 #[.slice p0a p0n p0c,.slice p1a p1n p1c] m [] R:=
 Zae (E:=ZlM) Zax mix Try.func62 [.v (.slice p0a p0n p0c),.v (.slice p1a p1n p1c)] [] (by kernel_rfl) (Eq.mp (by kernel_rfl) h)
noncomputable def ZcN:Env:=EB
def Zbz(p0a:Option Addr)(p0n p0c:Nat)(p1:Int)(m:Mem)(R:RT):Prop:=
 ∃(R_1:RT),True/\CX Try.prog 70 (Array.mk [slice p0a p0n p0c,int i64 p1]) m [] R_1/\Zaq (Shape.int i64) R_1/\∀(n:Int)(m':Mem),Mem.le m m'->R_1 (int i64 n) m' []->∃(m'':Mem),Mem.le m m''/\Mem.le m''
 m'/\R (bool (decide (n ≥ (0:Int)))) m'' []
theorem ZcF(p0a:Option Addr)(p0n p0c:Nat)(p1:Int)(m:Mem)(R:RT)(h:Zbz p0a p0n p0c p1 m R):CX Try.prog 29 #[.slice p0a p0n p0c,.int .i64 p1] m [] R:=
 Zae (E:=ZcN) Zax mix Try.func29 [.v (.slice p0a p0n p0c),.v (.int .i64 p1)] [] (by kernel_rfl) (Eq.mp (by kernel_rfl) h)
noncomputable def ZdI:Env:={ EB with
 loops:=(λi=>bif Nat.beq i 2 then⟨[(8,.int .i64)],[],[],false⟩ else⟨[],[],[],false⟩) }
def Zb7(p0a:Option Addr)(p0n p0c:Nat)(p1:Int)(m:Mem)(R:RT):Prop:=
 ∃(I:IT),(∃(n:Nat),I [int i64 0] [] [] m n)/\∀(n:Int)(m':Mem)(n_1:Nat),Mem.le m m'->I [int i64 n] [] [] m' n_1->br (decide (n < (↑p0n:Int))) (∃(b:Nat),∃(o:Nat),p0a=some (Addr.mk b o none)
 /\ Zaf n p0n/\∃(v:Value),m' b (o+Int.toNat n*1)=some v/\chk (Zar i64 v) (br (p1 == RowKit.intOf v) (∃(m'':Mem),Mem.le m m''/\Mem.le m'' m'/\R (int i64 n) m'' []) (∃(n':Nat),n' < n_1/\I [int
 i64 (IntKind.wrap i64 (n+(1:Int)))] [] [] m' n'))) (∃(m'':Mem),Mem.le m m''/\Mem.le m'' m'/\R (int i64 (-1:Int)) m'' [])
theorem Zdq(p0a:Option Addr)(p0n p0c:Nat)(p1:Int)(m:Mem)(R:RT)(h:Zb7 p0a p0n p0c p1 m R):CX Try.prog 70 #[.slice p0a p0n p0c,.int .i64 p1] m [] R:=
 Zae (E:=ZdI) Zax mix Try.func70 [.v (.slice p0a p0n p0c),.v (.int .i64 p1)] [] (by kernel_rfl) (Eq.mp (by kernel_rfl) h)
end Go.Proofs.Ythiefodednaikaa