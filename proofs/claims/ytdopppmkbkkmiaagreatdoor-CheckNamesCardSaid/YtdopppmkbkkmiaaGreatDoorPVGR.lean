/- Part of the proof: functions of the program. No condition. -/
import Derived.Test.YtdopppmkbkkmiaaGreatDoorPC25N
import Derived.Test.YtdopppmkbkkmiaaGreatDoorMr
import Derived.Test.YtdopppmkbkkmiaaGreatDoorPEnv
import Derived.Test.YtdopppmkbkkmiaaGreatDoorPC25H
import Derived.Test.YtdopppmkbkkmiaaGreatDoorPC25MA
import Derived.Test.YtdopppmkbkkmiaaGreatDoorPC25F
import Derived.Shelf.Sort.Plain
import Derived.Shelf.Slices.In.SortNone
import Derived.Shelf.SlicesE.Compact
import Derived.Test.YtdopppmkbkkmiaaGreatDoorMc
set_option linter.unusedVariables false
set_option linter.unusedSimpArgs false
set_option linter.unusedSectionVars false
noncomputable section
namespace Go.Proofs.YtdopppmkbkkmiaaGreatDoor
open Go Go.Eng Go.Rx Go.Proofs Go.RowKit
set_option maxRecDepth 100000
theorem Ztn(a b c d e a' b' c' d' e':Int):EqIs Tryz.prog 64 (.agg #[.int .i64 a,.int .i64 b,.int .i64 c,.int .i64 d,.int .i64 e]) (.agg #[.int .i64 a',.int .i64 b',.int .i64 c',.int .i64 d',.int .i64 e']) (a == a'&&b == b'&&c == c'&&d == d'&&e == e'):=by
 refine⟨λw=>?_,λop ox oy w=>Ze1 (by kernel_rfl) op ox oy _ _ w⟩
 have u3:=Tryz.underlying3
 have a3:=Tryz.isAgg3
 have z3:=Tryz.sizeOf3
 rw[Op.equal,Op.maxDepth,show(10000:Nat)=9999+1 from rfl]
 rw[run_equalIn_agg _ _ _ _ _ (by kernel_rfl) (by kernel_rfl)]
 have hf:(Tryz.prog.fieldsOf 64).toList=[⟨ "Var",3,0,false, "", "",0⟩,⟨ "State",3,1,false, "", "",8⟩,⟨ "Rule",3,2,false, "", "",16⟩,⟨ "Action",3,3,false, "", "",24⟩,⟨ "Part",3,4,false, "", "",32⟩]:=by kernel_rfl
 rw[hf]
 go_simp
 by_cases h1:a=a' <;> by_cases h2:b=b' <;> by_cases h3:c=c' <;> by_cases h4:d=d' <;> by_cases h5:e=e' <;> simp[h1,h2,h3,h4,h5]
theorem ZC1(p:Pl):EqIs Tryz.prog 64 (.agg p.cs.toArray) (.agg p.cs.toArray) true:=by
 have h:=Ztn p.v p.s p.r p.a p.p p.v p.s p.r p.a p.p
 simp only[beq_self_eq_true,Bool.and_self]at h
 exact h
structure Item where
 s:Sc
 p:Pl
 e:Int
def Item.cs(it:Item):List Value:=it.s.cs++(it.p.cs++[.int .i64 it.e])
structure ItemOk (m:Mem)(it:Item):Prop where
 rep:RepC m it.s
 eq:it.s.check=(it.p,it.e)
theorem Zyc{l:List Item}{i:Nat}{it:Item}(h:l[i]?=some it):List.take 9 (List.drop (i*9) (l.map Item.cs).flatten)=it.cs:=by
 induction l generalizing i with
 | nil=>simp at h
 | cons x l ih=>
  cases i with
  | zero=>
   obtain rfl:x=it:=by simpa using h
   simp only[Nat.zero_mul,List.drop_zero,List.map_cons,List.flatten_cons]
   exact List.take_left' rfl
  | succ i=>
   have h:l[i]?=some it:=by simpa using h
   rw[<-ih h,List.map_cons,List.flatten_cons,show(i+1)*9=x.cs.length+i*9 by show _=9+i*9;omega,<-List.drop_drop]
   rw[List.drop_left]
theorem Zz7{α:Type}{x y:α}(h:x∈[y]):x=y:=by simpa using h
theorem ZCc{cs:List Value}{m:Mem}{b:Nat}(h:m.reads b 0 cs):rowRd m (some ⟨b,0,none⟩) ([cs]).flatten:=.inr ⟨b,0,rfl,by simpa using h⟩
theorem ZcD{n:Int}(h:0<=n/\n<=1000):I64 n:=by unfold I64;omega
theorem ZjT{m:Mem}{k:Int}{t:T}{s go:ByteArray}{code:Int}{b:Nat}{a:Ac}(hk:0<=k/\k < 256)(ht:Rep m t)(hs:s.size<=1000000000000000)(hb:m.reads b 0 a.cs)(ha:RepA m a)(hg:go.size<=1000000000000000)(hc:0<=code/\code<=1000):RepR m ⟨k,false,false,t,s,0,some ⟨b,0,none⟩,1,[a],go,code⟩:=
 ⟨hk,ht,hs,ZcD (n:=0) (by decide),by show 1<=few;decide,ZCc hb,λx hx=>by rw[Zz7 hx];exact ha,hg,ZcD hc⟩
theorem Zz8(k:Int)(hk:0<=k/\k < 256)(m:Mem):RepR m (ru0 k):=⟨hk,ZmW m,by show ByteArray.size ⟨#[]⟩<=_;decide,ZcD (n:=0) (by decide),by show 0<=few;decide,.inl rfl,λx hx=>by simp[ru0]at hx,by show ByteArray.size ⟨#[]⟩<=_;decide,ZcD (n:=0) (by decide)⟩
def Ztt(l:List Int)(r:Ru):Prop:=∃a1 a2 aa pa pc,r=ZAr a1 a2 aa pa 1 pc l
def ZDr(r:Ru):Prop:=∃aa pa pc,r=ZCo aa pa 1 pc [0]
def ZDs(r:Ru):Prop:=r=ru0 4
def ZCd(r:Ru):Prop:=∃aa,r=Zvz aa 1 ZrA
def ZCe(r:Ru):Prop:=∃aa pa,r=Zvz aa 1 (ZyF pa)
def ZDt(r:Ru):Prop:=∃aa pa pc,r=Zvz aa 1 (ZnU pa pc [0])
def ZcV(a b c d:Int):Value->Mem->List (List Value)->Prop:=Ret (.agg #[.int .i64 (-1),.int .i64 a,.int .i64 b,.int .i64 c,.int .i64 d])
def awF:Fx:=λi _ _=>match i with
 | 0=>Zr4
 | 2=>Zww [1,2]
 | 4=>ZAt (Ztt [1,2])
 | 6=>ZcV 0 0 0 1
 | 8=>Zr4
 | 10=>Zww [1,0]
 | 12=>ZAt (Ztt [1,0])
 | 14=>ZcV (-1) (-1) (-1) (-1)
 | 17=>Zww [0]
 | 19=>ZAt ZDr
 | 21=>ZcV 0 0 (-1) (-1)
 | 24=>ZAt ZDs
 | 26=>ZcV 0 0 (-1) (-1)
 | 30=>ZAt ZCd
 | 32=>ZcV 0 0 0 (-1)
 | 36=>ZAt ZCe
 | 38=>ZcV 0 0 0 (-1)
 | 42=>ZcV 1 (-1) (-1) (-1)
 | 46=>ZcV (-1) (-1) (-1) (-1)
 | 50=>ZcV (-1) (-1) (-1) (-1)
 | 53=>Zww [0]
 | 55=>ZAt ZDt
 | 57=>ZcV 0 0 0 0
 | _=>Zr4
def ZAu:Pt:=⟨1,⟨#[120]⟩,0,E0⟩
set_option maxHeartbeats 6400000 in
theorem Zyd(m:Mem):CX Tryz.prog 6 #[] m [] (Ret (.bool true)):=by
 apply Zjo
 intro b0 yq b1 pD b2 jV
 have l0:m.le (m.add b0 ZrA.cs):=Mem.le_add yq _
 have l1:(m.add b0 ZrA.cs).le ((m.add b0 ZrA.cs).add b1 ZAu.cs):=Mem.le_add pD _
 have l2:((m.add b0 ZrA.cs).add b1 ZAu.cs).le (((m.add b0 ZrA.cs).add b1 ZAu.cs).add b2 (ZyF (some ⟨b1,0,none⟩)).cs):=Mem.le_add jV _
 have x0:(((m.add b0 ZrA.cs).add b1 ZAu.cs).add b2 (ZyF (some ⟨b1,0,none⟩)).cs).reads b0 0 ZrA.cs:=(Zaq m b0 _).mono (mLt l1 l2)
 have x1:(((m.add b0 ZrA.cs).add b1 ZAu.cs).add b2 (ZyF (some ⟨b1,0,none⟩)).cs).reads b1 0 ZAu.cs:=(Zaq (m.add b0 ZrA.cs) b1 _).mono l2
 have x2:=Zaq ((m.add b0 ZrA.cs).add b1 ZAu.cs) b2 (ZyF (some ⟨b1,0,none⟩)).cs
 have aS:=mLt l0 (mLt l1 l2)
 refine Zaj (Zlp (P:=λr=>r=ru0 3) (ru0 3) rfl (((m.add b0 ZrA.cs).add b1 ZAu.cs).add b2 (ZyF (some ⟨b1,0,none⟩)).cs) (Zz8 3 (by decide) _)) Zd9 ?_
 rintro n a n1 c a1 n2 c1 m1 aB ⟨va,sa,ra,r,rfl,hv,hC⟩
 simp only[Zht,Sc.v,ZiE,Value.agg.injEq,Array.mk.injEq,List.cons.injEq,Value.int.injEq,Value.slice.injEq,true_and,and_true,List.length_cons,List.length_nil]at hv
 obtain⟨rfl,⟨rfl,rfl,rfl⟩,rfl,rfl,rfl⟩:=hv
 intro b3 b4 iX
 have l4:m1.le (m1.add b4 (Sta.cs ⟨⟨#[97]⟩,none,0,[]⟩)):=Mem.le_add iX _
 refine⟨.inr (by decide),(List.map Sta.cs [⟨⟨#[97]⟩,ra,1,[ru0 3]⟩]).flatten,Sta.cs ⟨⟨#[97]⟩,none,0,[]⟩,rfl,rfl,hC.row.mono l4,.inr ⟨b4,0,rfl,Zaq m1 b4 _⟩,?_,by decide,by decide,λa' c' m2 aH gD cJ=>?_⟩
 ·intro u hu
  simp only[Sta.cs,List.mem_cons,List.not_mem_nil,or_false]at hu
  rcases hu with rfl|rfl <;> rfl
 have l12:=mLt l4 aH
 have mf:=hC.mono l12
 have h7:RepC m2 (ZCp a a' ra c'):=⟨mf.n,mf.vlen,mf.vrow,mf.vall,by show 2<=few;decide,gD,λx hx=>by
  simp only[ZCp,List.mem_cons,List.not_mem_nil,or_false]at hx
  rcases hx with rfl|rfl
  ·exact mf.all _ (by simp[Zht])
  ·exact⟨by show ByteArray.size ⟨#[97]⟩<=_;decide,by show 0<=few;decide,.inl rfl,λz hz=>by simp at hz⟩,mf.vcap,cJ⟩
 have t5:=mLt aS (mLt aB l12)
 have l32:=mLt aB l12
 have y0:=x0.mono l32
 have y1:=x1.mono l32
 have y2:=x2.mono l32
 have rA0:∀M,RepA M ZrA:=λM=>⟨by show(0:Int)<=3/\(3:Int) < 256;decide,by show ByteArray.size ⟨#[110]⟩<=_;decide,by show 0<=few;decide,.inl rfl,λp hp=>by simp[ZrA]at hp,by simp only[ZrA,RepE];exact⟨by simp,.inl trivial,by constructor <;> decide⟩⟩
 have rA2:∀M,m2.le M->RepA M (ZyF (some ⟨b1,0,none⟩)):=λM hM=>⟨by show(0:Int)<=2/\(2:Int) < 256;decide,by show ByteArray.size ⟨#[110]⟩<=_;decide,by show 1<=few;decide,ZCc (y1.mono hM),λp hp=>by
  obtain rfl:p=ZAu:=Zz7 hp
  exact⟨by show(0:Int)<=1/\(1:Int) < 256;decide,by show ByteArray.size ⟨#[120]⟩<=_;decide,ZcD (n:=0) (by decide),Zpm M⟩,Zpm M⟩
 refine⟨awF,?_⟩
 have g0:m2.le m2:=Mem.le_refl _
 refine⟨_,rfl,Ztm m2,Zmu,?_⟩
 rintro z0_0 z0_1 z0_2 z0_3 z0_4 z0_5 z0_6 z0_7 z0_8 z0_9 z0_10 z0_11 k0 oG ⟨a1k0,a2k0,hv,rrk0⟩
 simp only[ZCR,rxT,T.k,T.s0,T.s1,T.s2,T.s3,T.mn,T.mx,T.a,T.c,T.subs,Value.agg.injEq,Array.mk.injEq,List.cons.injEq,Value.bool.injEq,Value.int.injEq,Value.slice.injEq,true_and,and_true,List.length_cons,List.length_nil]at hv
 obtain⟨rfl,rfl,rfl,rfl,rfl,rfl,rfl,rfl,rfl,rfl,rfl,rfl⟩:=hv
 have gk0:m2.le k0:=mLt g0 oG
 intro bk2 fk2 Vk2 uk2 vk2 wk2
 have gV2:m2.le Vk2:=uk2
 refine⟨_,rfl,ZqE [(1:Int),(2:Int)] _ _ _ (by decide) (λn hn=>ZcD (by simp only[List.mem_cons,List.not_mem_nil,or_false]at hn;omega)) (.inr ⟨_,0,rfl,(Zaq m2 _ _).mono wk2⟩),Zh6,?_⟩
 rintro z2_0 z2_1 z2_2 k2 jE ⟨pak2,pck2,sbk2,hv,srk2,rrk2⟩
 simp only[Value.slice.injEq]at hv
 obtain⟨rfl,rfl,rfl⟩:=hv
 have gk2:m2.le k2:=mLt gV2 jE
 refine⟨_,rfl,Zlp (P:=Ztt [1,2]) (ZAr a1k0 z0_9 (some ⟨sbk2,0,none⟩) pak2 1 pck2 [1,2]) ⟨_,_,_,_,_,rfl⟩ k2 (ZjT (by decide) (rrk0.mono (mLt vk2 jE)) (by decide) srk2 rrk2 (by decide) (by decide)),Zd9,?_⟩
 rintro z4_0 z4_1 z4_2 z4_3 z4_4 z4_5 z4_6 k4 pR ⟨vak4,sak4,rak4,ruk4,t6,hv,rck4⟩
 simp only[Zht,Sc.v,ZiE,Value.agg.injEq,Array.mk.injEq,List.cons.injEq,Value.int.injEq,Value.slice.injEq,true_and,and_true,List.length_cons,List.length_nil]at hv
 obtain⟨rfl,⟨rfl,rfl,rfl⟩,rfl,rfl,rfl⟩:=hv
 have gk4:m2.le k4:=mLt gk2 pR
 refine⟨_,rfl,Zdq _ _ _ _ k4,(λv _ _ e=>by rw[show v=_ from e];rfl),?_⟩
 rintro z6_0 z6_1 z6_2 z6_3 z6_4 k6 yr hv
 simp only[awF,ZcV,Ret,Value.agg.injEq,Array.mk.injEq,List.cons.injEq,Value.int.injEq,and_true,true_and]at hv
 obtain⟨rfl,rfl,rfl,rfl,rfl⟩:=hv
 have gk6:m2.le k6:=mLt gk4 yr
 refine⟨_,rfl,Ztm k6,Zmu,?_⟩
 rintro z8_0 z8_1 z8_2 z8_3 z8_4 z8_5 z8_6 z8_7 z8_8 z8_9 z8_10 z8_11 k8 qt ⟨a1k8,a2k8,hv,rrk8⟩
 simp only[ZCR,rxT,T.k,T.s0,T.s1,T.s2,T.s3,T.mn,T.mx,T.a,T.c,T.subs,Value.agg.injEq,Array.mk.injEq,List.cons.injEq,Value.bool.injEq,Value.int.injEq,Value.slice.injEq,true_and,and_true,List.length_cons,List.length_nil]at hv
 obtain⟨rfl,rfl,rfl,rfl,rfl,rfl,rfl,rfl,rfl,rfl,rfl,rfl⟩:=hv
 have gk8:m2.le k8:=mLt gk6 qt
 intro bk10 fk10 Vk10 uk10 vk10 wk10
 have gV10:m2.le Vk10:=uk10
 refine⟨_,rfl,ZqE [(1:Int),(0:Int)] _ _ _ (by decide) (λn hn=>ZcD (by simp only[List.mem_cons,List.not_mem_nil,or_false]at hn;omega)) (.inr ⟨_,0,rfl,(Zaq m2 _ _).mono wk10⟩),Zh6,?_⟩
 rintro z10_0 z10_1 z10_2 k10 qM ⟨pak10,pck10,sbk10,hv,srk10,rrk10⟩
 simp only[Value.slice.injEq]at hv
 obtain⟨rfl,rfl,rfl⟩:=hv
 have gk10:m2.le k10:=mLt gV10 qM
 refine⟨_,rfl,Zlp (P:=Ztt [1,0]) (ZAr a1k8 z8_9 (some ⟨sbk10,0,none⟩) pak10 1 pck10 [1,0]) ⟨_,_,_,_,_,rfl⟩ k10 (ZjT (by decide) (rrk8.mono (mLt vk10 qM)) (by decide) srk10 rrk10 (by decide) (by decide)),Zd9,?_⟩
 rintro z12_0 z12_1 z12_2 z12_3 z12_4 z12_5 z12_6 k12 t7 ⟨vak12,sak12,rak12,ruk12,qN,hv,rck12⟩
 simp only[Zht,Sc.v,ZiE,Value.agg.injEq,Array.mk.injEq,List.cons.injEq,Value.int.injEq,Value.slice.injEq,true_and,and_true,List.length_cons,List.length_nil]at hv
 obtain⟨rfl,⟨rfl,rfl,rfl⟩,rfl,rfl,rfl⟩:=hv
 have gk12:m2.le k12:=mLt gk10 t7
 refine⟨_,rfl,Zdq _ _ _ _ k12,(λv _ _ e=>by rw[show v=_ from e];rfl),?_⟩
 rintro z14_0 z14_1 z14_2 z14_3 z14_4 k14 t8 hv
 simp only[awF,ZcV,Ret,Value.agg.injEq,Array.mk.injEq,List.cons.injEq,Value.int.injEq,and_true,true_and]at hv
 obtain⟨rfl,rfl,rfl,rfl,rfl⟩:=hv
 have gk14:m2.le k14:=mLt gk12 t8
 intro bk17 fk17 Vk17 uk17 vk17 wk17
 have gV17:m2.le Vk17:=uk17
 refine⟨_,rfl,ZqE [(0:Int)] _ _ _ (by decide) (λn hn=>ZcD (by simp only[List.mem_cons,List.not_mem_nil,or_false]at hn;omega)) (.inr ⟨_,0,rfl,(Zaq m2 _ _).mono wk17⟩),Zh6,?_⟩
 rintro z17_0 z17_1 z17_2 k17 t9 ⟨pak17,pck17,sbk17,hv,srk17,rrk17⟩
 simp only[Value.slice.injEq]at hv
 obtain⟨rfl,rfl,rfl⟩:=hv
 have gk17:m2.le k17:=mLt gV17 t9
 refine⟨_,rfl,Zlp (P:=ZDr) (ZCo (some ⟨sbk17,0,none⟩) pak17 1 pck17 [0]) ⟨_,_,_,rfl⟩ k17 (ZjT (by decide) (ZmW _) (by decide) srk17 rrk17 (by decide) (by decide)),Zd9,?_⟩
 rintro z19_0 z19_1 z19_2 z19_3 z19_4 z19_5 z19_6 k19 ua ⟨vak19,sak19,rak19,ruk19,qO,hv,rck19⟩
 simp only[Zht,Sc.v,ZiE,Value.agg.injEq,Array.mk.injEq,List.cons.injEq,Value.int.injEq,Value.slice.injEq,true_and,and_true,List.length_cons,List.length_nil]at hv
 obtain⟨rfl,⟨rfl,rfl,rfl⟩,rfl,rfl,rfl⟩:=hv
 have gk19:m2.le k19:=mLt gk17 ua
 refine⟨_,rfl,Zdq _ _ _ _ k19,(λv _ _ e=>by rw[show v=_ from e];rfl),?_⟩
 rintro z21_0 z21_1 z21_2 z21_3 z21_4 k21 ub hv
 simp only[awF,ZcV,Ret,Value.agg.injEq,Array.mk.injEq,List.cons.injEq,Value.int.injEq,and_true,true_and]at hv
 obtain⟨rfl,rfl,rfl,rfl,rfl⟩:=hv
 have gk21:m2.le k21:=mLt gk19 ub
 refine⟨_,rfl,Zlp (P:=ZDs) (ru0 4) rfl k21 (Zz8 4 (by decide) _),Zd9,?_⟩
 rintro z24_0 z24_1 z24_2 z24_3 z24_4 z24_5 z24_6 k24 uc ⟨vak24,sak24,rak24,ruk24,qP,hv,rck24⟩
 simp only[Zht,Sc.v,ZiE,Value.agg.injEq,Array.mk.injEq,List.cons.injEq,Value.int.injEq,Value.slice.injEq,true_and,and_true,List.length_cons,List.length_nil]at hv
 obtain⟨rfl,⟨rfl,rfl,rfl⟩,rfl,rfl,rfl⟩:=hv
 have gk24:m2.le k24:=mLt gk21 uc
 refine⟨_,rfl,Zdq _ _ _ _ k24,(λv _ _ e=>by rw[show v=_ from e];rfl),?_⟩
 rintro z26_0 z26_1 z26_2 z26_3 z26_4 k26 ud hv
 simp only[awF,ZcV,Ret,Value.agg.injEq,Array.mk.injEq,List.cons.injEq,Value.int.injEq,and_true,true_and]at hv
 obtain⟨rfl,rfl,rfl,rfl,rfl⟩:=hv
 have gk26:m2.le k26:=mLt gk24 ud
 refine⟨_,rfl,Zlp (P:=ZCd) (Zvz (some ⟨b0,0,none⟩) 1 ZrA) ⟨_,rfl⟩ k26 (ZjT (by decide) (ZmW _) (by decide) (y0.mono gk26) (rA0 _) (by decide) (by decide)),Zd9,?_⟩
 rintro z30_0 z30_1 z30_2 z30_3 z30_4 z30_5 z30_6 k30 ue ⟨vak30,sak30,rak30,ruk30,qQ,hv,rck30⟩
 simp only[Zht,Sc.v,ZiE,Value.agg.injEq,Array.mk.injEq,List.cons.injEq,Value.int.injEq,Value.slice.injEq,true_and,and_true,List.length_cons,List.length_nil]at hv
 obtain⟨rfl,⟨rfl,rfl,rfl⟩,rfl,rfl,rfl⟩:=hv
 have gk30:m2.le k30:=mLt gk26 ue
 refine⟨_,rfl,Zdq _ _ _ _ k30,(λv _ _ e=>by rw[show v=_ from e];rfl),?_⟩
 rintro z32_0 z32_1 z32_2 z32_3 z32_4 k32 uf hv
 simp only[awF,ZcV,Ret,Value.agg.injEq,Array.mk.injEq,List.cons.injEq,Value.int.injEq,and_true,true_and]at hv
 obtain⟨rfl,rfl,rfl,rfl,rfl⟩:=hv
 have gk32:m2.le k32:=mLt gk30 uf
 refine⟨_,rfl,Zlp (P:=ZCe) (Zvz (some ⟨b2,0,none⟩) 1 (ZyF (some ⟨b1,0,none⟩))) ⟨_,_,rfl⟩ k32 (ZjT (by decide) (ZmW _) (by decide) (y2.mono gk32) (rA2 _ gk32) (by decide) (by decide)),Zd9,?_⟩
 rintro z36_0 z36_1 z36_2 z36_3 z36_4 z36_5 z36_6 k36 ug ⟨vak36,sak36,rak36,ruk36,qR,hv,rck36⟩
 simp only[Zht,Sc.v,ZiE,Value.agg.injEq,Array.mk.injEq,List.cons.injEq,Value.int.injEq,Value.slice.injEq,true_and,and_true,List.length_cons,List.length_nil]at hv
 obtain⟨rfl,⟨rfl,rfl,rfl⟩,rfl,rfl,rfl⟩:=hv
 have gk36:m2.le k36:=mLt gk32 ug
 refine⟨_,rfl,Zdq _ _ _ _ k36,(λv _ _ e=>by rw[show v=_ from e];rfl),?_⟩
 rintro z38_0 z38_1 z38_2 z38_3 z38_4 k38 uh hv
 simp only[awF,ZcV,Ret,Value.agg.injEq,Array.mk.injEq,List.cons.injEq,Value.int.injEq,and_true,true_and]at hv
 obtain⟨rfl,rfl,rfl,rfl,rfl⟩:=hv
 have gk38:m2.le k38:=mLt gk36 uh
 refine⟨_,rfl,Zdq _ _ _ _ k38,(λv _ _ e=>by rw[show v=_ from e];rfl),?_⟩
 rintro z42_0 z42_1 z42_2 z42_3 z42_4 k42 ui hv
 simp only[awF,ZcV,Ret,Value.agg.injEq,Array.mk.injEq,List.cons.injEq,Value.int.injEq,and_true,true_and]at hv
 obtain⟨rfl,rfl,rfl,rfl,rfl⟩:=hv
 have gk42:m2.le k42:=mLt gk38 ui
 refine⟨_,rfl,Zdq _ _ _ _ k42,(λv _ _ e=>by rw[show v=_ from e];rfl),?_⟩
 rintro z46_0 z46_1 z46_2 z46_3 z46_4 k46 uj hv
 simp only[awF,ZcV,Ret,Value.agg.injEq,Array.mk.injEq,List.cons.injEq,Value.int.injEq,and_true,true_and]at hv
 obtain⟨rfl,rfl,rfl,rfl,rfl⟩:=hv
 have gk46:m2.le k46:=mLt gk42 uj
 refine⟨_,rfl,Zdq _ _ _ _ k46,(λv _ _ e=>by rw[show v=_ from e];rfl),?_⟩
 rintro z50_0 z50_1 z50_2 z50_3 z50_4 k50 uk hv
 simp only[awF,ZcV,Ret,Value.agg.injEq,Array.mk.injEq,List.cons.injEq,Value.int.injEq,and_true,true_and]at hv
 obtain⟨rfl,rfl,rfl,rfl,rfl⟩:=hv
 have gk50:m2.le k50:=mLt gk46 uk
 intro bk53 fk53 Vk53 uk53 vk53 wk53
 have gV53:m2.le Vk53:=uk53
 refine⟨_,rfl,ZqE [(0:Int)] _ _ _ (by decide) (λn hn=>ZcD (by simp only[List.mem_cons,List.not_mem_nil,or_false]at hn;omega)) (.inr ⟨_,0,rfl,(Zaq m2 _ _).mono wk53⟩),Zh6,?_⟩
 rintro z53_0 z53_1 z53_2 k53 ul ⟨pak53,pck53,sbk53,hv,srk53,rrk53⟩
 simp only[Value.slice.injEq]at hv
 obtain⟨rfl,rfl,rfl⟩:=hv
 have gk53:m2.le k53:=mLt gV53 ul
 refine⟨_,rfl,Zlp (P:=ZDt) (Zvz (some ⟨sbk53,0,none⟩) 1 (ZnU pak53 pck53 [0])) ⟨_,_,_,rfl⟩ k53 (ZjT (by decide) (ZmW _) (by decide) srk53 rrk53 (by decide) (by decide)),Zd9,?_⟩
 rintro z55_0 z55_1 z55_2 z55_3 z55_4 z55_5 z55_6 k55 um ⟨vak55,sak55,rak55,ruk55,qS,hv,rck55⟩
 simp only[Zht,Sc.v,ZiE,Value.agg.injEq,Array.mk.injEq,List.cons.injEq,Value.int.injEq,Value.slice.injEq,true_and,and_true,List.length_cons,List.length_nil]at hv
 obtain⟨rfl,⟨rfl,rfl,rfl⟩,rfl,rfl,rfl⟩:=hv
 have gk55:m2.le k55:=mLt gk53 um
 refine⟨_,rfl,Zdq _ _ _ _ k55,(λv _ _ e=>by rw[show v=_ from e];rfl),?_⟩
 rintro z57_0 z57_1 z57_2 z57_3 z57_4 k57 un hv
 simp only[awF,ZcV,Ret,Value.agg.injEq,Array.mk.injEq,List.cons.injEq,Value.int.injEq,and_true,true_and]at hv
 obtain⟨rfl,rfl,rfl,rfl,rfl⟩:=hv
 have gk57:m2.le k57:=mLt gk55 un
 intro bT fT M
 intro e0 e1 e2 e3 e4 e5 e6 e7 e8 e9 e10 e11 e12 e13 e14 e15 e16 e17 e18 e19 e20 e21 e22 e23 e24 e25 e26 e27 e28
 have hM:m.le M:=mLt t5 (mLt gk57 (by assumption))
 have gM:m2.le M:=mLt gk57 (by assumption)
 have q4:=rck4.mono (show Mem.le k4 M by assumption)
 have q12:=rck12.mono (show Mem.le k12 M by assumption)
 have q19:=rck19.mono (show Mem.le k19 M by assumption)
 have q24:=rck24.mono (show Mem.le k24 M by assumption)
 have q30:=rck30.mono (show Mem.le k30 M by assumption)
 have q36:=rck36.mono (show Mem.le k36 M by assumption)
 have q55:=rck55.mono (show Mem.le k55 M by assumption)
 obtain⟨a1_4,a2_4,aa_4,pa_4,pc_4,rfl⟩:=t6
 obtain⟨b1x_12,b2x_12,bb_12,pb_12,pd_12,rfl⟩:=qN
 obtain⟨ac_19,pe_19,pf_19,rfl⟩:=qO
 obtain rfl:=qP
 obtain⟨ad_30,rfl⟩:=qQ
 obtain⟨ae_36,pg_36,rfl⟩:=qR
 obtain⟨af_55,ph_55,pi_55,rfl⟩:=qS
 have ZCC:∀n:Int,0<=n/\n<=1000->RepC M (ZqU n):=λn hn=>⟨ZcD hn,by show 0<=few;decide,.inl rfl,λv hv=>by simp[ZqU]at hv,by show 0<=few;decide,.inl rfl,λv hv=>by simp[ZqU]at hv,Nat.le_refl 0,Nat.le_refl 0⟩
 have i0:ItemOk M ⟨Zht z4_1 z4_4 rak4 (ZAr a1_4 a2_4 aa_4 pa_4 1 pc_4 [1,2]),⟨-1,0,0,0,1⟩,309⟩:=⟨q4,ex1 _ _ _ _ _ _ _ _ _⟩
 have i1:ItemOk M ⟨Zht z12_1 z12_4 rak12 (ZAr b1x_12 b2x_12 bb_12 pb_12 1 pd_12 [1,0]),⟨-1,-1,-1,-1,-1⟩,0⟩:=⟨q12,ex2 _ _ _ _ _ _ _ _ _⟩
 have i2:ItemOk M ⟨Zht z19_1 z19_4 rak19 (ZCo ac_19 pe_19 1 pf_19 [0]),⟨-1,0,0,-1,-1⟩,306⟩:=⟨q19,ex3 _ _ _ _ _ _ _⟩
 have i3:ItemOk M ⟨Zht z24_1 z24_4 rak24 (ru0 4),⟨-1,0,0,-1,-1⟩,304⟩:=⟨q24,ex4 _ _ _⟩
 have i4:ItemOk M ⟨Zht z30_1 z30_4 rak30 (Zvz ad_30 1 ZrA),⟨-1,0,0,0,-1⟩,308⟩:=⟨q30,ex5 _ _ _ _ _⟩
 have i5:ItemOk M ⟨Zht z36_1 z36_4 rak36 (Zvz ae_36 1 (ZyF pg_36)),⟨-1,0,0,0,-1⟩,308⟩:=⟨q36,ex6 _ _ _ _ _ _⟩
 have i6:ItemOk M ⟨ZCp a a' ra c',⟨-1,1,-1,-1,-1⟩,303⟩:=⟨h7.mono gM,ex7 _ _ _ _⟩
 have i7:ItemOk M ⟨ZqU 9,⟨-1,-1,-1,-1,-1⟩,302⟩:=⟨ZCC 9 (by decide),ex8⟩
 have i8:ItemOk M ⟨ZqU 1,⟨-1,-1,-1,-1,-1⟩,300⟩:=⟨ZCC 1 (by decide),ex9⟩
 have i9:ItemOk M ⟨Zht z55_1 z55_4 rak55 (Zvz af_55 1 (ZnU ph_55 pi_55 [0])),⟨-1,0,0,0,0⟩,309⟩:=⟨q55,ZDy _ _ _ _ _ _ _⟩
 obtain⟨L,hL⟩:∃L:List Item,L=[⟨Zht z4_1 z4_4 rak4 (ZAr a1_4 a2_4 aa_4 pa_4 1 pc_4 [1,2]),⟨-1,0,0,0,1⟩,309⟩,⟨Zht z12_1 z12_4 rak12 (ZAr b1x_12 b2x_12 bb_12 pb_12 1 pd_12 [1,0]),⟨-1,-1,-1,-1,-1⟩,0⟩,⟨Zht z19_1 z19_4 rak19 (ZCo ac_19 pe_19 1 pf_19 [0]),⟨-1,0,0,-1,-1⟩,306⟩,⟨Zht z24_1 z24_4 rak24 (ru0 4),⟨-1,0,0,-1,-1⟩,304⟩,⟨Zht z30_1 z30_4 rak30 (Zvz ad_30 1 ZrA),⟨-1,0,0,0,-1⟩,308⟩,⟨Zht z36_1 z36_4 rak36 (Zvz ae_36 1 (ZyF pg_36)),⟨-1,0,0,0,-1⟩,308⟩,⟨ZCp a a' ra c',⟨-1,1,-1,-1,-1⟩,303⟩,⟨ZqU 9,⟨-1,-1,-1,-1,-1⟩,302⟩,⟨ZqU 1,⟨-1,-1,-1,-1,-1⟩,300⟩,⟨Zht z55_1 z55_4 rak55 (Zvz af_55 1 (ZnU ph_55 pi_55 [0])),⟨-1,0,0,0,0⟩,309⟩]:=⟨_,rfl⟩
 have zF:L.length=10:=by rw[hL];rfl
 have cB:∀it∈L,ItemOk M it:=λit pE=>by
  rw[hL]at pE
  simp only[List.mem_cons,List.not_mem_nil,or_false]at pE
  rcases pE with rfl|rfl|rfl|rfl|rfl|rfl|rfl|rfl|rfl|rfl
  ·exact i0
  ·exact i1
  ·exact i2
  ·exact i3
  ·exact i4
  ·exact i5
  ·exact i6
  ·exact i7
  ·exact i8
  ·exact i9
 have aD:∀(i:Nat)(it:Item),L[i]?=some it->∀TB:List Value,TB=(L.map Item.cs).flatten->List.take 9 (List.drop (Int.toNat (i:Int)*9) TB)=it.cs:=λi it h TB hT=>by rw[hT,zA8];exact Zyc h
 refine⟨λxs _ _ _ q=>∃i:Nat,i<=10/\xs=[.int .i64 i]/\q=10 - i,⟨10,0,by omega,rfl,rfl⟩,?_⟩
 rintro y m' q hm' ⟨i,hi,hx,rfl⟩
 simp only[List.cons.injEq,Value.int.injEq,and_true,true_and]at hx
 subst hx
 have ie:=mLt hM hm'
 refine Zav (λaG=>?_) (λbK=>?_)
 ·have aG:(i:Int) < (10:Nat):=aG
  obtain⟨it,pE⟩:=ZcC (show i < L.length by omega)
  have cH:=cB it (zA2 pE)
  rw[aD i it pE]
  rotate_left
  ·rw[hL];rfl
  refine⟨⟨by omega,by omega⟩,Zaa (by rw[Nat.ble_eq];rw[zA8];show i*9<=81;omega) λb14=>Zaa (by rfl) (Zaa (by rfl) ?_)⟩
  refine Zaj (ZqC it.s m' (cH.rep.mono hm')) (λv _ _ e=>by rw[show v=_ from e];rfl) ?_
  rintro n96 n97 n98 n99 n100 n101 m3 aS hv
  rw[cH.eq]at hv
  have hv:Value.tuple #[.agg #[.int .i64 n96,.int .i64 n97,.int .i64 n98,.int .i64 n99,.int .i64 n100],.int .i64 n101]=Value.tuple #[.agg it.p.cs.toArray,.int .i64 it.e]:=hv
  simp only[Pl.cs,Value.tuple.injEq,Value.agg.injEq,Array.mk.injEq,List.cons.injEq,Value.int.injEq,and_true,true_and]at hv
  obtain⟨⟨rfl,rfl,rfl,rfl,rfl⟩,rfl⟩:=hv
  intro b15
  refine⟨false,Zaa (by rfl) ⟨true,ZC1 it.p,Zfj rfl (Zan (v:=.int .i64 it.e) rfl (Zaa rfl (Zfj (by show(!(it.e == it.e))=false;simp) (Zaa (by rfl) (Zah (Zvl it.s m3 (cH.rep.mono (mLt hm' aS))) λm4 bM=>⟨by trivial,rfl,Zaf ?_⟩)))))⟩,Zfj rfl ⟨by trivial,rfl,10 - (i+1),by omega,i+1,by omega,?_,rfl⟩⟩
  ·rw[cH.eq]
   show(!((it.e == 0) == (it.e == 0)))=false
   simp
  ·rw[Zal (by omega) (by omega)];rfl
 ·refine Zaj (Zz4 306 m') (λv _ _ e=>by rw[show v=_ from e];rfl) ?_
  rintro s m3 aS hs
  obtain rfl:s=Zwv 306:=by simpa[Ret]using hs
  exact Zac (mLt ie aS) (by show Value.bool _=Value.bool true;kernel_rfl)
theorem ZBz(p q:Pl):EqIs Tryz.prog 64 (.agg p.cs.toArray) (.agg q.cs.toArray) (decide (p=q)):=by
 have h:=Ztn p.v p.s p.r p.a p.p q.v q.s q.r q.a q.p
 have e:(p.v == q.v&&p.s == q.s&&p.r == q.r&&p.a == q.a&&p.p == q.p)=decide (p=q):=by
  by_cases mo:p=q
  ·subst mo;simp
  ·rw[decide_eq_false mo,Bool.eq_false_iff]
   intro h
   simp only[zA7,beq_iff_eq]at h
   obtain⟨⟨⟨⟨h1,h2⟩,h3⟩,h4⟩,h5⟩:=h
   apply mo
   cases p;cases q
   simp only at h1 h2 h3 h4 h5
   subst h1 h2 h3 h4 h5;rfl
 rw[e]at h;exact h
def ZAS(p:Pl)(l:List Pl):Bool:=l.any λq=>decide (p=q)
theorem Zom{p:Pl}{l:List Pl}:ZAS p l=true↔p∈l:=by
 unfold ZAS;rw[List.any_eq_true]
 exact⟨λ⟨q,h1,h2⟩=>by rw[zA6 h2];exact h1,λh=>⟨p,h,decide_eq_true rfl⟩⟩
theorem Zr5(l:List Pl)(a:Option Addr)(c:Nat)(p:Pl)(m:Mem)(hl:l.length<=1000000000000000)(hr:rowRd m a (l.map Pl.cs).flatten):
  CX Tryz.prog 51 #[.slice a l.length c,.agg p.cs.toArray] m [] (Ret (.int .i64 (if ZAS p l then(l.findIdx (λq=>decide (p=q)):Nat)else(-1:Int)))):=by
 apply ZbB a l.length c
 intro b m1 aB _
 refine⟨λxs _ _ m'' q=>∃i:Nat,i<=l.length/\xs=[.int .i64 i]/\(∀x∈l.take i,¬p=x)/\q=l.length - i,⟨l.length,0,by omega,rfl,by simp,by omega⟩,?_⟩
 rintro n m2 q aH ⟨i,hi,hn,eT,hq⟩
 obtain rfl:n=i:=by simpa using hn
 have hm:=mLt aB aH
 refine Zab (λaG=>?_) (λbK=>?_)
 ·have aT:i < l.length:=by simpa using aG
  obtain⟨x,hx⟩:=ZcC aT
  have bL:x∈l:=zA2 hx
  obtain⟨b1,o1,ha,dP⟩:=Zao (cs:=Pl.cs) (n:=5) (λ_=>rfl) (hr.mono hm) hx (by omega)
  refine⟨b1,o1,ha,⟨by omega,by omega⟩,_,_,_,_,_,dP,decide (p=x),ZBz p x,Zav (λeK=>?_) (λeK=>?_)⟩
  ·refine Zac hm ?_
   have dR:ZAS p l=true:=Zom.2 (eK ▸ bL)
   have eW:l.findIdx (λq=>decide (p=q))=i:=by
    rw[List.findIdx_eq aT]
    refine⟨by rw[(zA0 hx).2];exact decide_eq_true eK,λj hj=>?_⟩
    exact decide_eq_false (eT _ (List.mem_of_getElem? (i:=j) (by rw[List.getElem?_take_of_lt hj];exact zA3 (by omega))))
   simp[Ret,dR,eW]
  ·refine⟨rfl,l.length - (i+1),by omega,i+1,by omega,by rw[Zal (by omega) (by omega)];rfl,?_,rfl⟩
   intro y hy
   rw[List.take_add_one,hx]at hy
   rcases List.mem_append.1 hy with hy|hy
   ·exact eT y hy
   ·simp at hy;rw[hy];exact eK
 ·have hi':i=l.length:=by
   have:¬((i:Int) < (l.length:Int)):=by simpa using bK
   omega
  subst hi'
  refine Zac hm ?_
  rw[List.take_length]at eT
  have dR:ZAS p l=false:=by
   rw[Bool.eq_false_iff];intro h;exact eT p (Zom.1 h) rfl
  simp[Ret,dR]
theorem Zvm(l:List Pl)(a:Option Addr)(c:Nat)(p:Pl)(m:Mem)(hl:l.length<=1000000000000000)(hr:rowRd m a (l.map Pl.cs).flatten):
  CX Tryz.prog 18 #[.slice a l.length c,.agg p.cs.toArray] m [] (Ret (.bool (ZAS p l))):=by
 apply Zbi a l.length c
 intro b m1 aB _
 refine ZaC (Zr5 l a c p m1 hl (hr.mono aB)) λm' hm=>Zac (mLt aB hm) ?_
 cases h:ZAS p l <;> simp[Ret]
def Zlq(z:Pl×Int):List Value:=[.int .i64 z.1.v,.int .i64 z.1.s,.int .i64 z.1.r,.int .i64 z.1.a,.int .i64 z.1.p,.int .i64 z.2]
theorem Zvn(L:List (Pl×Int)):(L.map Zlq).flatten.length=L.length*6:=by
 induction L with
 | nil=>rfl
 | cons x l ih=>rw[List.map_cons,List.flatten_cons,zA1,ih,List.length_cons,Nat.succ_mul];show 6+_=_;omega
theorem Zh7(s:Sc):s.problems.length<=20001:=by
 have h1:=Zio s
 have h2:s.problems.length<=s.places.length:=List.length_filterMap_le _ _
 omega
def PrR(L:List (Pl×Int)):Value->Mem->List (List Value)->Prop:=λv m' _=>∃a c,v=.slice a L.length c/\rowRd m' a (L.map Zlq).flatten
theorem ZqF{L}:∀(v:Value)(m':Mem) (css:List (List Value)),PrR L v m' css->Shape.fits .slice v=true:=λv _ _ ⟨_,_,e,_⟩=>by rw[e];rfl
theorem ZqG(L:List (Pl×Int))(g:Nat)(fi ca:List Value)(m:Mem)(hL:L.length<=20001)(hI:IX Tryz.prog g fi ca m (L.map λz=>[ZiF z])):
  CX Tryz.prog 70 #[.slice none 0 0,.func (.func g) fi.toArray ca.toArray] m [] (PrR L):=by
 apply ZaQ
 intro b
 refine⟨_,hI,λy hy=>?_,λ_ css tks m' q=>q<=L.length/\∃a c,css=[[.slice a q c]]/\tks=[.slice a q c]/\rowRd m' a ((L.take q).map Zlq).flatten,⟨by omega,none,0,rfl,rfl,.inl rfl⟩,?_,?_⟩
 ·obtain⟨z,_,rfl⟩:=List.mem_map.1 hy;rfl
 ·rintro n n1 n2 n3 n4 n5 cs a n6 c m1 q aB hq ⟨qq,a',c',cA,ht,hr⟩ b1
  obtain rfl:cs=[.slice a' q c']:=by simpa using cA
  simp only[List.cons.injEq,Value.slice.injEq,and_true]at ht
  obtain⟨e1,e2,e3⟩:=ht
  subst a n6 c
  have hq:(L.map λz=>[ZiF z])[(q:Nat)]?=some [Value.agg #[.int .i64 n,.int .i64 n1,.int .i64 n2,.int .i64 n3,.int .i64 n4,.int .i64 n5]]:=hq
  rw[List.getElem?_map]at hq
  obtain⟨z,hz,iV⟩:=Option.map_eq_some_iff.1 hq
  simp only[ZiF,List.cons.injEq,Value.agg.injEq,Array.mk.injEq,Value.int.injEq,true_and,and_true]at iV
  obtain⟨rfl,rfl,rfl,rfl,rfl,rfl⟩:=iV
  have aG:=(zA0 hz).1
  refine Zan (v:=.slice a' q c') rfl λb2 jV=>Zaa rfl ?_
  have bH:m1.le (m1.add b2 (Zlq z)):=Mem.le_add jV _
  refine⟨.inl rfl,((L.take q).map Zlq).flatten,Zlq z,?_,rfl,hr.mono bH,.inr ⟨b2,0,rfl,Zaq m1 b2 _⟩,λu hu=>?_,by show(q+1)*48<=_;omega,by show q+1<=_;omega,λa2 c2 m2 aH gD=>⟨rfl,by omega,a2,c2,rfl,rfl,?_⟩⟩
  ·rw[Zvn,List.length_take,Nat.min_eq_left qq];rfl
  ·simp only[Zlq,List.mem_cons,List.not_mem_nil,or_false]at hu
   rcases hu with rfl|rfl|rfl|rfl|rfl|rfl <;> rfl
  ·rw[List.take_add_one,hz,List.map_append,List.flatten_append]
   have:(List.map Zlq (some z).toList).flatten=Zlq z:=by simp
   rw[this];exact gD
 ·rintro cs a n c m1 aB ⟨qq,a',c',cA,ht,hr⟩
  obtain rfl:cs=[.slice a' (L.map λz=>[ZiF z]).length c']:=by simpa using cA
  rw[List.length_map]at hr ⊢
  rw[List.take_length]at hr
  exact Zan (v:=.slice a' L.length c') rfl (ZaH aB ⟨a',c',rfl,hr⟩)
theorem ZnK(L:List (Pl×Int))(g:Nat)(fi ca:List Value)(m:Mem)(hL:L.length<=20001)(hI:IX Tryz.prog g fi ca m (L.map λz=>[ZiF z])):
  CX Tryz.prog 43 #[.func (.func g) fi.toArray ca.toArray] m [] (PrR L):=by
 apply Zb4
 refine Zaj (ZqG L g fi ca m hL hI) ZqF ?_
 rintro a n c m1 aB ⟨a',c',hv,hr⟩
 exact ZaH aB ⟨a',c',hv,hr⟩
theorem ZjU(s:Sc)(m:Mem)(hr:RepC m s):CX Tryz.prog 12 #[s.v] m [] (PrR s.problems):=by
 apply ZfV
 intro b m1 aB _
 refine Zah (ZdT s m1 (hr.mono aB)) λm2 aH=>Zab (λhl=>Zac (mLt aB aH) ?_) (λhl=>?_)
 ·have hl:s.light=false:=by simpa using hl
  have he:s.problems=[]:=by rw[Zgt];unfold Sc.places;rw[hl];rfl
  rw[he];exact⟨none,0,rfl,.inl rfl⟩
 have eZ:=mLt aB aH
 refine Zaj (ZjS s m2) (λv m' css h=>by obtain⟨_,rfl,_⟩:=h;rfl) ?_
 rintro g fi ca m3 aS ⟨b4,hv,nu⟩
 obtain⟨rfl,rfl,rfl⟩:=Zcr hv
 have dI:=mLt eZ aS
 refine Zaj (ZnK s.problems _ _ _ m3 (Zh7 s) (Zh5 s m3 b4 (hr.mono dI) nu)) ZqF ?_
 rintro a n c m4 bM ⟨a',c',hv,px⟩
 exact ZaH (mLt dI bM) ⟨a',c',hv,px⟩
end Go.Proofs.YtdopppmkbkkmiaaGreatDoor
namespace Go.Proofs.YtdopppmkbkkmiaaGreatDoor
open Go Go.Eng Go.Proofs Go.RowKit
open Go.Value (int slice agg bool string tuple func)
open Go.IntKind (u8 u64 i64)
set_option maxRecDepth 100000
def Zr6:Env:={ EB with
 loops:=swI nLa [(7,⟨[(27,.int .i64)],[4,7],[(61,2)],false⟩)]
 joins:=swI none [(10,some [(48,.bool)])]
 dr:=swI [] [(13,[⟨0,[7],[],none,[],[]⟩,⟨1,[7],[],none,[0],[]⟩,⟨2,[6],[],none,[],[]⟩,⟨3,[6],[],none,[2],[]⟩,dO 4 [],dO 5 [2,3,4],dO 6 [2,3,4,5],⟨7,[60],[60],none,[2,3,4,5,6],[]⟩,⟨8,[60],[],some 61,[0,1,2,3,4,5,6,7],[7]⟩,⟨9,[7],[],none,[0,1,2,3,4,5,6,7,8],[]⟩,⟨10,[7],[7],none,[0,1,2,3,4,5,6,7,8,9],[]⟩])]
 tokOf:=swI 0 [(61,61)]
 frzNew:=[2]
 thaw:=true
 kF:=true }
theorem ZqH(aA:Int)(aM:Option Addr)(aK aN:Nat)(aJ:Option Addr)(aI aO:Nat)(p1a:Option Addr)(p1n p1c:Nat)(m:Mem)(R:RT)(h:
 lV [int i64 aA,slice aM aK aN,slice aJ aI aO] λxL=>fzM m xL λb m'=>lE [some (Box.mk b xL 30 3 true true)] λan=>m.free b->(∀(b' o:Nat)(u:Value),m' b' o=some u->m b' o=some u\/b' =
 b)->Mem.k m b=none->∀b,kB pG 39 [agg (.mk xL)] m' λax m'=>br (!ax) (rtM m m' R (tuple (.mk [agg (.mk [int i64 0,slice none 0 0,slice none 0 0]),int i64 250]))) (∃R_1,True/\CX pG 13 (.mk [agg (.mk xL)]) m' [] R_1/\
 Za7 (.agg [.int i64,.slice,.slice]) R_1/\∀n a ao c ap ai ay ad,lV [int i64 n,slice a ao c,slice ap ai ay] λxL=>m'.le ad->R_1 (agg (.mk xL)) ad []->∀az aq ae,lE (some (Box.mk az xL 30 3 false true)) λyL=>
 ad.free ae->Mem.k ad ae=none->∃I,inI I [int i64 0] [[int i64 0,slice none 0 0,slice none 0 0],[int i64 n,slice a ao c,slice none 0 0]] [slice none 0 0] (Mem.updK ad ae [])/\∀n (cs aa:List Value) a a0 c (m':Mem)
 (ar:Nat),lX (slice a a0 c) λaj=>lE [some (Tok.mk aj 2)] λxL=>lE (some (Box.mk aq aa 30 3 false true)::yL::some (Box.mk b cs 30 3 false true)::an) λa1=>True->I [int i64 n] [cs,aa] [aj] m' ar->br (decide
 (n < (↑p1n:Int))) (atA p1a λa2 o=>Zag n p1n/\∃(v:Value),lE (ZaR i64 v&&decide (i64=i64)) λau=>m' a2 (o+Int.toNat n*1)=some v/\∃(av:Nat),∃(es:List (Value×Value)),∃(aw:Value),∃(o:
 Bool),lV (Array.toList (Value.cells aw)) λak=>Value.map (some ae)=Value.map (some av)/\Mem.k m' av=some es/\Zym pG 3 v/\LookIs pG 3 v es (agg (.mk [])) aw o/\∀a3,lE (some (Box.mk a3 ak 126 0 false true)::a1)
 λal=>chk (Nat.beq (ak.length) 0&&Zds ak) (∃(ag:Bool),br o (Zae al/\xL=xL/\[bool true]=[bool ag]) (chk au (br (decide (RowKit.intOf v < 0)) (Zae al/\xL=xL/\[bool true]=[bool ag]) (chk au (Zae al/\
 xL=xL/\[bool (decide (RowKit.intOf v ≥ (↑ai:Int)))]=[bool ag]))))/\br ag (rtM m m' R (tuple (.mk [agg (.mk [int i64 0,slice none 0 0,slice none 0 0]),int i64 250]))) (∃(ah:Nat),∃(es:List (Value×Value)),∃(es'
 : List (Value×Value)),lM (Mem.updK m' ah es') λmL=>Value.map (some ae)=Value.map (some ah)/\Mem.k m' ah=some es/\Zym pG 3 v/\Zj4 pG 3 v (agg (.mk [])) es es'/\Mem.k m ah=none/\Eng.ZvD aa 2 λab=>lE
 (slN ab+1) λac=>chk (Zcq v) (atA ap λa4 o=>Zag (RowKit.intOf v) ai/\∃a5 a6:Value,lV [a5,a6] λxL=>mL.reads a4 (o+Int.toNat (RowKit.intOf v)*2) xL/\∀am,lM (mL.add am xL) λaf=>mL.free am->
 chk (Za8 ab&&true) ((Tok.mk aj 2=Tok.mk ab 2\/ab=slice none 0 0\/slC ab < ac)/\∃(xs:List Value),∃(ys:List Value),xs.length=slN ab*2/\ys.length=1*2/\rowRd af (slA ab) xs/\rowRd af (some (Addr.mk am 0
 none)) ys/\(∀(u:Value),u∈ys->u.oneCell'=true)/\ac*40<=140737488355328/\ac<=9223372036854775807/\∀(a':Option Addr)(c':Nat) m',af.le m'->rowRd m' a' (List.append xs ys)->TokFact af (slA ab) a' ac c'->chk
 (Nat.ble 3 (aa.length)) (∀M,mL.le M->af.le M->m'.le M->Zae (some (Box.mk aq [] 30 3 false true)::yL::some (Box.mk b [] 30 3 false true)::an)/\nxI ar I [int i64 (i64.wrap (n+1))] [cs,ZaB aa 2 [slice a' ac c']]
 [slice a' ac c'] M)))))) (chk (Nat.beq (aa.length) 3&&Zds aa) (rtM m m' R (tuple (.mk [agg (.mk aa),int i64 0])))))):CX Tryz.prog 25 #[.agg #[.int .i64 aA,.slice aM aK aN,.slice aJ aI aO],.slice p1a p1n p1c] m [] R:=
 Zad (E:=Zr6) Zam mix Tryz.func25 (by kernel_rfl) (Eq.mp (by kernel_rfl) h)
end Go.Proofs.YtdopppmkbkkmiaaGreatDoor
namespace Go.Proofs.YtdopppmkbkkmiaaGreatDoor
open Go Go.Eng Go.Rx Go.Proofs Go.RowKit Go.Shelf
set_option maxRecDepth 100000
end Go.Proofs.YtdopppmkbkkmiaaGreatDoor
namespace Go.Proofs.YtdopppmkbkkmiaaGreatDoor
open Go Go.Eng Go.Rx Go.Proofs Go.RowKit
set_option maxRecDepth 100000
theorem ZBA{s:Sc}{n:Int}{a a1:Option Addr}{p c p1 c1:Nat}(h:Value.agg #[.int .i64 n,.slice a p c,.slice a1 p1 c1]=s.v):n=s.n/\a=s.va/\p=s.vars.length/\c=s.vc/\a1=s.sa/\p1=s.states.length/\c1=s.sc:=by
 simpa[Sc.v,and_assoc]using h
theorem ZBB(a b:Int):EqIs Tryz.prog 3 (.int .i64 a) (.int .i64 b) (decide (a=b)):=ZwI Tryz.underlying3 (by simp[Instr.sameNow];rfl) (λop ox oy w=>by cases op <;> simp[eqGuard])
def ZCf(m:Mem)(s:Sc)(L:List Nat):Value->Mem->List (List Value)->Prop:=λv m' _=>∃k:Sc,v=.tuple #[k.v,.int .i64 0]/\k.n=s.n/\k.vars=s.vars/\k.states.map (λx=>some x.er)=L.map (λi=>(s.states[i]?).map Sta.er)/\RepC (nw m m') k
theorem Zr7{m:Mem}{s:Sc}{L:List Nat}:∀(v:Value)(m':Mem) (css:List (List Value)),ZCf m s L v m' css->Shape.fits (.tup [.agg [.int .i64,.slice,.slice],.int .i64]) v=true:=λv _ _ ⟨t,e,_⟩=>by rw[e];rfl
set_option maxHeartbeats 1000000 in
theorem Zye(s:Sc)(L:List Nat)(la:Option Addr)(lc:Nat)(m:Mem)(hr:RepC m s)(hl:s.light=true)(aD:rowRd m la (L.map λi:Nat=>Value.int .i64 i))(hL:∀i∈L,i < s.states.length)(hn:L.Nodup)(aQ:L.length<=1000):CX Tryz.prog 25 #[s.v,.slice la L.length lc] m [] (ZCf m s L):=by
 have fO:s.states.length<=100000:=hr.len
 apply ZqH
 intro b m1 aB _ _ _ _ b1
 have qL:=ZdT s m1 (hr.mono aB)
 rw[hl]at qL
 refine Zah qL λm2 aH=>Zfj rfl ?_
 have eZ:=mLt aB aH
 refine Zaj (Zws s m2 (hr.mono eZ) hl) Ztk ?_
 rintro n a p c a1 p1 c1 m3 aS ⟨s',hv,oW,lL,_⟩ b2 b3 bm zG dT
 have mz:(nw m2 m3).le (nw m m3):=ZdF eZ (Mem.le_refl _)
 obtain⟨rfl,rfl,rfl,rfl,rfl,rfl,rfl⟩:=ZBA hv
 have dX:=lL.mono (Zpy m2 m3)
 have dI:=mLt eZ aS
 have jJ:m.k bm=none:=Zkz dI dT
 have nV:=Zxa oW
 obtain⟨uo,jO⟩:=Zv8 oW
 refine⟨λxs css tvs mm q=>∃(i:Nat)(K:List Sta)(ka:Option Addr)(kc:Nat),i<=L.length/\K.length=i/\xs=[.int .i64 i]/\css=[[.int .i64 0,.slice none 0 0,.slice none 0 0],[.int .i64 s'.n,.slice s'.va s'.vars.length s'.vc,.slice ka K.length kc]]/\tvs=[.slice ka K.length kc]/\m3.le mm/\mm.k bm=some (ZCq (λz:Nat=>Value.int .i64 z) (λ_:Unit=>Value.agg (Array.mk [])) ((L.take i).map λz=>(z,())))/\K.map (λx=>some x.er)=(L.take i).map (λi=>(s.states[i]?).map Sta.er)/\K.length<=kc/\rowRd mm ka (K.map Sta.cs).flatten/\(∀x∈K,RepS (nw m2 m3) x)/\(∀b o,ka=some ⟨b,o,none⟩->m.free b)/\q=L.length - i,⟨L.length,0,[],none,0,by omega,rfl,rfl,rfl,rfl,Mem.le_updK (Mem.le_refl _) dT _,Mem.updK_same _ _ _,rfl,Nat.le_refl _,.inl rfl,(λx hx=>by cases hx),(λb o e=>by cases e),rfl⟩,?_⟩
 rintro z cs0 cs1 ka kn kc mm q _ ⟨i,K,ka',kc',hi,yt,hz,cA,cS,hM,hk,uq,yu,wa,wb,wc,rfl⟩
 obtain rfl:z=i:=by simpa using hz
 obtain⟨rfl,rfl⟩:cs0=_/\cs1=_:=by simpa using cA
 simp only[List.cons.injEq,Value.slice.injEq,and_true]at cS
 obtain⟨rfl,rfl,rfl⟩:=cS
 have ld:IntKind.i64.wrap ((i:Int)+1)=((i+1:Nat):Int):=by rw[Zal (by omega) (by omega)];rfl
 have pC:=mLt dI hM
 refine Zav (λaG=>?_) (λbK=>Zaa rfl (ZaH pC ?_))
 ·have aG:(i:Int) < (L.length:Nat):=aG
  obtain⟨l,jH⟩:=ZcC (show i < L.length by omega)
  have yv:=zA2 jH
  have l8:=hL l yv
  obtain⟨b4,o4,kL,vS⟩:=ZCr (aD.mono pC) (show(L.map λi:Nat=>Value.int .i64 i)[i]?=some (.int .i64 l) by rw[List.getElem?_map,jH];rfl)
  have lz:l ∉ ((L.take i).map λz=>(z,())).map (·.1):=by
   rw[List.map_map]
   intro gX
   obtain⟨z,hz,rfl⟩:=List.mem_map.1 gX
   obtain⟨j,hj⟩:=List.getElem?_of_mem hz
   have kK:j < i:=by have:=(zA0 hj).1;rw[List.length_take]at this;omega
   rw[List.getElem?_take_of_lt kK]at hj
   have hj:L[j]?=some z:=hj
   obtain⟨g1,g2⟩:=zA0 hj
   obtain⟨g3,g4⟩:=zA0 jH
   have:=(List.getElem_inj (h₀:=g1) (h₁:=g3) hn).1 (g2.trans g4.symm)
   omega
  have heq:∀a b:Nat,EqIs Tryz.prog 3 (.int .i64 (a:Int)) (.int .i64 (b:Int)) (decide (a=b)):=λa b=>by
   have:=ZBB a b
   rwa [show decide ((a:Int)=(b:Int))=decide (a=b) by congr 1;exact propext (by omega)]at this
  have jR:=ZsU (f:=λz:Nat=>Value.int .i64 z) (g:=λ_:Unit=>Value.agg (Array.mk [])) heq l _ lz
  have yw:=Zwb (f:=λz:Nat=>Value.int .i64 z) (g:=λ_:Unit=>Value.agg (Array.mk [])) heq l () _ lz
  obtain⟨x,hx⟩:∃x,s'.states[l]?=some x:=⟨s'.states[l]'(by omega),zA3 (by omega)⟩
  refine⟨b4,o4,kL,⟨by omega,aG⟩,_,vS,bm,_,_,false,rfl,hk,ZoH Tryz.underlying3 _,⟨none,jR,rfl,rfl⟩,λb5=>Zaa rfl ⟨false,Zfj rfl (Zaa rfl (Zfj (decide_eq_false (by show ¬(l:Int) < 0;omega)) (Zaa rfl ⟨rfl,rfl,by show[Value.bool (decide ((l:Int) ≥ (s'.states.length:Nat)))]=_;rw[decide_eq_false (by omega)]⟩))),Zfj rfl ⟨bm,_,_,rfl,hk,ZoH Tryz.underlying3 _,yw,jJ,Zan rfl (Zaa rfl ?_)⟩⟩⟩
  have ur:m3.le (mm.updK bm (ZCq (λz:Nat=>Value.int .i64 z) (λ_:Unit=>Value.agg (Array.mk [])) (((L.take i).map λz=>(z,()))++[(l,())]))):=Mem.le_updK hM dT _
  obtain⟨b6,o6,js,dH⟩:=Zao Sta.len (dX.mono ur).row hx (by omega)
  have gC:L.take (i+1)=L.take i++[l]:=by rw[List.take_add_one,jH];rfl
  obtain⟨x0,oh,rQ⟩:=ZB2 oW.symm hx
  refine⟨b6,o6,js,⟨by show(0:Int)<=l;omega,by show(l:Int) < (s'.states.length:Nat);omega⟩,_,_,dH,λb7 lI=>Zaa rfl (Zdo Sta.len Sta.one lI x (show rowRd (mm.updK bm _) ka (K.map Sta.cs).flatten from wa) 40 (by omega) (by omega) (.inl rfl) λa8 c8 m8 iO fB j2=>Zaa rfl λM jM ic iN=>⟨rfl,L.length - (i+1),by omega,i+1,K++[x],a8,c8,by omega,by simp[yt],by rw[ld],by rw[zA1];rfl,by rw[zA1];rfl,mLt ur jM,?_,?_,by rw[zA1];exact j2.1,fB.mono iN,λy hy=>?_,λb o e=>?_,rfl⟩)⟩
  ·rw[gC,List.map_append]
   exact jM.k _ _ (Mem.updK_same _ _ _)
  ·rw[gC,List.map_append,List.map_append,uq]
   congr 1
   simp only[List.map_cons,List.map_nil,oh,Option.map_some,rQ]
  ·rcases List.mem_append.1 hy with hy|hy
   ·exact wb y hy
   ·rw[List.mem_singleton]at hy;subst hy
    exact lL.all _ (zA2 hx)
  ·rcases j2.2 with h|⟨b',o',h1,h2⟩
   ·rw[h]at e;cases e
   ·rw[h1]at e;cases e
    rcases h2 with h2|⟨_,h2,_⟩
    ·exact wc b o (h2.trans h1)
    ·exact Zdj (mLt dI (mLt ur (Mem.le_add lI _))) h2
 ·have bK:¬(i:Int) < (L.length:Nat):=bK
  have:i=L.length:=by omega
  subst this
  rw[List.take_length]at uq
  refine⟨⟨s'.n,s'.va,s'.vc,s'.vars,ka,kc,K⟩,rfl,uo,jO,uq,?_⟩
  have wd:(nw m2 m3).le (nw m mm):=ZdF eZ hM
  have h:=lL.mono wd
  exact⟨h.n,h.vlen,h.vrow,h.vall,by show K.length<=few;unfold few;omega,Zn6 wa (.inr wc),λx hx=>(wb x hx).mono wd,h.vcap,yu⟩
end Go.Proofs.YtdopppmkbkkmiaaGreatDoor
namespace Go.Proofs.YtdopppmkbkkmiaaGreatDoor
open Go Go.Eng Go.Proofs Go.RowKit
open Go.Value (int slice agg bool string tuple func)
open Go.IntKind (u8 u64 i64)
set_option maxRecDepth 100000
def Zyf:Env:={ EB with
 frzNew:=[1] }
theorem Zvo(aA:Int)(aC aE:Bool)(aF aY aW aV dK dM dW:Int)(bX:Option Addr)(bY bZ:Nat)(cN:ByteArray)(cK:Int)(cD:Option Addr)(cE cF:Nat)(cW:ByteArray)(cX:Int)(m:Mem)(R:RT)(h:
 lV [int u8 aA,bool aC,bool aE,int u8 aF,int u64 aY,int u64 aW,int u64 aV,int u64 dK,int i64 dM,int i64 dW,slice bX bY bZ,string cN,int i64 cK,slice cD cE cF,string
 cW,int i64 cX] λxL=>fzM m xL λb m'=>∀(b:Nat) b,m'.free b->∀(b_1:Nat),Mem.free (m'.add b xL) b_1->rtM m (Mem.add (m'.add b xL) b_1 [string bE0,slice (some (Addr.mk b 0 none)) 1 1]) R (agg (.mk [int i64
 0,slice none 0 0,slice (some (Addr.mk b_1 0 none)) 1 1]))):CX Tryz.prog 40 #[.agg #[.int .u8 aA,.bool aC,.bool aE,.int .u8 aF,.int .u64 aY,.int .u64 aW,.int .u64 aV,.int .u64 dK,.int .i64 dM,.int .i64 dW,.slice bX bY bZ,.string cN,.int .i64 cK,.slice cD cE cF,.string cW,.int .i64 cX]] m [] R:=
 Zad (E:=Zyf) Zam mix Tryz.func40 (by kernel_rfl) (Eq.mp (by kernel_rfl) h)
end Go.Proofs.YtdopppmkbkkmiaaGreatDoor
namespace Go.Proofs.YtdopppmkbkkmiaaGreatDoor
open Go Go.Eng Go.Rx Go.Proofs Go.RowKit
set_option maxRecDepth 100000
end Go.Proofs.YtdopppmkbkkmiaaGreatDoor
namespace Go.Proofs.YtdopppmkbkkmiaaGreatDoor
open Go Go.Eng Go.Rx Go.Proofs Go.RowKit Go.Shelf
set_option maxRecDepth 100000
def ZAT(l:List Int):List Value:=l.map (Value.int .i64)
section
variable {P:Program} {ρ:Ren}
end
end Go.Proofs.YtdopppmkbkkmiaaGreatDoor
namespace Go.Proofs.YtdopppmkbkkmiaaGreatDoor
open Go Go.Eng Go.Proofs Go.RowKit
open Go.Value (int slice agg bool string tuple func)
open Go.IntKind (u8 u64 i64)
set_option maxRecDepth 100000
def ZnL:Env:={ EB with
 loops:=swI nLa [(1,⟨[(7,.int .i64)],[100000],[(18,1),(900,1)],false⟩)]
 tokOf:=swI 0 [(18,900)]
 thaw:=true }
theorem Zjp(p0a:Option Addr)(p0n p0c c0b:Nat)(c0_0a:Option Addr)(c0_0n c0_0c:Nat)(t0a:Option Addr)(t0n t0c:Nat)(m:Mem)(Y:Nat->Prop)(R:RTY)(h:
 ∃I,lE [some (Box.mk c0b [] 76 1 false true)] λxL=>lE (Box.mk c0b [slice c0_0a c0_0n c0_0c] 76 1 false true) λyL=>inI I [int i64 0] [[slice c0_0a c0_0n c0_0c]] [slice none 0 0,slice t0a t0n t0c] m/\∀(n:Int) (cs:
 List Value) a n_1 c a_1 n_2 c_1 (m':Mem) (n_3:Nat),lX (slice a n_1 c) λyL_1=>lV [int i64 (i64.wrap (n+1))] λxL_1=>lX (slice a_1 n_2 c_1) λyL_2=>True->I [int i64 n] [cs] [yL_1,yL_2] m' n_3->br (decide (n <
 (↑p0n:Int))) (atA p0a λb o=>Zag n p0n/\∃(v:Value),lV (List.append (Array.toList (Value.cells v)) []) λxL_2=>m' b (o+Int.toNat n*1)=some v/\Eng.ZvD cs 0 λv_1=>kB pG 15 [v_1,v] m' λb m'=>br
 (!b) (Eng.ZvD cs 0 λv_2=>lE (slN v_2+1) λyL=>chk (Nat.beq (List.length (Array.toList (Value.cells v))) 1&&true) (∀b,lM (m'.add b xL_2) λmL=>m'.free b->chk (Za8 v_2&&true) ((Tok.mk yL_2 1=Tok.mk v_2 1\/
 v_2=slice none 0 0\/slC v_2 < yL)/\∃(xs:List Value),∃(ys:List Value),xs.length=slN v_2*1/\ys.length=1*1/\rowRd mL (slA v_2) xs/\rowRd mL (some (Addr.mk b 0 none)) ys/\(∀(u:Value),u∈ys->u.oneCell' =
 true)/\yL*16<=140737488355328/\yL<=9223372036854775807/\∀(a':Option Addr)(c':Nat) m',mL.le m'->rowRd m' a' (List.append xs ys)->TokFact mL (slA v_2) a' yL c'->Zae xL/\([none]:List (Option Tok))=[none]/\
 nxI n_3 I xL_1 [[slice a' yL c']] [yL_1,slice a' yL c'] m'))) (Zae xL/\([none]:List (Option Tok))=[none]/\nxI n_3 I xL_1 [cs] [yL_1,yL_2] m')) (yL=yL/\R (tuple (.mk [])) m' [cs] [yL_2])):CXY Tryz.prog 75 #[.slice p0a p0n p0c,.pointer (some ⟨c0b,0,none⟩)] m Y [⟨c0b,[.slice c0_0a c0_0n c0_0c],76,1,false,true⟩] [⟨.slice t0a t0n t0c,1⟩] R:=
 Zl1 (E:=ZnL) Zam mix Tryz.func75 [.v (.slice p0a p0n p0c),.loc 100000 0] [⟨c0b,[.slice c0_0a c0_0n c0_0c],76,1,false,true⟩] [900] [⟨.slice t0a t0n t0c,1⟩] (by decide) (by kernel_rfl) (Eq.mp (by kernel_rfl) h)
def Zr8:Env:={ EB with
 loops:=swI nLa [(7,⟨[(18,.agg [.int .u8,.str,.slice,.int .u8,.any,.str,.int .i64,.slice])],[5],[(900,1)],false⟩),(13,⟨[(44,.int .i64)],[5],[(900,1)],false⟩)]
 joins:=swI none [(8,some [(27,.bool)])]
 dr:=swI [] [(11,[⟨0,[6],[],none,[],[]⟩,⟨1,[7],[],none,[],[]⟩,⟨2,[7],[],none,[1],[]⟩,dO 3 [1,2]]),(19,[⟨0,[6],[],none,[],[]⟩,⟨1,[9],[],none,[],[]⟩,⟨2,[9],[],none,[1],[]⟩,dO 3 [1,2]])]
 borrow:=swI [] [(32,[5]),(40,[5]),(56,[5]),(63,[5])]
 frzNew:=[2,3]
 last:=swI false [(11,true),(19,true)]
 lastK:=swI 1 [(11,1),(19,1)]
 thaw:=true
 cuts:=swI none [(12,some ⟨[],[5],[(900,1)],false⟩)]
 lentC:=swI none [(32,some [(900,1)]),(40,some [(900,1)]),(56,some [(900,1)]),(63,some [(900,1)])] }
theorem ZqI(aA:Int)(aC aE:Bool)(aF aY aW aV dK dM dW:Int)(bX:Option Addr)(bY bZ:Nat)(cN:ByteArray)(cK:Int)(cD:Option Addr)(cE cF:Nat)(cW:ByteArray)(cX:Int)(p1:Bool)(m:Mem)(R:RT)(h:
 lV [bool p1] λxL=>lV [int u8 aA,bool aC,bool aE,int u8 aF,int u64 aY,int u64 aW,int u64 aV,int u64 dK,int i64 dM,int i64 dW,slice bX bY bZ,string cN,int i64 cK,slice cD
 cE cF,string cW,int i64 cX] λan=>fzM m an λb m'=>lE [some (Box.mk b an 45 16 true true)] λbc=>m.free b->(∀(b' o:Nat)(u:Value),m' b' o=some u->m b' o=some u\/b'=b)->fzM m' xL λae
 aw=>lE (some (Box.mk ae xL 4 1 true true)::bc) λxL=>m'.free ae->(∀(b' o:Nat)(u:Value),aw b' o=some u->m' b' o=some u\/b'=ae)->∃R_1,True/\CX pG 40 (.mk [agg (.mk an)]) aw [] R_1/\Za7 (.agg [.int i64,
 .slice,.slice]) R_1/\∀n a bd c be bf bg m',lX (agg (.mk [int i64 n,slice a bd c,slice be bf bg])) λyL=>aw.le m'->R_1 yL m' []->kB pG 39 [yL] m' λbh m'=>br (!bh) (rtM m m' R (slice none 0 0)) (∀(ao:Nat) bi,∃
 R_2,lV [Value.pointer (some (Addr.mk ao 0 none))] λaj=>lE (some (Box.mk bi [func (Fn.func 75) (Array.mk []) (Array.mk aj)] 148 1 false true)) λyL=>lE (yL::some (Box.mk ao [] 76 1 false true)::xL) λad=>True/\CX
 pG 40 (.mk [agg (.mk an)]) m' [] R_2/\Za7 (.agg [.int i64,.slice,.slice]) R_2/\∀n a bj c bk bl bm ax,lX (agg (.mk [int i64 n,slice a bj c,slice bk bl bm])) λa2=>m'.le ax->R_2 a2 ax []->kF pG 76 [a2] ax λg fi ca
 m'=>∃(mi:Mem),mi.le m'/\∃(xs:List (List Value)),IX pG g fi ca mi xs/\(∀(x:List Value),x∈xs->Shape.fitsL [.agg [.int u8,.str,.slice,.int u8,.any,.str,.int i64,.slice]] x=true)/\∃(I:IT),I [] [[slice
 none 0 0]] [slice none 0 0] m' 0/\(∀n s a ay c bn (v:Value) bo bp bq bs bt (cs:List Value) bu bv bw m' (ak:Nat),lX (slice bu bv bw) λap=>lE (Tok.mk ap 1) λaf=>lE [some af] λaq=>lV [string s] λbx=>lE
 (Box.mk ao cs 76 1 false true) λar=>lV [int u8 bn,v,string bo,int i64 bp,slice bq bs bt] λaz=>lV (int u8 n::string s::slice a ay c::az) λa3=>mi.le m'->List.get?Internal xs ak=some [agg (.mk a3)]->I []
 [cs] [ap] m' ak->∀bz,lE (some (Box.mk bz a3 57 8 false true)) λag=>chk (v.oneCell'&&true) (br p1 (∃(ab:Bool),br (n == 2) (Zae (ag::yL::some ar::xL)/\aq=aq/\[bool true]=[bool ab]) (Zae (ag::yL ::
 some ar::xL)/\aq=aq/\[bool (n == 3)]=[bool ab])/\br ab (∀al,lM (m'.add al bx) λmL=>m'.free al->∃(Y:Nat->Prop),∃(R:Value->Mem->List (List Value)->List Value->Prop),CXY pG 75 (.mk (slice (some (Addr.mk
 al 0 none)) 1 1::aj)) mL Y [ar] [af] R/\(∀(t:Tok),t∈[af]->∀(b:Nat),Tok.blk t=some b->Y b)/\(∀(aa:Nat),Y aa->(∃(t:Tok),t∈[af]/\Tok.blk t=some aa)\/(m.free aa/\Mem.k m aa=none)/\((∃(o:Nat),∃
 (v:Value),mL aa o=some v)\/∃(e:List (Value×Value)),Mem.k mL aa=some e)/\al≠aa/\ae≠aa/\b≠aa/\True)/\(∀(v:Value)(m':Mem) (css:List (List Value)) (tvs:List Value),R v m' css tvs->Shape.fits (.tup
 []) v=true)/\∀(m':Mem),Mem.le (Mem.off mL Y) m'->(NewM mL m' λb=>Y b\/mL.free b)->∀(cs:List Value) a c d,R (tuple (.mk [])) m' [cs] [slice a c d]->mi.le m'/\Zae ad/\I [] [cs] [slice a c d] m' (ak+1))
 (mi.le m'/\Zae ad/\I [] [cs] [ap] m' (ak+1))) (∃(J:JT),br (n == 3) (∃(f:Fx),∃R,R=f 3 [agg (.mk az)] m'/\CX pG 77 (.mk [agg (.mk az)]) m' [] R/\Za7 .slice R/\∀a n c ah,m'.le ah->R (slice a n c) ah []->∀
 M,m'.le M->ah.le M->∃(Y:Nat->Prop),∃(R:Value->Mem->List (List Value)->List Value->Prop),CXY pG 75 (.mk (slice a n c::aj)) M Y [ar] [af] R/\(∀(t:Tok),t∈[af]->∀(b:Nat),Tok.blk t=some b->Y b)/\(∀(ab
 : Nat),Y ab->(∃(t:Tok),t∈[af]/\Tok.blk t=some ab)\/(m.free ab/\Mem.k m ab=none)/\((∃(o:Nat),∃(v:Value),M ab o=some v)\/∃(e:List (Value×Value)),Mem.k M ab=some e)/\ae≠ab/\b≠ab/\True)/\(∀
 (v:Value) (m':Mem) (css:List (List Value)) (tvs:List Value),R v m' css tvs->Shape.fits (.tup []) v=true)/\∀(m':Mem),Mem.le (Mem.off M Y) m'->(NewM M m' λb=>Y b\/M.free b)->∀(cs:List Value) a c d,R
 (tuple (.mk [])) m' [cs] [slice a c d]->Zae (ag::ad)/\([none]:List (Option Tok))=[none]/\J [] [cs] [slice a c d] m') (Zae (ag::ad)/\([none]:List (Option Tok))=[none]/\J [] [cs] [ap] m')/\∀(cs:List Value)
 a4 n c (m':Mem),True->J [] [cs] [slice a4 n c] m'->∃am,inI am [int i64 0] [cs] [slice a4 n c] m'/\∀(n:Int)(cs:List Value) cb cc c (m':Mem) (au:Nat),lE [Box.mk ao cs 76 1 false true] λxL=>lX (slice cb cc c)
 λyL=>lV [int i64 (i64.wrap (n+1))] λa0=>lE [Tok.mk yL 1] λai=>True->am [int i64 n] [cs] [yL] m' au->br (decide (n < (↑ay:Int))) (atA a λab o=>Zag n ay/\∃v av a5 a6 a7 a8 a9 ba:Value,lV [a6,a7,
 a8,a9,ba] λa1=>lE (ZaR u8 v&&decide (u8=u8)) λbb=>lV (List.append (Array.toList (Value.cells av)) []) λcd=>m'.reads ab (o+Int.toNat n*8) (v::av::a5::a1)/\∀(al:Nat),chk (v.oneCell' &&
 (av.oneCell'&&(a5.oneCell'&&(a6.oneCell'&&(a7.oneCell'&&(a8.oneCell'&&(a9.oneCell'&&(ba.oneCell'&&true)))))))) (chk bb (br (RowKit.intOf v == 2) (chk (Nat.beq (List.length (Array.toList (Value.cells av))) 1&&true)
 (∀aa,lM (m'.add aa cd) λmL=>m'.free aa->∃(Y:Nat->Prop),∃(R:Value->Mem->List (List Value)->List Value->Prop),CXY pG 75 (.mk (slice (some (Addr.mk aa 0 none)) 1 1::aj)) mL Y xL ai R/\(∀(t:Tok),t∈ai->∀
 (b:Nat),Tok.blk t=some b->Y b)/\(∀(ac:Nat),Y ac->(∃(t:Tok),t∈ai/\Tok.blk t=some ac)\/(m.free ac/\Mem.k m ac=none)/\((∃(o:Nat),∃(v:Value),mL ac o=some v)\/∃(e:List (Value×Value)),Mem.k mL
 ac=some e)/\aa≠ac/\ae≠ac/\b≠ac/\True)/\(∀(v:Value)(m':Mem) (css:List (List Value)) (tvs:List Value),R v m' css tvs->Shape.fits (.tup []) v=true)/\∀(m':Mem),Mem.le (Mem.off mL Y) m'->(NewM mL m' fun
 b=>Y b\/mL.free b)->∀(cs:List Value) a c d,R (tuple (.mk [])) m' [cs] [slice a c d]->Zae (ag::ad)/\([none,none]:List (Option Tok))=[none,none]/\nxI au am a0 [cs] [slice a c d] m')) (chk bb (br (RowKit.intOf v
 == 4) (∃(f:Fx),∃R,R=f 3 [agg (.mk a1)] m'/\CX pG 77 (.mk [agg (.mk a1)]) m' [] R/\Za7 .slice R/\∀a n c ah,m'.le ah->R (slice a n c) ah []->∀M,m'.le M->ah.le M->∃(Y:Nat->Prop),∃(R:Value->Mem->List
 (List Value)->List Value->Prop),CXY pG 75 (.mk (slice a n c::aj)) M Y xL ai R/\(∀(t:Tok),t∈ai->∀(b:Nat),Tok.blk t=some b->Y b)/\(∀(aa:Nat),Y aa->(∃(t:Tok),t∈ai/\Tok.blk t=some aa)\/(m.free aa/\
 Mem.k m aa=none)/\((∃(o:Nat),∃(v:Value),M aa o=some v)\/∃(e:List (Value×Value)),Mem.k M aa=some e)/\ae≠aa/\b≠aa/\True)/\(∀(v:Value)(m':Mem) (css:List (List Value)) (tvs:List Value),R v m'
 css tvs->Shape.fits (.tup []) v=true)/\∀(m':Mem),Mem.le (Mem.off M Y) m'->(NewM M m' λb=>Y b\/M.free b)->∀(cs:List Value) a c d,R (tuple (.mk [])) m' [cs] [slice a c d]->Zae (ag::ad)/\([none,none]:
 List (Option Tok))=[none,none]/\nxI au am a0 [cs] [slice a c d] m') (Zae (ag::ad)/\([none,none]:List (Option Tok))=[none,none]/\nxI au am a0 [cs] [yL] m')))))) (mi.le m'/\Zae ad/\I [] [cs] [yL] m' (ak +
 1)))))/\∀(cs:List Value) a n c m',mi.le m'->I [] [cs] [slice a n c] m' (xs.length)->Eng.ZvD cs 0 λv=>rtM m m' R v)):CX Tryz.prog 50 #[.agg #[.int .u8 aA,.bool aC,.bool aE,.int .u8 aF,.int .u64 aY,.int .u64 aW,.int .u64 aV,.int .u64 dK,.int .i64 dM,.int .i64 dW,.slice bX bY bZ,.string cN,.int .i64 cK,.slice cD cE cF,.string cW,.int .i64 cX],.bool p1] m [] R:=
 Zad (E:=Zr8) Zam mix Tryz.func50 (by kernel_rfl) (Eq.mp (by kernel_rfl) h)
def ZqJ:Env:={ EB with
 frzNew:=[1] }
theorem ZnM(aA:Int)(aC aE:Bool)(aF aY aW aV dK dM dW:Int)(bX:Option Addr)(bY bZ:Nat)(cN:ByteArray)(cK:Int)(cD:Option Addr)(cE cF:Nat)(cW:ByteArray)(cX:Int)(m:Mem)(R:RT)(h:
 lV [int u8 aA,bool aC,bool aE,int u8 aF,int u64 aY,int u64 aW,int u64 aV,int u64 dK,int i64 dM,int i64 dW,slice bX bY bZ,string cN,int i64 cK,slice cD cE cF,string
 cW,int i64 cX] λxL=>fzM m xL λb m'=>kS pG 50 [agg (.mk xL),bool false] m' λa n c m'=>rtM m m' R (slice a n c)):CX Tryz.prog 16 #[.agg #[.int .u8 aA,.bool aC,.bool aE,.int .u8 aF,.int .u64 aY,.int .u64 aW,.int .u64 aV,.int .u64 dK,.int .i64 dM,.int .i64 dW,.slice bX bY bZ,.string cN,.int .i64 cK,.slice cD cE cF,.string cW,.int .i64 cX]] m [] R:=
 Zad (E:=ZqJ) Zam mix Tryz.func16 (by kernel_rfl) (Eq.mp (by kernel_rfl) h)
def ZnN:Env:={ EB with
 frzNew:=[1] }
theorem Zlr(aA:Int)(aC aE:Bool)(aF aY aW aV dK dM dW:Int)(bX:Option Addr)(bY bZ:Nat)(cN:ByteArray)(cK:Int)(cD:Option Addr)(cE cF:Nat)(cW:ByteArray)(cX:Int)(m:Mem)(R:RT)(h:
 lV [int u8 aA,bool aC,bool aE,int u8 aF,int u64 aY,int u64 aW,int u64 aV,int u64 dK,int i64 dM,int i64 dW,slice bX bY bZ,string cN,int i64 cK,slice cD cE cF,string
 cW,int i64 cX] λxL=>fzM m xL λb m'=>kS pG 50 [agg (.mk xL),bool true] m' λa n c m'=>rtM m m' R (slice a n c)):CX Tryz.prog 17 #[.agg #[.int .u8 aA,.bool aC,.bool aE,.int .u8 aF,.int .u64 aY,.int .u64 aW,.int .u64 aV,.int .u64 dK,.int .i64 dM,.int .i64 dW,.slice bX bY bZ,.string cN,.int .i64 cK,.slice cD cE cF,.string cW,.int .i64 cX]] m [] R:=
 Zad (E:=ZnN) Zam mix Tryz.func17 (by kernel_rfl) (Eq.mp (by kernel_rfl) h)
end Go.Proofs.YtdopppmkbkkmiaaGreatDoor
namespace Go.Proofs.YtdopppmkbkkmiaaGreatDoor
open Go Go.Eng Go.Rx Go.Proofs Go.RowKit
set_option maxRecDepth 100000
structure Il where
 a:Option Addr
 c:Nat
 l:List Int
def Il.cs(y:Il):List Value:=[.slice y.a y.l.length y.c]
theorem Il.len(y:Il):y.cs.length=1:=rfl
theorem Il.one(y:Il):∀u∈y.cs,u.oneCell'=true:=λu hu=>by
 obtain rfl:u=_:=by simpa[Il.cs]using hu
 rfl
end Go.Proofs.YtdopppmkbkkmiaaGreatDoor
namespace Go.Proofs.YtdopppmkbkkmiaaGreatDoor
open Go Go.Eng Go.Proofs Go.RowKit
open Go.Value (int slice agg bool string tuple func)
open Go.IntKind (u8 u64 i64)
set_option maxRecDepth 100000
end Go.Proofs.YtdopppmkbkkmiaaGreatDoor
namespace Go.Proofs.YtdopppmkbkkmiaaGreatDoor
open Go Go.Eng Go.Rx Go.Proofs Go.RowKit
set_option maxRecDepth 100000
theorem Zz9{s:Sc}{n e e':Int}{a a1:Option Addr}{p c p1 c1:Nat}(h:Value.tuple #[.agg #[.int .i64 n,.slice a p c,.slice a1 p1 c1],.int .i64 e']=.tuple #[s.v,.int .i64 e]):(n=s.n/\a=s.va/\p=s.vars.length/\c=s.vc/\a1=s.sa/\p1=s.states.length/\c1=s.sc)/\e'=e:=by
 simpa[Sc.v,and_assoc]using h
end Go.Proofs.YtdopppmkbkkmiaaGreatDoor
namespace Go.Proofs.YtdopppmkbkkmiaaGreatDoor
open Go Go.Eng Go.Proofs Go.RowKit
open Go.Value (int slice agg bool string tuple func)
open Go.IntKind (u8 u64 i64)
set_option maxRecDepth 100000
end Go.Proofs.YtdopppmkbkkmiaaGreatDoor
namespace Go.Proofs.YtdopppmkbkkmiaaGreatDoor
open Go Go.Eng Go.Rx Go.Proofs Go.RowKit
set_option maxRecDepth 100000
end Go.Proofs.YtdopppmkbkkmiaaGreatDoor
namespace Go.Proofs.YtdopppmkbkkmiaaGreatDoor
open Go Go.Eng Go.Proofs Go.RowKit
open Go.Value (int slice agg bool string tuple func)
open Go.IntKind (u8 u64 i64)
set_option maxRecDepth 100000
end Go.Proofs.YtdopppmkbkkmiaaGreatDoor
namespace Go.Proofs.YtdopppmkbkkmiaaGreatDoor
open Go Go.Eng Go.Rx Go.Proofs Go.RowKit
set_option maxRecDepth 100000
def ZAU(ns:List Nat):List Int:=ns.map λz:Nat=>(z:Int)
def kC(z:Nat):List Value:=[.int .i64 (z:Int)]
theorem ZBC(z:Nat):(kC z).length=1:=rfl
theorem ZBD(z:Nat):∀u∈kC z,u.oneCell'=true:=λu hu=>by
 obtain rfl:u=.int .i64 (z:Int):=by simpa[kC]using hu
 rfl
theorem Zto:∀l:List Nat,(l.map kC).flatten=ZAT (ZAU l)
 | []=>rfl
 | z::l=>by
  have:=Zto l
  simp only[List.map_cons,List.flatten_cons,this];rfl
structure Rch (s:Sc)(ns:List Nat)(i:Nat):Prop where
 nd:ns.Nodup
 lt:∀z∈ns,z < s.states.length
 ne:ns≠[]
 cl:∀j,j < i->∀l,ns[j]?=some l->∀x,s.states[l]?=some x->∀y∈x.rules.filterMap ZB3,∃k∈ns,y=(k:Nat)
theorem Rch.closed{s:Sc}{ns:List Nat}(h:Rch s ns ns.length):Closed s ns:=⟨h.nd,h.lt,h.ne,λi hi x hx y hy=>by
 obtain⟨j,hj⟩:=List.getElem?_of_mem hi
 exact h.cl j (zA0 hj).1 i hj x hx y hy⟩
theorem Rch.len{s:Sc}{ns:List Nat}{i:Nat}(h:Rch s ns i):ns.length<=s.states.length:=ZuE h.nd h.lt
theorem Rch.grow{s:Sc}{ns:List Nat}{i:Nat}(h:Rch s ns i)(hi:i<=ns.length){k:Nat}(hk:k < s.states.length)(hn:k ∉ ns):Rch s (ns++[k]) i:=by
 refine⟨?_,λz hz=>?_,by simp,λj hj l hl x hx y hy=>?_⟩
 ·rw[List.nodup_append]
  exact⟨h.nd,by simp,λa ha b hb e=>by simp at hb;subst hb;subst e;exact hn ha⟩
 ·rcases List.mem_append.1 hz with hz|hz
  ·exact h.lt z hz
  ·simp at hz;omega
 ·rw[zA5 (by omega)]at hl
  obtain⟨q,hq,e⟩:=h.cl j hj l hl x hx y hy
  exact⟨q,List.mem_append_left _ hq,e⟩
end Go.Proofs.YtdopppmkbkkmiaaGreatDoor
namespace Go.Proofs.YtdopppmkbkkmiaaGreatDoor
open Go Go.Eng Go.Proofs Go.RowKit
open Go.Value (int slice agg bool string tuple func)
open Go.IntKind (u8 u64 i64)
set_option maxRecDepth 100000
def Za3:Env:={ EB with
 loops:=swI nLa [(2,⟨[(8,.int .i64)],[],[],false⟩)]
 dr:=swI [] [(4,[⟨0,[3],[],none,[],[]⟩,dO 1 [],dO 2 [],dO 3 [1,2],dO 4 [1,2,3],dO 5 [0,1,2,3,4]])]
 frzNew:=[3] }
theorem Za1(p0a:Option Addr)(p0n p0c:Nat)(bN bR bO bW dC dV:Int)(m:Mem)(R:RT)(h:
 lV [int i64 bN,int i64 bR,int i64 bO,int i64 bW,int i64 dC,int i64 dV] λxL=>fzM m xL λb m'=>∃I,inI I [int i64 0] [] [] m'/\∀n m'_1 (n_1:Nat),m'.le m'_1->I [int i64 n] [] [] m'_1 n_1->br (decide
 (n < (↑p0n:Int))) (atA p0a λb_1 o=>Zag n p0n/\∃v v_1 v_2 v_3 v_4 v_5:Value,m'_1.reads b_1 (o+Int.toNat n*6) [v,v_1,v_2,v_3,v_4,v_5]/\∃(b_2:Bool),EqIs pG 66 (agg (.mk xL)) (agg (.mk [v,v_1,v_2,v_3,
 v_4,v_5])) b_2/\br b_2 (rtM m m'_1 R (int i64 n)) (Zae [some (Box.mk b xL 66 6 true true)]/\nxI n_1 I [int i64 (i64.wrap (n+1))] [] [] m'_1)) (rtM m m'_1 R (int i64 (-1)))):CX Tryz.prog 78 #[.slice p0a p0n p0c,.agg #[.int .i64 bN,.int .i64 bR,.int .i64 bO,.int .i64 bW,.int .i64 dC,.int .i64 dV]] m [] R:=
 Zad (E:=Za3) Zam mix Tryz.func78 (by kernel_rfl) (Eq.mp (by kernel_rfl) h)
def ZaV:Env:={ EB with
 frzNew:=[3] }
theorem ZaT(p0a:Option Addr)(p0n p0c:Nat)(bN bR bO bW dC dV:Int)(m:Mem)(R:RT)(h:
 lV [int i64 bN,int i64 bR,int i64 bO,int i64 bW,int i64 dC,int i64 dV] λxL=>fzM m xL λb m'=>kI pG 78 [slice p0a p0n p0c,agg (.mk xL)] m' λn m'=>rtM m m' R (bool (decide (n ≥ 0)))):CX Tryz.prog 52 #[.slice p0a p0n p0c,.agg #[.int .i64 bN,.int .i64 bR,.int .i64 bO,.int .i64 bW,.int .i64 dC,.int .i64 dV]] m [] R:=
 Zad (E:=ZaV) Zam mix Tryz.func52 (by kernel_rfl) (Eq.mp (by kernel_rfl) h)
def ZnO:Env:={ EB with
 loops:=swI nLa [(3,⟨[(5,.slice),(18,.int .i64)],[],[(27,1)],false⟩),(14,⟨[(10,.int .i64),(50,.int .i64)],[],[],false⟩),(17,⟨[(10,.int .i64),(58,.int .i64)],[],[],false⟩)]
 joins:=swI none [(9,some [(44,.bool)])]
 dr:=swI [] [(19,[⟨0,[14],[],none,[],[]⟩,⟨1,[14],[],none,[0],[]⟩,⟨2,[2],[],none,[],[]⟩,⟨3,[2],[],none,[2],[]⟩,dO 4 [],dO 5 [2,3,4],dO 6 [2,3,4,5],dO 7 [2,3,4,5,6],dO 8 [0,1,2,3,4,5,6,7]])]
 tokOf:=swI 0 [(27,27)]
 frzNew:=[2]
 gb:=true }
theorem Zls(aA:Int)(aM:Option Addr)(aK aN:Nat)(aJ:Option Addr)(aI aO:Nat)(p1:Int)(m:Mem)(R:RT)(h:
 lV [int i64 aA,slice aM aK aN,slice aJ aI aO] λxL=>fzM m xL λb m'=>∃I,lE [some (Box.mk b xL 30 3 true true)] λan=>inI I [slice none 0 0,int i64 0] [] [slice none 0 0] m'/\∀a (n:Nat) c
 (ai:Int) bf bg bh ac (ao:Nat),lV [int i64 (i64.wrap (ai+1))] λau=>lX (slice bf bg bh) λyL=>lV [int i64 ai] λav=>lE (n+1) λag=>lX (slice a n c) λah=>lE [some (Tok.mk yL 1)] λaa=>m'.le ac->I
 (ah::av) [] [yL] ac ao->br (decide (ai < (↑aI:Int))) (br (!ai == p1) (∀b,lM (ac.add b av) λmL=>ac.free b->(Tok.mk yL 1=Tok.mk ah 1\/ah=slice none 0 0\/c < ag)/\∃(xs:List Value),∃(ys:List Value),
 xs.length=n*1/\ys.length=1*1/\rowRd mL a xs/\rowRd mL (some (Addr.mk b 0 none)) ys/\(∀(u:Value),u∈ys->u.oneCell'=true)/\ag*8<=140737488355328/\ag<=9223372036854775807/\∀(a':Option Addr) c' m',mL.le
 m'->rowRd m' a' (List.append xs ys)->Zae an/\nxI ao I (slice a' ag c'::au) [] [slice a' ag c'] m') (Zae an/\nxI ao I (ah::au) [] [yL] ac)) (∃R_1,True/\CX pG 25 (.mk [agg (.mk xL),ah]) ac [] R_1/\Za7 (.tup [.agg
 [.int i64,.slice,.slice],.int i64]) R_1/\∀bi a bj c aw aj bk ax m',lV [int i64 bi,slice a bj c,slice aw aj bk] λxL=>ac.le m'->R_1 (tuple (.mk [agg (.mk xL),int i64 ax])) m' []->∀b,∃(ap:Bool),lE (some (Box.mk
 b xL 30 3 false true)::an) λak=>br (!ax == 0) (Zae ak/\aa=aa/\[bool true]=[bool ap]) (Zae ak/\aa=aa/\[bool !(↑aj:Int) == (↑n:Int)]=[bool ap])/\br ap (rtM m m' R (bool false)) (kS pG 12 [agg (.mk xL)]
 m' λa n c m'=>∃I,inI I [int i64 0,int i64 0] [] [] m'/\∀aq ad ae (ay:Nat),m'.le ae->I [int i64 aq,int i64 ad] [] [] ae ay->br (decide (ad < (↑aj:Int))) (atA aw λb o=>Zag ad aj/\∃v ab:Value,ae.reads
 b (o+Int.toNat ad*2) [v,ab]/\∀b,lE (some (Box.mk b [v,ab] 34 2 false true)::ak) λxL=>chk (v.oneCell'&&(ab.oneCell'&&true)) (chk (Za8 ab) (∃al,inI al [int i64 aq,int i64 0] [] [] ae/\∀az (af:Int) m' (ar
 : Nat),lX (int i64 az) λyL=>lV [int i64 (i64.wrap (af+1))] λa0=>ae.le m'->al [yL,int i64 af] [] [] m' ar->br (decide (af < (↑(slN ab):Int))) (chk (Za8 ab) (atA (slA ab) λb o=>Zag af (slN ab)/\∃v a1 a2
 a3 a4 a5 a6 a7 a8 a9 ba bb bc bd am be:Value,m'.reads b (o+Int.toNat af*16) [v,a1,a2,a3,a4,a5,a6,a7,a8,a9,ba,bb,bc,bd,am,be]/\∀(b:Nat),chk (v.oneCell'&&(a1.oneCell'&&(a2.oneCell'&&(a3.oneCell' &&
 (a4.oneCell'&&(a5.oneCell'&&(a6.oneCell'&&(a7.oneCell'&&(a8.oneCell'&&(a9.oneCell'&&(ba.oneCell'&&(bb.oneCell'&&(bc.oneCell'&&(bd.oneCell'&&(am.oneCell'&&(be.oneCell'&&true)))))))))))))))) (atA aJ λb
 o=>Zag p1 aI/\∃(v:Value),m' b (o+Int.toNat p1*2+0)=some v/\chk (Zfm am&&Zfm v) (br (!ByteArray.toList (Zcg am) == ByteArray.toList (Zcg v)) (Zae xL/\aa=aa/\nxI ar al (yL::a0) [] [] m') (kB
 pG 52 [slice a n c,agg (.mk [int i64 (-1),int i64 ad,int i64 af,int i64 (-1),int i64 (-1),int i64 306])] m' λb m'=>br (!b) (rtM m m' R (bool false)) (Zae xL/\aa=aa/\nxI ar al (int i64 (i64.wrap (az+1))::a0)
 [] [] m')))))) (Zae ak/\aa=aa/\nxI ay I [yL,int i64 (i64.wrap (ad+1))] [] [] m')))) (rtM m ae R (bool (aq == (↑n:Int))))))):CX Tryz.prog 19 #[.agg #[.int .i64 aA,.slice aM aK aN,.slice aJ aI aO],.int .i64 p1] m [] R:=
 Zad (E:=ZnO) Zam mix Tryz.func19 (by kernel_rfl) (Eq.mp (by kernel_rfl) h)
end Go.Proofs.YtdopppmkbkkmiaaGreatDoor
end
