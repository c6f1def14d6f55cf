/- Part of the proof: functions of the program. No condition. -/
import Derived.Test.YtdopppmkbkkmiaaGreatDoorPC25N
import Derived.Test.YtdopppmkbkkmiaaGreatDoorPVGM
import Derived.Test.YtdopppmkbkkmiaaGreatDoorMr
import Derived.Test.YtdopppmkbkkmiaaGreatDoorPEnv
import Derived.Test.YtdopppmkbkkmiaaGreatDoorPC25MD
set_option linter.unusedVariables false
set_option linter.unusedSimpArgs false
set_option linter.unusedSectionVars false
namespace Go.Proofs.YtdopppmkbkkmiaaGreatDoor
open Go Go.Eng Go.Rx Go.Proofs Go.RowKit
set_option maxRecDepth 100000
theorem ZtJ(a b c d e a' b' c' d' e':Int):EqIs Tryz.prog 64 (.agg #[.int .i64 a,.int .i64 b,.int .i64 c,.int .i64 d,.int .i64 e]) (.agg #[.int .i64 a',.int .i64 b',.int .i64 c',.int .i64 d',.int .i64 e']) (a == a'&&b == b'&&c == c'&&d == d'&&e == e'):=by
 refine⟨λw=>?_,λop ox oy w=>ZhB (by kernel_rfl) op ox oy _ _ w⟩
 have u3:=Tryz.underlying3
 have a3:=Tryz.isAgg3
 have z3:=Tryz.sizeOf3
 rw[Op.equal,Op.maxDepth,show(10000:Nat)=9999+1 from rfl]
 rw[run_equalIn_agg _ _ _ _ _ (by kernel_rfl) (by kernel_rfl)]
 have hf:(Tryz.prog.fieldsOf 64).toList=[⟨ "Var",3,0,false, "", "",0⟩,⟨ "State",3,1,false, "", "",8⟩,⟨ "Rule",3,2,false, "", "",16⟩,⟨ "Action",3,3,false, "", "",24⟩,⟨ "Part",3,4,false, "", "",32⟩]:=by kernel_rfl
 rw[hf]
 go_simp
 by_cases h1:a=a' <;> by_cases h2:b=b' <;> by_cases h3:c=c' <;> by_cases h4:d=d' <;> by_cases h5:e=e' <;> simp[h1,h2,h3,h4,h5]
theorem ZBw(p:Pl):EqIs Tryz.prog 64 (.agg p.cs.toArray) (.agg p.cs.toArray) true:=by
 have h:=ZtJ p.v p.s p.r p.a p.p p.v p.s p.r p.a p.p
 simp only[beq_self_eq_true,Bool.and_self]at h
 exact h
structure Item where
 s:Sc
 p:Pl
 e:Int
def Item.cs(it:Item):List Value:=it.s.cs++(it.p.cs++[.int .i64 it.e])
structure ItemOk (m:Mem)(it:Item):Prop where
 rep:RepC m it.s
 eq:it.s.check=(it.p,it.e)
theorem Zyy{l:List Item}{i:Nat}{it:Item}(h:l[i]?=some it):List.take 9 (List.drop (i*9) (l.map Item.cs).flatten)=it.cs:=by
 induction l generalizing i with
 | nil=>simp at h
 | cons x l ih=>
  cases i with
  | zero=>
   obtain rfl:x=it:=by simpa using h
   simp only[Nat.zero_mul,List.drop_zero,List.map_cons,List.flatten_cons]
   exact List.take_left' rfl
  | succ i=>
   have h:l[i]?=some it:=by simpa using h
   rw[<-ih h,List.map_cons,List.flatten_cons,show(i+1)*9=x.cs.length+i*9 by show _=9+i*9;omega,<-List.drop_drop]
   rw[List.drop_left]
theorem ZAN{α:Type}{x y:α}(h:x∈[y]):x=y:=by simpa using h
theorem ZCT{cs:List Value}{m:Mem}{b:Nat}(h:m.reads b 0 cs):rowRd m (some ⟨b,0,none⟩) ([cs]).flatten:=.inr ⟨b,0,rfl,by simpa using h⟩
theorem Zcx{n:Int}(h:0<=n/\n<=1000):I64 n:=by unfold I64;omega
theorem ZjX{m:Mem}{k:Int}{t:T}{s go:ByteArray}{code:Int}{b:Nat}{a:Ac}(hk:0<=k/\k < 256)(ht:Rep m t)(hs:s.size<=1000000000000000)(hb:m.reads b 0 a.cs)(ha:RepA m a)(hg:go.size<=1000000000000000)(hc:0<=code/\code<=1000):RepR m ⟨k,false,false,t,s,0,some ⟨b,0,none⟩,1,[a],go,code⟩:=
 ⟨hk,ht,hs,Zcx (n:=0) (by decide),by show 1<=few;decide,ZCT hb,λx hx=>by rw[ZAN hx];exact ha,hg,Zcx hc⟩
theorem ZAO(k:Int)(hk:0<=k/\k < 256)(m:Mem):RepR m (ru0 k):=⟨hk,Zph m,by show ByteArray.size ⟨#[]⟩<=_;decide,Zcx (n:=0) (by decide),by show 0<=few;decide,.inl rfl,λx hx=>by simp[ru0]at hx,by show ByteArray.size ⟨#[]⟩<=_;decide,Zcx (n:=0) (by decide)⟩
def ZsN(l:List Int)(r:Ru):Prop:=∃a1 a2 aa pa pc,r=ZA1 a1 a2 aa pa 1 pc l
def ZD9(r:Ru):Prop:=∃aa pa pc,r=ZC5 aa pa 1 pc [0]
def ZEa(r:Ru):Prop:=r=ru0 4
def ZCU(r:Ru):Prop:=∃aa,r=ZvO aa 1 ZrI
def ZCV(r:Ru):Prop:=∃aa pa,r=ZvO aa 1 (ZyW pa)
def ZEb(r:Ru):Prop:=∃aa pa pc,r=ZvO aa 1 (ZnY pa pc [0])
def ZcQ(a b c d:Int):Value->Mem->List (List Value)->Prop:=Ret (.agg #[.int .i64 (-1),.int .i64 a,.int .i64 b,.int .i64 c,.int .i64 d])
def awF:Fx:=λi _ _=>match i with
 | 0=>Zsf
 | 2=>ZwG [1,2]
 | 4=>ZA3 (ZsN [1,2])
 | 6=>ZcQ 0 0 0 1
 | 8=>Zsf
 | 10=>ZwG [1,0]
 | 12=>ZA3 (ZsN [1,0])
 | 14=>ZcQ (-1) (-1) (-1) (-1)
 | 17=>ZwG [0]
 | 19=>ZA3 ZD9
 | 21=>ZcQ 0 0 (-1) (-1)
 | 24=>ZA3 ZEa
 | 26=>ZcQ 0 0 (-1) (-1)
 | 30=>ZA3 ZCU
 | 32=>ZcQ 0 0 0 (-1)
 | 36=>ZA3 ZCV
 | 38=>ZcQ 0 0 0 (-1)
 | 42=>ZcQ 1 (-1) (-1) (-1)
 | 46=>ZcQ (-1) (-1) (-1) (-1)
 | 50=>ZcQ (-1) (-1) (-1) (-1)
 | 53=>ZwG [0]
 | 55=>ZA3 ZEb
 | 57=>ZcQ 0 0 0 0
 | _=>Zsf
def ZA4:Pt:=⟨1,⟨#[120]⟩,0,E0⟩
set_option maxHeartbeats 6400000 in
theorem Zyz(m:Mem):CX Tryz.prog 6 #[] m [] (Ret (.bool true)):=by
 apply Zjp
 intro b0 yK b1 oh b2 jV
 have l0:m.le (m.add b0 ZrI.cs):=Mem.le_add yK _
 have l1:(m.add b0 ZrI.cs).le ((m.add b0 ZrI.cs).add b1 ZA4.cs):=Mem.le_add oh _
 have l2:((m.add b0 ZrI.cs).add b1 ZA4.cs).le (((m.add b0 ZrI.cs).add b1 ZA4.cs).add b2 (ZyW (some ⟨b1,0,none⟩)).cs):=Mem.le_add jV _
 have x0:(((m.add b0 ZrI.cs).add b1 ZA4.cs).add b2 (ZyW (some ⟨b1,0,none⟩)).cs).reads b0 0 ZrI.cs:=(Zay m b0 _).mono (mLt l1 l2)
 have x1:(((m.add b0 ZrI.cs).add b1 ZA4.cs).add b2 (ZyW (some ⟨b1,0,none⟩)).cs).reads b1 0 ZA4.cs:=(Zay (m.add b0 ZrI.cs) b1 _).mono l2
 have x2:=Zay ((m.add b0 ZrI.cs).add b1 ZA4.cs) b2 (ZyW (some ⟨b1,0,none⟩)).cs
 have aQ:=mLt l0 (mLt l1 l2)
 refine Zaj (Zlz (P:=λr=>r=ru0 3) (ru0 3) rfl (((m.add b0 ZrI.cs).add b1 ZA4.cs).add b2 (ZyW (some ⟨b1,0,none⟩)).cs) (ZAO 3 (by decide) _)) Zd7 ?_
 rintro n a n1 c a1 n2 c1 m1 aB ⟨va,sa,ra,r,rfl,hv,hC⟩
 simp only[Zht,Sc.v,ZiH,Value.agg.injEq,Array.mk.injEq,List.cons.injEq,Value.int.injEq,Value.slice.injEq,true_and,and_true,List.length_cons,List.length_nil]at hv
 obtain⟨rfl,⟨rfl,rfl,rfl⟩,rfl,rfl,rfl⟩:=hv
 intro b3 b4 gU
 have l4:m1.le (m1.add b4 (Sta.cs ⟨⟨#[97]⟩,none,0,[]⟩)):=Mem.le_add gU _
 refine⟨.inr (by decide),(List.map Sta.cs [⟨⟨#[97]⟩,ra,1,[ru0 3]⟩]).flatten,Sta.cs ⟨⟨#[97]⟩,none,0,[]⟩,rfl,rfl,hC.row.mono l4,.inr ⟨b4,0,rfl,Zay m1 b4 _⟩,?_,by decide,by decide,λa' c' m2 aO ic cL=>?_⟩
 ·intro u hu
  simp only[Sta.cs,List.mem_cons,List.not_mem_nil,or_false]at hu
  rcases hu with rfl|rfl <;> rfl
 have l12:=mLt l4 aO
 have ml:=hC.mono l12
 have h7:RepC m2 (ZC6 a a' ra c'):=⟨ml.n,ml.vlen,ml.vrow,ml.vall,by show 2<=few;decide,ic,λx hx=>by
  simp only[ZC6,List.mem_cons,List.not_mem_nil,or_false]at hx
  rcases hx with rfl|rfl
  ·exact ml.all _ (by simp[Zht])
  ·exact⟨by show ByteArray.size ⟨#[97]⟩<=_;decide,by show 0<=few;decide,.inl rfl,λz hz=>by simp at hz⟩,ml.vcap,cL⟩
 have uR:=mLt aQ (mLt aB l12)
 have l32:=mLt aB l12
 have y0:=x0.mono l32
 have y1:=x1.mono l32
 have y2:=x2.mono l32
 have rA0:∀M,RepA M ZrI:=λM=>⟨by show(0:Int)<=3/\(3:Int) < 256;decide,by show ByteArray.size ⟨#[110]⟩<=_;decide,by show 0<=few;decide,.inl rfl,λp hp=>by simp[ZrI]at hp,by simp only[ZrI,RepE];exact⟨by simp,.inl trivial,by constructor <;> decide⟩⟩
 have rA2:∀M,m2.le M->RepA M (ZyW (some ⟨b1,0,none⟩)):=λM hM=>⟨by show(0:Int)<=2/\(2:Int) < 256;decide,by show ByteArray.size ⟨#[110]⟩<=_;decide,by show 1<=few;decide,ZCT (y1.mono hM),λp hp=>by
  obtain rfl:p=ZA4:=ZAN hp
  exact⟨by show(0:Int)<=1/\(1:Int) < 256;decide,by show ByteArray.size ⟨#[120]⟩<=_;decide,Zcx (n:=0) (by decide),ZqV M⟩,ZqV M⟩
 refine⟨awF,?_⟩
 have g0:m2.le m2:=Mem.le_refl _
 refine⟨_,rfl,ZtI m2,Zmz,?_⟩
 rintro z0_0 z0_1 z0_2 z0_3 z0_4 z0_5 z0_6 z0_7 z0_8 z0_9 z0_10 z0_11 k0 oV ⟨a1k0,a2k0,hv,rrk0⟩
 simp only[ZDx,rxT,T.k,T.s0,T.s1,T.s2,T.s3,T.mn,T.mx,T.a,T.c,T.subs,Value.agg.injEq,Array.mk.injEq,List.cons.injEq,Value.bool.injEq,Value.int.injEq,Value.slice.injEq,true_and,and_true,List.length_cons,List.length_nil]at hv
 obtain⟨rfl,rfl,rfl,rfl,rfl,rfl,rfl,rfl,rfl,rfl,rfl,rfl⟩:=hv
 have gk0:m2.le k0:=mLt g0 oV
 intro bk2 fk2 Vk2 uk2 vk2 wk2
 have gV2:m2.le Vk2:=uk2
 refine⟨_,rfl,ZqK [(1:Int),(2:Int)] _ _ _ (by decide) (λn hn=>Zcx (by simp only[List.mem_cons,List.not_mem_nil,or_false]at hn;omega)) (.inr ⟨_,0,rfl,(Zay m2 _ _).mono wk2⟩),Zic,?_⟩
 rintro z2_0 z2_1 z2_2 k2 iN ⟨pak2,pck2,sbk2,hv,srk2,rrk2⟩
 simp only[Value.slice.injEq]at hv
 obtain⟨rfl,rfl,rfl⟩:=hv
 have gk2:m2.le k2:=mLt gV2 iN
 refine⟨_,rfl,Zlz (P:=ZsN [1,2]) (ZA1 a1k0 z0_9 (some ⟨sbk2,0,none⟩) pak2 1 pck2 [1,2]) ⟨_,_,_,_,_,rfl⟩ k2 (ZjX (by decide) (rrk0.mono (mLt vk2 iN)) (by decide) srk2 rrk2 (by decide) (by decide)),Zd7,?_⟩
 rintro z4_0 z4_1 z4_2 z4_3 z4_4 z4_5 z4_6 k4 qg ⟨vak4,sak4,rak4,ruk4,uS,hv,rck4⟩
 simp only[Zht,Sc.v,ZiH,Value.agg.injEq,Array.mk.injEq,List.cons.injEq,Value.int.injEq,Value.slice.injEq,true_and,and_true,List.length_cons,List.length_nil]at hv
 obtain⟨rfl,⟨rfl,rfl,rfl⟩,rfl,rfl,rfl⟩:=hv
 have gk4:m2.le k4:=mLt gk2 qg
 refine⟨_,rfl,Zdp _ _ _ _ k4,(λv _ _ e=>by rw[show v=_ from e];rfl),?_⟩
 rintro z6_0 z6_1 z6_2 z6_3 z6_4 k6 yM hv
 simp only[awF,ZcQ,Ret,Value.agg.injEq,Array.mk.injEq,List.cons.injEq,Value.int.injEq,and_true,true_and]at hv
 obtain⟨rfl,rfl,rfl,rfl,rfl⟩:=hv
 have gk6:m2.le k6:=mLt gk4 yM
 refine⟨_,rfl,ZtI k6,Zmz,?_⟩
 rintro z8_0 z8_1 z8_2 z8_3 z8_4 z8_5 z8_6 z8_7 z8_8 z8_9 z8_10 z8_11 k8 qM ⟨a1k8,a2k8,hv,rrk8⟩
 simp only[ZDx,rxT,T.k,T.s0,T.s1,T.s2,T.s3,T.mn,T.mx,T.a,T.c,T.subs,Value.agg.injEq,Array.mk.injEq,List.cons.injEq,Value.bool.injEq,Value.int.injEq,Value.slice.injEq,true_and,and_true,List.length_cons,List.length_nil]at hv
 obtain⟨rfl,rfl,rfl,rfl,rfl,rfl,rfl,rfl,rfl,rfl,rfl,rfl⟩:=hv
 have gk8:m2.le k8:=mLt gk6 qM
 intro bk10 fk10 Vk10 uk10 vk10 wk10
 have gV10:m2.le Vk10:=uk10
 refine⟨_,rfl,ZqK [(1:Int),(0:Int)] _ _ _ (by decide) (λn hn=>Zcx (by simp only[List.mem_cons,List.not_mem_nil,or_false]at hn;omega)) (.inr ⟨_,0,rfl,(Zay m2 _ _).mono wk10⟩),Zic,?_⟩
 rintro z10_0 z10_1 z10_2 k10 rF ⟨pak10,pck10,sbk10,hv,srk10,rrk10⟩
 simp only[Value.slice.injEq]at hv
 obtain⟨rfl,rfl,rfl⟩:=hv
 have gk10:m2.le k10:=mLt gV10 rF
 refine⟨_,rfl,Zlz (P:=ZsN [1,0]) (ZA1 a1k8 z8_9 (some ⟨sbk10,0,none⟩) pak10 1 pck10 [1,0]) ⟨_,_,_,_,_,rfl⟩ k10 (ZjX (by decide) (rrk8.mono (mLt vk10 rF)) (by decide) srk10 rrk10 (by decide) (by decide)),Zd7,?_⟩
 rintro z12_0 z12_1 z12_2 z12_3 z12_4 z12_5 z12_6 k12 uT ⟨vak12,sak12,rak12,ruk12,rG,hv,rck12⟩
 simp only[Zht,Sc.v,ZiH,Value.agg.injEq,Array.mk.injEq,List.cons.injEq,Value.int.injEq,Value.slice.injEq,true_and,and_true,List.length_cons,List.length_nil]at hv
 obtain⟨rfl,⟨rfl,rfl,rfl⟩,rfl,rfl,rfl⟩:=hv
 have gk12:m2.le k12:=mLt gk10 uT
 refine⟨_,rfl,Zdp _ _ _ _ k12,(λv _ _ e=>by rw[show v=_ from e];rfl),?_⟩
 rintro z14_0 z14_1 z14_2 z14_3 z14_4 k14 uU hv
 simp only[awF,ZcQ,Ret,Value.agg.injEq,Array.mk.injEq,List.cons.injEq,Value.int.injEq,and_true,true_and]at hv
 obtain⟨rfl,rfl,rfl,rfl,rfl⟩:=hv
 have gk14:m2.le k14:=mLt gk12 uU
 intro bk17 fk17 Vk17 uk17 vk17 wk17
 have gV17:m2.le Vk17:=uk17
 refine⟨_,rfl,ZqK [(0:Int)] _ _ _ (by decide) (λn hn=>Zcx (by simp only[List.mem_cons,List.not_mem_nil,or_false]at hn;omega)) (.inr ⟨_,0,rfl,(Zay m2 _ _).mono wk17⟩),Zic,?_⟩
 rintro z17_0 z17_1 z17_2 k17 uV ⟨pak17,pck17,sbk17,hv,srk17,rrk17⟩
 simp only[Value.slice.injEq]at hv
 obtain⟨rfl,rfl,rfl⟩:=hv
 have gk17:m2.le k17:=mLt gV17 uV
 refine⟨_,rfl,Zlz (P:=ZD9) (ZC5 (some ⟨sbk17,0,none⟩) pak17 1 pck17 [0]) ⟨_,_,_,rfl⟩ k17 (ZjX (by decide) (Zph _) (by decide) srk17 rrk17 (by decide) (by decide)),Zd7,?_⟩
 rintro z19_0 z19_1 z19_2 z19_3 z19_4 z19_5 z19_6 k19 uW ⟨vak19,sak19,rak19,ruk19,rH,hv,rck19⟩
 simp only[Zht,Sc.v,ZiH,Value.agg.injEq,Array.mk.injEq,List.cons.injEq,Value.int.injEq,Value.slice.injEq,true_and,and_true,List.length_cons,List.length_nil]at hv
 obtain⟨rfl,⟨rfl,rfl,rfl⟩,rfl,rfl,rfl⟩:=hv
 have gk19:m2.le k19:=mLt gk17 uW
 refine⟨_,rfl,Zdp _ _ _ _ k19,(λv _ _ e=>by rw[show v=_ from e];rfl),?_⟩
 rintro z21_0 z21_1 z21_2 z21_3 z21_4 k21 uX hv
 simp only[awF,ZcQ,Ret,Value.agg.injEq,Array.mk.injEq,List.cons.injEq,Value.int.injEq,and_true,true_and]at hv
 obtain⟨rfl,rfl,rfl,rfl,rfl⟩:=hv
 have gk21:m2.le k21:=mLt gk19 uX
 refine⟨_,rfl,Zlz (P:=ZEa) (ru0 4) rfl k21 (ZAO 4 (by decide) _),Zd7,?_⟩
 rintro z24_0 z24_1 z24_2 z24_3 z24_4 z24_5 z24_6 k24 uY ⟨vak24,sak24,rak24,ruk24,rI,hv,rck24⟩
 simp only[Zht,Sc.v,ZiH,Value.agg.injEq,Array.mk.injEq,List.cons.injEq,Value.int.injEq,Value.slice.injEq,true_and,and_true,List.length_cons,List.length_nil]at hv
 obtain⟨rfl,⟨rfl,rfl,rfl⟩,rfl,rfl,rfl⟩:=hv
 have gk24:m2.le k24:=mLt gk21 uY
 refine⟨_,rfl,Zdp _ _ _ _ k24,(λv _ _ e=>by rw[show v=_ from e];rfl),?_⟩
 rintro z26_0 z26_1 z26_2 z26_3 z26_4 k26 uZ hv
 simp only[awF,ZcQ,Ret,Value.agg.injEq,Array.mk.injEq,List.cons.injEq,Value.int.injEq,and_true,true_and]at hv
 obtain⟨rfl,rfl,rfl,rfl,rfl⟩:=hv
 have gk26:m2.le k26:=mLt gk24 uZ
 refine⟨_,rfl,Zlz (P:=ZCU) (ZvO (some ⟨b0,0,none⟩) 1 ZrI) ⟨_,rfl⟩ k26 (ZjX (by decide) (Zph _) (by decide) (y0.mono gk26) (rA0 _) (by decide) (by decide)),Zd7,?_⟩
 rintro z30_0 z30_1 z30_2 z30_3 z30_4 z30_5 z30_6 k30 u2 ⟨vak30,sak30,rak30,ruk30,rJ,hv,rck30⟩
 simp only[Zht,Sc.v,ZiH,Value.agg.injEq,Array.mk.injEq,List.cons.injEq,Value.int.injEq,Value.slice.injEq,true_and,and_true,List.length_cons,List.length_nil]at hv
 obtain⟨rfl,⟨rfl,rfl,rfl⟩,rfl,rfl,rfl⟩:=hv
 have gk30:m2.le k30:=mLt gk26 u2
 refine⟨_,rfl,Zdp _ _ _ _ k30,(λv _ _ e=>by rw[show v=_ from e];rfl),?_⟩
 rintro z32_0 z32_1 z32_2 z32_3 z32_4 k32 u4 hv
 simp only[awF,ZcQ,Ret,Value.agg.injEq,Array.mk.injEq,List.cons.injEq,Value.int.injEq,and_true,true_and]at hv
 obtain⟨rfl,rfl,rfl,rfl,rfl⟩:=hv
 have gk32:m2.le k32:=mLt gk30 u4
 refine⟨_,rfl,Zlz (P:=ZCV) (ZvO (some ⟨b2,0,none⟩) 1 (ZyW (some ⟨b1,0,none⟩))) ⟨_,_,rfl⟩ k32 (ZjX (by decide) (Zph _) (by decide) (y2.mono gk32) (rA2 _ gk32) (by decide) (by decide)),Zd7,?_⟩
 rintro z36_0 z36_1 z36_2 z36_3 z36_4 z36_5 z36_6 k36 u5 ⟨vak36,sak36,rak36,ruk36,rK,hv,rck36⟩
 simp only[Zht,Sc.v,ZiH,Value.agg.injEq,Array.mk.injEq,List.cons.injEq,Value.int.injEq,Value.slice.injEq,true_and,and_true,List.length_cons,List.length_nil]at hv
 obtain⟨rfl,⟨rfl,rfl,rfl⟩,rfl,rfl,rfl⟩:=hv
 have gk36:m2.le k36:=mLt gk32 u5
 refine⟨_,rfl,Zdp _ _ _ _ k36,(λv _ _ e=>by rw[show v=_ from e];rfl),?_⟩
 rintro z38_0 z38_1 z38_2 z38_3 z38_4 k38 u6 hv
 simp only[awF,ZcQ,Ret,Value.agg.injEq,Array.mk.injEq,List.cons.injEq,Value.int.injEq,and_true,true_and]at hv
 obtain⟨rfl,rfl,rfl,rfl,rfl⟩:=hv
 have gk38:m2.le k38:=mLt gk36 u6
 refine⟨_,rfl,Zdp _ _ _ _ k38,(λv _ _ e=>by rw[show v=_ from e];rfl),?_⟩
 rintro z42_0 z42_1 z42_2 z42_3 z42_4 k42 u9 hv
 simp only[awF,ZcQ,Ret,Value.agg.injEq,Array.mk.injEq,List.cons.injEq,Value.int.injEq,and_true,true_and]at hv
 obtain⟨rfl,rfl,rfl,rfl,rfl⟩:=hv
 have gk42:m2.le k42:=mLt gk38 u9
 refine⟨_,rfl,Zdp _ _ _ _ k42,(λv _ _ e=>by rw[show v=_ from e];rfl),?_⟩
 rintro z46_0 z46_1 z46_2 z46_3 z46_4 k46 vb hv
 simp only[awF,ZcQ,Ret,Value.agg.injEq,Array.mk.injEq,List.cons.injEq,Value.int.injEq,and_true,true_and]at hv
 obtain⟨rfl,rfl,rfl,rfl,rfl⟩:=hv
 have gk46:m2.le k46:=mLt gk42 vb
 refine⟨_,rfl,Zdp _ _ _ _ k46,(λv _ _ e=>by rw[show v=_ from e];rfl),?_⟩
 rintro z50_0 z50_1 z50_2 z50_3 z50_4 k50 ve hv
 simp only[awF,ZcQ,Ret,Value.agg.injEq,Array.mk.injEq,List.cons.injEq,Value.int.injEq,and_true,true_and]at hv
 obtain⟨rfl,rfl,rfl,rfl,rfl⟩:=hv
 have gk50:m2.le k50:=mLt gk46 ve
 intro bk53 fk53 Vk53 uk53 vk53 wk53
 have gV53:m2.le Vk53:=uk53
 refine⟨_,rfl,ZqK [(0:Int)] _ _ _ (by decide) (λn hn=>Zcx (by simp only[List.mem_cons,List.not_mem_nil,or_false]at hn;omega)) (.inr ⟨_,0,rfl,(Zay m2 _ _).mono wk53⟩),Zic,?_⟩
 rintro z53_0 z53_1 z53_2 k53 vg ⟨pak53,pck53,sbk53,hv,srk53,rrk53⟩
 simp only[Value.slice.injEq]at hv
 obtain⟨rfl,rfl,rfl⟩:=hv
 have gk53:m2.le k53:=mLt gV53 vg
 refine⟨_,rfl,Zlz (P:=ZEb) (ZvO (some ⟨sbk53,0,none⟩) 1 (ZnY pak53 pck53 [0])) ⟨_,_,_,rfl⟩ k53 (ZjX (by decide) (Zph _) (by decide) srk53 rrk53 (by decide) (by decide)),Zd7,?_⟩
 rintro z55_0 z55_1 z55_2 z55_3 z55_4 z55_5 z55_6 k55 vh ⟨vak55,sak55,rak55,ruk55,rL,hv,rck55⟩
 simp only[Zht,Sc.v,ZiH,Value.agg.injEq,Array.mk.injEq,List.cons.injEq,Value.int.injEq,Value.slice.injEq,true_and,and_true,List.length_cons,List.length_nil]at hv
 obtain⟨rfl,⟨rfl,rfl,rfl⟩,rfl,rfl,rfl⟩:=hv
 have gk55:m2.le k55:=mLt gk53 vh
 refine⟨_,rfl,Zdp _ _ _ _ k55,(λv _ _ e=>by rw[show v=_ from e];rfl),?_⟩
 rintro z57_0 z57_1 z57_2 z57_3 z57_4 k57 vj hv
 simp only[awF,ZcQ,Ret,Value.agg.injEq,Array.mk.injEq,List.cons.injEq,Value.int.injEq,and_true,true_and]at hv
 obtain⟨rfl,rfl,rfl,rfl,rfl⟩:=hv
 have gk57:m2.le k57:=mLt gk55 vj
 intro bT fT M
 intro e0 e1 e2 e3 e4 e5 e6 e7 e8 e9 e10 e11 e12 e13 e14 e15 e16 e17 e18 e19 e20 e21 e22 e23 e24 e25 e26 e27 e28
 have hM:m.le M:=mLt uR (mLt gk57 (by assumption))
 have gM:m2.le M:=mLt gk57 (by assumption)
 have q4:=rck4.mono (show Mem.le k4 M by assumption)
 have q12:=rck12.mono (show Mem.le k12 M by assumption)
 have q19:=rck19.mono (show Mem.le k19 M by assumption)
 have q24:=rck24.mono (show Mem.le k24 M by assumption)
 have q30:=rck30.mono (show Mem.le k30 M by assumption)
 have q36:=rck36.mono (show Mem.le k36 M by assumption)
 have q55:=rck55.mono (show Mem.le k55 M by assumption)
 obtain⟨a1_4,a2_4,aa_4,pa_4,pc_4,rfl⟩:=uS
 obtain⟨b1x_12,b2x_12,bb_12,pb_12,pd_12,rfl⟩:=rG
 obtain⟨ac_19,pe_19,pf_19,rfl⟩:=rH
 obtain rfl:=rI
 obtain⟨ad_30,rfl⟩:=rJ
 obtain⟨ae_36,pg_36,rfl⟩:=rK
 obtain⟨af_55,ph_55,pi_55,rfl⟩:=rL
 have ZDh:∀n:Int,0<=n/\n<=1000->RepC M (ZqW n):=λn hn=>⟨Zcx hn,by show 0<=few;decide,.inl rfl,λv hv=>by simp[ZqW]at hv,by show 0<=few;decide,.inl rfl,λv hv=>by simp[ZqW]at hv,Nat.le_refl 0,Nat.le_refl 0⟩
 have i0:ItemOk M ⟨Zht z4_1 z4_4 rak4 (ZA1 a1_4 a2_4 aa_4 pa_4 1 pc_4 [1,2]),⟨-1,0,0,0,1⟩,309⟩:=⟨q4,ex1 _ _ _ _ _ _ _ _ _⟩
 have i1:ItemOk M ⟨Zht z12_1 z12_4 rak12 (ZA1 b1x_12 b2x_12 bb_12 pb_12 1 pd_12 [1,0]),⟨-1,-1,-1,-1,-1⟩,0⟩:=⟨q12,ex2 _ _ _ _ _ _ _ _ _⟩
 have i2:ItemOk M ⟨Zht z19_1 z19_4 rak19 (ZC5 ac_19 pe_19 1 pf_19 [0]),⟨-1,0,0,-1,-1⟩,306⟩:=⟨q19,ex3 _ _ _ _ _ _ _⟩
 have i3:ItemOk M ⟨Zht z24_1 z24_4 rak24 (ru0 4),⟨-1,0,0,-1,-1⟩,304⟩:=⟨q24,ex4 _ _ _⟩
 have i4:ItemOk M ⟨Zht z30_1 z30_4 rak30 (ZvO ad_30 1 ZrI),⟨-1,0,0,0,-1⟩,308⟩:=⟨q30,ex5 _ _ _ _ _⟩
 have i5:ItemOk M ⟨Zht z36_1 z36_4 rak36 (ZvO ae_36 1 (ZyW pg_36)),⟨-1,0,0,0,-1⟩,308⟩:=⟨q36,ex6 _ _ _ _ _ _⟩
 have i6:ItemOk M ⟨ZC6 a a' ra c',⟨-1,1,-1,-1,-1⟩,303⟩:=⟨h7.mono gM,ex7 _ _ _ _⟩
 have i7:ItemOk M ⟨ZqW 9,⟨-1,-1,-1,-1,-1⟩,302⟩:=⟨ZDh 9 (by decide),ex8⟩
 have i8:ItemOk M ⟨ZqW 1,⟨-1,-1,-1,-1,-1⟩,300⟩:=⟨ZDh 1 (by decide),ex9⟩
 have i9:ItemOk M ⟨Zht z55_1 z55_4 rak55 (ZvO af_55 1 (ZnY ph_55 pi_55 [0])),⟨-1,0,0,0,0⟩,309⟩:=⟨q55,ZEl _ _ _ _ _ _ _⟩
 obtain⟨L,hL⟩:∃L:List Item,L=[⟨Zht z4_1 z4_4 rak4 (ZA1 a1_4 a2_4 aa_4 pa_4 1 pc_4 [1,2]),⟨-1,0,0,0,1⟩,309⟩,⟨Zht z12_1 z12_4 rak12 (ZA1 b1x_12 b2x_12 bb_12 pb_12 1 pd_12 [1,0]),⟨-1,-1,-1,-1,-1⟩,0⟩,⟨Zht z19_1 z19_4 rak19 (ZC5 ac_19 pe_19 1 pf_19 [0]),⟨-1,0,0,-1,-1⟩,306⟩,⟨Zht z24_1 z24_4 rak24 (ru0 4),⟨-1,0,0,-1,-1⟩,304⟩,⟨Zht z30_1 z30_4 rak30 (ZvO ad_30 1 ZrI),⟨-1,0,0,0,-1⟩,308⟩,⟨Zht z36_1 z36_4 rak36 (ZvO ae_36 1 (ZyW pg_36)),⟨-1,0,0,0,-1⟩,308⟩,⟨ZC6 a a' ra c',⟨-1,1,-1,-1,-1⟩,303⟩,⟨ZqW 9,⟨-1,-1,-1,-1,-1⟩,302⟩,⟨ZqW 1,⟨-1,-1,-1,-1,-1⟩,300⟩,⟨Zht z55_1 z55_4 rak55 (ZvO af_55 1 (ZnY ph_55 pi_55 [0])),⟨-1,0,0,0,0⟩,309⟩]:=⟨_,rfl⟩
 have zQ:L.length=10:=by rw[hL];rfl
 have bQ:∀it∈L,ItemOk M it:=λit pX=>by
  rw[hL]at pX
  simp only[List.mem_cons,List.not_mem_nil,or_false]at pX
  rcases pX with rfl|rfl|rfl|rfl|rfl|rfl|rfl|rfl|rfl|rfl
  ·exact i0
  ·exact i1
  ·exact i2
  ·exact i3
  ·exact i4
  ·exact i5
  ·exact i6
  ·exact i7
  ·exact i8
  ·exact i9
 have aC:∀(i:Nat)(it:Item),L[i]?=some it->∀TB:List Value,TB=(L.map Item.cs).flatten->List.take 9 (List.drop (Int.toNat (i:Int)*9) TB)=it.cs:=λi it h TB hT=>by rw[hT,zA8];exact Zyy h
 refine⟨λxs _ _ _ q=>∃i:Nat,i<=10/\xs=[.int .i64 i]/\q=10 - i,⟨10,0,by omega,rfl,rfl⟩,?_⟩
 rintro y m' q hm' ⟨i,hi,hx,rfl⟩
 simp only[List.cons.injEq,Value.int.injEq,and_true,true_and]at hx
 subst hx
 have gE:=mLt hM hm'
 refine Zax (λaH=>?_) (λbL=>?_)
 ·have aH:(i:Int) < (10:Nat):=aH
  obtain⟨it,pX⟩:=Zcq (show i < L.length by omega)
  have cD:=bQ it (zA2 pX)
  rw[aC i it pX]
  rotate_left
  ·rw[hL];rfl
  refine⟨⟨by omega,by omega⟩,Zaa (by rw[Nat.ble_eq];rw[zA8];show i*9<=81;omega) λb14=>Zaa (by rfl) (Zaa (by rfl) ?_)⟩
  refine Zaj (Zib it.s m' (cD.rep.mono hm')) (λv _ _ e=>by rw[show v=_ from e];rfl) ?_
  rintro n96 n97 n98 n99 n100 n101 m3 aQ hv
  rw[cD.eq]at hv
  have hv:Value.tuple #[.agg #[.int .i64 n96,.int .i64 n97,.int .i64 n98,.int .i64 n99,.int .i64 n100],.int .i64 n101]=Value.tuple #[.agg it.p.cs.toArray,.int .i64 it.e]:=hv
  simp only[Pl.cs,Value.tuple.injEq,Value.agg.injEq,Array.mk.injEq,List.cons.injEq,Value.int.injEq,and_true,true_and]at hv
  obtain⟨⟨rfl,rfl,rfl,rfl,rfl⟩,rfl⟩:=hv
  intro b15
  refine⟨false,Zaa (by rfl) ⟨true,ZBw it.p,ZcF rfl (Zap (v:=.int .i64 it.e) rfl (Zaa rfl (ZcF (by show(!(it.e == it.e))=false;simp) (Zaa (by rfl) (Zah (ZfS it.s m3 (cD.rep.mono (mLt hm' aQ))) λm4 bN=>⟨by trivial,rfl,Zag ?_⟩)))))⟩,ZcF rfl ⟨by trivial,rfl,10 - (i+1),by omega,i+1,by omega,?_,rfl⟩⟩
  ·rw[cD.eq]
   show(!((it.e == 0) == (it.e == 0)))=false
   simp
  ·rw[Zam (by omega) (by omega)];rfl
 ·refine Zaj (ZAK 306 m') (λv _ _ e=>by rw[show v=_ from e];rfl) ?_
  rintro s m3 aQ hs
  obtain rfl:s=ZwF 306:=by simpa[Ret]using hs
  exact Zac (mLt gE aQ) (by show Value.bool _=Value.bool true;kernel_rfl)
theorem ZCk(p q:Pl):EqIs Tryz.prog 64 (.agg p.cs.toArray) (.agg q.cs.toArray) (decide (p=q)):=by
 have h:=ZtJ p.v p.s p.r p.a p.p q.v q.s q.r q.a q.p
 have e:(p.v == q.v&&p.s == q.s&&p.r == q.r&&p.a == q.a&&p.p == q.p)=decide (p=q):=by
  by_cases mt:p=q
  ·subst mt;simp
  ·rw[decide_eq_false mt,Bool.eq_false_iff]
   intro h
   simp only[zA7,beq_iff_eq]at h
   obtain⟨⟨⟨⟨h1,h2⟩,h3⟩,h4⟩,h5⟩:=h
   apply mt
   cases p;cases q
   simp only at h1 h2 h3 h4 h5
   subst h1 h2 h3 h4 h5;rfl
 rw[e]at h;exact h
def ZyA(p:Pl)(l:List Pl):Bool:=l.any λq=>decide (p=q)
theorem ZlA{p:Pl}{l:List Pl}:ZyA p l=true↔p∈l:=by
 unfold ZyA;rw[List.any_eq_true]
 exact⟨λ⟨q,h1,h2⟩=>by rw[zA6 h2];exact h1,λh=>⟨p,h,decide_eq_true rfl⟩⟩
theorem Zsg(l:List Pl)(a:Option Addr)(c:Nat)(p:Pl)(m:Mem)(hl:l.length<=1000000000000000)(hr:rowRd m a (l.map Pl.cs).flatten):
  CX Tryz.prog 51 #[.slice a l.length c,.agg p.cs.toArray] m [] (Ret (.int .i64 (if ZyA p l then(l.findIdx (λq=>decide (p=q)):Nat)else(-1:Int)))):=by
 apply Zbv a l.length c
 intro b m1 aB _
 refine⟨λxs _ _ m'' q=>∃i:Nat,i<=l.length/\xs=[.int .i64 i]/\(∀x∈l.take i,¬p=x)/\q=l.length - i,⟨l.length,0,by omega,rfl,by simp,by omega⟩,?_⟩
 rintro n m2 q aO ⟨i,hi,hn,eT,hq⟩
 obtain rfl:n=i:=by simpa using hn
 have hm:=mLt aB aO
 refine Zab (λaH=>?_) (λbL=>?_)
 ·have aS:i < l.length:=by simpa using aH
  obtain⟨x,hx⟩:=Zcq aS
  have bO:x∈l:=zA2 hx
  obtain⟨b1,o1,ha,eA⟩:=Zan (cs:=Pl.cs) (n:=5) (λ_=>rfl) (hr.mono hm) hx (by omega)
  refine⟨b1,o1,ha,⟨by omega,by omega⟩,_,_,_,_,_,eA,decide (p=x),ZCk p x,Zax (λeS=>?_) (λeS=>?_)⟩
  ·refine Zac hm ?_
   have dT:ZyA p l=true:=ZlA.2 (eS ▸ bO)
   have eY:l.findIdx (λq=>decide (p=q))=i:=by
    rw[List.findIdx_eq aS]
    refine⟨by rw[(zA0 hx).2];exact decide_eq_true eS,λj hj=>?_⟩
    exact decide_eq_false (eT _ (List.mem_of_getElem? (i:=j) (by rw[List.getElem?_take_of_lt hj];exact zA3 (by omega))))
   simp[Ret,dT,eY]
  ·refine⟨rfl,l.length - (i+1),by omega,i+1,by omega,by rw[Zam (by omega) (by omega)];rfl,?_,rfl⟩
   intro y hy
   rw[List.take_add_one,hx]at hy
   rcases List.mem_append.1 hy with hy|hy
   ·exact eT y hy
   ·simp at hy;rw[hy];exact eS
 ·have hi':i=l.length:=by
   have:¬((i:Int) < (l.length:Int)):=by simpa using bL
   omega
  subst hi'
  refine Zac hm ?_
  rw[List.take_length]at eT
  have dT:ZyA p l=false:=by
   rw[Bool.eq_false_iff];intro h;exact eT p (ZlA.1 h) rfl
  simp[Ret,dT]
theorem ZvA(l:List Pl)(a:Option Addr)(c:Nat)(p:Pl)(m:Mem)(hl:l.length<=1000000000000000)(hr:rowRd m a (l.map Pl.cs).flatten):
  CX Tryz.prog 18 #[.slice a l.length c,.agg p.cs.toArray] m [] (Ret (.bool (ZyA p l))):=by
 apply Zba a l.length c
 intro b m1 aB _
 refine ZaB (Zsg l a c p m1 hl (hr.mono aB)) λm' hm=>Zac (mLt aB hm) ?_
 cases h:ZyA p l <;> simp[Ret]
def ZqZ(z:Pl×Int):List Value:=[.int .i64 z.1.v,.int .i64 z.1.s,.int .i64 z.1.r,.int .i64 z.1.a,.int .i64 z.1.p,.int .i64 z.2]
theorem ZvB(L:List (Pl×Int)):(L.map ZqZ).flatten.length=L.length*6:=by
 induction L with
 | nil=>rfl
 | cons x l ih=>rw[List.map_cons,List.flatten_cons,zA1,ih,List.length_cons,Nat.succ_mul];show 6+_=_;omega
theorem ZvC(s:Sc):s.problems.length<=20001:=by
 have h1:=Zfx s
 have h2:s.problems.length<=s.places.length:=List.length_filterMap_le _ _
 omega
def PrR(L:List (Pl×Int)):Value->Mem->List (List Value)->Prop:=λv m' _=>∃a c,v=.slice a L.length c/\rowRd m' a (L.map ZqZ).flatten
theorem ZtK{L}:∀(v:Value)(m':Mem) (css:List (List Value)),PrR L v m' css->Shape.fits .slice v=true:=λv _ _ ⟨_,_,e,_⟩=>by rw[e];rfl
theorem ZqL(L:List (Pl×Int))(g:Nat)(fi ca:List Value)(m:Mem)(hL:L.length<=20001)(hI:IX Tryz.prog g fi ca m (L.map λz=>[Zn0 z])):
  CX Tryz.prog 70 #[.slice none 0 0,.func (.func g) fi.toArray ca.toArray] m [] (PrR L):=by
 apply ZaQ
 intro b
 refine⟨_,hI,λy hy=>?_,λ_ css tks m' q=>q<=L.length/\∃a c,css=[[.slice a q c]]/\tks=[.slice a q c]/\rowRd m' a ((L.take q).map ZqZ).flatten,⟨by omega,none,0,rfl,rfl,.inl rfl⟩,?_,?_⟩
 ·obtain⟨z,_,rfl⟩:=List.mem_map.1 hy;rfl
 ·rintro n n1 n2 n3 n4 n5 cs a n6 c m1 q aB hq ⟨sq,a',c',cF,ht,hr⟩ b1
  obtain rfl:cs=[.slice a' q c']:=by simpa using cF
  simp only[List.cons.injEq,Value.slice.injEq,and_true]at ht
  obtain⟨e1,e2,e3⟩:=ht
  subst a n6 c
  have hq:(L.map λz=>[Zn0 z])[(q:Nat)]?=some [Value.agg #[.int .i64 n,.int .i64 n1,.int .i64 n2,.int .i64 n3,.int .i64 n4,.int .i64 n5]]:=hq
  rw[List.getElem?_map]at hq
  obtain⟨z,hz,jc⟩:=Option.map_eq_some_iff.1 hq
  simp only[Zn0,List.cons.injEq,Value.agg.injEq,Array.mk.injEq,Value.int.injEq,true_and,and_true]at jc
  obtain⟨rfl,rfl,rfl,rfl,rfl,rfl⟩:=jc
  have aH:=(zA0 hz).1
  refine Zap (v:=.slice a' q c') rfl λb2 jV=>Zaa rfl ?_
  have bG:m1.le (m1.add b2 (ZqZ z)):=Mem.le_add jV _
  refine⟨.inl rfl,((L.take q).map ZqZ).flatten,ZqZ z,?_,rfl,hr.mono bG,.inr ⟨b2,0,rfl,Zay m1 b2 _⟩,λu hu=>?_,by show(q+1)*48<=_;omega,by show q+1<=_;omega,λa2 c2 m2 aO ic=>⟨rfl,by omega,a2,c2,rfl,rfl,?_⟩⟩
  ·rw[ZvB,List.length_take,Nat.min_eq_left sq];rfl
  ·simp only[ZqZ,List.mem_cons,List.not_mem_nil,or_false]at hu
   rcases hu with rfl|rfl|rfl|rfl|rfl|rfl <;> rfl
  ·rw[List.take_add_one,hz,List.map_append,List.flatten_append]
   have:(List.map ZqZ (some z).toList).flatten=ZqZ z:=by simp
   rw[this];exact ic
 ·rintro cs a n c m1 aB ⟨sq,a',c',cF,ht,hr⟩
  obtain rfl:cs=[.slice a' (L.map λz=>[Zn0 z]).length c']:=by simpa using cF
  rw[List.length_map]at hr ⊢
  rw[List.take_length]at hr
  exact Zap (v:=.slice a' L.length c') rfl (ZaD aB ⟨a',c',rfl,hr⟩)
theorem ZnS(L:List (Pl×Int))(g:Nat)(fi ca:List Value)(m:Mem)(hL:L.length<=20001)(hI:IX Tryz.prog g fi ca m (L.map λz=>[Zn0 z])):
  CX Tryz.prog 43 #[.func (.func g) fi.toArray ca.toArray] m [] (PrR L):=by
 apply ZbZ
 refine Zaj (ZqL L g fi ca m hL hI) ZtK ?_
 rintro a n c m1 aB ⟨a',c',hv,hr⟩
 exact ZaD aB ⟨a',c',hv,hr⟩
theorem ZqM(s:Sc)(m:Mem)(hr:RepC m s):CX Tryz.prog 12 #[s.v] m [] (PrR s.problems):=by
 apply ZfR
 intro b m1 aB _
 refine Zah (Zcw s m1 (hr.mono aB)) λm2 aO=>Zab (λhl=>Zac (mLt aB aO) ?_) (λhl=>?_)
 ·have hl:s.light=false:=by simpa using hl
  have he:s.problems=[]:=by rw[Zgq];unfold Sc.places;rw[hl];rfl
  rw[he];exact⟨none,0,rfl,.inl rfl⟩
 have dU:=mLt aB aO
 refine Zaj (ZjW s m2) (λv m' css h=>by obtain⟨_,rfl,_⟩:=h;rfl) ?_
 rintro g fi ca m3 aQ ⟨b4,hv,nC⟩
 obtain⟨rfl,rfl,rfl⟩:=ZcB hv
 have cO:=mLt dU aQ
 refine Zaj (ZnS s.problems _ _ _ m3 (ZvC s) (Zia s m3 b4 (hr.mono cO) nC)) ZtK ?_
 rintro a n c m4 bN ⟨a',c',hv,pN⟩
 exact ZaD (mLt cO bN) ⟨a',c',hv,pN⟩
def atV(s:Sc)(p:Pl):Value:=.tuple #[.int .i64 (if ZyA p s.places then atS s p else 0),.bool (ZyA p s.places)]
theorem ZDI(s:Sc)(p:Pl)(m:Mem)(hr:RepC m s):CX Tryz.prog 54 #[s.v,.agg p.cs.toArray] m [] (Ret (atV s p)):=by
 apply Zqn
 intro b m1 aB _ b1 m2 aO _
 have hm:=mLt aB aO
 have mH:=Zfx s
 refine⟨λi _ _=>match i with
  | 1=>ZtH s
  | _=>Ret (.bool (ZyA p s.places)),_,rfl,ZqH s m2 (hr.mono hm),ZjV,?_⟩
 rintro a n c m3 aQ ⟨a',c',hv,aC⟩
 simp only[Value.slice.injEq]at hv
 obtain⟨rfl,rfl,rfl⟩:=hv
 refine⟨_,rfl,ZvA s.places a c p m3 (by omega) aC,λv _ _ e=>by rw[show v=_ from e];rfl,?_⟩
 rintro x m4 bN hx M iy _ _
 obtain rfl:x=ZyA p s.places:=by cases hx;rfl
 have hM:=mLt hm iy
 refine Zab (λh=>Zac hM ?_) (λh=>?_)
 ·have h:ZyA p s.places=false:=by simpa using h
  show _=atV s p
  unfold atV;rw[h];rfl
 have h:ZyA p s.places=true:=by simpa using h
 refine⟨λi _ _=>match i with
  | 2=>ZDY s
  | _=>Ret (.int .i64 (atS s p)),_,rfl,Zqz s M (hr.mono hM),ZtB,?_⟩
 rintro a2 n2 c2 m5 cE ⟨a',c',vs,hv,hT⟩
 simp only[Value.slice.injEq]at hv
 obtain⟨rfl,rfl,rfl⟩:=hv
 refine⟨_,rfl,ZCQ s a2 c2 vs p m5 (hr.mono (mLt hM cE)) hT (Zfy s p (ZlA.1 h)),λv _ _ e=>by rw[show v=_ from e];rfl,λn m6 ig hn M1 iD _ _=>Zac (mLt hM iD) ?_⟩
 obtain rfl:n=atS s p:=by cases hn;rfl
 show _=atV s p
 unfold atV;rw[h];rfl
end Go.Proofs.YtdopppmkbkkmiaaGreatDoor
namespace Go.Proofs.YtdopppmkbkkmiaaGreatDoor
open Go Go.Eng Go.Proofs Go.RowKit
open Go.Value (int slice agg bool string tuple func)
open Go.IntKind (u8 u64 i64)
set_option maxRecDepth 100000
noncomputable def Zjs:Env:={ EB with
 frzNew:=[1] }
theorem Zid(aA:Int)(aE aJ:Bool)(aK bA aX aW dY dZ eM:Int)(cH:Option Addr)(cI cJ:Nat)(dC:ByteArray)(cY:Int)(cR:Option Addr)(cS cU:Nat)(dN:ByteArray)(dP:Int)(m:Mem)(R:RT)(h:
 lV [int u8 aA,bool aE,bool aJ,int u8 aK,int u64 bA,int u64 aX,int u64 aW,int u64 dY,int i64 dZ,int i64 eM,slice cH cI cJ,string dC,int i64 cY,slice cR cS cU,string
 dN,int i64 dP] λxL=>fzM m xL λb m'=>∀(b:Nat),∃R_1,True/\CX pG 40 (.mk [agg (.mk xL)]) m' [] R_1/\ZaU (.agg [.int i64,.slice,.slice]) R_1/\∀n a n_1 c a_1 n_2 c_1 m'_1,lX (agg (.mk [int i64 n,slice a
 n_1 c,slice a_1 n_2 c_1])) λyL=>m'.le m'_1->R_1 yL m'_1 []->kB pG 39 [yL] m'_1 λb m'=>br (!b) (rtM m m' R (agg (.mk [int u8 0,bool false,bool false,int u8 0,int u64 0,int u64 0,int u64 0,int u64 0,int i64 0,
 int i64 0,slice none 0 0,string bE0,int i64 0,slice none 0 0,string bE0,int i64 0]))) (∃R_2,True/\CX pG 41 (.mk [agg (.mk xL)]) m' [] R_2/\ZaU (.agg [.int u8,.bool,.bool,.int u8,.int u64,.int u64,.int u64,.int
 u64,.int i64,.int i64,.slice,.str,.int i64,.slice,.str,.int i64]) R_2/\∀n (b b_1:Bool) n_3 n_4 n_5 n_6 n_7 n_8 n_9 a n_10 c s n_11 a_2 n_12 c_2 s_1 n_13 m'_2,lX (agg (.mk [int u8 n,bool b,bool b_1,int u8 n_3,int
 u64 n_4,int u64 n_5,int u64 n_6,int u64 n_7,int i64 n_8,int i64 n_9,slice a n_10 c,string s,int i64 n_11,slice a_2 n_12 c_2,string s_1,int i64 n_13])) λyL=>m'.le m'_2->R_2 yL m'_2 []->rtM m m'_2 R yL)):CX Tryz.prog 10 #[.agg #[.int .u8 aA,.bool aE,.bool aJ,.int .u8 aK,.int .u64 bA,.int .u64 aX,.int .u64 aW,.int .u64 dY,.int .i64 dZ,.int .i64 eM,.slice cH cI cJ,.string dC,.int .i64 cY,.slice cR cS cU,.string dN,.int .i64 dP]] m [] R:=
 Zad (E:=Zjs) Zal mix Tryz.func10 (by kernel_rfl) (Eq.mp (by kernel_rfl) h)
end Go.Proofs.YtdopppmkbkkmiaaGreatDoor
namespace Go.Proofs.YtdopppmkbkkmiaaGreatDoor
open Go Go.Eng Go.Rx Go.Proofs Go.RowKit
set_option maxRecDepth 100000
def ZAP(m:Mem)(q:Ru):Value->Mem->List (List Value)->Prop:=λv m' _=>∃q':Ru,v=.agg q'.cs.toArray/\q'.er=q.er/\RepR (nw m m') q'
theorem ZqN{m:Mem}{q:Ru}:∀(v:Value)(m':Mem) (css:List (List Value)),ZAP m q v m' css->Shape.fits (.agg [.int .u8,.bool,.bool,.int .u8,.int .u64,.int .u64,.int .u64,.int .u64,.int .i64,.int .i64,.slice,.str,.int .i64,.slice,.str,.int .i64]) v=true:=λv _ _ ⟨t,e,_⟩=>by rw[e];rfl
theorem ZyB(q:Ru)(m:Mem)(hr:RepR m q)(hl:LtR q)(gJ:Zm4 q=true):CX Tryz.prog 10 #[.agg q.cs.toArray] m [] (ZAP m q):=by
 apply Zid
 intro b m1 aB _ b1
 refine Zaj (ZCh q m1 (hr.mono aB)) Zyu ?_
 rintro n a n1 c a1 n2 c1 m2 aO ⟨s,hv,fO,eR⟩
 obtain⟨rfl,rfl,rfl,rfl,rfl,rfl,rfl⟩:n=s.n/\a=s.va/\n1=s.vars.length/\c=s.vc/\a1=s.sa/\n2=s.states.length/\c1=s.sc:=by simpa[Sc.v,and_assoc]using hv
 have h:=Zcw s m2 fO
 rw[eR,gJ]at h
 refine Zah h λm3 aQ=>ZcF rfl ?_
 have cO:=mLt aB (mLt aO aQ)
 refine Zaj (Zyc q m3 (hr.mono cO) hl) (λv _ _ ⟨t,e,_⟩=>by rw[e];rfl) ?_
 rintro k0 bg en k1 s0 s1 s2 s3 mn mx at_ nt ct st nn aa na ca go cd m4 bN ⟨q',hv,hq⟩
 exact⟨m4,mLt cO bN,Mem.le_refl _,q',hv,hq.1,hq.2.mono (Zdi cO (Mem.le_refl _))⟩
theorem ZtL{z:Pl×Int}:∀(v:Value)(m':Mem) (css:List (List Value)),Ret (Zly z) v m' css->Shape.fits (.tup [.agg [.int .i64,.int .i64,.int .i64,.int .i64,.int .i64],.int .i64]) v=true:=λv _ _ h=>by rw[show v=_ from h];rfl
theorem ZwH{p:Pl}{e z1 z2 z3 z4 z5 z6:Int}{m':Mem}(h:Ret (Zly (p,e)) (.tuple #[.agg #[.int .i64 z1,.int .i64 z2,.int .i64 z3,.int .i64 z4,.int .i64 z5],.int .i64 z6]) m' []):z1=p.v/\z2=p.s/\z3=p.r/\z4=p.a/\z5=p.p/\z6=e:=by
 have h:Value.tuple #[.agg #[.int .i64 z1,.int .i64 z2,.int .i64 z3,.int .i64 z4,.int .i64 z5],.int .i64 z6]=.tuple #[.agg p.cs.toArray,.int .i64 e]:=h
 simpa[Pl.cs,and_assoc]using h
theorem ZAQ{m:Mem}{q:Ru}(h:RepR m q)(hs:q.s.size<=3)(hn:0<=q.n/\q.n<=8)(w:Nat):RepR m (spR w q):=by
 match w with
 | 0=>exact⟨by show(0:Int)<=9/\(9:Int) < 256;decide,h.t,h.s,h.n,h.len,h.row,h.all,h.go,h.code⟩
 | 1=>exact⟨h.k,h.t,h.s,h.n,h.len,h.row,h.all,by show ZDv.size<=_;decide,by show I64 0;unfold I64;omega⟩
 | 2=>exact⟨h.k,h.t,h.s,h.n,h.len,h.row,h.all,by show(ByteArray.mk #[]).size<=_;decide,by show I64 (-1);unfold I64;omega⟩
 | 3=>exact⟨h.k,h.t,by
   show(q.s.data.toList++[120]).length<=1000000000000000
   rw[zA1,ZdN]
   have:([120]:List UInt8).length=1:=rfl
   omega,by show I64 (IntKind.i64.wrap (q.n+1));rw[Zam (by omega) (by omega)];unfold I64;omega,h.len,h.row,h.all,h.go,h.code⟩
 | w+4=>exact⟨h.k,by show Rep m Zz6;simp only[Zz6,Rep];exact⟨by simp,.inl trivial,by constructor <;> decide⟩,h.s,h.n,h.len,h.row,h.all,h.go,h.code⟩
set_option maxHeartbeats 1000000 in
theorem ZvD(s:Sc)(i k:Nat)(m:Mem)(hr:RepC m s)(hk:MkC s){x:Sta}{q:Ru}(hx:s.states[i]?=some x)(hq:x.rules[k]?=some q):CX Tryz.prog 23 #[s.v,.int .i64 i,.int .i64 k] m [] (Ret (.bool true)):=by
 have hl:=hk.light
 have q9:=(zA0 hx).1
 have kH:=(zA0 hq).1
 have eR:=hk.len
 have jh:=(hk.all i x hx).len
 have hQ:=(hk.all i x hx).all q (zA2 hq)
 have aH:=Zxg hl x (zA2 hx) q (zA2 hq)
 apply Zh9
 intro b m1 aB _ b1
 refine⟨λxs _ _ mm q=>∃w:Nat,w<=5/\xs=[.int .i64 w]/\q=5 - w,⟨_,0,by omega,rfl,rfl⟩,?_⟩
 rintro n mm q0 lm ⟨w,hw,cN,rfl⟩
 obtain rfl:n=w:=by simpa using cN
 have kV:IntKind.i64.wrap ((w:Int)+1)=((w+1:Nat):Int):=by rw[Zam (by omega) (by omega)];rfl
 refine Zax (λrM=>?_) (λbL=>Zac (mLt aB lm) rfl)
 have rM:(w:Int) < 5:=rM
 have oW:=hr.mono (mLt aB lm)
 have dJ:=oW.all x (zA2 hx)
 have yN:=dJ.all q (zA2 hq)
 obtain⟨b2,o2,kX,ic⟩:=Zan Sta.len oW.row hx (by omega)
 obtain⟨b3,o3,gH,jJ⟩:=Zan Ru.len dJ.row hq (by omega)
 refine⟨b2,o2,kX,⟨by omega,by omega⟩,_,ic 1 _ rfl,Zaa rfl ⟨b3,o3,gH,⟨by show(0:Int)<=(k:Int);omega,by show(k:Int) < (x.rules.length:Nat);omega⟩,_,_,_,_,_,_,_,_,_,_,_,_,_,_,_,_,jJ,Zaj (ZyB q mm yN aH hQ.light) ZqN ?_⟩⟩
 rintro k0 bg en k1 s0 s1 s2 s3 mn mx at_ nt ct st nn aa na ca go cd m2 aO ⟨q',hv,he,hq'⟩ b4
 simp only[Ru.cs,Value.agg.injEq,Array.mk.injEq,List.cons.injEq,Value.int.injEq,Value.bool.injEq,Value.slice.injEq,Value.string.injEq,true_and,and_true,List.toArray]at hv
 obtain⟨rfl,rfl,rfl,rfl,rfl,rfl,rfl,rfl,rfl,rfl,⟨rfl,rfl,rfl⟩,rfl,rfl,⟨rfl,rfl,rfl⟩,rfl,rfl⟩:=hv
 have sJ:q'.s=q.s/\q'.n=q.n/\q'.k=q.k:=by
  have e1:q'.er.s=q.er.s:=congrArg Ru.s he
  have e2:q'.er.n=q.er.n:=congrArg Ru.n he
  have e3:q'.er.k=q.er.k:=congrArg Ru.k he
  exact⟨e1,e2,e3⟩
 have wD:q'.s.size<=3/\0<=q'.n/\q'.n<=8:=by
  rw[sJ.1,sJ.2.1]
  rcases hQ.kind with⟨_,_,_,h1,h2⟩|⟨_,⟨_,h1,h2,h3⟩|⟨_,h1,h2⟩|⟨_,h1,h2,h3⟩⟩
  ·rw[h1,h2,Zar];omega
  ·omega
  ·rw[h1,h2,Zar];omega
  ·rw[h1,Zar];omega
 have bP:=λw=>ZAQ (hq'.mono (ZdF _ _)) wD.1 wD.2 w
 have vn:(2:Int) ^ 63=9223372036854775808:=by decide +kernel
 refine⟨λxs css _ _=>xs=[.int .i64 (spE w q)]/\css=[(spR w q').cs],?_,?_⟩
 ·rcases(show w=0\/w=1\/w=2\/w=3\/w=4 by omega)with rfl|rfl|rfl|rfl|rfl
  ·exact Zmq rfl ⟨rfl,rfl,rfl⟩
  ·exact ZcF rfl (Zmq rfl ⟨rfl,rfl,rfl⟩)
  ·exact ZcF rfl (ZcF rfl (Zmq rfl ⟨rfl,rfl,rfl⟩))
  ·refine ZcF rfl (ZcF rfl (ZcF rfl (Zmq rfl ⟨?_,rfl,rfl,rfl⟩)))
   have vo:ByteArray.size ⟨#[120]⟩=1:=rfl
   rw[if_pos rfl,vn,vo]
   omega
  ·refine ZcF rfl (ZcF rfl (ZcF rfl (ZcF rfl (Zab (λh=>⟨rfl,?_,rfl⟩) (λh=>⟨rfl,?_,rfl⟩)))))
   ·have h:(q'.k == 1)=true:=h
    rw[show spE 4 q=305 from if_pos (sJ.2.2.symm.trans (beq_iff_eq.1 h))]
   ·have h:(q'.k == 1)=false:=h
    rw[show spE 4 q=304 from if_neg λe=>beq_eq_false_iff_ne.1 h (sJ.2.2.trans e)]
 rintro n14 cs m3 aQ ⟨kM,cF⟩
 obtain rfl:n14=spE w q:=by simpa using kM
 obtain rfl:cs=(spR w q').cs:=by simpa using cF
 refine Zaj (ZCj s i k (spR w q') m3 (oW.mono (mLt aO aQ)) hl hx kH ((bP w).mono aQ) (Zxz hk hx hq w he)) Zsd ?_
 rintro n a n1 c a1 n2 c1 n3 m4 bN ⟨t,yO,pL,kj⟩ b5
 obtain⟨⟨rfl,rfl,rfl,rfl,rfl,rfl,rfl⟩,rfl⟩:=ZtG yO
 obtain⟨-,t1,t2,t3⟩:=Ztg hk hx hq w he pL
 have hC:=Zib t m4 kj
 rw[t1]at hC
 refine⟨_,trivial,hC,ZtL,?_⟩
 rintro z1 z2 z3 z4 z5 z6 m5 cE hv b6
 obtain⟨rfl,rfl,rfl,rfl,rfl,rfl⟩:=ZwH hv
 have hA:=ZDI t ⟨-1,i,k,-1,-1⟩ m5 (kj.mono cE)
 have hA':atV t ⟨-1,i,k,-1,-1⟩=.tuple #[.int .i64 (spE w q),.bool true]:=by unfold atV;rw[ZlA.2 t3,if_pos rfl,t2]
 rw[hA']at hA
 refine⟨_,trivial,hA,(λv _ _ h=>by rw[show v=_ from h];rfl),?_⟩
 rintro z7 b7 m6 ig hv
 obtain⟨rfl,rfl⟩:z7=spE w q/\b7=true:=by
  have hv:Value.tuple #[.int .i64 z7,.bool b7]=.tuple #[.int .i64 (spE w q),.bool true]:=hv
  simpa using hv
 have hR:=ZfS t m6 (kj.mono (mLt cE ig))
 rw[t1]at hR
 exact⟨false,ZcF rfl ⟨_,ZBw ⟨-1,i,k,-1,-1⟩,ZcF rfl (ZcF (by simp) (ZcF (by simp) (ZcF rfl (Zah hR λm7 kP=>⟨rfl,by rw[show(((⟨-1,i,k,-1,-1⟩:Pl),spE w q).2 == 0)=false from beq_eq_false_iff_ne.2 (Zz9 w q)]⟩))))⟩,ZcF rfl ⟨rfl,5 - (w+1),by omega,w+1,by omega,by rw[kV],rfl⟩⟩
def ZDJ(m:Mem)(s:Sc)(L:List Nat):Value->Mem->List (List Value)->Prop:=λv m' _=>∃k:Sc,v=.tuple #[k.v,.int .i64 0]/\k.n=s.n/\k.vars=s.vars/\k.states.map (λx=>some x.er)=L.map (λi=>(s.states[i]?).map Sta.er)/\RepC (nw m m') k
set_option maxHeartbeats 1000000 in
theorem ZyC(s:Sc)(L:List Nat)(la:Option Addr)(lc:Nat)(m:Mem)(hr:RepC m s)(hl:s.light=true)(aC:rowRd m la (L.map λi:Nat=>Value.int .i64 i))(hL:∀i∈L,i < s.states.length)(hn:L.Nodup)(aP:L.length<=1000):CX Tryz.prog 25 #[s.v,.slice la L.length lc] m [] (ZDJ m s L):=by
 have eR:s.states.length<=100000:=hr.len
 apply ZqG
 intro b m1 aB _ _ _ _ b1
 have rE:=Zcw s m1 (hr.mono aB)
 rw[hl]at rE
 refine Zah rE λm2 aO=>ZcF rfl ?_
 have dU:=mLt aB aO
 refine Zaj (Zqv s m2 (hr.mono dU) hl) Zlq ?_
 rintro n a p c a1 p1 c1 m3 aQ ⟨s',hv,jl,l7,_⟩ b2 b3 bm zR dQ
 have mD:(nw m2 m3).le (nw m m3):=Zdi dU (Mem.le_refl _)
 obtain⟨rfl,rfl,rfl,rfl,rfl,rfl,rfl⟩:=Zvx hv
 have bP:=l7.mono (ZdF m2 m3)
 have cO:=mLt dU aQ
 have jo:m.k bm=none:=Zd0 cO dQ
 have lQ:=ZzM jl
 obtain⟨tX,ma⟩:=ZpD jl
 refine⟨λxs css tvs mm q=>∃(i:Nat)(K:List Sta)(ka:Option Addr)(kc:Nat),i<=L.length/\K.length=i/\xs=[.int .i64 i]/\css=[[.int .i64 0,.slice none 0 0,.slice none 0 0],[.int .i64 s'.n,.slice s'.va s'.vars.length s'.vc,.slice ka K.length kc]]/\tvs=[.slice ka K.length kc]/\m3.le mm/\mm.k bm=some (ZBs (λz:Nat=>Value.int .i64 z) (λ_:Unit=>Value.agg (Array.mk [])) ((L.take i).map λz=>(z,())))/\K.map (λx=>some x.er)=(L.take i).map (λi=>(s.states[i]?).map Sta.er)/\K.length<=kc/\rowRd mm ka (K.map Sta.cs).flatten/\(∀x∈K,RepS (nw m2 m3) x)/\(∀b o,ka=some ⟨b,o,none⟩->m.free b)/\q=L.length - i,⟨L.length,0,[],none,0,by omega,rfl,rfl,rfl,rfl,Mem.le_updK (Mem.le_refl _) dQ _,Mem.updK_same _ _ _,rfl,Nat.le_refl _,.inl rfl,(λx hx=>by cases hx),(λb o e=>by cases e),rfl⟩,?_⟩
 rintro z cs0 cs1 ka kn kc mm q _ ⟨i,K,ka',kc',hi,yP,hz,cF,dF,hM,hk,vp,yQ,wE,wF,wG,rfl⟩
 obtain rfl:z=i:=by simpa using hz
 obtain⟨rfl,rfl⟩:cs0=_/\cs1=_:=by simpa using cF
 simp only[List.cons.injEq,Value.slice.injEq,and_true]at dF
 obtain⟨rfl,rfl,rfl⟩:=dF
 have kV:IntKind.i64.wrap ((i:Int)+1)=((i+1:Nat):Int):=by rw[Zam (by omega) (by omega)];rfl
 have j1:=mLt cO hM
 refine Zax (λaH=>?_) (λbL=>Zaa rfl (ZaD j1 ?_))
 ·have aH:(i:Int) < (L.length:Nat):=aH
  obtain⟨l,iP⟩:=Zcq (show i < L.length by omega)
  have yR:=zA2 iP
  have mg:=hL l yR
  obtain⟨b4,o4,mK,q6⟩:=ZCb (aC.mono j1) (show(L.map λi:Nat=>Value.int .i64 i)[i]?=some (.int .i64 l) by rw[List.getElem?_map,iP];rfl)
  have iM:l ∉ ((L.take i).map λz=>(z,())).map (·.1):=by
   rw[List.map_map]
   intro eG
   obtain⟨z,hz,rfl⟩:=List.mem_map.1 eG
   obtain⟨j,hj⟩:=List.getElem?_of_mem hz
   have jb:j < i:=by have:=(zA0 hj).1;rw[List.length_take]at this;omega
   rw[List.getElem?_take_of_lt jb]at hj
   have hj:L[j]?=some z:=hj
   obtain⟨g1,g2⟩:=zA0 hj
   obtain⟨g3,g4⟩:=zA0 iP
   have:=(List.getElem_inj (h₀:=g1) (h₁:=g3) hn).1 (g2.trans g4.symm)
   omega
  have heq:∀a b:Nat,EqIs Tryz.prog 3 (.int .i64 (a:Int)) (.int .i64 (b:Int)) (decide (a=b)):=λa b=>by
   have:=ZCi a b
   rwa [show decide ((a:Int)=(b:Int))=decide (a=b) by congr 1;exact propext (by omega)]at this
  have jQ:=Zob (f:=λz:Nat=>Value.int .i64 z) (g:=λ_:Unit=>Value.agg (Array.mk [])) heq l _ iM
  have yS:=Zs6 (f:=λz:Nat=>Value.int .i64 z) (g:=λ_:Unit=>Value.agg (Array.mk [])) heq l () _ iM
  obtain⟨x,hx⟩:∃x,s'.states[l]?=some x:=⟨s'.states[l]'(by omega),zA3 (by omega)⟩
  refine⟨b4,o4,mK,⟨by omega,aH⟩,_,q6,bm,_,_,false,rfl,hk,ZoE Tryz.underlying3 _,⟨none,jQ,rfl,rfl⟩,λb5=>Zaa rfl ⟨false,ZcF rfl (Zaa rfl (ZcF (decide_eq_false (by show ¬(l:Int) < 0;omega)) (Zaa rfl ⟨rfl,rfl,by show[Value.bool (decide ((l:Int) ≥ (s'.states.length:Nat)))]=_;rw[decide_eq_false (by omega)]⟩))),ZcF rfl ⟨bm,_,_,rfl,hk,ZoE Tryz.underlying3 _,yS,jo,Zap rfl (Zaa rfl ?_)⟩⟩⟩
  have vq:m3.le (mm.updK bm (ZBs (λz:Nat=>Value.int .i64 z) (λ_:Unit=>Value.agg (Array.mk [])) (((L.take i).map λz=>(z,()))++[(l,())]))):=Mem.le_updK hM dQ _
  obtain⟨b6,o6,jA,dJ⟩:=Zan Sta.len (bP.mono vq).row hx (by omega)
  have gC:L.take (i+1)=L.take i++[l]:=by rw[List.take_add_one,iP];rfl
  obtain⟨x0,oD,kM⟩:=ZBr jl.symm hx
  refine⟨b6,o6,jA,⟨by show(0:Int)<=l;omega,by show(l:Int) < (s'.states.length:Nat);omega⟩,_,_,dJ,λb7 nO=>Zaa rfl (ZcU Sta.len Sta.one nO x (show rowRd (mm.updK bm _) ka (K.map Sta.cs).flatten from wE) 40 (by omega) (by omega) (.inl rfl) λa8 c8 m8 iS fC jO=>Zaa rfl λM iy ib iD=>⟨rfl,L.length - (i+1),by omega,i+1,K++[x],a8,c8,by omega,by simp[yP],by rw[kV],by rw[zA1];rfl,by rw[zA1];rfl,mLt vq iy,?_,?_,by rw[zA1];exact jO.1,fC.mono iD,λy hy=>?_,λb o e=>?_,rfl⟩)⟩
  ·rw[gC,List.map_append]
   exact iy.k _ _ (Mem.updK_same _ _ _)
  ·rw[gC,List.map_append,List.map_append,vp]
   congr 1
   simp only[List.map_cons,List.map_nil,oD,Option.map_some,kM]
  ·rcases List.mem_append.1 hy with hy|hy
   ·exact wF y hy
   ·rw[List.mem_singleton]at hy;subst hy
    exact l7.all _ (zA2 hx)
  ·rcases jO.2 with h|⟨b',o',h1,h2⟩
   ·rw[h]at e;cases e
   ·rw[h1]at e;cases e
    rcases h2 with h2|⟨_,h2,_⟩
    ·exact wG b o (h2.trans h1)
    ·exact Zbd (mLt cO (mLt vq (Mem.le_add nO _))) h2
 ·have bL:¬(i:Int) < (L.length:Nat):=bL
  have:i=L.length:=by omega
  subst this
  rw[List.take_length]at vp
  refine⟨⟨s'.n,s'.va,s'.vc,s'.vars,ka,kc,K⟩,rfl,tX,ma,vp,?_⟩
  have wH:(nw m2 m3).le (nw m mm):=Zdi dU hM
  have h:=l7.mono wH
  exact⟨h.n,h.vlen,h.vrow,h.vall,by show K.length<=few;unfold few;omega,ZkD wE (.inr wG),λx hx=>(wF x hx).mono wH,h.vcap,yQ⟩
end Go.Proofs.YtdopppmkbkkmiaaGreatDoor
namespace Go.Proofs.YtdopppmkbkkmiaaGreatDoor
open Go Go.Eng Go.Proofs Go.RowKit
open Go.Value (int slice agg bool string tuple func)
open Go.IntKind (u8 u64 i64)
set_option maxRecDepth 100000
noncomputable def Zjt:Env:={ EB with
 loops:=swI nLa [(5,⟨[(23,.int .i64)],[],[],false⟩),(8,⟨[(33,.int .i64)],[],[],false⟩)]
 joins:=swI none [(2,some [(18,.bool)])]
 frzNew:=[3]
 thaw:=true
 stAt:=swI none [(51,some 999)]
 kF:=true }
theorem Zie(aA:Int)(aI:Option Addr)(aF aM:Nat)(aG:Option Addr)(aD aN:Nat)(p1 p2:ByteArray)(m:Mem)(R:RT)(h:
 lV [int i64 aA,slice aI aF aM,slice aG aD aN] λxL=>fzM m xL λb m'=>lE [some (Box.mk b xL 30 3 true true)] λxL_1=>m.free b->(∀(b' o:Nat)(u:Value),m' b' o=some u->m b' o=some u\/b'
 = b)->Mem.k m b=none->∀b_1,∃R_1,lE (some (Box.mk b_1 [int i64 0,slice none 0 0,slice none 0 0] 30 3 false true)::xL_1) λxL_2=>True/\CX pG 13 (.mk [agg (.mk xL)]) m' [] R_1/\ZaU (.agg [.int i64,.slice,.slice])
 R_1/\∀n a n_1 c a_1 n_2 c_1 m'_1,lV [int i64 n,slice a n_1 c,slice a_1 n_2 c_1] λxL=>lX (agg (.mk xL)) λyL=>m'.le m'_1->R_1 yL m'_1 []->∀b_2,∃(b_3:Bool),lE (some (Box.mk b_2 xL 30 3 false true)::xL_2) fun
 xL=>br (ByteArray.toList p1 == ByteArray.toList bE0) (Zae xL/\[bool true]=[bool b_3]) (Zae xL/\[bool (ByteArray.toList p2 == ByteArray.toList bE0)]=[bool b_3])/\br b_3 (rtM m m'_1 R yL) (∃I,inI I [int i64 0] [] []
 m'_1/\∀n (m':Mem) (n_3:Nat),True->I [int i64 n] [] [] m' n_3->br (decide (n < (↑n_2:Int))) (atA a_1 λb_4 o=>Zaf n n_2/\∃(v:Value),m' b_4 (o+Int.toNat n*2+1)=some v/\chk (Za5 v) (∃I_1,inI I_1
 [int i64 0] [] [] m'/\∀(n_4:Int)(m':Mem)(n_5:Nat),lE (Int.toNat n_4*16) λyL=>lV [int i64 (i64.wrap (n_4+1))] λxL_3=>True->I_1 [int i64 n_4] [] [] m' n_5->br (decide (n_4 < (↑(slN v):Int))) (chk (Za5
 v) (atA (slA v) λb_5 o=>Zaf n_4 (slN v)/\∃v v_1 v_2 v_3 v_4 v_5 v_6 v_7 v_8 v_9 v_10 v_11 v_12 v_13 v_14 v_15:Value,m'.reads b_5 (o+yL) [v,v_1,v_2,v_3,v_4,v_5,v_6,v_7,v_8,v_9,v_10,v_11,v_12,v_13,v_14,
 v_15]/\∀(b_6:Nat),chk (v.oneCell'&&(v_1.oneCell'&&(v_2.oneCell'&&(v_3.oneCell'&&(v_4.oneCell'&&(v_5.oneCell'&&(v_6.oneCell'&&(v_7.oneCell'&&(v_8.oneCell'&&(v_9.oneCell'&&(v_10.oneCell'&&(v_11.oneCell' &&
 (v_12.oneCell'&&(v_13.oneCell'&&(v_14.oneCell'&&(v_15.oneCell'&&true)))))))))))))))) (chk (Zfe v_14&&true) (br (ByteArray.toList (Zb8 v_14) == ByteArray.toList p1) (atA a_1 λb_7 o=>Zaf n n_2/\∃(v:Value),
 m' b_7 (o+Int.toNat n*2+1)=some v/\chk (Za5 v) (atA (slA v) λb_8 o=>Zaf n_4 (slN v)/\(∃(vs:List Value),vs.length=1/\m'.reads b_8 (o+yL+14) vs)/\m.free b_8/\true=true/\b≠b_8/\Zae xL/\nxI
 n_5 I_1 xL_3 [] [] (Mem.upd m' b_8 (o+yL+14) [string p2]))) (Zae xL/\nxI n_5 I_1 xL_3 [] [] m'))))) (Zae xL/\nxI n_3 I [int i64 (i64.wrap (n+1))] [] [] m'))) (rtM m m' R yL))):CX Tryz.prog 24 #[.agg #[.int .i64 aA,.slice aI aF aM,.slice aG aD aN],.string p1,.string p2] m [] R:=
 Zad (E:=Zjt) Zal mix Tryz.func24 (by kernel_rfl) (Eq.mp (by kernel_rfl) h)
end Go.Proofs.YtdopppmkbkkmiaaGreatDoor
namespace Go.Proofs.YtdopppmkbkkmiaaGreatDoor
open Go Go.Eng Go.Rx Go.Proofs Go.RowKit
set_option maxRecDepth 100000
def ZCW(f t:ByteArray)(s:Sc):Value->Mem->List (List Value)->Prop:=λv m' _=>∃s':Sc,v=s'.v/\s'.er=(ZzY f t s).er/\RepC m' s'
theorem Zsh{f t:ByteArray}{s:Sc}:∀(v:Value)(m':Mem) (css:List (List Value)),ZCW f t s v m' css->Shape.fits (.agg [.int .i64,.slice,.slice]) v=true:=λv _ _ ⟨t,e,_⟩=>by rw[e];rfl
structure RedSt (f t:ByteArray)(s':Sc)(m3:Mem)(i k:Nat)(M:Mem):Prop where
 base:(m3.off (RuB s')).le M
 rows:∀j x,s'.states[j]?=some x->rowRd M x.ra ((Zwr f t i k j x).map Ru.cs).flatten
set_option maxHeartbeats 1000000 in
theorem ZqO(s:Sc)(f t:ByteArray)(m:Mem)(hr:RepC m s)(hl:s.light=true)(ht:t.size<=1000000000000000):CX Tryz.prog 24 #[s.v,.string f,.string t] m [] (ZCW f t s):=by
 have eR:s.states.length<=100000:=hr.len
 apply Zie
 intro b m1 aB kU iu uC fZ b1
 refine⟨_,trivial,Zqv s m1 (hr.mono aB) hl,Zlq,?_⟩
 rintro n a p c a1 p1 c1 m3 aQ ⟨s',hv,jl,bP,bK⟩ b2
 obtain⟨rfl,rfl,rfl,rfl,rfl,rfl,rfl⟩:=Zvx hv
 have cO:=mLt aB aQ
 have ow:=bP.mono (ZdF m1 m3)
 refine⟨eqS f ⟨#[]⟩||eqS t ⟨#[]⟩,?_,?_⟩
 ·refine Zab (λh=>⟨rfl,?_⟩) (λh=>⟨rfl,?_⟩)
  ·have h:eqS f ⟨#[]⟩=true:=h
   rw[h];rfl
  ·have h:eqS f ⟨#[]⟩=false:=h
   rw[h];rfl
 refine Zab (λh=>ZaD cO ⟨s',rfl,by unfold ZzY;rw[if_pos h];exact jl,ow⟩) (λh=>?_)
 have ju:ZzY f t s'=ZCH (λ_ x=>x.rules.map (ZlD f t)) s':=by unfold ZzY;rw[if_neg (by rw[h];decide)]
 have rN:=Zz0 (f:=f) (t:=t) jl
 have aP:=ZzM jl
 rcases bK with h0|⟨bS,μ,bK⟩
 ·refine⟨λxs _ _ mm q=>xs=[.int .i64 0]/\m3.le mm,⟨0,rfl,Mem.le_refl _⟩,?_⟩
  rintro z mm q _ ⟨hz,gE⟩
  obtain rfl:z=0:=by simpa using hz
  refine ZcF (by rw[h0];rfl) (ZaD (mLt cO gE) ⟨s',rfl,?_,ow.mono gE⟩)
  rw[<-rN,ju]
  exact Ziy rfl rfl (by show s'.states.map Sta.er=(s'.states.mapIdx _).map Sta.er;rw[h0];rfl)
 have rW:∀{q:Nat},RuB s' q->m1.free q/\m1.k q=none:=λhq=>ZzT bK hq
 have iL:m.le (m3.off (RuB s')):=Zho cO λq hq=>⟨Zbd aB (rW hq).1,Zd0 aB (rW hq).2⟩
 have bM:∀{i:Nat} {x:Sta},s'.states[i]?=some x->∀M:Mem,(m3.off (RuB s')).le M->M bS (0+i*2+1)=some (.slice x.ra x.rules.length x.rc):=λ{i x} hx M hM=>hM _ _ _ (by
  obtain⟨bs0,o0,j0,cM⟩:=Zan Sta.len bP.row hx (by omega)
  rw[bK.sa]at j0
  simp only[Option.some.injEq,Addr.mk.injEq,and_true]at j0
  obtain⟨rfl,rfl⟩:=j0
  rw[Mem.off_at (Y:=RuB s') (λh=>ZzU bK h)];exact(ZdF m1 m3) _ _ _ (cM 1 _ rfl))
 refine⟨λxs _ _ mm q=>∃i:Nat,i<=s'.states.length/\xs=[.int .i64 i]/\RedSt f t s' m3 i 0 mm/\q=s'.states.length - i,⟨_,0,by omega,rfl,⟨Mem.off_le _ _,λj x hx=>?_⟩,rfl⟩,?_⟩
 ·have e:Zwr f t 0 0 j x=x.rules:=by
   unfold Zwr;rw[if_neg (by omega)]
   split
   ·exact ZpM _ _ _
   ·rfl
  rw[e]
  exact((bP.all x (zA2 hx)).row).mono (ZdF _ _)
 rintro z mm q _ ⟨i,hi,hz,hS,rfl⟩
 obtain rfl:z=i:=by simpa using hz
 have kV:IntKind.i64.wrap ((i:Int)+1)=((i+1:Nat):Int):=by rw[Zam (by omega) (by omega)];rfl
 refine Zax (λaH=>?_) (λbL=>?_)
 ·have aH:(i:Int) < (s'.states.length:Nat):=aH
  obtain⟨x,hx⟩:=Zcq (show i < s'.states.length by omega)
  have jh:x.rules.length<=100000:=(bP.all x (zA2 hx)).len
  refine⟨bS,0,bK.sa,⟨by omega,aH⟩,_,bM hx mm hS.base,Zaa rfl ⟨λxs _ _ mm q=>∃k:Nat,k<=x.rules.length/\xs=[.int .i64 k]/\RedSt f t s' m3 i k mm/\q=x.rules.length - k,⟨_,0,by omega,rfl,hS,rfl⟩,?_⟩⟩
  rintro z mk q _ ⟨k,hk,hz,hS,rfl⟩
  obtain rfl:z=k:=by simpa using hz
  have rO:IntKind.i64.wrap ((k:Int)+1)=((k+1:Nat):Int):=by rw[Zam (by omega) (by omega)];rfl
  refine Zax (λdR=>?_) (λdV=>?_)
  ·have dR:(k:Int) < (x.rules.length:Nat):=dR
   obtain⟨r,fP⟩:=Zcq (show k < x.rules.length by omega)
   have hn:x.rules≠[]:=λe=>by rw[e]at fP;simp at fP
   obtain⟨_,⟨_,jI⟩,_,_⟩:=bK.all i x hx
   rcases jI with h1|⟨bR,pY,ky,sI,_⟩
   ·exact absurd h1 hn
   have yU:RuB s' bR:=⟨i,x,hx,hn,pY⟩
   have hg:∀k,Zwr f t i k i x=ZuQ f t k x.rules:=λk=>by unfold Zwr;rw[if_neg (by omega),if_pos rfl]
   have pW:∀{j:Nat} (y:Sta),j≠i->Zwr f t i (k+1) j y=Zwr f t i k j y:=λ{j} y hj=>by
    unfold Zwr;rw[if_neg hj,if_neg hj]
   have aC:=hS.rows i x hx
   rw[hg,pY]at aC
   obtain⟨b5,o5,mq,rP⟩:=Zan Ru.len aC (Zte fP) (by omega)
   cases mq
   refine Zaa rfl ⟨bR,0,pY,⟨by omega,dR⟩,_,_,_,_,_,_,_,_,_,_,_,_,_,_,_,_,rP,λb6=>Zaa rfl (Zaa rfl (Zab (λh=>?_) (λh=>⟨rfl,x.rules.length - (k+1),by omega,k+1,by omega,by rw[rO],⟨hS.base,λj y hy=>?_⟩,rfl⟩)))⟩
   ·have h:eqS r.go f=true:=h
    refine⟨bS,0,bK.sa,⟨by omega,aH⟩,_,bM hx mk hS.base,Zaa rfl ⟨bR,0,pY,⟨by show(0:Int)<=k;omega,dR⟩,⟨[.string r.go],rfl,λj v hj=>?_⟩,Zbd aB ky,rfl,λe=>?_,rfl,x.rules.length - (k+1),by omega,k+1,by omega,by rw[rO],⟨⟨λq o v hq=>?_,λq e he=>?_⟩,λj y hy=>?_⟩,rfl⟩⟩
    ·cases j with
     | zero=>
      obtain rfl:v=.string r.go:=by simpa using hj.symm
      exact rP 14 _ rfl
     | succ j=>simp at hj
    ·have:=kU 0 _ rfl
     rw[e]at this
     rw[ky]at this;cases this
    ·by_cases ng:RuB s' q
     ·rw[Mem.off_free ng]at hq;cases hq
     ·rw[Mem.upd_other _ (λe:q=bR=>ng (by rw[e];exact yU))];exact hS.base _ _ _ hq
    ·exact hS.base.k q e he
    ·by_cases hj:j=i
     ·subst hj
      rw[hx]at hy;cases hy
      rw[hg,ZpL fP,show ZlD f t r=goR t r by unfold ZlD;rw[if_pos h],pY]
      exact Zz1 t aC (Zte fP)
     ·rw[pW y hj]
      have iV:=hS.rows j y hy
      rcases iV with h2|⟨b',o',ha',h2⟩
      ·exact .inl h2
      ·refine .inr ⟨b',o',ha',λjj v sm=>?_⟩
       have wI:y.rules≠[]:=λe=>by
        have:=(zA0 sm).1
        rw[ZaH Ru.len,Zxv,e]at this;simp at this
       obtain⟨_,⟨_,jI⟩,_,_⟩:=bK.all j y hy
       rcases jI with h1|⟨bY,sb,_⟩
       ·exact absurd h1 wI
       rw[sb]at ha';cases ha'
       have dA:=ZBY bK hx hy (Ne.symm hj) hn wI pY sb
       rw[Mem.upd_other _ (λe=>dA e.symm)];exact h2 jj v sm
   ·have h:eqS r.go f=false:=h
    by_cases hj:j=i
    ·subst hj
     rw[hx]at hy;cases hy
     rw[hg,ZuR fP h,<-hg]
     exact hS.rows _ _ hx
    ·rw[pW y hj];exact hS.rows j y hy
  ·have dV:¬(k:Int) < (x.rules.length:Nat):=dV
   have yV:k=x.rules.length:=by omega
   refine⟨rfl,s'.states.length - (i+1),by omega,i+1,by omega,by rw[kV],⟨hS.base,λj y hy=>?_⟩,rfl⟩
   have e:Zwr f t (i+1) 0 j y=Zwr f t i k j y:=by
    unfold Zwr
    rcases Nat.lt_trichotomy j i with h1|h1|h1
    ·rw[if_pos (by omega),if_pos h1]
    ·subst h1
     rw[hx]at hy;cases hy
     rw[if_pos (by omega),if_neg (by omega),if_pos rfl,yV,ZuS]
    ·rw[if_neg (show ¬j < i+1 by omega),if_neg (show ¬j < i by omega),if_neg (show ¬j=i by omega)]
     split
     ·rw[ZpM]
     ·rfl
   rw[e];exact hS.rows j y hy
 ·have bL:¬(i:Int) < (s'.states.length:Nat):=bL
  refine ZaD (mLt iL hS.base) ⟨ZCH (λ_ x=>x.rules.map (ZlD f t)) s',by simp only[Sc.v,ZCH,List.length_mapIdx],by rw[<-rN,ju],?_⟩
  refine ZzW bP bK (λj x hx=>by simp) hS.base (λj x hx=>?_) (λj x hx r hr=>?_)
  ·have hj:=(zA0 hx).1
   have:=hS.rows j x hx
   unfold Zwr at this
   rwa [if_pos (by omega)]at this
  ·obtain⟨q,hq,rfl⟩:=List.mem_map.1 hr
   exact Zxw ((ZzV bK hx hq).mono hS.base) ht
def ZBx(s:Sc):Value->Mem->List (List Value)->Prop:=λv m' _=>∃(t:Sc)(ns:List Nat),v=.tuple #[t.v,.int .i64 0]/\Closed s ns/\t.er=(Zws s ns).er/\RepC m' t
theorem Zsi{s:Sc}:∀(v:Value)(m':Mem) (css:List (List Value)),ZBx s v m' css->Shape.fits (.tup [.agg [.int .i64,.slice,.slice],.int .i64]) v=true:=λv _ _ ⟨t,_,e,_⟩=>by rw[e];rfl
theorem ZyD(s:Sc)(ns:List Nat)(a:Option Addr)(c:Nat)(m:Mem)(hr:RepC m s)(hk:MkC s)(aC:rowRd m a (ZcX (Zmy ns)))(hc:Closed s ns):CX Tryz.prog 25 #[s.v,.slice a ns.length c] m [] (ZBx s):=by
 have aP:=ZkJ hc.nd hc.lt
 have:=hk.len
 refine(ZyC s ns a c m hr hk.light (by unfold ZcX Zmy at aC;rw[List.map_map]at aC;exact aC) hc.lt hc.nd (by omega)).mono ?_
 rintro v m' css _ ⟨k,h1,h2,h3,h4,h5⟩
 exact⟨k,ns,h1,hc,ZAd h2 h3 rfl rfl h4 (Zth hc.lt),h5.mono (ZdF _ _)⟩
set_option maxHeartbeats 1000000 in
theorem ZlB(x:SScr)(p1 p2 p3:Nat)(m:Mem)(hx:RepSC m x)(qF:p1 < 256)(gI:p2 < 256)(sj:p3 < 256):CX Tryz.prog 5 #[.agg x.cs.toArray,.int .u8 (p1:Int),.int .u8 (p2:Int),.int .u8 (p3:Int)] m [] (Ret (.bool true)):=by
 apply ZeH
 intro b m1 aB _
 refine Zah (Zyz m1) λm2 aO=>ZcF rfl ?_
 have dU:=mLt aB aO
 refine⟨_,trivial,ZAv x m2 (hx.mono dU),ZAt,?_⟩
 rintro n a n1 c a1 n2 c1 m3 aQ ⟨s,hv,hr,hk⟩ b1
 obtain⟨rfl,rfl,rfl,rfl,rfl,rfl,rfl⟩:=ZtE hv
 have cO:=mLt dU aQ
 have eR:=hk.len
 have hl:=hk.light
 have re:((s.states.length:Nat):Int)≠0:=by omega
 have hC:=Zib s m3 hr
 rw[hk.check]at hC
 refine⟨_,trivial,hC,ZtL,?_⟩
 rintro z1 z2 z3 z4 z5 z6 m4 bN hv b2
 obtain⟨rfl,rfl,rfl,rfl,rfl,rfl⟩:=ZwH hv
 have kN:=mLt cO bN
 have r4:=hr.mono bN
 refine⟨false,ZcF rfl ⟨_,ZBw top,ZcF rfl (Zaj (ZqM s m4 r4) ZtK ?_)⟩,ZcF rfl ?_⟩
 ·rintro a n c m5 cE ⟨a',c',hv,_⟩
  simp only[Value.slice.injEq]at hv
  obtain⟨rfl,rfl,rfl⟩:=hv
  exact⟨rfl,by rw[hk.problems];rfl⟩
 refine⟨λxs _ _ mm q=>∃(c j:Nat),j<=s.states.length/\c<=5*j/\xs=[.int .i64 c,.int .i64 j]/\q=s.states.length - j,⟨_,0,0,by omega,by omega,rfl,rfl⟩,?_⟩
 rintro nc nj mm q lm ⟨c,j,hj,hc,cN,rfl⟩
 simp only[List.cons.injEq,Value.int.injEq,true_and,and_true]at cN
 obtain⟨rfl,rfl⟩:=cN
 have sG:IntKind.i64.wrap ((j:Int)+1)=((j+1:Nat):Int):=by rw[Zam (by omega) (by omega)];rfl
 have rm:=r4.mono lm
 have pS:=mLt kN lm
 refine Zax (λaH=>?_) (λbL=>?_)
 ·have aH:(j:Int) < (s.states.length:Nat):=aH
  obtain⟨xj,rQ⟩:=Zcq (show j < s.states.length by omega)
  have mI:=(hk.all j xj rQ).len
  obtain⟨b3,o3,gH,jJ⟩:=Zan Sta.len rm.row rQ (by omega)
  refine⟨b3,o3,gH,⟨by omega,aH⟩,_,_,jJ,λb4=>Zaa rfl (Zaa rfl ⟨λxs _ _ mm q=>∃(c k:Nat),k<=xj.rules.length/\c<=5*j+k/\xs=[.int .i64 c,.int .i64 k]/\q=xj.rules.length - k,⟨_,c,0,by omega,by omega,rfl,rfl⟩,?_⟩)⟩
  rintro nc nk mk qk yW ⟨c',k,kH,hc',cN,rfl⟩
  simp only[List.cons.injEq,Value.int.injEq,true_and,and_true]at cN
  obtain⟨rfl,rfl⟩:=cN
  have rO:IntKind.i64.wrap ((k:Int)+1)=((k+1:Nat):Int):=by rw[Zam (by omega) (by omega)];rfl
  have wJ:IntKind.i64.wrap ((c':Int)+1)=((c'+1:Nat):Int):=by rw[Zam (by omega) (by omega)];rfl
  have rk:=rm.mono yW
  refine Zax (λdR=>?_) (λdV=>?_)
  ·have dR:(k:Int) < (xj.rules.length:Nat):=dR
   obtain⟨ru,ko⟩:=Zcq (show k < xj.rules.length by omega)
   refine⟨by decide,by decide,Zab (λ_=>⟨rfl,_,by omega,c'+1,k+1,by omega,by omega,by rw[wJ,rO],rfl⟩) (λ_=>?_)⟩
   refine⟨_,trivial,ZAJ s j k mk rk hl rQ (by omega),Zvw,?_⟩
   rintro n a n1 c a1 n2 c1 n3 m5 cE ⟨d,yX,yY,tS⟩ b5
   obtain⟨⟨rfl,rfl,rfl,rfl,rfl,rfl,rfl⟩,rfl⟩:=ZtG yX
   have hR:=ZfS d m5 tS
   rw[Zhp yY,(hk.drop rQ (show k < xj.rules.length by omega)).check]at hR
   refine⟨false,ZcF rfl (Zah hR λm6 ig=>ZcF rfl (Zah (ZvD s j k m6 (rk.mono (mLt cE ig)) hk rQ ko) λm7 kP=>⟨rfl,rfl⟩)),ZcF rfl ⟨rfl,_,by omega,c'+1,k+1,by omega,by omega,by rw[wJ,rO],rfl⟩⟩
  ·have dV:¬(k:Int) < (xj.rules.length:Nat):=dV
   exact⟨rfl,_,by omega,c',j+1,by omega,by omega,by rw[sG],rfl⟩
 ·obtain⟨i,hi⟩:∃i,i=p2 % s.states.length:=⟨_,rfl⟩
  obtain⟨k,dI⟩:∃k,k=p3 % s.states.length:=⟨_,rfl⟩
  have q9:i < s.states.length:=by rw[hi];exact Nat.mod_lt _ (by omega)
  have kH:k < s.states.length:=by rw[dI];exact Nat.mod_lt _ (by omega)
  have iY:Int.tmod (IntKind.i64.wrap (p2:Int)) (s.states.length:Int)=(i:Int):=by rw[Zam (by omega) (by omega),hi];rfl
  have iI:Int.tmod (IntKind.i64.wrap (p3:Int)) (s.states.length:Int)=(k:Int):=by rw[Zam (by omega) (by omega),dI];rfl
  obtain⟨xi,qJ⟩:=Zcq q9
  obtain⟨xk,nu⟩:=Zcq kH
  have tq:=(hk.all i xi qJ).name
  have oQ:=(hk.all k xk nu).name
  rw[iY,iI]
  obtain⟨bi,oi,yZ,tT⟩:=Zan Sta.len rm.row qJ (by omega)
  obtain⟨bk,ok,za,fX⟩:=Zan Sta.len rm.row nu (by omega)
  have zb:xk.s.size<=1000000000000000:=(hr.all xk (zA2 nu)).s
  refine⟨re,bi,oi,yZ,⟨by omega,by omega⟩,_,tT 0 _ rfl,re,bk,ok,za,⟨by omega,by omega⟩,_,fX 0 _ rfl,Zaj (ZqO s xi.s xk.s mm rm hl zb) Zsh ?_⟩
  rintro n a n4 c a3 n5 c3 m5 cE ⟨t,zc,zd,ze⟩
  obtain⟨rfl,rfl,rfl,rfl,rfl,rfl,rfl⟩:=ZtE zc
  have hR:=ZfS t m5 ze
  rw[Zhp zd,(hk.red q9 kH tq oQ).check]at hR
  refine Zah hR λm6 ig=>ZcF rfl ?_
  have r6:=rm.mono (mLt cE ig)
  refine⟨λk _ _=>bif Nat.beq k 2 then Zys s else ZBx s,_,rfl,Zr9 s m6 r6 hk,Zr8,?_⟩
  rintro a n c m7 kP ⟨ns,a',c',hv,aC,eW⟩
  simp only[Value.slice.injEq]at hv
  obtain⟨rfl,rfl,rfl⟩:=hv
  refine⟨_,rfl,ZyD s ns a c m7 (r6.mono kP) hk aC eW,Zsi,?_⟩
  rintro n a n1 c a1 n2 c1 n3 m8 iS ⟨u,ns',zf,vr,pD,zg⟩ b6 M hM zS zh
  obtain⟨⟨rfl,rfl,rfl,rfl,rfl,rfl,rfl⟩,rfl⟩:=ZtG zf
  have rh:=ZfS u M (zg.mono zh)
  rw[Zhp pD,(vr.kept hk).check hk]at rh
  exact⟨true,Zmq rfl (Zah rh λm9 qW=>⟨rfl,rfl⟩),Zac (mLt (mLt pS (mLt cE ig)) hM) rfl⟩
end Go.Proofs.YtdopppmkbkkmiaaGreatDoor