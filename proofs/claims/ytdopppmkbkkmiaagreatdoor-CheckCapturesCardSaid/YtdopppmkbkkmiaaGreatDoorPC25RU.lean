/- Part of the proof: functions of the program. No condition. -/
import Derived.Test.YtdopppmkbkkmiaaGreatDoorPC25N
import Derived.Test.YtdopppmkbkkmiaaGreatDoorMr
import Derived.Test.YtdopppmkbkkmiaaGreatDoorPEnv
import Derived.Test.YtdopppmkbkkmiaaGreatDoorPC25H
import Derived.Test.YtdopppmkbkkmiaaGreatDoorMc
import Derived.Test.YtdopppmkbkkmiaaGreatDoorPC25MD
set_option linter.unusedVariables false
set_option linter.unusedSimpArgs false
set_option linter.unusedSectionVars false
namespace Go.Proofs.YtdopppmkbkkmiaaGreatDoor
open Go Go.Eng Go.Rx Go.Proofs Go.RowKit
set_option maxRecDepth 100000
theorem Zwp(a b c d e a' b' c' d' e':Int):EqIs Tryz.prog 64 (.agg #[.int .i64 a,.int .i64 b,.int .i64 c,.int .i64 d,.int .i64 e]) (.agg #[.int .i64 a',.int .i64 b',.int .i64 c',.int .i64 d',.int .i64 e']) (a == a'&&b == b'&&c == c'&&d == d'&&e == e'):=by
 refine⟨λw=>?_,λop ox oy w=>ZeK (by kernel_rfl) op ox oy _ _ w⟩
 have u3:=Tryz.underlying3
 have a3:=Tryz.isAgg3
 have z3:=Tryz.sizeOf3
 rw[Op.equal,Op.maxDepth,show(10000:Nat)=9999+1 from rfl]
 rw[run_equalIn_agg _ _ _ _ _ (by kernel_rfl) (by kernel_rfl)]
 have hf:(Tryz.prog.fieldsOf 64).toList=[⟨ "Var",3,0,false, "", "",0⟩,⟨ "State",3,1,false, "", "",8⟩,⟨ "Rule",3,2,false, "", "",16⟩,⟨ "Action",3,3,false, "", "",24⟩,⟨ "Part",3,4,false, "", "",32⟩]:=by kernel_rfl
 rw[hf]
 go_simp
 by_cases h1:a=a' <;> by_cases h2:b=b' <;> by_cases h3:c=c' <;> by_cases h4:d=d' <;> by_cases h5:e=e' <;> simp[h1,h2,h3,h4,h5]
theorem ZAX(p:Pl):EqIs Tryz.prog 64 (.agg p.cs.toArray) (.agg p.cs.toArray) true:=by
 have h:=Zwp p.v p.s p.r p.a p.p p.v p.s p.r p.a p.p
 simp only[beq_self_eq_true,Bool.and_self]at h
 exact h
structure Item where
 s:Sc
 p:Pl
 e:Int
def Item.cs(it:Item):List Value:=it.s.cs++(it.p.cs++[.int .i64 it.e])
structure ItemOk (m:Mem)(it:Item):Prop where
 rep:RepC m it.s
 eq:it.s.check=(it.p,it.e)
theorem Zwq{l:List Item}{i:Nat}{it:Item}(h:l[i]?=some it):List.take 9 (List.drop (i*9) (l.map Item.cs).flatten)=it.cs:=by
 induction l generalizing i with
 | nil=>simp at h
 | cons x l ih=>
  cases i with
  | zero=>
   obtain rfl:x=it:=by simpa using h
   simp only[Nat.zero_mul,List.drop_zero,List.map_cons,List.flatten_cons]
   exact List.take_left' rfl
  | succ i=>
   have h:l[i]?=some it:=by simpa using h
   rw[<-ih h,List.map_cons,List.flatten_cons,show(i+1)*9=x.cs.length+i*9 by show _=9+i*9;omega,<-List.drop_drop]
   rw[List.drop_left]
theorem Zyh{α:Type}{x y:α}(h:x∈[y]):x=y:=by simpa using h
theorem Zz7{cs:List Value}{m:Mem}{b:Nat}(h:m.reads b 0 cs):rowRd m (some ⟨b,0,none⟩) ([cs]).flatten:=.inr ⟨b,0,rfl,by simpa using h⟩
theorem Zcq{n:Int}(h:0<=n/\n<=1000):I64 n:=by unfold I64;omega
theorem Zjl{m:Mem}{k:Int}{t:T}{s go:ByteArray}{code:Int}{b:Nat}{a:Ac}(hk:0<=k/\k < 256)(ht:Rep m t)(hs:s.size<=1000000000000000)(hb:m.reads b 0 a.cs)(ha:RepA m a)(hg:go.size<=1000000000000000)(hc:0<=code/\code<=1000):RepR m ⟨k,false,false,t,s,0,some ⟨b,0,none⟩,1,[a],go,code⟩:=
 ⟨hk,ht,hs,Zcq (n:=0) (by decide),by show 1<=few;decide,Zz7 hb,λx hx=>by rw[Zyh hx];exact ha,hg,Zcq hc⟩
theorem Zyi(k:Int)(hk:0<=k/\k < 256)(m:Mem):RepR m (ru0 k):=⟨hk,Zoe m,by show ByteArray.size ⟨#[]⟩<=_;decide,Zcq (n:=0) (by decide),by show 0<=few;decide,.inl rfl,λx hx=>by simp[ru0]at hx,by show ByteArray.size ⟨#[]⟩<=_;decide,Zcq (n:=0) (by decide)⟩
def Zr5(l:List Int)(r:Ru):Prop:=∃a1 a2 aa pa pc,r=Zyw a1 a2 aa pa 1 pc l
def ZBk(r:Ru):Prop:=∃aa pa pc,r=ZAh aa pa 1 pc [0]
def ZBl(r:Ru):Prop:=r=ru0 4
def Zz8(r:Ru):Prop:=∃aa,r=Zt5 aa 1 Zqn
def Zz9(r:Ru):Prop:=∃aa pa,r=Zt5 aa 1 (ZwL pa)
def ZBm(r:Ru):Prop:=∃aa pa pc,r=Zt5 aa 1 (ZmX pa pc [0])
def ZcI(a b c d:Int):Value->Mem->List (List Value)->Prop:=Ret (.agg #[.int .i64 (-1),.int .i64 a,.int .i64 b,.int .i64 c,.int .i64 d])
def awF:Fx:=λi _ _=>match i with
 | 0=>ZqN
 | 2=>ZuR [1,2]
 | 4=>Zyz (Zr5 [1,2])
 | 6=>ZcI 0 0 0 1
 | 8=>ZqN
 | 10=>ZuR [1,0]
 | 12=>Zyz (Zr5 [1,0])
 | 14=>ZcI (-1) (-1) (-1) (-1)
 | 17=>ZuR [0]
 | 19=>Zyz ZBk
 | 21=>ZcI 0 0 (-1) (-1)
 | 24=>Zyz ZBl
 | 26=>ZcI 0 0 (-1) (-1)
 | 30=>Zyz Zz8
 | 32=>ZcI 0 0 0 (-1)
 | 36=>Zyz Zz9
 | 38=>ZcI 0 0 0 (-1)
 | 42=>ZcI 1 (-1) (-1) (-1)
 | 46=>ZcI (-1) (-1) (-1) (-1)
 | 50=>ZcI (-1) (-1) (-1) (-1)
 | 53=>ZuR [0]
 | 55=>Zyz ZBm
 | 57=>ZcI 0 0 0 0
 | _=>ZqN
def ZyA:Pt:=⟨1,⟨#[120]⟩,0,E0⟩
set_option maxHeartbeats 6400000 in
theorem Zwr(m:Mem):CX Tryz.prog 6 #[] m [] (Ret (.bool true)):=by
 apply ZiR
 intro b0 xo b1 oT b2 jr
 have l0:m.le (m.add b0 Zqn.cs):=Mem.le_add xo _
 have l1:(m.add b0 Zqn.cs).le ((m.add b0 Zqn.cs).add b1 ZyA.cs):=Mem.le_add oT _
 have l2:((m.add b0 Zqn.cs).add b1 ZyA.cs).le (((m.add b0 Zqn.cs).add b1 ZyA.cs).add b2 (ZwL (some ⟨b1,0,none⟩)).cs):=Mem.le_add jr _
 have x0:(((m.add b0 Zqn.cs).add b1 ZyA.cs).add b2 (ZwL (some ⟨b1,0,none⟩)).cs).reads b0 0 Zqn.cs:=(Zaw m b0 _).mono (mLt l1 l2)
 have x1:(((m.add b0 Zqn.cs).add b1 ZyA.cs).add b2 (ZwL (some ⟨b1,0,none⟩)).cs).reads b1 0 ZyA.cs:=(Zaw (m.add b0 Zqn.cs) b1 _).mono l2
 have x2:=Zaw ((m.add b0 Zqn.cs).add b1 ZyA.cs) b2 (ZwL (some ⟨b1,0,none⟩)).cs
 have aQ:=mLt l0 (mLt l1 l2)
 refine Zak (ZkL (P:=λr=>r=ru0 3) (ru0 3) rfl (((m.add b0 Zqn.cs).add b1 ZyA.cs).add b2 (ZwL (some ⟨b1,0,none⟩)).cs) (Zyi 3 (by decide) _)) ZdQ ?_
 rintro n a n1 c a1 n2 c1 m1 aB ⟨va,sa,ra,r,rfl,hv,hC⟩
 simp only[Zg5,Sc.v,Zh9,Value.agg.injEq,Array.mk.injEq,List.cons.injEq,Value.int.injEq,Value.slice.injEq,true_and,and_true,List.length_cons,List.length_nil]at hv
 obtain⟨rfl,⟨rfl,rfl,rfl⟩,rfl,rfl,rfl⟩:=hv
 intro b3 b4 ic
 have l4:m1.le (m1.add b4 (Sta.cs ⟨⟨#[97]⟩,none,0,[]⟩)):=Mem.le_add ic _
 refine⟨.inr (by decide),(List.map Sta.cs [⟨⟨#[97]⟩,ra,1,[ru0 3]⟩]).flatten,Sta.cs ⟨⟨#[97]⟩,none,0,[]⟩,rfl,rfl,hC.row.mono l4,.inr ⟨b4,0,rfl,Zaw m1 b4 _⟩,?_,by decide,by decide,λa' c' m2 aH gG cG=>?_⟩
 ·intro u hu
  simp only[Sta.cs,List.mem_cons,List.not_mem_nil,or_false]at hu
  rcases hu with rfl|rfl <;> rfl
 have l12:=mLt l4 aH
 have lq:=hC.mono l12
 have h7:RepC m2 (ZAi a a' ra c'):=⟨lq.n,lq.vlen,lq.vrow,lq.vall,by show 2<=few;decide,gG,λx hx=>by
  simp only[ZAi,List.mem_cons,List.not_mem_nil,or_false]at hx
  rcases hx with rfl|rfl
  ·exact lq.all _ (by simp[Zg5])
  ·exact⟨by show ByteArray.size ⟨#[97]⟩<=_;decide,by show 0<=few;decide,.inl rfl,λz hz=>by simp at hz⟩,lq.vcap,cG⟩
 have tD:=mLt aQ (mLt aB l12)
 have l32:=mLt aB l12
 have y0:=x0.mono l32
 have y1:=x1.mono l32
 have y2:=x2.mono l32
 have rA0:∀M,RepA M Zqn:=λM=>⟨by show(0:Int)<=3/\(3:Int) < 256;decide,by show ByteArray.size ⟨#[110]⟩<=_;decide,by show 0<=few;decide,.inl rfl,λp hp=>by simp[Zqn]at hp,by simp only[Zqn,RepE];exact⟨by simp,.inl trivial,by constructor <;> decide⟩⟩
 have rA2:∀M,m2.le M->RepA M (ZwL (some ⟨b1,0,none⟩)):=λM hM=>⟨by show(0:Int)<=2/\(2:Int) < 256;decide,by show ByteArray.size ⟨#[110]⟩<=_;decide,by show 1<=few;decide,Zz7 (y1.mono hM),λp hp=>by
  obtain rfl:p=ZyA:=Zyh hp
  exact⟨by show(0:Int)<=1/\(1:Int) < 256;decide,by show ByteArray.size ⟨#[120]⟩<=_;decide,Zcq (n:=0) (by decide),Zlh M⟩,Zlh M⟩
 refine⟨awF,?_⟩
 have g0:m2.le m2:=Mem.le_refl _
 refine⟨_,rfl,Zr0 m2,ZlD,?_⟩
 rintro z0_0 z0_1 z0_2 z0_3 z0_4 z0_5 z0_6 z0_7 z0_8 z0_9 z0_10 z0_11 k0 nO ⟨a1k0,a2k0,hv,rrk0⟩
 simp only[ZAO,rxT,T.k,T.s0,T.s1,T.s2,T.s3,T.mn,T.mx,T.a,T.c,T.subs,Value.agg.injEq,Array.mk.injEq,List.cons.injEq,Value.bool.injEq,Value.int.injEq,Value.slice.injEq,true_and,and_true,List.length_cons,List.length_nil]at hv
 obtain⟨rfl,rfl,rfl,rfl,rfl,rfl,rfl,rfl,rfl,rfl,rfl,rfl⟩:=hv
 have gk0:m2.le k0:=mLt g0 nO
 intro bk2 fk2 Vk2 uk2 vk2 wk2
 have gV2:m2.le Vk2:=uk2
 refine⟨_,rfl,Zpu [(1:Int),(2:Int)] _ _ _ (by decide) (λn hn=>Zcq (by simp only[List.mem_cons,List.not_mem_nil,or_false]at hn;omega)) (.inr ⟨_,0,rfl,(Zaw m2 _ _).mono wk2⟩),ZhJ,?_⟩
 rintro z2_0 z2_1 z2_2 k2 jh ⟨pak2,pck2,sbk2,hv,srk2,rrk2⟩
 simp only[Value.slice.injEq]at hv
 obtain⟨rfl,rfl,rfl⟩:=hv
 have gk2:m2.le k2:=mLt gV2 jh
 refine⟨_,rfl,ZkL (P:=Zr5 [1,2]) (Zyw a1k0 z0_9 (some ⟨sbk2,0,none⟩) pak2 1 pck2 [1,2]) ⟨_,_,_,_,_,rfl⟩ k2 (Zjl (by decide) (rrk0.mono (mLt vk2 jh)) (by decide) srk2 rrk2 (by decide) (by decide)),ZdQ,?_⟩
 rintro z4_0 z4_1 z4_2 z4_3 z4_4 z4_5 z4_6 k4 pk ⟨vak4,sak4,rak4,ruk4,tE,hv,rck4⟩
 simp only[Zg5,Sc.v,Zh9,Value.agg.injEq,Array.mk.injEq,List.cons.injEq,Value.int.injEq,Value.slice.injEq,true_and,and_true,List.length_cons,List.length_nil]at hv
 obtain⟨rfl,⟨rfl,rfl,rfl⟩,rfl,rfl,rfl⟩:=hv
 have gk4:m2.le k4:=mLt gk2 pk
 refine⟨_,rfl,Zdb _ _ _ _ k4,(λv _ _ e=>by rw[show v=_ from e];rfl),?_⟩
 rintro z6_0 z6_1 z6_2 z6_3 z6_4 k6 xp hv
 simp only[awF,ZcI,Ret,Value.agg.injEq,Array.mk.injEq,List.cons.injEq,Value.int.injEq,and_true,true_and]at hv
 obtain⟨rfl,rfl,rfl,rfl,rfl⟩:=hv
 have gk6:m2.le k6:=mLt gk4 xp
 refine⟨_,rfl,Zr0 k6,ZlD,?_⟩
 rintro z8_0 z8_1 z8_2 z8_3 z8_4 z8_5 z8_6 z8_7 z8_8 z8_9 z8_10 z8_11 k8 pU ⟨a1k8,a2k8,hv,rrk8⟩
 simp only[ZAO,rxT,T.k,T.s0,T.s1,T.s2,T.s3,T.mn,T.mx,T.a,T.c,T.subs,Value.agg.injEq,Array.mk.injEq,List.cons.injEq,Value.bool.injEq,Value.int.injEq,Value.slice.injEq,true_and,and_true,List.length_cons,List.length_nil]at hv
 obtain⟨rfl,rfl,rfl,rfl,rfl,rfl,rfl,rfl,rfl,rfl,rfl,rfl⟩:=hv
 have gk8:m2.le k8:=mLt gk6 pU
 intro bk10 fk10 Vk10 uk10 vk10 wk10
 have gV10:m2.le Vk10:=uk10
 refine⟨_,rfl,Zpu [(1:Int),(0:Int)] _ _ _ (by decide) (λn hn=>Zcq (by simp only[List.mem_cons,List.not_mem_nil,or_false]at hn;omega)) (.inr ⟨_,0,rfl,(Zaw m2 _ _).mono wk10⟩),ZhJ,?_⟩
 rintro z10_0 z10_1 z10_2 k10 qx ⟨pak10,pck10,sbk10,hv,srk10,rrk10⟩
 simp only[Value.slice.injEq]at hv
 obtain⟨rfl,rfl,rfl⟩:=hv
 have gk10:m2.le k10:=mLt gV10 qx
 refine⟨_,rfl,ZkL (P:=Zr5 [1,0]) (Zyw a1k8 z8_9 (some ⟨sbk10,0,none⟩) pak10 1 pck10 [1,0]) ⟨_,_,_,_,_,rfl⟩ k10 (Zjl (by decide) (rrk8.mono (mLt vk10 qx)) (by decide) srk10 rrk10 (by decide) (by decide)),ZdQ,?_⟩
 rintro z12_0 z12_1 z12_2 z12_3 z12_4 z12_5 z12_6 k12 tF ⟨vak12,sak12,rak12,ruk12,qy,hv,rck12⟩
 simp only[Zg5,Sc.v,Zh9,Value.agg.injEq,Array.mk.injEq,List.cons.injEq,Value.int.injEq,Value.slice.injEq,true_and,and_true,List.length_cons,List.length_nil]at hv
 obtain⟨rfl,⟨rfl,rfl,rfl⟩,rfl,rfl,rfl⟩:=hv
 have gk12:m2.le k12:=mLt gk10 tF
 refine⟨_,rfl,Zdb _ _ _ _ k12,(λv _ _ e=>by rw[show v=_ from e];rfl),?_⟩
 rintro z14_0 z14_1 z14_2 z14_3 z14_4 k14 tG hv
 simp only[awF,ZcI,Ret,Value.agg.injEq,Array.mk.injEq,List.cons.injEq,Value.int.injEq,and_true,true_and]at hv
 obtain⟨rfl,rfl,rfl,rfl,rfl⟩:=hv
 have gk14:m2.le k14:=mLt gk12 tG
 intro bk17 fk17 Vk17 uk17 vk17 wk17
 have gV17:m2.le Vk17:=uk17
 refine⟨_,rfl,Zpu [(0:Int)] _ _ _ (by decide) (λn hn=>Zcq (by simp only[List.mem_cons,List.not_mem_nil,or_false]at hn;omega)) (.inr ⟨_,0,rfl,(Zaw m2 _ _).mono wk17⟩),ZhJ,?_⟩
 rintro z17_0 z17_1 z17_2 k17 tH ⟨pak17,pck17,sbk17,hv,srk17,rrk17⟩
 simp only[Value.slice.injEq]at hv
 obtain⟨rfl,rfl,rfl⟩:=hv
 have gk17:m2.le k17:=mLt gV17 tH
 refine⟨_,rfl,ZkL (P:=ZBk) (ZAh (some ⟨sbk17,0,none⟩) pak17 1 pck17 [0]) ⟨_,_,_,rfl⟩ k17 (Zjl (by decide) (Zoe _) (by decide) srk17 rrk17 (by decide) (by decide)),ZdQ,?_⟩
 rintro z19_0 z19_1 z19_2 z19_3 z19_4 z19_5 z19_6 k19 tI ⟨vak19,sak19,rak19,ruk19,qz,hv,rck19⟩
 simp only[Zg5,Sc.v,Zh9,Value.agg.injEq,Array.mk.injEq,List.cons.injEq,Value.int.injEq,Value.slice.injEq,true_and,and_true,List.length_cons,List.length_nil]at hv
 obtain⟨rfl,⟨rfl,rfl,rfl⟩,rfl,rfl,rfl⟩:=hv
 have gk19:m2.le k19:=mLt gk17 tI
 refine⟨_,rfl,Zdb _ _ _ _ k19,(λv _ _ e=>by rw[show v=_ from e];rfl),?_⟩
 rintro z21_0 z21_1 z21_2 z21_3 z21_4 k21 tJ hv
 simp only[awF,ZcI,Ret,Value.agg.injEq,Array.mk.injEq,List.cons.injEq,Value.int.injEq,and_true,true_and]at hv
 obtain⟨rfl,rfl,rfl,rfl,rfl⟩:=hv
 have gk21:m2.le k21:=mLt gk19 tJ
 refine⟨_,rfl,ZkL (P:=ZBl) (ru0 4) rfl k21 (Zyi 4 (by decide) _),ZdQ,?_⟩
 rintro z24_0 z24_1 z24_2 z24_3 z24_4 z24_5 z24_6 k24 tK ⟨vak24,sak24,rak24,ruk24,qA,hv,rck24⟩
 simp only[Zg5,Sc.v,Zh9,Value.agg.injEq,Array.mk.injEq,List.cons.injEq,Value.int.injEq,Value.slice.injEq,true_and,and_true,List.length_cons,List.length_nil]at hv
 obtain⟨rfl,⟨rfl,rfl,rfl⟩,rfl,rfl,rfl⟩:=hv
 have gk24:m2.le k24:=mLt gk21 tK
 refine⟨_,rfl,Zdb _ _ _ _ k24,(λv _ _ e=>by rw[show v=_ from e];rfl),?_⟩
 rintro z26_0 z26_1 z26_2 z26_3 z26_4 k26 tL hv
 simp only[awF,ZcI,Ret,Value.agg.injEq,Array.mk.injEq,List.cons.injEq,Value.int.injEq,and_true,true_and]at hv
 obtain⟨rfl,rfl,rfl,rfl,rfl⟩:=hv
 have gk26:m2.le k26:=mLt gk24 tL
 refine⟨_,rfl,ZkL (P:=Zz8) (Zt5 (some ⟨b0,0,none⟩) 1 Zqn) ⟨_,rfl⟩ k26 (Zjl (by decide) (Zoe _) (by decide) (y0.mono gk26) (rA0 _) (by decide) (by decide)),ZdQ,?_⟩
 rintro z30_0 z30_1 z30_2 z30_3 z30_4 z30_5 z30_6 k30 tM ⟨vak30,sak30,rak30,ruk30,qB,hv,rck30⟩
 simp only[Zg5,Sc.v,Zh9,Value.agg.injEq,Array.mk.injEq,List.cons.injEq,Value.int.injEq,Value.slice.injEq,true_and,and_true,List.length_cons,List.length_nil]at hv
 obtain⟨rfl,⟨rfl,rfl,rfl⟩,rfl,rfl,rfl⟩:=hv
 have gk30:m2.le k30:=mLt gk26 tM
 refine⟨_,rfl,Zdb _ _ _ _ k30,(λv _ _ e=>by rw[show v=_ from e];rfl),?_⟩
 rintro z32_0 z32_1 z32_2 z32_3 z32_4 k32 tN hv
 simp only[awF,ZcI,Ret,Value.agg.injEq,Array.mk.injEq,List.cons.injEq,Value.int.injEq,and_true,true_and]at hv
 obtain⟨rfl,rfl,rfl,rfl,rfl⟩:=hv
 have gk32:m2.le k32:=mLt gk30 tN
 refine⟨_,rfl,ZkL (P:=Zz9) (Zt5 (some ⟨b2,0,none⟩) 1 (ZwL (some ⟨b1,0,none⟩))) ⟨_,_,rfl⟩ k32 (Zjl (by decide) (Zoe _) (by decide) (y2.mono gk32) (rA2 _ gk32) (by decide) (by decide)),ZdQ,?_⟩
 rintro z36_0 z36_1 z36_2 z36_3 z36_4 z36_5 z36_6 k36 tO ⟨vak36,sak36,rak36,ruk36,qC,hv,rck36⟩
 simp only[Zg5,Sc.v,Zh9,Value.agg.injEq,Array.mk.injEq,List.cons.injEq,Value.int.injEq,Value.slice.injEq,true_and,and_true,List.length_cons,List.length_nil]at hv
 obtain⟨rfl,⟨rfl,rfl,rfl⟩,rfl,rfl,rfl⟩:=hv
 have gk36:m2.le k36:=mLt gk32 tO
 refine⟨_,rfl,Zdb _ _ _ _ k36,(λv _ _ e=>by rw[show v=_ from e];rfl),?_⟩
 rintro z38_0 z38_1 z38_2 z38_3 z38_4 k38 tP hv
 simp only[awF,ZcI,Ret,Value.agg.injEq,Array.mk.injEq,List.cons.injEq,Value.int.injEq,and_true,true_and]at hv
 obtain⟨rfl,rfl,rfl,rfl,rfl⟩:=hv
 have gk38:m2.le k38:=mLt gk36 tP
 refine⟨_,rfl,Zdb _ _ _ _ k38,(λv _ _ e=>by rw[show v=_ from e];rfl),?_⟩
 rintro z42_0 z42_1 z42_2 z42_3 z42_4 k42 tQ hv
 simp only[awF,ZcI,Ret,Value.agg.injEq,Array.mk.injEq,List.cons.injEq,Value.int.injEq,and_true,true_and]at hv
 obtain⟨rfl,rfl,rfl,rfl,rfl⟩:=hv
 have gk42:m2.le k42:=mLt gk38 tQ
 refine⟨_,rfl,Zdb _ _ _ _ k42,(λv _ _ e=>by rw[show v=_ from e];rfl),?_⟩
 rintro z46_0 z46_1 z46_2 z46_3 z46_4 k46 tR hv
 simp only[awF,ZcI,Ret,Value.agg.injEq,Array.mk.injEq,List.cons.injEq,Value.int.injEq,and_true,true_and]at hv
 obtain⟨rfl,rfl,rfl,rfl,rfl⟩:=hv
 have gk46:m2.le k46:=mLt gk42 tR
 refine⟨_,rfl,Zdb _ _ _ _ k46,(λv _ _ e=>by rw[show v=_ from e];rfl),?_⟩
 rintro z50_0 z50_1 z50_2 z50_3 z50_4 k50 tS hv
 simp only[awF,ZcI,Ret,Value.agg.injEq,Array.mk.injEq,List.cons.injEq,Value.int.injEq,and_true,true_and]at hv
 obtain⟨rfl,rfl,rfl,rfl,rfl⟩:=hv
 have gk50:m2.le k50:=mLt gk46 tS
 intro bk53 fk53 Vk53 uk53 vk53 wk53
 have gV53:m2.le Vk53:=uk53
 refine⟨_,rfl,Zpu [(0:Int)] _ _ _ (by decide) (λn hn=>Zcq (by simp only[List.mem_cons,List.not_mem_nil,or_false]at hn;omega)) (.inr ⟨_,0,rfl,(Zaw m2 _ _).mono wk53⟩),ZhJ,?_⟩
 rintro z53_0 z53_1 z53_2 k53 tT ⟨pak53,pck53,sbk53,hv,srk53,rrk53⟩
 simp only[Value.slice.injEq]at hv
 obtain⟨rfl,rfl,rfl⟩:=hv
 have gk53:m2.le k53:=mLt gV53 tT
 refine⟨_,rfl,ZkL (P:=ZBm) (Zt5 (some ⟨sbk53,0,none⟩) 1 (ZmX pak53 pck53 [0])) ⟨_,_,_,rfl⟩ k53 (Zjl (by decide) (Zoe _) (by decide) srk53 rrk53 (by decide) (by decide)),ZdQ,?_⟩
 rintro z55_0 z55_1 z55_2 z55_3 z55_4 z55_5 z55_6 k55 tU ⟨vak55,sak55,rak55,ruk55,qD,hv,rck55⟩
 simp only[Zg5,Sc.v,Zh9,Value.agg.injEq,Array.mk.injEq,List.cons.injEq,Value.int.injEq,Value.slice.injEq,true_and,and_true,List.length_cons,List.length_nil]at hv
 obtain⟨rfl,⟨rfl,rfl,rfl⟩,rfl,rfl,rfl⟩:=hv
 have gk55:m2.le k55:=mLt gk53 tU
 refine⟨_,rfl,Zdb _ _ _ _ k55,(λv _ _ e=>by rw[show v=_ from e];rfl),?_⟩
 rintro z57_0 z57_1 z57_2 z57_3 z57_4 k57 tV hv
 simp only[awF,ZcI,Ret,Value.agg.injEq,Array.mk.injEq,List.cons.injEq,Value.int.injEq,and_true,true_and]at hv
 obtain⟨rfl,rfl,rfl,rfl,rfl⟩:=hv
 have gk57:m2.le k57:=mLt gk55 tV
 intro bT fT M
 intro e0 e1 e2 e3 e4 e5 e6 e7 e8 e9 e10 e11 e12 e13 e14 e15 e16 e17 e18 e19 e20 e21 e22 e23 e24 e25 e26 e27 e28
 have hM:m.le M:=mLt tD (mLt gk57 (by assumption))
 have gM:m2.le M:=mLt gk57 (by assumption)
 have q4:=rck4.mono (show Mem.le k4 M by assumption)
 have q12:=rck12.mono (show Mem.le k12 M by assumption)
 have q19:=rck19.mono (show Mem.le k19 M by assumption)
 have q24:=rck24.mono (show Mem.le k24 M by assumption)
 have q30:=rck30.mono (show Mem.le k30 M by assumption)
 have q36:=rck36.mono (show Mem.le k36 M by assumption)
 have q55:=rck55.mono (show Mem.le k55 M by assumption)
 obtain⟨a1_4,a2_4,aa_4,pa_4,pc_4,rfl⟩:=tE
 obtain⟨b1x_12,b2x_12,bb_12,pb_12,pd_12,rfl⟩:=qy
 obtain⟨ac_19,pe_19,pf_19,rfl⟩:=qz
 obtain rfl:=qA
 obtain⟨ad_30,rfl⟩:=qB
 obtain⟨ae_36,pg_36,rfl⟩:=qC
 obtain⟨af_55,ph_55,pi_55,rfl⟩:=qD
 have ZAt:∀n:Int,0<=n/\n<=1000->RepC M (ZpE n):=λn hn=>⟨Zcq hn,by show 0<=few;decide,.inl rfl,λv hv=>by simp[ZpE]at hv,by show 0<=few;decide,.inl rfl,λv hv=>by simp[ZpE]at hv,Nat.le_refl 0,Nat.le_refl 0⟩
 have i0:ItemOk M ⟨Zg5 z4_1 z4_4 rak4 (Zyw a1_4 a2_4 aa_4 pa_4 1 pc_4 [1,2]),⟨-1,0,0,0,1⟩,309⟩:=⟨q4,ex1 _ _ _ _ _ _ _ _ _⟩
 have i1:ItemOk M ⟨Zg5 z12_1 z12_4 rak12 (Zyw b1x_12 b2x_12 bb_12 pb_12 1 pd_12 [1,0]),⟨-1,-1,-1,-1,-1⟩,0⟩:=⟨q12,ex2 _ _ _ _ _ _ _ _ _⟩
 have i2:ItemOk M ⟨Zg5 z19_1 z19_4 rak19 (ZAh ac_19 pe_19 1 pf_19 [0]),⟨-1,0,0,-1,-1⟩,306⟩:=⟨q19,ex3 _ _ _ _ _ _ _⟩
 have i3:ItemOk M ⟨Zg5 z24_1 z24_4 rak24 (ru0 4),⟨-1,0,0,-1,-1⟩,304⟩:=⟨q24,ex4 _ _ _⟩
 have i4:ItemOk M ⟨Zg5 z30_1 z30_4 rak30 (Zt5 ad_30 1 Zqn),⟨-1,0,0,0,-1⟩,308⟩:=⟨q30,ex5 _ _ _ _ _⟩
 have i5:ItemOk M ⟨Zg5 z36_1 z36_4 rak36 (Zt5 ae_36 1 (ZwL pg_36)),⟨-1,0,0,0,-1⟩,308⟩:=⟨q36,ex6 _ _ _ _ _ _⟩
 have i6:ItemOk M ⟨ZAi a a' ra c',⟨-1,1,-1,-1,-1⟩,303⟩:=⟨h7.mono gM,ex7 _ _ _ _⟩
 have i7:ItemOk M ⟨ZpE 9,⟨-1,-1,-1,-1,-1⟩,302⟩:=⟨ZAt 9 (by decide),ex8⟩
 have i8:ItemOk M ⟨ZpE 1,⟨-1,-1,-1,-1,-1⟩,300⟩:=⟨ZAt 1 (by decide),ex9⟩
 have i9:ItemOk M ⟨Zg5 z55_1 z55_4 rak55 (Zt5 af_55 1 (ZmX ph_55 pi_55 [0])),⟨-1,0,0,0,0⟩,309⟩:=⟨q55,ZBr _ _ _ _ _ _ _⟩
 obtain⟨L,hL⟩:∃L:List Item,L=[⟨Zg5 z4_1 z4_4 rak4 (Zyw a1_4 a2_4 aa_4 pa_4 1 pc_4 [1,2]),⟨-1,0,0,0,1⟩,309⟩,⟨Zg5 z12_1 z12_4 rak12 (Zyw b1x_12 b2x_12 bb_12 pb_12 1 pd_12 [1,0]),⟨-1,-1,-1,-1,-1⟩,0⟩,⟨Zg5 z19_1 z19_4 rak19 (ZAh ac_19 pe_19 1 pf_19 [0]),⟨-1,0,0,-1,-1⟩,306⟩,⟨Zg5 z24_1 z24_4 rak24 (ru0 4),⟨-1,0,0,-1,-1⟩,304⟩,⟨Zg5 z30_1 z30_4 rak30 (Zt5 ad_30 1 Zqn),⟨-1,0,0,0,-1⟩,308⟩,⟨Zg5 z36_1 z36_4 rak36 (Zt5 ae_36 1 (ZwL pg_36)),⟨-1,0,0,0,-1⟩,308⟩,⟨ZAi a a' ra c',⟨-1,1,-1,-1,-1⟩,303⟩,⟨ZpE 9,⟨-1,-1,-1,-1,-1⟩,302⟩,⟨ZpE 1,⟨-1,-1,-1,-1,-1⟩,300⟩,⟨Zg5 z55_1 z55_4 rak55 (Zt5 af_55 1 (ZmX ph_55 pi_55 [0])),⟨-1,0,0,0,0⟩,309⟩]:=⟨_,rfl⟩
 have x5:L.length=10:=by rw[hL];rfl
 have bL:∀it∈L,ItemOk M it:=λit oU=>by
  rw[hL]at oU
  simp only[List.mem_cons,List.not_mem_nil,or_false]at oU
  rcases oU with rfl|rfl|rfl|rfl|rfl|rfl|rfl|rfl|rfl|rfl
  ·exact i0
  ·exact i1
  ·exact i2
  ·exact i3
  ·exact i4
  ·exact i5
  ·exact i6
  ·exact i7
  ·exact i8
  ·exact i9
 have aF:∀(i:Nat)(it:Item),L[i]?=some it->∀TB:List Value,TB=(L.map Item.cs).flatten->List.take 9 (List.drop (Int.toNat (i:Int)*9) TB)=it.cs:=λi it h TB hT=>by rw[hT,zA8];exact Zwq h
 refine⟨λxs _ _ _ q=>∃i:Nat,i<=10/\xs=[.int .i64 i]/\q=10 - i,⟨10,0,by omega,rfl,rfl⟩,?_⟩
 rintro y m' q hm' ⟨i,hi,hx,rfl⟩
 simp only[List.cons.injEq,Value.int.injEq,and_true,true_and]at hx
 subst hx
 have gP:=mLt hM hm'
 refine ZaE (λaG=>?_) (λbM=>?_)
 ·have aG:(i:Int) < (10:Nat):=aG
  obtain⟨it,oU⟩:=Zet (show i < L.length by omega)
  have bN:=bL it (zA2 oU)
  rw[aF i it oU]
  rotate_left
  ·rw[hL];rfl
  refine⟨⟨by omega,by omega⟩,Zaa (by rw[Nat.ble_eq];rw[zA8];show i*9<=81;omega) λb14=>Zaa (by rfl) (Zaa (by rfl) ?_)⟩
  refine Zak (Zps it.s m' (bN.rep.mono hm')) (λv _ _ e=>by rw[show v=_ from e];rfl) ?_
  rintro n96 n97 n98 n99 n100 n101 m3 aQ hv
  rw[bN.eq]at hv
  have hv:Value.tuple #[.agg #[.int .i64 n96,.int .i64 n97,.int .i64 n98,.int .i64 n99,.int .i64 n100],.int .i64 n101]=Value.tuple #[.agg it.p.cs.toArray,.int .i64 it.e]:=hv
  simp only[Pl.cs,Value.tuple.injEq,Value.agg.injEq,Array.mk.injEq,List.cons.injEq,Value.int.injEq,and_true,true_and]at hv
  obtain⟨⟨rfl,rfl,rfl,rfl,rfl⟩,rfl⟩:=hv
  intro b15
  refine⟨false,Zaa (by rfl) ⟨true,ZAX it.p,ZdO rfl (Zao (v:=.int .i64 it.e) rfl (Zaa rfl (ZdO (by show(!(it.e == it.e))=false;simp) (Zaa (by rfl) (Zah (ZtP it.s m3 (bN.rep.mono (mLt hm' aQ))) λm4 bJ=>⟨by trivial,rfl,Zaf ?_⟩)))))⟩,ZdO rfl ⟨by trivial,rfl,10 - (i+1),by omega,i+1,by omega,?_,rfl⟩⟩
  ·rw[bN.eq]
   show(!((it.e == 0) == (it.e == 0)))=false
   simp
  ·rw[Zam (by omega) (by omega)];rfl
 ·refine Zak (Zye 306 m') (λv _ _ e=>by rw[show v=_ from e];rfl) ?_
  rintro s m3 aQ hs
  obtain rfl:s=ZuQ 306:=by simpa[Ret]using hs
  exact Zac (mLt gP aQ) (by show Value.bool _=Value.bool true;kernel_rfl)
def Zm0(z:Pl×Int):List Value:=[.int .i64 z.1.v,.int .i64 z.1.s,.int .i64 z.1.r,.int .i64 z.1.a,.int .i64 z.1.p,.int .i64 z.2]
theorem ZtQ(L:List (Pl×Int)):(L.map Zm0).flatten.length=L.length*6:=by
 induction L with
 | nil=>rfl
 | cons x l ih=>rw[List.map_cons,List.flatten_cons,zA1,ih,List.length_cons,Nat.succ_mul];show 6+_=_;omega
theorem ZtR(s:Sc):s.problems.length<=20001:=by
 have h1:=ZhY s
 have h2:s.problems.length<=s.places.length:=List.length_filterMap_le _ _
 omega
def PrR(L:List (Pl×Int)):Value->Mem->List (List Value)->Prop:=λv m' _=>∃a c,v=.slice a L.length c/\rowRd m' a (L.map Zm0).flatten
theorem Zr1{L}:∀(v:Value)(m':Mem) (css:List (List Value)),PrR L v m' css->Shape.fits .slice v=true:=λv _ _ ⟨_,_,e,_⟩=>by rw[e];rfl
theorem Zpv(L:List (Pl×Int))(g:Nat)(fi ca:List Value)(m:Mem)(hL:L.length<=20001)(hI:IX Tryz.prog g fi ca m (L.map λz=>[ZmZ z])):
  CX Tryz.prog 70 #[.slice none 0 0,.func (.func g) fi.toArray ca.toArray] m [] (PrR L):=by
 apply ZaP
 intro b
 refine⟨_,hI,λy hy=>?_,λ_ css tks m' q=>q<=L.length/\∃a c,css=[[.slice a q c]]/\tks=[.slice a q c]/\rowRd m' a ((L.take q).map Zm0).flatten,⟨by omega,none,0,rfl,rfl,.inl rfl⟩,?_,?_⟩
 ·obtain⟨z,_,rfl⟩:=List.mem_map.1 hy;rfl
 ·rintro n n1 n2 n3 n4 n5 cs a n6 c m1 q aB hq ⟨re,a',c',cE,ht,hr⟩ b1
  obtain rfl:cs=[.slice a' q c']:=by simpa using cE
  simp only[List.cons.injEq,Value.slice.injEq,and_true]at ht
  obtain⟨e1,e2,e3⟩:=ht
  subst a n6 c
  have hq:(L.map λz=>[ZmZ z])[(q:Nat)]?=some [Value.agg #[.int .i64 n,.int .i64 n1,.int .i64 n2,.int .i64 n3,.int .i64 n4,.int .i64 n5]]:=hq
  rw[List.getElem?_map]at hq
  obtain⟨z,hz,iD⟩:=Option.map_eq_some_iff.1 hq
  simp only[ZmZ,List.cons.injEq,Value.agg.injEq,Array.mk.injEq,Value.int.injEq,true_and,and_true]at iD
  obtain⟨rfl,rfl,rfl,rfl,rfl,rfl⟩:=iD
  have aG:=(zA0 hz).1
  refine Zao (v:=.slice a' q c') rfl λb2 jr=>Zaa rfl ?_
  have bH:m1.le (m1.add b2 (Zm0 z)):=Mem.le_add jr _
  refine⟨.inl rfl,((L.take q).map Zm0).flatten,Zm0 z,?_,rfl,hr.mono bH,.inr ⟨b2,0,rfl,Zaw m1 b2 _⟩,λu hu=>?_,by show(q+1)*48<=_;omega,by show q+1<=_;omega,λa2 c2 m2 aH gG=>⟨rfl,by omega,a2,c2,rfl,rfl,?_⟩⟩
  ·rw[ZtQ,List.length_take,Nat.min_eq_left re];rfl
  ·simp only[Zm0,List.mem_cons,List.not_mem_nil,or_false]at hu
   rcases hu with rfl|rfl|rfl|rfl|rfl|rfl <;> rfl
  ·rw[List.take_add_one,hz,List.map_append,List.flatten_append]
   have:(List.map Zm0 (some z).toList).flatten=Zm0 z:=by simp
   rw[this];exact gG
 ·rintro cs a n c m1 aB ⟨re,a',c',cE,ht,hr⟩
  obtain rfl:cs=[.slice a' (L.map λz=>[ZmZ z]).length c']:=by simpa using cE
  rw[List.length_map]at hr ⊢
  rw[List.take_length]at hr
  exact Zao (v:=.slice a' L.length c') rfl (ZaJ aB ⟨a',c',rfl,hr⟩)
theorem ZmR(L:List (Pl×Int))(g:Nat)(fi ca:List Value)(m:Mem)(hL:L.length<=20001)(hI:IX Tryz.prog g fi ca m (L.map λz=>[ZmZ z])):
  CX Tryz.prog 43 #[.func (.func g) fi.toArray ca.toArray] m [] (PrR L):=by
 apply ZbW
 refine Zak (Zpv L g fi ca m hL hI) Zr1 ?_
 rintro a n c m1 aB ⟨a',c',hv,hr⟩
 exact ZaJ aB ⟨a',c',hv,hr⟩
theorem Zpw(s:Sc)(m:Mem)(hr:RepC m s):CX Tryz.prog 12 #[s.v] m [] (PrR s.problems):=by
 apply ZfA
 intro b m1 aB _
 refine Zah (Zda s m1 (hr.mono aB)) λm2 aH=>Zab (λhl=>Zac (mLt aB aH) ?_) (λhl=>?_)
 ·have hl:s.light=false:=by simpa using hl
  have he:s.problems=[]:=by rw[Zf4];unfold Sc.places;rw[hl];rfl
  rw[he];exact⟨none,0,rfl,.inl rfl⟩
 have fH:=mLt aB aH
 refine Zak (Zjk s m2) (λv m' css h=>by obtain⟨_,rfl,_⟩:=h;rfl) ?_
 rintro g fi ca m3 aQ ⟨b4,hv,mu⟩
 obtain⟨rfl,rfl,rfl⟩:=Zcw hv
 have cT:=mLt fH aQ
 refine Zak (ZmR s.problems _ _ _ m3 (ZtR s) (ZhI s m3 b4 (hr.mono cT) mu)) Zr1 ?_
 rintro a n c m4 bJ ⟨a',c',hv,oJ⟩
 exact ZaJ (mLt cT bJ) ⟨a',c',hv,oJ⟩
end Go.Proofs.YtdopppmkbkkmiaaGreatDoor
namespace Go.Proofs.YtdopppmkbkkmiaaGreatDoor
open Go Go.Eng Go.Proofs Go.RowKit
open Go.Value (int slice agg bool string tuple func)
open Go.IntKind (u8 u64 i64)
set_option maxRecDepth 100000
noncomputable def ZiS:Env:={ EB with
 frzNew:=[1] }
theorem ZhK(aA:Int)(aC aD:Bool)(aE aZ aW aV dP dQ eC:Int)(cB:Option Addr)(cC cD:Nat)(cU:ByteArray)(cP:Int)(cJ:Option Addr)(cK cL:Nat)(dC:ByteArray)(dD:Int)(m:Mem)(R:RT)(h:
 lV [int u8 aA,bool aC,bool aD,int u8 aE,int u64 aZ,int u64 aW,int u64 aV,int u64 dP,int i64 dQ,int i64 eC,slice cB cC cD,string cU,int i64 cP,slice cJ cK cL,string
 dC,int i64 dD] λxL=>fzM m xL λb m'=>∀(b:Nat),∃R_1,True/\CX pG 40 (.mk [agg (.mk xL)]) m' [] R_1/\Za6 (.agg [.int i64,.slice,.slice]) R_1/\∀n a n_1 c a_1 n_2 c_1 m'_1,lX (agg (.mk [int i64 n,slice a
 n_1 c,slice a_1 n_2 c_1])) λyL=>m'.le m'_1->R_1 yL m'_1 []->kB pG 39 [yL] m'_1 λb m'=>br (!b) (rtM m m' R (agg (.mk [int u8 0,bool false,bool false,int u8 0,int u64 0,int u64 0,int u64 0,int u64 0,int i64 0,
 int i64 0,slice none 0 0,string bE0,int i64 0,slice none 0 0,string bE0,int i64 0]))) (∃R_2,True/\CX pG 41 (.mk [agg (.mk xL)]) m' [] R_2/\Za6 (.agg [.int u8,.bool,.bool,.int u8,.int u64,.int u64,.int u64,.int
 u64,.int i64,.int i64,.slice,.str,.int i64,.slice,.str,.int i64]) R_2/\∀n (b b_1:Bool) n_3 n_4 n_5 n_6 n_7 n_8 n_9 a n_10 c s n_11 a_2 n_12 c_2 s_1 n_13 m'_2,lX (agg (.mk [int u8 n,bool b,bool b_1,int u8 n_3,int
 u64 n_4,int u64 n_5,int u64 n_6,int u64 n_7,int i64 n_8,int i64 n_9,slice a n_10 c,string s,int i64 n_11,slice a_2 n_12 c_2,string s_1,int i64 n_13])) λyL=>m'.le m'_2->R_2 yL m'_2 []->rtM m m'_2 R yL)):CX Tryz.prog 10 #[.agg #[.int .u8 aA,.bool aC,.bool aD,.int .u8 aE,.int .u64 aZ,.int .u64 aW,.int .u64 aV,.int .u64 dP,.int .i64 dQ,.int .i64 eC,.slice cB cC cD,.string cU,.int .i64 cP,.slice cJ cK cL,.string dC,.int .i64 dD]] m [] R:=
 Zad (E:=ZiS) Zal mix Tryz.func10 (by kernel_rfl) (Eq.mp (by kernel_rfl) h)
end Go.Proofs.YtdopppmkbkkmiaaGreatDoor
namespace Go.Proofs.YtdopppmkbkkmiaaGreatDoor
open Go Go.Eng Go.Rx Go.Proofs Go.RowKit
set_option maxRecDepth 100000
end Go.Proofs.YtdopppmkbkkmiaaGreatDoor
namespace Go.Proofs.YtdopppmkbkkmiaaGreatDoor
open Go Go.Eng Go.Proofs Go.RowKit
open Go.Value (int slice agg bool string tuple func)
open Go.IntKind (u8 u64 i64)
set_option maxRecDepth 100000
noncomputable def Zby:Env:={ EB with
 loops:=swI nLa [(3,⟨[(5,.slice),(10,.int .i64)],[],[(19,8)],false⟩)]
 tokOf:=swI 0 [(4,19),(19,19)]
 thaw:=true }
theorem Zbo(p0a:Option Addr)(p0n p0c p1g:Nat)(p1fi p1ca:List Value)(m:Mem)(R:RT)(h:
 ∃I,inI I [slice none 0 0,int i64 0] [] [slice none 0 0] m/\∀a n c n_1 a_1 n_2 c_1 (m':Mem) (n_3:Nat),lX (slice a_1 n_2 c_1) λyL=>lX (slice a n c) λyL_1=>lE (n+1) λyL_2=>True->I [yL_1,int i64 n_1] []
 [yL] m' n_3->br (decide (n_1 < (↑p0n:Int))) (atA p0a λb o=>Zag n_1 p0n/\∃v v_1 v_2 v_3 v_4 v_5 v_6 v_7:Value,lV [v,v_1,v_2,v_3,v_4,v_5,v_6,v_7] λxL=>m'.reads b (o+Int.toNat n_1*8) xL/\∀(b:Nat),
 chk (v.oneCell'&&(v_1.oneCell'&&(v_2.oneCell'&&(v_3.oneCell'&&(v_4.oneCell'&&(v_5.oneCell'&&(v_6.oneCell'&&(v_7.oneCell'&&true)))))))) (∃R,True/\CX pG p1g (Array.mk (List.append (List.append p1fi [agg (.mk xL)])
 p1ca)) m' [] R/\Za6 (.agg [.int u8,.str,.slice,.int u8,.any,.str,.int i64,.slice]) R/\∀n_4 s a_4 n_5 c_2 n_6 (v:Value) s_1 n_7 a_5 n_8 c_3 m'_1,lV [int u8 n_4,string s,slice a_4 n_5 c_2,int u8 n_6,v,string s_1,
 int i64 n_7,slice a_5 n_8 c_3] λxL=>m'.le m'_1->R (agg (.mk xL)) m'_1 []->∀b,lM (m'_1.add b xL) λmL=>m'_1.free b->(Tok.mk yL 8=Tok.mk yL_1 8\/yL_1=slice none 0 0\/c < yL_2)/\∃(xs:List Value),∃(ys:List
 Value),xs.length=n*8/\ys.length=1*8/\rowRd mL a xs/\rowRd mL (some (Addr.mk b 0 none)) ys/\(∀(u:Value),u∈ys->u.oneCell'=true)/\yL_2*112<=140737488355328/\yL_2<=9223372036854775807/\∀(a':Option Addr)
 (c':Nat) m',mL.le m'->rowRd m' a' (List.append xs ys)->TokFact mL a a' yL_2 c'->nxI n_3 I [slice a' yL_2 c',int i64 (i64.wrap (n_1+1))] [] [slice a' yL_2 c'] m')) (some (Tok.mk yL 8)=some (Tok.mk yL_1 8)/\R yL_1 m' [])):CXT Tryz.prog 65 #[.slice p0a p0n p0c,.func (.func p1g) p1fi.toArray p1ca.toArray] m 8 R:=
 Zfg (E:=Zby) Zal mix Tryz.func65 [.v (.slice p0a p0n p0c),.v (.func (.func p1g) p1fi.toArray p1ca.toArray)] (by kernel_rfl) (Eq.mp (by kernel_rfl) h)
end Go.Proofs.YtdopppmkbkkmiaaGreatDoor
namespace Go.Proofs.YtdopppmkbkkmiaaGreatDoor
open Go Go.Eng Go.Rx Go.Proofs Go.RowKit
set_option maxRecDepth 100000
theorem ZtS(cb:Nat)(Q:Ac->Ac->Mem->Prop)(L:List Ac)(a:Option Addr)(d:Nat)(m:Mem)(aF:rowRd m a (L.map Ac.cs).flatten)(hl:L.length<=few)(lR:∀x∈L,∀m2,m.le m2->CX Tryz.prog cb #[.agg x.cs.toArray] m2 [] (λv m3 _=>∃y:Ac,v=.agg y.cs.toArray/\Q x y (nw m2 m3))):
  CXT Tryz.prog 65 #[.slice a L.length d,.func (.func cb) #[] #[]] m 8 (Zrt Ac.cs Q m L):=by
 have hl:L.length<=100000:=hl
 apply Zbo (p1fi:=[]) (p1ca:=[])
 refine⟨λxs css tvs m' q=>∃(k:Nat)(a':Option Addr)(c':Nat)(L':List Ac)(μ:Nat->Mem),k<=L.length/\q=L.length - k/\xs=[.slice a' L'.length c',.int .i64 k]/\tvs=[.slice a' L'.length c']/\Each Ac.cs Q m m' (L.take k) a' c' L' μ,⟨_,0,none,0,[],_,by omega,rfl,rfl,rfl,Each.nil m⟩,?_⟩
 rintro a1 n1 c1 z a2 n2 c2 m2 q _ ⟨k,a',c',L',μ,hk,hq,cZ,dK,hE⟩
 simp only[List.cons.injEq,Value.slice.injEq,Value.int.injEq,true_and,and_true]at cZ dK
 obtain⟨⟨rfl,rfl,rfl⟩,rfl⟩:=cZ
 obtain⟨rfl,rfl,rfl⟩:=dK
 have jN:L'.length=k:=by rw[hE.len,List.length_take];omega
 refine Zab (λaG=>?_) (λbM=>?_)
 ·have aR:k < L.length:=by have:=zA6 aG;omega
  obtain⟨x,hx⟩:=ZaK aR
  obtain⟨b,o,ha,bU⟩:=Zap Ac.len aF hx (by omega)
  have hw:IntKind.i64.wrap ((k:Int)+1)=((k+1:Nat):Int):=by rw[Zam (by omega) (by omega)];rfl
  refine⟨b,o,ha,⟨by omega,by omega⟩,_,_,_,_,_,_,_,_,bU.mono hE.le,λb3=>Zaa rfl ⟨_,trivial,lR x (zA2 hx) m2 hE.le,(λv _ _ ⟨y,h,_⟩=>by rw[h];rfl),?_⟩⟩
  intros
  refine Zpj λys=>?_
  rintro aQ ⟨y,hv,hQ⟩ b4 ic
  obtain rfl:ys=y.cs:=by simpa using hv
  have bI:(L'.length+1)*112<=140737488355328:=by omega
  refine Zdt Ac.len Ac.one ic y (hE.row.mono aQ) 112 bI (by omega) (.inl rfl) λa5 c5 m5 cH bO bB=>?_
  have dF:=hE.step Ac.len (by omega) hx aQ hQ ic cH bO bB
  exact⟨L.length - (k+1),by omega,k+1,a5,c5,L'++[y],_,by omega,rfl,by rw[hw,zA1];rfl,by rw[zA1];rfl,dF⟩
 ·have dA:k=L.length:=by have:=of_decide_eq_false bM;omega
  rw[dA,List.take_length]at hE
  exact⟨rfl,_,_,L',μ,rfl,hE⟩
structure CopyT (m m':Mem)(q:Ru):Prop where
 row:rowRd m' q.aa (q.acts.map Ac.cs).flatten
 acq:(q.aa=none/\q.acts.length=0/\q.ac=0)\/∃b,q.aa=some ⟨b,0,none⟩/\q.acts.length<=q.ac/\0 < q.ac*8/\(∀o,o < q.ac*8->∃v,m' b o=some v)/\m.free b
 t:Rep (m'.off λb=>q.aa=some ⟨b,0,none⟩) q.t
 all:∀a∈q.acts,RepA (m'.off λb=>q.aa=some ⟨b,0,none⟩) a
theorem CopyT.mono{m0 m m':Mem}{q:Ru}(h:CopyT m m' q)(hm:m0.le m):CopyT m0 m' q:=
 ⟨h.row,h.acq.imp_right λ⟨b,h1,h2,h3,h4,h5⟩=>⟨b,h1,h2,h3,h4,Zb6 hm h5⟩,h.t,h.all⟩
def Zws(m:Mem)(q:Ru):Value->Mem->List (List Value)->Prop:=λv m' _=>∃q':Ru,v=.agg q'.cs.toArray/\q'.er=q.er/\CopyT m m' q'
theorem Zjm{m:Mem}{q:Ru}:∀(v:Value)(m':Mem) (css:List (List Value)),Zws m q v m' css->Shape.fits (.agg [.int .u8,.bool,.bool,.int .u8,.int .u64,.int .u64,.int .u64,.int .u64,.int .i64,.int .i64,.slice,.str,.int .i64,.slice,.str,.int .i64]) v=true:=λv _ _ ⟨t,e,_⟩=>by rw[e];rfl
set_option maxHeartbeats 1000000 in
theorem Zyj(x:Ru)(m:Mem)(hr:RepR m x)(hl:LtR x):CX Tryz.prog 41 #[.agg x.cs.toArray] m [] (Zws m x):=by
 apply Zeo
 intro b b1
 refine Zak (ZrR x.t m hr.t (zA6 hl.1)) ZrQ ?_
 rintro n0 n1 n2 n3 n4 n5 n6 a n c m1 aB ⟨t',hv,he,cY⟩
 simp only[T.v,Value.agg.injEq,Array.mk.injEq,List.cons.injEq,Value.int.injEq,Value.slice.injEq,true_and,and_true]at hv
 obtain⟨rfl,rfl,rfl,rfl,rfl,rfl,rfl,rfl,rfl,rfl⟩:=hv
 refine⟨_,trivial,(ZtS 66 QA x.acts x.aa x.ac m1 (hr.row.mono aB) hr.len (λp hp m2 aH=>Zx5 p m2 ((hr.all p hp).mono (mLt aB aH)) (hl.2 p hp))).room,(λv _ _ ⟨_,_,_,⟨_,_,_,_,h,_⟩,_⟩=>by rw[h];rfl),?_⟩
 rintro a' n' c' m2 aH ⟨mm,gP,ow,⟨a5,c5,L',μ,hv',hE⟩,cM⟩
 simp only[Value.slice.injEq]at hv'
 obtain⟨rfl,rfl,rfl⟩:=hv'
 have fH:=mLt aB aH
 refine⟨m2,fH,Mem.le_refl _,⟨x.k,x.bg,x.en,t',x.s,x.n,a',c',L',x.go,x.code⟩,rfl,?_,hE.row.mono ow,?_,?_,λy hy=>?_⟩
 ·simp only[Ru.er,he,hE.same λ_ _ _ h=>h.1]
 ·rcases hE.blk with⟨h1,h2,h3⟩|⟨h1,b2,h2,h3,_,_⟩
  ·exact .inl ⟨h2,by show L'.length=0;rw[hE.len,h1];rfl,h3⟩
  ·have hL:0 < L'.length:=by rw[hE.len];exact List.length_pos_iff.2 h1
   have cG:=hE.cap
   refine .inr ⟨b2,h2,cG,by show 0 < c'*8;omega,λo ho=>?_,Zb6 aB h3⟩
   by_cases aG:o < L'.length*8
   ·rcases hE.row.mono ow with h4|⟨b3,o3,h4,h5⟩
    ·have:=congrArg List.length h4
     rw[ZaU Ac.len]at this;simp at this;omega
    ·rw[h2]at h4;cases h4
     have h6:o < (L'.map Ac.cs).flatten.length:=by rw[ZaU Ac.len];exact aG
     have:=h5 o _ (zA3 h6)
     exact⟨_,by rwa [Nat.zero_add]at this⟩
   ·rcases cM with h4|⟨b3,o3,n3,c3,h4,h5,h6,h7⟩
    ·rw[h2]at h4;cases h4
    ·rw[h2]at h4
     simp only[Value.slice.injEq,Option.some.injEq,Addr.mk.injEq,and_true]at h4
     obtain⟨⟨rfl,rfl⟩,rfl,rfl⟩:=h4
     obtain⟨u,hu⟩:=h7 o (by omega) ho
     exact⟨u,by rwa [Nat.zero_add]at hu⟩
 ·refine cY.mono (Zov (mLt (Zjf _ _) aH) λb2 h=>⟨?_,rfl⟩)
  rcases hE.blk with⟨_,h2,_⟩|⟨_,b3,h2,h3,_,_⟩
  ·have h:a'=_:=h
   rw[h2]at h;cases h
  ·have h:a'=_:=h
   rw[h2]at h;cases h
   exact Zb6 (Zjf _ _) h3
 ·obtain⟨i,hi⟩:=List.getElem?_of_mem hy
  have aG:i < x.acts.length:=by rw[<-hE.len];exact(zA0 hi).1
  have hq:=hE.q i _ _ (zA3 aG) hi
  refine hq.2.mono (Zov (mLt (hE.sub i aG) (mLt (Zjf _ _) ow)) λb2 h=>?_)
  rcases hE.blk with⟨_,h2,_⟩|⟨_,b3,h2,_,_,h4⟩
  ·have h:a'=_:=h
   rw[h2]at h;cases h
  ·have h:a'=_:=h
   rw[h2]at h;cases h
   exact h4 i aG
theorem ZtT(q:Ru)(m:Mem)(hr:RepR m q)(hl:LtR q)(fW:Zl7 q=true):CX Tryz.prog 10 #[.agg q.cs.toArray] m [] (Zws m q):=by
 apply ZhK
 intro b m1 aB _ b1
 refine Zak (Zzz q m1 (hr.mono aB)) Zv9 ?_
 rintro n a n1 c a1 n2 c1 m2 aH ⟨s,hv,fQ,fO⟩
 obtain⟨rfl,rfl,rfl,rfl,rfl,rfl,rfl⟩:n=s.n/\a=s.va/\n1=s.vars.length/\c=s.vc/\a1=s.sa/\n2=s.states.length/\c1=s.sc:=by simpa[Sc.v,and_assoc]using hv
 have h:=Zda s m2 fQ
 rw[fO,fW]at h
 refine Zah h λm3 aQ=>ZdO rfl ?_
 have cT:=mLt aB (mLt aH aQ)
 refine Zak (Zyj q m3 (hr.mono cT) hl) Zjm ?_
 rintro k0 bg en k1 s0 s1 s2 s3 mn mx at_ nt ct st nn aa na ca go cd m4 bJ ⟨q',hv,he,hq⟩
 exact⟨m4,mLt cT bJ,Mem.le_refl _,q',hv,he,hq.mono cT⟩
theorem ZuS(a b c d e f:Int):EqIs Tryz.prog 66 (.agg #[.int .i64 a,.int .i64 b,.int .i64 c,.int .i64 d,.int .i64 e,.int .i64 f]) (.agg #[.int .i64 a,.int .i64 b,.int .i64 c,.int .i64 d,.int .i64 e,.int .i64 f]) true:=by
 refine⟨λw=>?_,λop ox oy w=>ZeK (by kernel_rfl) op ox oy _ _ w⟩
 have u3:=Tryz.underlying3
 have a3:=Tryz.isAgg3
 have z3:=Tryz.sizeOf3
 have u5:=Tryz.underlying58
 have a5:=Tryz.isAgg58
 have z5:=Tryz.sizeOf58
 have a6:=Tryz.isAgg64
 have z6:=Tryz.sizeOf64
 have pl:∀n,(Op.equalIn (n+2) 64 (.agg #[.int .i64 a,.int .i64 b,.int .i64 c,.int .i64 d,.int .i64 e]) (.agg #[.int .i64 a,.int .i64 b,.int .i64 c,.int .i64 d,.int .i64 e])).run Tryz.prog w=.ok true w:=λn=>by
  rw[run_equalIn_agg _ _ _ _ _ (by kernel_rfl) (by kernel_rfl)]
  have hf:(Tryz.prog.fieldsOf 64).toList=[⟨ "Var",3,0,false, "", "",0⟩,⟨ "State",3,1,false, "", "",8⟩,⟨ "Rule",3,2,false, "", "",16⟩,⟨ "Action",3,3,false, "", "",24⟩,⟨ "Part",3,4,false, "", "",32⟩]:=by kernel_rfl
  rw[hf]
  go_simp
 rw[Op.equal,Op.maxDepth,show(10000:Nat)=9997+2+1 from rfl]
 rw[run_equalIn_agg _ _ _ _ _ (by kernel_rfl) (by kernel_rfl)]
 have hf:(Tryz.prog.fieldsOf 66).toList=[⟨ "Place",64,0,false, "", "",0⟩,⟨ "Error",58,5,false, "", "",40⟩]:=by kernel_rfl
 rw[hf]
 go_simp
end Go.Proofs.YtdopppmkbkkmiaaGreatDoor
namespace Go.Proofs.YtdopppmkbkkmiaaGreatDoor
open Go Go.Eng Go.Proofs Go.RowKit
open Go.Value (int slice agg bool string tuple func)
open Go.IntKind (u8 u64 i64)
set_option maxRecDepth 100000
noncomputable def ZdB:Env:={ EB with
 loops:=swI nLa [(6,⟨[(25,.int .i64)],[],[],false⟩),(9,⟨[(33,.int .i64)],[],[],false⟩)]
 joins:=swI none [(12,some [(68,.bool)]),(18,some [(105,.bool)])]
 dr:=swI [] [(20,[dO 0 [],dO 1 [],dO 2 [0,1],dO 3 [0,1,2],dO 4 [0,1,2,3],dO 5 [0,1,2,3,4],dO 6 [0,1,2,3,4,5],dO 7 [0,1,2,3,4,5,6],dO 8 [0,1,2,3,4,5,6,7],dO 9 [0,1,2,3,4,5,6,7,8],dO 10 [0,1,2,3,4,5,6,7,8,9],dO 11 [0,1,2,3,4,5,6,7],dO 12 [0,1,2,3,4,5,6,7],⟨13,[10],[],none,[0,1,2,3,4,5,6,7],[]⟩,⟨14,[10],[],none,[0,1,2,3,4,5,6,7,13],[]⟩,dO 15 [0,1,2,3,4,5,6,7,13,14],dO 16 [0,1,2,3,4,5,6,7,13,14,15],dO 17 (rg 0 8++rg 11 6),dO 18 (rg 0 8++rg 11 7),dO 19 (rg 0 19),dO 20 (rg 0 20),dO 21 (rg 0 21),dO 22 (rg 0 22),dO 23 (rg 0 23),dO 24 (rg 0 24),dO 25 (rg 0 22),dO 26 (rg 0 22),⟨27,[10],[],none,rg 0 22,[]⟩,⟨28,[10],[],none,rg 0 22++[27],[]⟩,dO 29 (rg 0 22++[27,28]),dO 30 (rg 0 22++[27,28,29]),dO 31 (rg 0 22++rg 25 6),dO 32 (rg 0 22++rg 25 7),dO 33 (rg 0 33),dO 34 (rg 0 34),dO 35 (rg 0 35)])]
 tokOf:=swI 0 [(82,991)]
 frzNew:=[2]
 acqT:=swI none [(15,some (991,8))]
 last:=swI false [(15,true)]
 lastK:=swI 1 [(15,3)]
 gb:=true
 thaw:=true }
theorem Zdh(aA:Int)(aM:Option Addr)(aK aN:Nat)(aJ:Option Addr)(aI aO:Nat)(p1:Int)(m:Mem)(R:RT)(h:
 lE (i64.wrap (Int.tmod p1 (10:Int))) λyL=>lV [int u8 aA,slice aM aK aN,slice aJ aI aO] λxL=>lV [int u8 0,Value.float .f64 0,string bE0,int i64 0,slice none 0 0,int u8 3,string (.mk (.mk
 [120])),slice none 0 0,int u8 10,Value.float .f64 0,string bE0,int i64 yL,slice none 0 0] λcz=>lV [int u8 2,string (.mk (.mk [115])),int i64 0,int u8 0,Value.float .f64 0,string bE0,int i64 0,slice none 0 0,int
 u8 3,string bE0,int i64 yL,int u8 0,Value.float .f64 0,string bE0,int i64 0,slice none 0 0] λba=>fzM m xL λb m'=>lE [some (Box.mk b xL 25 3 true true)] λda=>m.free b->(∀(b' o:Nat)(u:Value),m' b' o =
 some u->m b' o=some u\/b'=b)->kB pG 6 [] m' λdb m'=>br (!db) (rtM m m' R (bool false)) (∃R_1,True/\CX pG 7 (.mk [agg (.mk xL)]) m' [] R_1/\Za6 (.agg [.int i64,.slice,.slice]) R_1/\∀n a dc c bb ar dd au,lV
 [int i64 n,slice a dc c,slice bb ar dd] λxL=>m'.le au->R_1 (agg (.mk xL)) au []->∀de,lE (some (Box.mk de xL 30 3 false true)::da) λbc=>(10:Int)≠0/\∃I,inI I [int i64 0] [] [] au/\∀n (m':Mem) (bd:Nat),
 lX (int i64 n) λai=>True->I [ai] [] [] m' bd->br (decide (n < (↑ar:Int))) (atA bb λdf o=>Zag n ar/\∃v ae:Value,lV [v,ae] λbe=>m'.reads df (o+Int.toNat n*2) be/\∀dg,lE (some (Box.mk dg be 34 2
 false true)::bc) λaj=>chk (v.oneCell'&&(ae.oneCell'&&true)) (chk (Zbl ae) (∃ak,inI ak [int i64 0] [] [] m'/\∀ah (m':Mem) (av:Nat),lX (int i64 ah) λal=>lV [int i64 (i64.wrap (ah+1))] λbf=>True->ak
 [al] [] [] m' av->br (decide (ah < (↑(slN ae):Int))) (chk (Zbl ae) (atA (slA ae) λdh o=>Zag ah (slN ae)/\∃v bg bh aw ax ay az a0 a1 a2 a3 bi bj bk bl bm:Value,lE (decide (RowKit.intOf v ≥ 3)) λbn=>lE
 (RowKit.intOf v == 1) λam=>lV [agg (.mk [aw,ax,ay,az,a0,a1,a2,a3])] λan=>lE (ZaR u8 v&&decide (u8=u8)) λaf=>lV [v,bg,bh,aw,ax,ay,az,a0,a1,a2,a3,bi,bj,bk,bl,bm] λao=>m'.reads dh (o +
 Int.toNat ah*16) ao/\∀bo,lE (some (Box.mk bo ao 45 16 false true)::aj) λaa=>chk (v.oneCell'&&(bg.oneCell'&&(bh.oneCell'&&(aw.oneCell'&&(ax.oneCell'&&(ay.oneCell'&&(az.oneCell'&&(a0.oneCell' &&
 (a1.oneCell'&&(a2.oneCell'&&(a3.oneCell'&&(bi.oneCell'&&(bj.oneCell'&&(bk.oneCell'&&(bl.oneCell'&&(bm.oneCell'&&true)))))))))))))))) (kI pG 8 [agg (.mk ao)] m' λn m'=>∃(bp:Bool),lE (!n == (-1)) λbq=>
 lV [bool bp] λab=>chk af (br (RowKit.intOf v == 2) (br (!n == 0) (Zae aa/\[bool true]=ab) (chk af (br bn (br bq (Zae aa/\[bool true]=ab) (chk af (br am (kI pG 9 an m' λac m'=>Zae aa/\[bool !n == ac]=ab)
 (Zae aa/\[bool false]=ab)))) (chk af (br am (kI pG 9 an m' λac m'=>Zae aa/\[bool !n == ac]=ab) (Zae aa/\[bool false]=ab)))))) (chk af (br bn (br bq (Zae aa/\[bool true]=ab) (chk af (br am (kI pG 9 an
 m' λac m'=>Zae aa/\[bool !n == ac]=ab) (Zae aa/\[bool false]=ab)))) (chk af (br am (kI pG 9 an m' λac m'=>Zae aa/\[bool !n == ac]=ab) (Zae aa/\[bool false]=ab))))))/\br bp (rtM m m' R (bool
 false)) (∃R_2,True/\CX pG 10 (.mk [agg (.mk ao)]) m' [] R_2/\Za6 (.agg [.int u8,.bool,.bool,.int u8,.int u64,.int u64,.int u64,.int u64,.int i64,.int i64,.slice,.str,.int i64,.slice,.str,.int i64]) R_2/\∀ac
 (di dj:Bool) dk dl dm dn dp dq dr a ds c s dt a4 a5 bs du dv ap,lX (bool dj) λbt=>lX (string s) λbu=>lX (bool di) λbv=>lX (slice a4 a5 bs) λa6=>lX (int u8 ac) λbw=>lX (int u8 dk) λbx=>lX (int u64
 dm) λbz=>lX (int i64 dt) λca=>lX (int u64 dl) λcb=>lX (int i64 dr) λcc=>lX (int u64 dp) λcd=>lX (int u64 dn) λce=>lX (int i64 dq) λcf=>lX (slice a ds c) λcg=>lV [string du,int i64 dv] fun
 ch=>lE (a5+2) λad=>m'.le ap->R_2 (agg (.mk (bw::bv::bt::bx::cb::bz::ce::cd::cf::cc::cg::bu::ca::a6::ch))) ap []->∃a,∃a7,∃c,lE (Tok.mk (slice a a7 c) 8) λci=>lM (Mem.cutA ap a (a7 *
 8)) λmL=>ZA1 ap m 8 a a7 c/\(∀(cj:Nat),Tok.blk ci=some cj->b≠cj/\True)/\∀b,lM (mL.add b ba) λck=>lE (some (Box.mk b ba 54 16 true true)) λdw=>lV (int u8 1::string bE0::slice (some (Addr.mk b 0
 none)) 2 2::cz) λcl=>mL.free b->∀b,lM (ck.add b cl) λmL=>lE (some (Box.mk b cl 57 16 true true)) λdx=>ck.free b->(ci=Tok.mk a6 8\/a6=slice none 0 0\/bs < ad)/\∃(xs:List Value),∃(ys:List Value),
 xs.length=a5*8/\ys.length=2*8/\rowRd mL a4 xs/\rowRd mL (some (Addr.mk b 0 none)) ys/\(∀(u:Value),u∈ys->u.oneCell'=true)/\ad*112<=140737488355328/\ad<=9223372036854775807/\∀a' c' m',lE (some (Tok.mk
 (slice a' ad c') 8)) λcm=>lE [cm,cm] λag=>lV (bw::bv::bt::bx::cb::bz::ce::cd::cf::cc::cg::bu::ca::slice a' ad c'::ch) λcn=>lE (dx::dw::some (Box.mk bo cn 45 16 false true)::aj) fun
 dy=>mL.le m'->rowRd m' a' (List.append xs ys)->TokFact mL a4 a' ad c'->∃R_3,True/\CX pG 11 (.mk [agg (.mk xL),ai,al,agg (.mk cn)]) m' [] R_3/\Za6 (.tup [.agg [.int i64,.slice,.slice],.int i64]) R_3/\∀dz a d0 c d1
 d2 d3 co a8,lV [int i64 dz,slice a d0 c,slice d1 d2 d3] λxL=>m'.le a8->R_3 (tuple (.mk [agg (.mk xL),int i64 co])) a8 []->∀b,lE (some (Box.mk b xL 30 3 false true)::dy) λa9=>kS pG 12 [agg (.mk xL)] a8 λa aq
 c m'=>∃(b:Bool),br (!co == 0) (Zae a9/\ag=ag/\[bool true]=[bool b]) (br (decide (yL<=n)) (Zae a9/\ag=ag/\[bool !(↑aq:Int) == 0]=[bool b]) (Zae a9/\ag=ag/\[bool false]=[bool b]))/\br b (rtM m m'
 R (bool false)) (br (decide (yL > n)) (br (!(↑aq:Int) == 2) (rtM m m' R (bool false)) (atA a λb o=>Zag (0:Int) aq/\∃v cp cq cr cs ct:Value,m'.reads b (o+0) [v,cp,cq,cr,cs,ct]/\∃(b:Bool),EqIs pG 66
 (agg (.mk [v,cp,cq,cr,cs,ct])) (agg (.mk [int i64 (-1),ai,al,int i64 (i64.wrap ((↑ad:Int) - (2:Int))),int i64 1,int i64 309])) b/\br (!b) (rtM m m' R (bool false)) (atA a λb o=>Zag (1:Int) aq/\∃v cu cv
 cw cx cy:Value,m'.reads b (o+6) [v,cu,cv,cw,cx,cy]/\∃(b:Bool),EqIs pG 66 (agg (.mk [v,cu,cv,cw,cx,cy])) (agg (.mk [int i64 (-1),ai,al,int i64 (i64.wrap ((↑ad:Int) - (1:Int))),int i64 (-1),int i64
 309])) b/\br (!b) (rtM m m' R (bool false)) (Zae aj/\nxI av ak bf [] [] m')))) (Zae aj/\nxI av ak bf [] [] m')))))) (Zae bc/\nxI bd I [int i64 (i64.wrap (n+1))] [] [] m')))) (rtM m m' R (bool true)))):CX Tryz.prog 3 #[.agg #[.int .u8 aA,.slice aM aK aN,.slice aJ aI aO],.int .u8 p1] m [] R:=
 Zad (E:=ZdB) Zal mix Tryz.func3 (by kernel_rfl) (Eq.mp (by kernel_rfl) h)
end Go.Proofs.YtdopppmkbkkmiaaGreatDoor
namespace Go.Proofs.YtdopppmkbkkmiaaGreatDoor
open Go Go.Eng Go.Rx Go.Proofs Go.RowKit
set_option maxRecDepth 100000
theorem Zyk{m:Mem}{a:Option Addr}(k:Nat):(m.off λb=>a=some ⟨b,0,none⟩).le (m.cutA a k)\/¬∃b,a=some ⟨b,0,none⟩:=by
 by_cases h:∃b,a=some ⟨b,0,none⟩
 ·obtain⟨b,rfl⟩:=h
  refine .inl ⟨λb' o v hv=>?_,λb' e he=>?_⟩
  ·by_cases hb:b'=b
   ·subst hb;rw[Mem.off_free (Y:=λz=>some (⟨b',0,none⟩:Addr)=some ⟨z,0,none⟩) rfl]at hv;cases hv
   ·rw[Mem.off_at (Y:=λz=>some (⟨b,0,none⟩:Addr)=some ⟨z,0,none⟩) (λe=>hb (by cases e;rfl))]at hv
    show(if b'=b/\k<=o then none else m b' o)=some v
    rw[if_neg (λe=>hb e.1)];exact hv
  ·by_cases hb:b'=b
   ·subst hb;rw[Mem.off_kn (Y:=λz=>some (⟨b',0,none⟩:Addr)=some ⟨z,0,none⟩) rfl]at he;cases he
   ·rw[Mem.off_k (Y:=λz=>some (⟨b,0,none⟩:Addr)=some ⟨z,0,none⟩) (λe=>hb (by cases e;rfl))]at he
    exact he
 ·exact .inr h
theorem Zyl{m:Mem}{b k:Nat}{cs:List Value}(h:rowRd m (some ⟨b,0,none⟩) cs)(hk:cs.length<=k):rowRd (m.cutA (some ⟨b,0,none⟩) k) (some ⟨b,0,none⟩) cs:=by
 rcases h with h|⟨b',o,ha,h⟩
 ·exact .inl h
 ·cases ha
  refine .inr ⟨b,0,rfl,λj v hj=>?_⟩
  have hl:=(zA0 hj).1
  show(if b=b/\k<=0+j then none else m b (0+j))=some v
  rw[if_neg (by omega)];exact h j v hj
structure CutT (mC m0:Mem)(q:Ru):Prop where
 row:rowRd mC q.aa (q.acts.map Ac.cs).flatten
 t:Rep mC q.t
 all:∀a∈q.acts,RepA mC a
 le:m0.le mC
theorem CopyT.cut{m0 m m':Mem}{q:Ru}(h:CopyT m m' q)(h0:m0.le m)(hm:m.le m'):CutT (m'.cutA q.aa (q.acts.length*8)) m0 q:=by
 rcases h.acq with⟨h1,h2,h3⟩|⟨b,h1,h2,h3,h4,h5⟩
 ·have e:(m'.off λb=>q.aa=some ⟨b,0,none⟩).le m':=Mem.off_le _ _
  have e2:m'.cutA q.aa (q.acts.length*8)=m':=by rw[h1];rfl
  rw[e2]
  exact⟨h.row,h.t.mono e,λa ha=>(h.all a ha).mono e,mLt h0 hm⟩
 ·have e:(m'.off λb=>q.aa=some ⟨b,0,none⟩).le (m'.cutA q.aa (q.acts.length*8)):=(Zyk _).resolve_right λhn=>hn ⟨b,h1⟩
  refine⟨?_,h.t.mono e,λa ha=>(h.all a ha).mono e,?_⟩
  ·have hr:=h.row
   rw[h1]at hr ⊢
   exact Zyl hr (by rw[ZaU Ac.len];exact Nat.le_refl _)
  ·refine⟨λb' o v hv=>?_,λb' e he=>?_⟩
   ·have hv':=hm _ _ _ (h0 _ _ _ hv)
    rw[h1]
    show(if b'=b/\_<=o then none else m' b' o)=some v
    rw[if_neg λ⟨e,_⟩=>by subst e;have:=h0 _ _ _ hv;rw[h5 o]at this;cases this]
    exact hv'
   ·rw[h1];exact(mLt h0 hm).k _ _ he
theorem Zwt{s:Sc}{n:Int}{a a1:Option Addr}{p c p1 c1:Nat}(h:Value.agg #[.int .i64 n,.slice a p c,.slice a1 p1 c1]=s.v):n=s.n/\a=s.va/\p=s.vars.length/\c=s.vc/\a1=s.sa/\p1=s.states.length/\c1=s.sc:=by
 simpa[Sc.v,and_assoc]using h
theorem Zpx{z:Int}:∀(v:Value)(m':Mem) (css:List (List Value)),Ret (.int .i64 z) v m' css->Shape.fits (.int .i64) v=true:=λv _ _ h=>by rw[show v=_ from h];rfl
theorem Zr2{z n:Int}{m':Mem}(h:Ret (.int .i64 z) (.int .i64 n) m' []):n=z:=by
 have h:Value.int .i64 n=.int .i64 z:=h
 injection h
theorem ZtU{m:Mem}{c:Nat}(hc:c < 10):∀p∈(ZrC c).parts,RepP m p:=by
 intro p hp
 have hp:p=⟨2,⟨#[115]⟩,0,E0⟩\/p=⟨3,.empty,c,E0⟩:=by simpa[ZrC]using hp
 rcases hp with rfl|rfl
 ·exact⟨by show(0:Int)<=2/\(2:Int) < 256;decide,by show ByteArray.size ⟨#[115]⟩<=_;decide,by show I64 0;unfold I64;omega,Zlh m⟩
 ·exact⟨by show(0:Int)<=3/\(3:Int) < 256;decide,by show ByteArray.size .empty<=_;decide,by show I64 (c:Int);unfold I64;omega,Zlh m⟩
theorem ZtV{m:Mem}{c:Nat}(hc:c < 10):RepA m (Zs7 c):=
 ⟨by show(0:Int)<=3/\(3:Int) < 256;decide,by show ByteArray.size ⟨#[120]⟩<=_;decide,by show 0<=few;decide,.inl rfl,λp hp=>by simp[Zs7]at hp,by
  show RepE m (Zyx c)
  simp only[Zyx,RepE]
  exact⟨by simp,.inl trivial,by constructor <;> first|decide|omega⟩⟩
set_option maxHeartbeats 1000000 in
theorem Zgt(x:SScr)(p1:Nat)(m:Mem)(hx:RepSC m x)(sA:p1 < 256):CX Tryz.prog 3 #[.agg x.cs.toArray,.int .u8 (p1:Int)] m [] (Ret (.bool true)):=by
 apply Zdh
 intro b1 m1 aB ou oT tn
 refine Zah (Zwr m1) λm2 aH=>ZdO rfl ?_
 have fH:=mLt aB aH
 refine⟨_,trivial,ZxZ x m2 (hx.mono fH),ZxX,?_⟩
 rintro n a n1 c a1 n2 c1 m3 aQ ⟨s,hv,hr,hk⟩ b4
 obtain⟨rfl,rfl,rfl,rfl,rfl,rfl,rfl⟩:=Zwt hv
 have cT:=mLt fH aQ
 have fO:=hk.len
 have hl:=hk.light
 obtain⟨c,hc⟩:∃c,c=p1 % 10:=⟨_,rfl⟩
 have lS:c < 10:=by omega
 have hw:IntKind.i64.wrap (Int.tmod (p1:Int) 10)=(c:Int):=by
  show IntKind.i64.wrap ((p1 % 10:Nat):Int)=_
  rw[Zam (by omega) (by omega),hc]
 rw[hw]
 refine⟨by decide,λxs _ _ mm q=>∃j:Nat,j<=s.states.length/\xs=[.int .i64 j]/\m3.le mm/\q=s.states.length - j,⟨_,0,by omega,rfl,Mem.le_refl _,rfl⟩,?_⟩
 rintro u mm q _ ⟨j,hj,hu,pA,rfl⟩
 obtain rfl:u=j:=by simpa using hu
 have xq:IntKind.i64.wrap ((j:Int)+1)=((j+1:Nat):Int):=by rw[Zam (by omega) (by omega)];rfl
 have rm:=hr.mono pA
 refine ZaE (λaG=>?_) (λbM=>Zac (mLt cT pA) rfl)
 have aG:(j:Int) < (s.states.length:Nat):=aG
 obtain⟨xj,ls⟩:=Zet (show j < s.states.length by omega)
 have sI:=(hk.all j xj ls).len
 obtain⟨b10,o10,tW,qE⟩:=Zap Sta.len rm.row ls (by omega)
 refine⟨b10,o10,tW,⟨by omega,aG⟩,_,_,qE,λb11=>Zaa rfl (Zaa rfl ⟨λxs _ _ mn q=>∃k:Nat,k<=xj.rules.length/\xs=[.int .i64 k]/\m3.le mn/\q=xj.rules.length - k,⟨_,0,by omega,rfl,pA,rfl⟩,?_⟩)⟩
 rintro u mn q _ ⟨k,nC,hu,tX,rfl⟩
 obtain rfl:u=k:=by simpa using hu
 have u4:IntKind.i64.wrap ((k:Int)+1)=((k+1:Nat):Int):=by rw[Zam (by omega) (by omega)];rfl
 have rn:=hr.mono tX
 refine ZaE (λeI=>?_) (λfI=>⟨rfl,_,by omega,j+1,by omega,by rw[xq],tX,rfl⟩)
 have eI:(k:Int) < (xj.rules.length:Nat):=eI
 obtain⟨ru,kC⟩:=Zet (show k < xj.rules.length by omega)
 have hQ:=(hk.all j xj ls).all ru (zA2 kC)
 have dB:=rn.all xj (zA2 ls)
 have ng:=dB.all ru (zA2 kC)
 obtain⟨b12,o12,tY,qF⟩:=Zap Ru.len dB.row kC (by omega)
 refine Zaa rfl ⟨b12,o12,tY,⟨by omega,eI⟩,_,_,_,_,_,_,_,_,_,_,_,_,_,_,_,_,qF,λb13=>Zaa rfl (Zak (Zev ru mn ng.t) Zpx ?_)⟩
 rintro n m5 cH hd
 obtain rfl:=Zr2 hd
 have tZ:=mLt tX cH
 have mT:=mLt cT tZ
 have t5:Zbj ru=(if ru.k=1 then ru.t.groups else if ru.k=2 then 0 else -1):=rfl
 refine⟨false,?_,ZdO rfl ?_⟩
 ·refine Zaa rfl (Zab (λh=>?_) (λh=>?_))
  ·have h:(ru.k == 2)=true:=h
   have h:ru.k=2:=beq_iff_eq.1 h
   exact ZdO (by rw[t5,if_neg (by omega),if_pos h];rfl) (Zaa rfl (ZdO (decide_eq_false (by show ¬ru.k ≥ 3;omega)) (Zaa rfl (ZdO (by show(ru.k == 1)=false;rw[h];rfl) ⟨rfl,rfl⟩))))
  ·have h:(ru.k == 2)=false:=h
   have h:¬ru.k=2:=beq_eq_false_iff_ne.1 h
   refine Zaa rfl (ZaE (λh3=>?_) (λh3=>?_))
   ·have h3:ru.k ≥ 3:=h3
    exact ZdO (by rw[t5,if_neg (by omega),if_neg h];rfl) (Zaa rfl (ZdO (by show(ru.k == 1)=false;exact beq_eq_false_iff_ne.2 (by omega)) ⟨rfl,rfl⟩))
   ·refine Zaa rfl (Zab (λh1=>?_) (λh1=>⟨rfl,rfl⟩))
    have h1:(ru.k == 1)=true:=h1
    have h1:ru.k=1:=beq_iff_eq.1 h1
    refine Zak (Zj1 ru.t m5 (ng.t.mono cH)) Zpx ?_
    rintro n m6 iL hd
    obtain rfl:=Zr2 hd
    exact⟨rfl,by rw[t5,if_pos h1];simp⟩
 refine Zak (ZtT ru m5 (ng.mono cH) (Zvq hl xj (zA2 ls) ru (zA2 kC)) hQ.light) Zjm ?_
 rintro k0 bg en k1 s0 s1 s2 s3 mn' mx at_ nt ct st nn aa na ca go cd m6 iL ⟨q',hv,he,hT⟩
 simp only[Ru.cs,Value.agg.injEq,Array.mk.injEq,List.cons.injEq,Value.int.injEq,Value.bool.injEq,Value.slice.injEq,Value.string.injEq,true_and,and_true,List.toArray]at hv
 obtain⟨rfl,rfl,rfl,rfl,rfl,rfl,rfl,rfl,rfl,rfl,⟨rfl,rfl,rfl⟩,rfl,rfl,⟨rfl,rfl,rfl⟩,rfl,rfl⟩:=hv
 have hC:=hT.cut tZ iL
 have e1:q'.acts.length=ru.acts.length:=by
  have:=congrArg (λr:Ru=>r.acts.length) he
  simpa[Ru.er]using this
 have eS:q'.er.k=ru.er.k/\q'.er.s=ru.er.s/\q'.er.n=ru.er.n/\q'.er.go=ru.er.go/\q'.er.code=ru.er.code:=by rw[he];exact⟨rfl,rfl,rfl,rfl,rfl⟩
 obtain⟨ek,es,en',eg,ec⟩:=eS
 have nV:=hQ.len
 refine⟨q'.aa,q'.acts.length,q'.ac,hT.acq.imp (λh=>h) (λ⟨b,h1,h2,h3,h4,h5⟩=>⟨b,h1,h2,h3,h4,Zb6 mT h5⟩),λb10 lT=>⟨λe=>?_,trivial⟩,?_⟩
 ·subst e
  rcases hT.acq with⟨h1,_⟩|⟨b,h1,_,_,_,h5⟩
  ·rw[h1]at lT;simp[Tok.blk]at lT
  ·rw[h1]at lT
   obtain rfl:b=b1:=by simpa[Tok.blk]using lT
   have:=(mLt aH (mLt aQ tZ)) _ _ _ (ou 0 _ rfl)
   rw[h5]at this;cases this
 intro b7 og b8 tz
 obtain⟨A1,qG⟩:∃A:Ac,A=⟨1,.empty,some ⟨b7,0,none⟩,2,(ZrC c).parts,E0⟩:=⟨_,rfl⟩
 have l7:=Mem.le_add og ((ZrC c).parts.map Pt.cs).flatten
 have l8:((m6.cutA q'.aa (q'.acts.length*8)).add b7 ((ZrC c).parts.map Pt.cs).flatten).le (((m6.cutA q'.aa (q'.acts.length*8)).add b7 ((ZrC c).parts.map Pt.cs).flatten).add b8 ([A1,Zs7 c].map Ac.cs).flatten):=Mem.le_add tz _
 refine⟨.inl rfl,(q'.acts.map Ac.cs).flatten,([A1,Zs7 c].map Ac.cs).flatten,ZaU Ac.len _,ZaU Ac.len _,(by subst qG;exact hC.row.mono (mLt l7 l8)),(by rw[qG];exact ZcA),?_,by omega,by omega,λa' c' m7 jO qH _=>?_⟩
 ·intro u hu
  simp only[List.mem_flatten,List.mem_map]at hu
  obtain⟨_,⟨e,_,rfl⟩,hu⟩:=hu
  exact Ac.one e u hu
 have jO:(((m6.cutA q'.aa (q'.acts.length*8)).add b7 ((ZrC c).parts.map Pt.cs).flatten).add b8 ([A1,Zs7 c].map Ac.cs).flatten).le m7:=by rw[qG];exact jO
 have lC7:=mLt l7 (mLt l8 jO)
 have l37:=mLt hC.le lC7
 obtain⟨r2,gG⟩:∃r2,r2=ZAM q' a' c' (some ⟨b7,0,none⟩) c:=⟨_,rfl⟩
 have aT:(q'.acts++[A1,Zs7 c]).length=q'.acts.length+2:=by simp
 have cE:r2.cs=[.int .u8 q'.k,.bool q'.bg,.bool q'.en,.int .u8 q'.t.k,.int .u64 q'.t.s0,.int .u64 q'.t.s1,.int .u64 q'.t.s2,.int .u64 q'.t.s3,.int .i64 q'.t.mn,.int .i64 q'.t.mx,.slice q'.t.a q'.t.subs.length q'.t.c,.string q'.s,.int .i64 q'.n,.slice a' (q'.acts.length+2) c',.string q'.go,.int .i64 q'.code]:=by
  rw[<-aT,gG,qG];rfl
 have cY:RepR m7 r2:=by
  rw[gG]
  refine⟨?_,hC.t.mono lC7,?_,?_,?_,?_,λa ha=>?_,?_,?_⟩
  ·show 0<=q'.k/\q'.k < 256
   rw[show q'.k=ru.k from ek];exact ng.k
  ·show q'.s.size<=_
   rw[show q'.s=ru.s from es];exact ng.s
  ·show I64 q'.n
   rw[show q'.n=ru.n from en'];exact ng.n
  ·show(q'.acts++_).length<=few
   rw[zA1]
   show q'.acts.length+2<=100000
   omega
  ·show rowRd m7 a' ((q'.acts++[_,Zs7 c]).map Ac.cs).flatten
   rw[List.map_append,List.flatten_append,<-qG];exact qH
  ·have ha:a∈q'.acts++[⟨1,.empty,some ⟨b7,0,none⟩,2,(ZrC c).parts,E0⟩,Zs7 c]:=ha
   rcases List.mem_append.1 ha with ha|ha
   ·exact(hC.all a ha).mono lC7
   ·have ha:a=⟨1,.empty,some ⟨b7,0,none⟩,2,(ZrC c).parts,E0⟩\/a=Zs7 c:=by simpa using ha
    rcases ha with rfl|rfl
    ·exact⟨by show(0:Int)<=1/\(1:Int) < 256;decide,by show ByteArray.size .empty<=_;decide,by show 2<=few;decide,(ZcA (m:=m6.cutA q'.aa (q'.acts.length*8)) (b:=b7) (cs:=((ZrC c).parts.map Pt.cs).flatten)).mono (mLt l8 jO),ZtU lS,Zlh m7⟩
    ·exact ZtV lS
  ·show q'.go.size<=_
   rw[show q'.go=ru.go from eg];exact ng.go
  ·show I64 q'.code
   rw[show q'.code=ru.code from ec];exact ng.code
 have qI:(ZkM s j k r2).er=(ZkM s j k (Zg6 ru c)).er:=by
  have:=ZrB (s:=s) (s':=s) (x:=xj) (x':=xj) rfl ls rfl (ZxI he a' c' (some ⟨b7,0,none⟩) c) k
  have h2:ZkM s j k r2=⟨s.n,s.va,s.vc,s.vars,s.sa,s.sc,s.states.set j (ZpD xj k (ZAM q' a' c' (some ⟨b7,0,none⟩) c))⟩:=by unfold ZkM;rw[ls,gG]
  rw[h2];exact this
 have oP:(ZkM s j k r2).light=true:=(Zox qI).trans (ZrE hk ls kC lS).light
 have im:=ZzA s j k r2 m7 (hr.mono l37) hl ls (by omega) cY oP
 rw[cE]at im
 refine Zak im ZqL ?_
 rintro n a n1 d a1 n2 d1 n3 m8 iu ⟨t,xr,oH,j3⟩ b9
 obtain⟨⟨rfl,rfl,rfl,rfl,rfl,rfl,rfl⟩,rfl⟩:=Zyd xr
 have km:=(ZoE (oH.trans qI)).trans (Zl8 hk ls kC lS)
 refine Zak (Zpw t m8 j3) Zr1 ?_
 rintro a n d m9 oR ⟨a2,d2,hv,aF⟩
 simp only[Value.slice.injEq]at hv
 obtain⟨rfl,rfl,rfl⟩:=hv
 have l39:=mLt l37 (mLt iu oR)
 by_cases bH:(c:Int)<=Zbj ru
 ·rw[if_pos bH]at km
  exact⟨false,ZdO rfl (ZrH (decide_eq_true bH) ⟨rfl,rfl,by rw[km];rfl⟩),ZdO rfl (ZdO (decide_eq_false (by omega)) ⟨rfl,_,by omega,k+1,by omega,by rw[u4],l39,rfl⟩)⟩
 ·rw[if_neg bH]at km
  have j4:t.problems.length=2:=by rw[km];rfl
  have iz:IntKind.i64.wrap (((q'.acts.length+2:Nat):Int) - 2)=(ru.acts.length:Int):=by rw[Zam (by omega) (by omega)];omega
  have ii:IntKind.i64.wrap (((q'.acts.length+2:Nat):Int) - 1)=((ru.acts.length+1:Nat):Int):=by
   have h0:(((q'.acts.length+2:Nat):Int) - 1)=((ru.acts.length+1:Nat):Int):=by omega
   rw[h0,Zam (by omega) (by omega)]
  have g0:t.problems[0]?=some (⟨-1,j,k,ru.acts.length,1⟩,309):=by rw[km];rfl
  have g1:t.problems[1]?=some (⟨-1,j,k,(ru.acts.length+1:Nat),-1⟩,309):=by rw[km];rfl
  obtain⟨b20,o20,t6,t7⟩:=Zap (n:=6) (cs:=Zm0) (λz=>rfl) aF g0 (by decide)
  obtain⟨b21,o21,t8,t9⟩:=Zap (n:=6) (cs:=Zm0) (λz=>rfl) aF g1 (by decide)
  refine⟨false,ZdO rfl (ZdO (decide_eq_false bH) ⟨rfl,rfl,rfl⟩),ZdO rfl (ZrH (decide_eq_true (by omega)) (ZdO (by rw[j4];rfl) ⟨b20,o20,t6,⟨by decide,by rw[j4];decide⟩,_,_,_,_,_,_,t7,true,?_,ZdO rfl ⟨b21,o21,t8,⟨by decide,by rw[j4];decide⟩,_,_,_,_,_,_,t9,true,?_,ZdO rfl ⟨rfl,_,by omega,k+1,by omega,by rw[u4],l39,rfl⟩⟩⟩))⟩
  ·rw[iz];exact ZuS _ _ _ _ _ _
  ·rw[ii];exact ZuS _ _ _ _ _ _
end Go.Proofs.YtdopppmkbkkmiaaGreatDoor