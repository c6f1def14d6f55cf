/- Part of the proof: functions of the program. No condition. -/
import Derived.Test.YtpjepnkiiojgfaaGreatPC40F
import Derived.Test.YtpjepnkiiojgfaaGreatMr
import Derived.Test.YtpjepnkiiojgfaaGreatPEnv
import Derived.Test.YtpjepnkiiojgfaaGreatPVES
import Derived.Test.YtpjepnkiiojgfaaGreatPC25AT
import Derived.Test.YtpjepnkiiojgfaaGreatPC25D
set_option linter.unusedVariables false
set_option linter.unusedSimpArgs false
set_option linter.unusedSectionVars false
noncomputable section
namespace Go.Proofs.YtpjepnkiiojgfaaGreat
open Go Go.Eng Go.Rx Go.Proofs Go.RowKit
set_option maxRecDepth 100000
theorem Zwe(s:Sc)(i k:Int)(m:Mem)(hr:RepC m s):CX Tryz.prog 47 #[s.v,.int .i64 i,.int .i64 k] m [] (Ret (.bool (ZhP s i k))):=by
 apply Zl7
 intro b m1 aG _
 refine⟨ZhP s i k,Zah (Zcc s m1 (hr.mono aG)) λm2 aK=>?_,Zaf aG rfl⟩
 refine Zab (λh1=>Zab (λh2=>Zab (λh3=>Zab (λh4=>?_) (λh4=>⟨rfl,?_⟩)) (λh3=>⟨rfl,?_⟩)) (λh2=>⟨rfl,?_⟩)) (λh1=>⟨rfl,?_⟩)
 ·have h2':0<=i:=zA6 h2
  have h3':i < s.states.length:=zA6 h3
  obtain⟨x,hx⟩:=Zao (l:=s.states) (k:=i.toNat) (by omega)
  obtain⟨bs,o,ha,cz⟩:=Zaj Sta.len (hr.mono (mLt aG aK)).row hx (by omega)
  refine⟨bs,o,ha,⟨h2',h3'⟩,_,cz 1 _ rfl,Zaa rfl ⟨rfl,?_⟩⟩
  simp only[ZhP,h1,h2,h3,h4,hx,Bool.true_and]
  rfl
 ·simp only[ZhP,h1,h2,h3,h4,Bool.true_and,Bool.false_and]
 ·simp only[ZhP,h1,h2,h3,Bool.true_and,Bool.false_and]
 ·simp only[ZhP,h1,h2,Bool.true_and,Bool.false_and]
 ·simp only[ZhP,h1,Bool.false_and]
def ZAP(s:Sc)(i k:Nat):Value->Mem->List (List Value)->Prop:=λv m' _=>∃s':Sc,v=.tuple #[s'.v,.int .i64 0]/\s'.er=(ZwB s i k).er/\RepC m' s'
theorem Ztm{s:Sc}{i k:Nat}:∀(v:Value)(m':Mem) (css:List (List Value)),ZAP s i k v m' css->Shape.fits (.tup [.agg [.int .i64,.slice,.slice],.int .i64]) v=true:=λv _ _ ⟨t,e,_⟩=>by rw[e];rfl
theorem Zwf{s:Sc}{n:Int}{a a1:Option Addr}{p c p1 c1:Nat}(h:Value.agg #[.int .i64 n,.slice a p c,.slice a1 p1 c1]=s.v):n=s.n/\a=s.va/\p=s.vars.length/\c=s.vc/\a1=s.sa/\p1=s.states.length/\c1=s.sc:=by
 simpa[Sc.v,and_assoc]using h
theorem Zyu(s:Sc)(i k:Nat)(m:Mem)(hr:RepC m s)(hl:s.light=true){x:Sta}(hx:s.states[i]?=some x)(hk:k < x.rules.length):CX Tryz.prog 13 #[s.v,.int .i64 i,.int .i64 k] m [] (ZAP s i k):=by
 have hi:=(zA0 hx).1
 have d5:s.states.length<=100000:=hr.len
 have iA:x.rules.length<=100000:=(hr.all x (zA2 hx)).len
 have fU:ZhP s i k=true:=by
  simp only[ZhP,hl,zA8,hx,Bool.true_and,zA7,decide_eq_true_eq]
  omega
 apply ZoW
 intro b m1 aG io fO px e9 b1
 have hc:=Zwe s i k m1 (hr.mono aG)
 rw[fU]at hc
 refine Zah hc λm2 aK=>Zor rfl ?_
 have cV:=mLt aG aK
 refine Zan (ZoJ s m2 (hr.mono cV) hl) ZjV ?_
 rintro n a p c a1 p1 c1 m3 aR ⟨s',hv,nX,dp,dq⟩ b3
 obtain⟨rfl,rfl,rfl,rfl,rfl,rfl,rfl⟩:=Zwf hv
 obtain⟨x',hx',sL⟩:=ZBh nX hx
 obtain⟨cC,dd,uy⟩:=Zmw sL
 have hk':k < x'.rules.length:=by omega
 have hi':=(zA0 hx').1
 rcases dq with h0|⟨bS,μ,dq⟩
 ·rw[h0]at hi';simp at hi'
 obtain⟨oV,⟨xr,oa⟩,cy,qu⟩:=dq.all i x' hx'
 rcases oa with h0|⟨bR,nQ,tG,xt,jz⟩
 ·rw[h0]at hk';simp at hk'
 have aC:(μ i).reads bR 0 (x'.rules.map Ru.cs).flatten:=by
  rcases oV.row with h|⟨b',o',ha,h⟩
  ·have:=congrArg List.length h
   rw[Za3 Ru.len]at this;simp at this;omega
  ·rw[nQ]at ha;cases ha;exact h
 have lZ:(x'.rules.map Ru.cs).flatten.length=x'.rules.length*16:=Za3 Ru.len _
 have iS:¬(μ i).free bR:=λhf=>by
  have:=aC 0 _ (zA3 (by omega))
  rw[hf]at this;cases this
 have sf:bS≠bR:=λe=>iS (e ▸ qu)
 have eY:¬m2.free b:=λhf=>by
  have:=aK _ _ _ (io 0 _ rfl)
  rw[hf]at this;cases this
 have fK:=mLt cy (ZgM m2 m3)
 obtain⟨bs0,o0,mU,cB⟩:=Zaj Sta.len dp.row hx' (by omega)
 rw[dq.sa]at mU
 simp only[Option.some.injEq,Addr.mk.injEq,and_true]at mU
 obtain⟨rfl,rfl⟩:=mU
 have cx:∀M:Mem,(m3.off λq=>q=bR).le M->M bS (0+i*2+1)=some (.slice x'.ra x'.rules.length x'.rc):=λM hM=>hM _ _ _ (by
  rw[Mem.off_at (Y:=λq=>q=bR) sf];exact(ZgM m2 m3) _ _ _ (cB 1 _ rfl))
 have qr:m.le (m3.off λq=>q=bR):=ZhO (mLt cV aR) λq e=>⟨e ▸ Zbo cV tG,e ▸ Zfa cV xt⟩
 have hw:IntKind.i64.wrap ((k:Int)+1)=((k+1:Nat):Int):=by rw[Zal (by omega) (by omega)];rfl
 refine⟨bR,(x'.rules.map Ru.cs).flatten,λe=>?_,aC.mono fK,Zbo cV tG,⟨λe=>eY (e ▸ tG),trivial⟩,λT cap=>?_⟩
 ·rw[e]at lZ;simp at lZ;omega
 rw[hw]
 have hd:=Zyt x'.rules bR x'.rc k T cap (m3.off λq=>q=bR) hk' xr (by omega)
 rw[<-nQ]at hd
 refine⟨λ_ _ _=>_,bS,0,dq.sa,⟨by omega,by omega⟩,_,cx _ (Mem.le_refl _),_,rfl,hd,(λv _ _ h=>by rw[h.1];rfl),?_⟩
 rintro a4 n4 c4 m4 cE cs4 ⟨u5,s6⟩ M hM gt
 simp only[Value.slice.injEq]at u5
 obtain⟨rfl,rfl,rfl⟩:=u5
 simp only[List.cons.injEq,and_true]at s6
 subst s6
 refine⟨bS,0,dq.sa,⟨by omega,by omega⟩,⟨[.slice x'.ra x'.rules.length x'.rc],rfl,λj v hj=>?_⟩,Zbo cV dq.free.1,rfl,λe=>eY (e ▸ dq.free.1),λu6 _=>⟨_,mLt (Mem.le_upd (mLt qr hM) (Zbo cV dq.free.1) _ _) (Mem.le_add u6 _),Mem.le_refl _,⟨s'.n,s'.va,s'.vc,s'.vars,s'.sa,s'.sc,s'.states.set i (Zmh x' k)⟩,?_,?_,Zvk dp dq hx' nQ hk' jz hM u6⟩⟩
 ·cases j with
  | zero=>simp at hj;subst hj;exact cx M hM
  | succ j=>simp at hj
 ·simp only[Sc.v,List.length_set]
 ·have h1:=Zq0 nX
  have h2:ZwB s i k=⟨s.n,s.va,s.vc,s.vars,s.sa,s.sc,s.states.set i (Zmh x k)⟩:=by unfold ZwB;rw[hx]
  rw[h2]
  exact Zvh h1.1 h1.2 (by rw[List.map_set,List.map_set,ZgO nX,Zvi sL])
end Go.Proofs.YtpjepnkiiojgfaaGreat
namespace Go.Proofs.YtpjepnkiiojgfaaGreat
open Go Go.Eng Go.Proofs Go.RowKit
open Go.Value (int slice agg bool string tuple func)
open Go.IntKind (u8 u64 i64)
set_option maxRecDepth 100000
def Zj3:Env:=EB
theorem ZeT(p0:Int)(m:Mem)(R:RT)(h:
 ∀(b b:Nat),lE (u8.wrap (Int.tdiv p0 (64:Int))) λyL=>lE (1+Int.toNat yL*1) λyL_1=>lV (ZaH [int u8 2,int u64 0,int u64 0,int u64 0,int u64 0,int i64 0,int i64 0,slice none 0 0] yL_1 [int u64 (u64.wrap
 ((1:Int)*(2:Int) ^ min (Int.toNat (Int.tmod p0 (64:Int))) 64))]) λxL=>(64:Int)≠0/\(64:Int)≠0/\(0:Int)<=Int.tmod p0 (64:Int)/\Zae yL 4/\chk (Nat.ble yL_1 (nat_lit 7)) (chk (Nat.beq (xL.length) 8 &&
 ZeI xL) (rtM m m R (agg (.mk xL))))):CX Tryz.prog 83 #[.int .u8 p0] m [] R:=
 Zad (E:=Zj3) Zap mix Tryz.func83 (by kernel_rfl) (Eq.mp (by kernel_rfl) h)
def Zhg:Env:=EB
theorem Zgd  (m:Mem)(R:RT)(h:
 ∀(b b:Nat),∃R_1,True/\CX pG 83 (.mk [int u8 120]) m [] R_1/\Zbp (shT) R_1/\∀n am an ao ap aq ar a au c m',lV [int u8 n,int u64 am,int u64 an,int u64 ao,int u64 ap,int i64 aq,int i64 ar,slice a au c] λxL=>
 m.le m'->R_1 (agg (.mk xL)) m' []->∀b,lM (m'.add b xL) λmL=>lV [int u8 6,int u64 0,int u64 0,int u64 0,int u64 0,int i64 0,int i64 0,slice (some (Addr.mk b 0 none)) 1 1] λxL=>m'.free b->∀(b:Nat),lX (slice
 (some (Addr.mk b 0 none)) 1 1) λyL=>mL.free b->∃R_2,True/\CX pG 83 (.mk [int u8 121]) (mL.add b xL) [] R_2/\Zbp (shT) R_2/\∀n av aw ax ay az a0 a a1 c (m':Mem),lV [int u8 n,int u64 av,int u64 aw,int u64 ax,int
 u64 ay,int i64 az,int i64 a0,slice a a1 c] λah=>lV (int u8 5::int u64 0::int u64 0::int u64 0::int u64 0::int i64 1::int i64 (-1)::yL::ah) λa2=>Mem.le (mL.add b xL) m'->R_2 (agg (.mk ah)) m' []->∀(b
 : Nat),lX (slice (some (Addr.mk b 0 none)) 2 2) λyL=>lM (m'.add b a2) λmL=>m'.free b->∀(b:Nat) b,lM (mL.add b [string (.mk (.mk [110])),bool true,string bE0,Value.float .f64 0]) λai=>mL.free b->∀(aa:
 Nat),lX (slice (some (Addr.mk aa 0 none)) 2 2) λa3=>lM (ai.add aa [int u8 9,Value.float .f64 0,string (.mk (.mk [110])),int i64 0,slice none 0 0,int u8 8,Value.float .f64 4607182418800017408,string bE0,int i64 0,
 slice none 0 0]) λmL=>ai.free aa->∀ab,lM (mL.add ab [int u8 9,Value.float .f64 0,string (.mk (.mk [110])),int i64 0,slice none 0 0,int u8 8,Value.float .f64 4611686018427387904,string bE0,int i64 0,slice none 0
 0]) λaj=>lV [int u8 3,string bE0,int i64 1,int u8 0,Value.float .f64 0,string bE0,int i64 0,slice none 0 0,int u8 4,string bE0,int i64 0,int u8 4,Value.float .f64 0,string bE0,int i64 0,slice (some (Addr.mk ab
 0 none)) 2 2] λxL=>mL.free ab->∀ac,lM (aj.add ac xL) λmL=>lV [int u8 3,string (.mk (.mk [110])),slice none 0 0,int u8 2,Value.float .f64 0,string bE0,int i64 0,a3,int u8 1,string bE0,slice (some (Addr.mk ac
 0 none)) 2 2,int u8 0,Value.float .f64 0,string bE0,int i64 0,slice none 0 0] λxL=>aj.free ac->∀ad,lM (mL.add ad xL) λak=>lV [int u8 1,bool false,bool false,int u8 3,int u64 0,int u64 0,int u64 0,int u64
 0,int i64 0,int i64 0,yL,string bE0,int i64 0,slice (some (Addr.mk ad 0 none)) 2 2,string (.mk (.mk [98])),int i64 0,int u8 4,bool false,bool false,int u8 0,int u64 0,int u64 0,int u64 0,int u64 0,int i64 0,int
 i64 0,slice none 0 0,string bE0,int i64 5,slice none 0 0,string bE0,int i64 1] λxL=>mL.free ad->∀ae,lM (ak.add ae xL) λmL=>ak.free ae->∀af,lM (mL.add af [int u8 3,bool false,bool false,int u8 0,int u64 0,
 int u64 0,int u64 0,int u64 0,int i64 0,int i64 0,slice none 0 0,string bE0,int i64 0,slice none 0 0,string bE0,int i64 0]) λal=>mL.free af->∀ag,al.free ag->rtM m (al.add ag [string (.mk (.mk [97])),slice (some
 (Addr.mk ae 0 none)) 2 2,string (.mk (.mk [98])),slice (some (Addr.mk af 0 none)) 1 1]) R (agg (.mk [int i64 9,slice (some (Addr.mk b 0 none)) 1 1,slice (some (Addr.mk ag 0 none)) 2 2]))):CX Tryz.prog 41 #[] m [] R:=
 Zad (E:=Zhg) Zap mix Tryz.func41 (by kernel_rfl) (Eq.mp (by kernel_rfl) h)
def Zj4:Env:={ EB with
 joins:=swI none [(6,some [(35,.bool)])] }
theorem Zic  (m:Mem)(R:RT)(h:
 ∃R_1,True/\CX pG 41 (.mk []) m [] R_1/\Zbp (.agg [.int i64,.slice,.slice]) R_1/\∀n a a6 c ah ai a7 m',lV [int i64 n,slice a a6 c,slice ah ai a7] λxL=>lX (agg (.mk xL)) λyL=>m.le m'->R_1 yL m' []->∀b,lE
 [some (Box.mk b xL 32 3 false true)] λxL=>atA ah λb o=>Zae (0:Int) ai/\∃(v:Value),m' b (o+0+1)=some v/\chk (ZbQ v) (atA (slA v) λb o=>Zae (0:Int) (slN v)/\∃v aj ak al am an ao ap aq ar au
 av aw ax ay az:Value,lV [v,aj,ak,al,am,an,ao,ap,aq,ar,au,av,aw,ax,ay,az] λab=>lV [agg (.mk ab)] λac=>m'.reads b (o+0) ab/\∀b,lE (some (Box.mk b ab 47 16 false true)::xL) λxL=>chk (v.oneCell'
 && (aj.oneCell'&&(ak.oneCell'&&(al.oneCell'&&(am.oneCell'&&(an.oneCell'&&(ao.oneCell'&&(ap.oneCell'&&(aq.oneCell'&&(ar.oneCell'&&(au.oneCell'&&(av.oneCell'&&(aw.oneCell'&&(ax.oneCell'&&(ay.oneCell' &&
 (az.oneCell'&&true)))))))))))))))) (kS pG 11 [yL] m' λa n c m'=>∃R_2,True/\CX pG 13 (.mk [yL,int i64 0,int i64 0]) m' [] R_2/\Zbp (.tup [.agg [.int i64,.slice,.slice],.int i64]) R_2/\∀a8 a9 ba c bb bc bd a0 ad,
 lV [int i64 a8,slice a9 ba c,slice bb bc bd] λae=>m'.le ad->R_2 (tuple (.mk [agg (.mk ae),int i64 a0])) ad []->∀b,lE (some (Box.mk b ae 32 3 false true)::xL) λxL=>kS pG 32 [yL] ad λa1 af c m'=>∃(b:Bool),
 br (!a0 == 0) (Zac xL/\[bool true]=[bool b]) (br (!(↑n:Int) == 11) (Zac xL/\[bool true]=[bool b]) (Zac xL/\[bool !(↑af:Int) == 2]=[bool b]))/\br b (rtM m m' R (bool false)) (∃R_3,True/\CX pG 21 (.mk [yL])
 m' [] R_3/\Zbp (.agg [.int i64,.int i64,.int i64,.int i64,.int i64,.int i64]) R_3/\∀be bf bg bh bi bj aa,lX (agg (.mk [int i64 be,int i64 bf,int i64 bg,int i64 bh,int i64 bi,int i64 bj])) λyL=>m'.le aa->R_3 yL
 aa []->∃(b:Bool),EqIs pG 75 yL (agg (.mk [int i64 2,int i64 3,int i64 5,int i64 2,int i64 2,int i64 2])) b/\br b (atA a1 λb o=>Zae (0:Int) af/\∃(v:Value),aa b (o+0)=some v/\∀b,aa.free b->kB pG 38
 [v,slice (some (Addr.mk b 0 none)) 1 1] (aa.add b [int i64 1]) λb m'=>br b (atA a1 λb o=>Zae (1:Int) af/\∃(v:Value),m' b (o+1)=some v/\chk (ZbQ v) (br ((↑(slN v):Int) == 0) (kS pG 27 ac m' λbk bl c
 m'=>∀b,m'.free b->kB pG 42 [slice bk bl c,slice (some (Addr.mk b 0 none)) 1 1] (m'.add b [string (.mk (.mk [110]))]) λb m'=>br b (kS pG 28 ac m' λbm bn c m'=>∀b,m'.free b->kB pG 42 [slice bm bn c,slice (some
 (Addr.mk b 0 none)) 1 1] (m'.add b [string (.mk (.mk [110]))]) λb m'=>br b (kI pG 30 ac m' λbo m'=>br (bo == 1) (atA a λb o=>Zae (5:Int) n/\∃v a2 a3 a4 a5:Value,m'.reads b (o+25) [v,a2,a3,a4,a5]/\∃
 (b:Bool),EqIs pG 27 (agg (.mk [v,a2,a3,a4,a5])) (agg (.mk [int i64 (-1),int i64 0,int i64 0,int i64 1,int i64 (-1)])) b/\br b (∃R_4,True/\CX pG 21 (.mk [agg (.mk ae)]) m' [] R_4/\Zbp (.agg [.int i64,.int i64,
 .int i64,.int i64,.int i64,.int i64]) R_4/\∀n bp bq bs bt bu ag,lX (agg (.mk [int i64 n,int i64 bp,int i64 bq,int i64 bs,int i64 bt,int i64 bu])) λyL=>m'.le ag->R_4 yL ag []->∃(b:Bool),EqIs pG 75 yL (agg (.mk
 [int i64 2,int i64 2,int i64 0,int i64 0,int i64 0,int i64 0])) b/\rtM m ag R (bool b)) (rtM m m' R (bool false))) (rtM m m' R (bool false))) (rtM m m' R (bool false))) (rtM m m' R (bool false))) (rtM m m' R (bool false))))
 (rtM m m' R (bool false))) (rtM m aa R (bool false)))))):CX Tryz.prog 9 #[] m [] R:=
 Zad (E:=Zj4) Zap mix Tryz.func9 (by kernel_rfl) (Eq.mp (by kernel_rfl) h)
end Go.Proofs.YtpjepnkiiojgfaaGreat
namespace Go.Proofs.YtpjepnkiiojgfaaGreat
open Go Go.Eng Go.Rx Go.Proofs Go.RowKit
set_option maxRecDepth 100000
theorem Zzm(a b c d e f a' b' c' d' e' f':Int):EqIs Tryz.prog 75 (.agg (msV a b c d e f).toArray) (.agg (msV a' b' c' d' e' f').toArray) (decide ([a,b,c,d,e,f]=[a',b',c',d',e',f'])):=by
 refine⟨λw=>?_,λop ox oy w=>ZeD (by kernel_rfl) op ox oy _ _ w⟩
 have u3:=Tryz.underlying3
 have a3:=Tryz.isAgg3
 have z3:=Tryz.sizeOf3
 unfold msV
 rw[Op.equal,Op.maxDepth,show(10000:Nat)=9999+1 from rfl]
 rw[run_equalIn_agg _ _ _ _ _ (by kernel_rfl) (by kernel_rfl)]
 have hf:(Tryz.prog.fieldsOf 75).toList=[⟨ "States",3,0,false, "", "",0⟩,⟨ "Rules",3,1,false, "", "",8⟩,⟨ "Regex",3,2,false, "", "",16⟩,⟨ "Parts",3,3,false, "", "",24⟩,⟨ "Operators",3,4,false, "", "",32⟩,⟨ "Vars",3,5,false, "", "",40⟩]:=by kernel_rfl
 rw[hf]
 go_simp
 by_cases h1:a=a' <;> by_cases h2:b=b' <;> by_cases h3:c=c' <;> by_cases h4:d=d' <;> by_cases h5:e=e' <;> by_cases h6:f=f' <;> simp[h1,h2,h3,h4,h5,h6]
theorem ZBz(a b c d e a' b' c' d' e':Int):EqIs Tryz.prog 27 (.agg #[.int .i64 a,.int .i64 b,.int .i64 c,.int .i64 d,.int .i64 e]) (.agg #[.int .i64 a',.int .i64 b',.int .i64 c',.int .i64 d',.int .i64 e']) (a == a'&&b == b'&&c == c'&&d == d'&&e == e'):=by
 refine⟨λw=>?_,λop ox oy w=>ZeD (by kernel_rfl) op ox oy _ _ w⟩
 have u3:=Tryz.underlying3
 have a3:=Tryz.isAgg3
 have z3:=Tryz.sizeOf3
 rw[Op.equal,Op.maxDepth,show(10000:Nat)=9999+1 from rfl]
 rw[run_equalIn_agg _ _ _ _ _ (by kernel_rfl) (by kernel_rfl)]
 have hf:(Tryz.prog.fieldsOf 27).toList=[⟨ "Var",3,0,false, "", "",0⟩,⟨ "State",3,1,false, "", "",8⟩,⟨ "Rule",3,2,false, "", "",16⟩,⟨ "Action",3,3,false, "", "",24⟩,⟨ "Part",3,4,false, "", "",32⟩]:=by kernel_rfl
 rw[hf]
 go_simp
 by_cases h1:a=a' <;> by_cases h2:b=b' <;> by_cases h3:c=c' <;> by_cases h4:d=d' <;> by_cases h5:e=e' <;> simp[h1,h2,h3,h4,h5]
theorem Zyv(p q:Pl):EqIs Tryz.prog 27 (.agg p.cs.toArray) (.agg q.cs.toArray) (decide (p=q)):=by
 have h:=ZBz p.v p.s p.r p.a p.p q.v q.s q.r q.a q.p
 have e:(p.v == q.v&&p.s == q.s&&p.r == q.r&&p.a == q.a&&p.p == q.p)=decide (p=q):=by
  by_cases kx:p=q
  ·subst kx;simp
  ·rw[decide_eq_false kx,Bool.eq_false_iff]
   intro h
   simp only[zA7,beq_iff_eq]at h
   obtain⟨⟨⟨⟨h1,h2⟩,h3⟩,h4⟩,h5⟩:=h
   apply kx
   cases p;cases q
   simp only at h1 h2 h3 h4 h5
   subst h1 h2 h3 h4 h5;rfl
 rw[e]at h;exact h
theorem Ztn(l r:List Int)(a a':Option Addr)(c c':Nat)(m:Mem)(hl:l.length<=1000000000000000)(h1:rowRd m a (Zej l))(h2:rowRd m a' (Zej r)):
  CX Tryz.prog 38 #[.slice a l.length c,.slice a' r.length c'] m [] (Ret (.bool (decide (l=r)))):=by
 apply ZcZ
 refine Zab (λh=>Zaf (Mem.le_refl _) ?_) (λh=>?_)
 ·have cI:¬(l.length:Int)=r.length:=by simpa using h
  show Value.bool false=Value.bool _
  rw[decide_eq_false (λe=>cI (by rw[e]))]
 have aH:l.length=r.length:=by
  have:(l.length:Int)=r.length:=by simpa using h
  omega
 refine⟨λxs _ _ m' q=>∃i:Nat,i<=l.length/\xs=[.int .i64 i]/\l.take i=r.take i/\q=l.length - i,⟨l.length,0,by omega,rfl,rfl,rfl⟩,?_⟩
 rintro n m1 q aG ⟨i,hi,hx,heq,rfl⟩
 obtain rfl:n=i:=by simpa using hx
 refine ZaB (λaB=>?_) (λbO=>Zaf aG ?_)
 ·obtain⟨x,hx⟩:=Zfi (show i < l.length by omega)
  obtain⟨y,hy⟩:=Zfi (show i < r.length by omega)
  obtain⟨b1,o1,fb,dd⟩:=ZA1 (h1.mono aG) (show(Zej l)[i]?=some (.int .i64 x) by unfold Zej;rw[List.getElem?_map,hx];rfl)
  obtain⟨b2,o2,eX,gk⟩:=ZA1 (h2.mono aG) (show(Zej r)[i]?=some (.int .i64 y) by unfold Zej;rw[List.getElem?_map,hy];rfl)
  refine⟨b1,o1,fb,⟨by omega,aB⟩,_,dd,b2,o2,eX,⟨by omega,by omega⟩,_,gk,Zaa rfl (Zab (λh=>Zaf aG ?_) (λh=>?_))⟩
  ·have cI:¬x=y:=by
    intro e
    subst e
    have h:(!(x == x))=true:=h
    simp at h
   show Value.bool false=Value.bool _
   rw[decide_eq_false (λe=>cI (by subst e;rw[hx]at hy;exact Option.some.inj hy))]
  ·have e:x=y:=by
    have h:(!(x == y))=false:=h
    simpa using h
   subst e
   exact⟨l.length - (i+1),by omega,i+1,by omega,by rw[Zal (by omega) (by omega)];rfl,by rw[List.take_add_one,List.take_add_one,hx,hy,heq],rfl⟩
 ·have hi:i=l.length:=by omega
  subst hi
  show Value.bool true=Value.bool _
  rw[List.take_length,aH,List.take_length]at heq
  rw[decide_eq_true heq]
theorem Zk1(l r:List ByteArray)(a a':Option Addr)(c c':Nat)(m:Mem)(hl:l.length<=1000000000000000)(h1:rowRd m a (Zcb l))(h2:rowRd m a' (Zcb r)):
  CX Tryz.prog 42 #[.slice a l.length c,.slice a' r.length c'] m [] (Ret (.bool (decide (l=r)))):=by
 apply Zb0
 refine Zab (λh=>Zaf (Mem.le_refl _) ?_) (λh=>?_)
 ·have cI:¬(l.length:Int)=r.length:=by simpa using h
  show Value.bool false=Value.bool _
  rw[decide_eq_false (λe=>cI (by rw[e]))]
 have aH:l.length=r.length:=by
  have:(l.length:Int)=r.length:=by simpa using h
  omega
 refine⟨λxs _ _ m' q=>∃i:Nat,i<=l.length/\xs=[.int .i64 i]/\l.take i=r.take i/\q=l.length - i,⟨l.length,0,by omega,rfl,rfl,rfl⟩,?_⟩
 rintro n m1 q aG ⟨i,hi,hx,heq,rfl⟩
 obtain rfl:n=i:=by simpa using hx
 refine ZaB (λaB=>?_) (λbO=>Zaf aG ?_)
 ·obtain⟨x,hx⟩:=Zfi (show i < l.length by omega)
  obtain⟨y,hy⟩:=Zfi (show i < r.length by omega)
  obtain⟨b1,o1,fb,dd⟩:=ZA1 (h1.mono aG) (show(Zcb l)[i]?=some (.string x) by unfold Zcb;rw[List.getElem?_map,hx];rfl)
  obtain⟨b2,o2,eX,gk⟩:=ZA1 (h2.mono aG) (show(Zcb r)[i]?=some (.string y) by unfold Zcb;rw[List.getElem?_map,hy];rfl)
  refine⟨b1,o1,fb,⟨by omega,aB⟩,_,dd,b2,o2,eX,⟨by omega,by omega⟩,_,gk,Zaa rfl (Zab (λh=>Zaf aG ?_) (λh=>?_))⟩
  ·have cI:¬x=y:=by
    intro e
    subst e
    have h:(!(x.toList == x.toList))=true:=h
    simp at h
   show Value.bool false=Value.bool _
   rw[decide_eq_false (λe=>cI (by subst e;rw[hx]at hy;exact Option.some.inj hy))]
  ·have e:x=y:=by
    have h:(!(x.toList == y.toList))=false:=h
    have h:x.toList=y.toList:=by simpa using h
    rw[baL,baL]at h
    have:x.data=y.data:=Array.toList_inj.1 h
    cases x;cases y;exact congrArg _ this
   subst e
   exact⟨l.length - (i+1),by omega,i+1,by omega,by rw[Zal (by omega) (by omega)];rfl,by rw[List.take_add_one,List.take_add_one,hx,hy,heq],rfl⟩
 ·have hi:i=l.length:=by omega
  subst hi
  show Value.bool true=Value.bool _
  rw[List.take_length,aH,List.take_length]at heq
  rw[decide_eq_true heq]
theorem Zto(m:Mem):CX Tryz.prog 83 #[.int .u8 120] m [] (Ret aeX.v):=by
 apply ZeT
 exact λb b'=>⟨by decide,by decide,by decide,⟨by decide,by decide⟩,Zaa rfl (Zaa rfl (Zaf (Mem.le_refl _) rfl))⟩
theorem Ztp(m:Mem):CX Tryz.prog 83 #[.int .u8 121] m [] (Ret aeY.v):=by
 apply ZeT
 exact λb b'=>⟨by decide,by decide,by decide,⟨by decide,by decide⟩,Zaa rfl (Zaa rfl (Zaf (Mem.le_refl _) rfl))⟩
theorem ZrH{t:T}:∀(v:Value)(m':Mem) (css:List (List Value)),Ret t.v v m' css->Shape.fits (.agg [.int .u8,.int .u64,.int .u64,.int .u64,.int .u64,.int .i64,.int .i64,.slice]) v=true:=λv _ _ h=>by rw[show v=_ from h];rfl
def ExR:Value->Mem->List (List Value)->Prop:=λv m' _=>∃g r c w l s p a r1 r2 S:Option Addr,v=(aeS g r c w l s p a r1 r2 S).v/\RepC m' (aeS g r c w l s p a r1 r2 S)
theorem Zyw:∀(v:Value)(m':Mem) (css:List (List Value)),ExR v m' css->Shape.fits (.agg [.int .i64,.slice,.slice]) v=true:=λv _ _ ⟨_,_,_,_,_,_,_,_,_,_,_,h,_⟩=>by rw[h];rfl
theorem ZCe{m:Mem}{cs:List Value}{f:Nat->Value}{K:Nat->Value->Mem->Prop}(k:∀b M,(m.free b->m.le M)->rowRd M (some ⟨b,0,none⟩) cs->K b (f b) M):∀b:Nat,lX (f b) (λy=>lM (m.add b cs) (λM=>K b y M)):=λb=>k b _ (λhf=>Mem.le_add hf _) Zbk
theorem ZAf{m:Mem}{cs:List Value}{K:Nat->Mem->Prop}(k:∀b M,(m.free b->m.le M)->rowRd M (some ⟨b,0,none⟩) cs->K b M):∀b:Nat,lM (m.add b cs) (λM=>K b M):=λb=>k b _ (λhf=>Mem.le_add hf _) Zbk
theorem Zyx{M:Mem}{k:Int}{b x:Nat}(hk:0<=k/\k < 256)(h:rowRd M (some ⟨b,0,none⟩) (aeN.cs++(aeC x).cs)):RepE M (aeO k (some ⟨b,0,none⟩) x):=by
 rcases h with h|⟨b',o',ha,h⟩
 ·cases h
 cases ha
 unfold aeO
 simp only[RepE,RepEAt]
 refine⟨by show(2:Nat)<=1000000000000000;decide,.inr ⟨b,0,rfl,λj v hj=>h j v ?_,?_,λj v hj=>?_,?_,trivial⟩,⟨hk,by decide,by omega⟩⟩
 ·rw[zA5 (zA0 hj).1];exact hj
 ·simp only[aeN,RepE];exact⟨by decide,.inl trivial,⟨by decide,by decide,by decide⟩⟩
 ·rw[Nat.zero_add,Nat.add_comm,<-Nat.zero_add (j+5)]
  exact h (j+5) v (by rw[zA4 (by show 5<=j+5;omega)];exact hj)
 ·simp only[aeC,RepE];exact⟨by decide,.inl trivial,⟨by decide,by decide,by decide⟩⟩
theorem Zyy(M:Mem):RepE M aeE:=by simp only[aeE,RepE];exact⟨by decide,.inl trivial,⟨by decide,by decide,by decide⟩⟩
theorem Zyz(M:Mem):Rep M ZBL:=Zls (by decide) (.inl rfl) (by constructor <;> decide)
theorem ZAg(M:Mem):Rep M aeX:=Zls (by decide) (.inl rfl) (by constructor <;> decide)
theorem ZAh(M:Mem):Rep M aeY:=Zls (by decide) (.inl rfl) (by constructor <;> decide)
theorem ZmJ{M:Mem}{b:Nat}{cs:List Value}(h:rowRd M (some ⟨b,0,none⟩) cs):M.reads b 0 cs:=by
 rcases h with h|⟨b',o',ha,h⟩
 ·subst h;exact λj v hj=>by simp at hj
 ·cases ha;exact h
theorem ZAi{M:Mem}{g:Nat}(h:rowRd M (some ⟨g,0,none⟩) aeX.cs):Rep M (aeG (some ⟨g,0,none⟩)):=by
 refine Zls (by show(1:Nat)<=1000000000000000;decide) (.inr ⟨g,0,rfl,?_⟩) (show OkN 6 0 0 0 0 0 0 by constructor <;> decide)
 show RepAt M g 0 [aeX]
 simp only[RepAt]
 exact⟨ZmJ h,ZAg M,trivial⟩
theorem ZAj{M:Mem}{g:Option Addr}{r:Nat}(hg:Rep M (aeG g))(h:rowRd M (some ⟨r,0,none⟩) (aeG g).cs):Rep M (aeR g (some ⟨r,0,none⟩)):=by
 refine Zls (by show(1:Nat)<=1000000000000000;decide) (.inr ⟨r,0,rfl,?_⟩) (show OkN 5 0 0 0 0 1 (-1) by constructor <;> decide)
 show RepAt M r 0 [aeG g]
 simp only[RepAt]
 exact⟨ZmJ h,hg,trivial⟩
theorem ZAk{M:Mem}{g r:Option Addr}{c:Nat}(hr:Rep M (aeR g r))(h:rowRd M (some ⟨c,0,none⟩) ((aeR g r).cs++aeY.cs)):Rep M (aeT g r (some ⟨c,0,none⟩)):=by
 have h:=ZmJ h
 refine Zls (by show(2:Nat)<=1000000000000000;decide) (.inr ⟨c,0,rfl,?_⟩) (show OkN 3 0 0 0 0 0 0 by constructor <;> decide)
 show RepAt M c 0 [aeR g r,aeY]
 simp only[RepAt]
 refine⟨λj v hj=>h j v ?_,hr,λj v hj=>?_,ZAh M,trivial⟩
 ·rw[zA5 (zA0 hj).1];exact hj
 ·rw[Nat.zero_add,Nat.add_comm,<-Nat.zero_add (j+8)]
  exact h (j+8) v (by rw[zA4 (by show 8<=j+8;omega)];exact hj)
theorem ZyA:I64 5/\I64 1/\I64 0:=by unfold I64;omega
theorem Zqb(m:Mem):CX Tryz.prog 41 #[] m [] ExR:=by
 apply Zgd
 intro b b'
 refine⟨_,trivial,Zto m,ZrH,?_⟩
 rintro n n1 n2 n3 n4 n5 n6 a n7 c m1 aG hv
 have hv:Value.agg _=Value.agg _:=hv
 simp only[aeX,T.k,T.s0,T.s1,T.s2,T.s3,T.mn,T.mx,T.a,T.subs,T.c,List.length_nil,Value.agg.injEq,Array.mk.injEq,List.cons.injEq,Value.int.injEq,Value.slice.injEq,true_and,and_true]at hv
 obtain⟨rfl,rfl,rfl,rfl,rfl,rfl,rfl,rfl,rfl,rfl⟩:=hv
 refine ZAf λbg M1 l1 r1=>?_
 intro f1
 have l1:=l1 f1
 intro br f2
 have r2:=Zbk (m:=M1) (b:=br) (cs:=(aeG (some ⟨bg,0,none⟩)).cs)
 have l2:=Mem.le_add f2 (aeG (some ⟨bg,0,none⟩)).cs
 obtain⟨M2,fh⟩:∃M,M=M1.add br (aeG (some ⟨bg,0,none⟩)).cs:=⟨_,rfl⟩
 rw[<-fh]at r2 l2
 refine⟨_,trivial,Ztp _,ZrH,?_⟩
 rintro n n1 n2 n3 n4 n5 n6 a n7 c m3 aR hv
 have hv:Value.agg _=Value.agg _:=hv
 simp only[aeY,T.k,T.s0,T.s1,T.s2,T.s3,T.mn,T.mx,T.a,T.subs,T.c,List.length_nil,Value.agg.injEq,Array.mk.injEq,List.cons.injEq,Value.int.injEq,Value.slice.injEq,true_and,and_true]at hv
 obtain⟨rfl,rfl,rfl,rfl,rfl,rfl,rfl,rfl,rfl,rfl⟩:=hv
 have aR:M2.le m3:=by rw[fh];exact aR
 refine ZCe λbc M4 l4 r4=>?_
 intro f4 b2
 have l4:=l4 f4
 refine ZAf λbv M5 l5 r5=>?_
 intro f5
 have l5:=l5 f5
 refine ZCe λbl M6 l6 r6=>?_
 intro f6
 have l6:=l6 f6
 refine ZAf λbs M7 l7 r7=>?_
 intro f7
 have l7:=l7 f7
 refine ZAf λbp M8 l8 r8=>?_
 intro f8
 have l8:=l8 f8
 refine ZAf λba M9 l9 r9=>?_
 intro f9
 have l9:=l9 f9
 refine ZAf λbx M10 l10 r10=>?_
 intro f10
 have l10:=l10 f10
 refine ZAf λby' M11 l11 r11=>?_
 intro f11 bS f12
 have l11:=l11 f11
 have r12:=Zbk (m:=M11) (b:=bS) (cs:=([(⟨⟨#[97]⟩,some ⟨bx,0,none⟩,2,[Zrc (some ⟨bg,0,none⟩) (some ⟨br,0,none⟩) (some ⟨bc,0,none⟩) (some ⟨bl,0,none⟩) (some ⟨bs,0,none⟩) (some ⟨bp,0,none⟩) (some ⟨ba,0,none⟩),ZwF]⟩:Sta),⟨⟨#[98]⟩,some ⟨by',0,none⟩,1,[ZxI]⟩].map Sta.cs).flatten)
 have l12:=Mem.le_add f12 ([(⟨⟨#[97]⟩,some ⟨bx,0,none⟩,2,[Zrc (some ⟨bg,0,none⟩) (some ⟨br,0,none⟩) (some ⟨bc,0,none⟩) (some ⟨bl,0,none⟩) (some ⟨bs,0,none⟩) (some ⟨bp,0,none⟩) (some ⟨ba,0,none⟩),ZwF]⟩:Sta),⟨⟨#[98]⟩,some ⟨by',0,none⟩,1,[ZxI]⟩].map Sta.cs).flatten
 obtain⟨M12,pH⟩:∃M,M=M11.add bS ([(⟨⟨#[97]⟩,some ⟨bx,0,none⟩,2,[Zrc (some ⟨bg,0,none⟩) (some ⟨br,0,none⟩) (some ⟨bc,0,none⟩) (some ⟨bl,0,none⟩) (some ⟨bs,0,none⟩) (some ⟨bp,0,none⟩) (some ⟨ba,0,none⟩),ZwF]⟩:Sta),⟨⟨#[98]⟩,some ⟨by',0,none⟩,1,[ZxI]⟩].map Sta.cs).flatten:=⟨_,rfl⟩
 rw[<-pH]at r12 l12
 suffices hS:rtM m M12 ExR (aeS (some ⟨bg,0,none⟩) (some ⟨br,0,none⟩) (some ⟨bc,0,none⟩) (some ⟨bv,0,none⟩) (some ⟨bl,0,none⟩) (some ⟨bs,0,none⟩) (some ⟨bp,0,none⟩) (some ⟨ba,0,none⟩) (some ⟨bx,0,none⟩) (some ⟨by',0,none⟩) (some ⟨bS,0,none⟩)).v by
  rw[pH]at hS;exact hS
 have k11:=l12
 have k10:=mLt l11 k11
 have k9:=mLt l10 k10
 have k8:=mLt l9 k9
 have k7:=mLt l8 k8
 have k6:=mLt l7 k7
 have k5:=mLt l6 k6
 have k4:=mLt l5 k5
 have k3:=mLt l4 k4
 have k2:=mLt aR k3
 have k1:=mLt l2 k2
 have k0:=mLt aG (mLt l1 k1)
 have hG:=ZAi (r1.mono k1)
 have hR:=ZAj hG (r2.mono k2)
 have hT:=ZAk hR (r4.mono k4)
 refine ZaN k0 ⟨some ⟨bg,0,none⟩,some ⟨br,0,none⟩,some ⟨bc,0,none⟩,some ⟨bv,0,none⟩,some ⟨bl,0,none⟩,some ⟨bs,0,none⟩,some ⟨bp,0,none⟩,some ⟨ba,0,none⟩,some ⟨bx,0,none⟩,some ⟨by',0,none⟩,some ⟨bS,0,none⟩,rfl,?_⟩
 have xu:RepA M12 (ZBJ (some ⟨bl,0,none⟩)):=⟨by show(0:Int)<=3/\(3:Int) < 256;decide,by show(ByteArray.mk #[110]).size<=_;decide,by show 0<=few;decide,.inl rfl,(λp hp=>by cases hp),Zyx (by decide) (r6.mono k6)⟩
 have xv:RepA M12 (ZBK (some ⟨bs,0,none⟩) (some ⟨bp,0,none⟩)):=by
  refine⟨by show(0:Int)<=1/\(1:Int) < 256;decide,by show(ByteArray.mk #[]).size<=_;decide,by show 2<=few;decide,r8.mono k8,λp hp=>?_,Zyy _⟩
  have hp:p∈[ZCc,ZCd (some ⟨bs,0,none⟩)]:=hp
  simp only[List.mem_cons,List.not_mem_nil,or_false]at hp
  rcases hp with rfl|rfl
  ·exact⟨by decide,by decide,by show I64 1;unfold I64;omega,Zyy _⟩
  ·exact⟨by show(0:Int)<=4/\(4:Int) < 256;decide,by show(ByteArray.mk #[]).size<=_;decide,by show I64 0;unfold I64;omega,Zyx (by decide) (r7.mono k7)⟩
 refine⟨by show I64 9;unfold I64;omega,by show 1<=few;decide,r5.mono k5,?_,by show 2<=few;decide,r12,?_,Nat.le_refl _,Nat.le_refl _⟩
 ·intro v hv
  have hv:v∈[(⟨⟨#[110]⟩,true,⟨#[]⟩,0⟩:Va)]:=hv
  rw[List.mem_singleton]at hv;subst hv
  exact⟨by decide,by decide⟩
 ·intro x hx
  have hx:x∈[(⟨⟨#[97]⟩,some ⟨bx,0,none⟩,2,[Zrc _ _ _ _ _ _ _,ZwF]⟩:Sta),⟨⟨#[98]⟩,some ⟨by',0,none⟩,1,[ZxI]⟩]:=hx
  simp only[List.mem_cons,List.not_mem_nil,or_false]at hx
  rcases hx with rfl|rfl
  ·refine⟨by show(ByteArray.mk #[97]).size<=_;decide,by show 2<=few;decide,r10.mono k10,λr hr=>?_⟩
   simp only[List.mem_cons,List.not_mem_nil,or_false]at hr
   rcases hr with rfl|rfl
   ·refine⟨by show(0:Int)<=1/\(1:Int) < 256;decide,hT,by show(ByteArray.mk #[]).size<=_;decide,by show I64 0;unfold I64;omega,by show 2<=few;decide,r9.mono k9,λp hp=>?_,by show(ByteArray.mk #[98]).size<=_;decide,by show I64 0;unfold I64;omega⟩
    have hp:p∈[ZBJ (some ⟨bl,0,none⟩),ZBK (some ⟨bs,0,none⟩) (some ⟨bp,0,none⟩)]:=hp
    simp only[List.mem_cons,List.not_mem_nil,or_false]at hp
    rcases hp with rfl|rfl
    ·exact xu
    ·exact xv
   ·exact⟨by decide,Zyz _,by decide,ZyA.1,by decide,.inl rfl,(λp hp=>by cases hp),by decide,ZyA.2.1⟩
  ·refine⟨by show(ByteArray.mk #[98]).size<=_;decide,by show 1<=few;decide,r11.mono k11,λr hr=>?_⟩
   simp only[List.mem_cons,List.not_mem_nil,or_false]at hr
   subst hr
   exact⟨by decide,Zyz _,by decide,ZyA.2.2,by decide,.inl rfl,(λp hp=>by cases hp),by decide,ZyA.2.2⟩
theorem Zk2{a b c d e f:Int}:∀(v:Value)(m':Mem) (css:List (List Value)),Ret (.agg (msV a b c d e f).toArray) v m' css->Shape.fits (.agg [.int .i64,.int .i64,.int .i64,.int .i64,.int .i64,.int .i64]) v=true:=λv _ _ h=>by rw[show v=_ from h];rfl
set_option maxHeartbeats 1000000 in
theorem Zqc(m:Mem):CX Tryz.prog 9 #[] m [] (Ret (.bool true)):=by
 apply Zic
 refine⟨_,trivial,Zqb m,Zyw,?_⟩
 rintro n a n1 c a1 n2 c1 m1 aG ⟨g,r,cc,w,l,s,p,a0,r1,r2,S,hv,hr⟩ b1
 obtain⟨sc,jU⟩:∃sc,sc=aeS g r cc w l s p a0 r1 r2 S:=⟨_,rfl⟩
 rw[<-jU]at hv hr
 have hl:sc.light=true:=by rw[jU];exact Zvw g r cc w l s p a0 r1 r2 S
 have ia:sc.places.length=11:=by rw[jU];exact ZsT g r cc w l s p a0 r1 r2 S
 have xw:sc.places[5]?=some ⟨-1,0,0,1,-1⟩:=by rw[jU];exact ZsU g r cc w l s p a0 r1 r2 S
 have bJ:ZiA sc=msV 2 3 5 2 2 2:=by rw[jU];exact ZxJ g r cc w l s p a0 r1 r2 S
 have uL:ZiA (ZwB sc 0 0)=msV 2 2 0 0 0 0:=by rw[jU];exact Zvx g r cc w l s p a0 r1 r2 S
 have iz:sc.states[0]?=some ⟨⟨#[97]⟩,r1,2,[Zrc g r cc l s p a0,ZwF]⟩:=by rw[jU];rfl
 have dZ:sc.states[1]?=some ⟨⟨#[98]⟩,r2,1,[ZxI]⟩:=by rw[jU];rfl
 have gR:sc.states.length=2:=by rw[jU];rfl
 have xx:ZyQ sc.states ⟨⟨#[97]⟩,r1,2,[Zrc g r cc l s p a0,ZwF]⟩=[1]:=by rw[jU];exact ZxL g r cc w l s p a0 r1 r2 S
 have xy:ZyQ sc.states ⟨⟨#[98]⟩,r2,1,[ZxI]⟩=[]:=by rw[jU];exact ZxM g r cc w l s p a0 r1 r2 S
 obtain⟨rfl,rfl,rfl,rfl,rfl,rfl,rfl⟩:=Zwf hv
 obtain⟨b2,o2,eX,fe⟩:=Zaj Sta.len hr.row iz (by decide)
 have cC:=hr.all _ (zA2 iz)
 have fM:(⟨⟨#[97]⟩,r1,2,[Zrc g r cc l s p a0,ZwF]⟩:Sta).rules[0]?=some (Zrc g r cc l s p a0):=rfl
 obtain⟨b3,o3,ew,eL⟩:=Zaj Ru.len cC.row fM (by decide)
 have jz:=cC.all _ (zA2 fM)
 refine⟨b2,o2,eX,⟨by omega,by omega⟩,_,fe 1 _ rfl,Zaa rfl ⟨b3,o3,ew,⟨by show(0:Int)<=0;omega,by show(0:Int) < ((2:Nat):Int);omega⟩,_,_,_,_,_,_,_,_,_,_,_,_,_,_,_,_,eL,λb4=>Zaa rfl ?_⟩⟩
 refine Zan (ZjW sc m1 hr) ZfT ?_
 rintro pa pn pc m2 aK ⟨pa',pc',tC,pI⟩
 simp only[Value.slice.injEq]at tC
 obtain⟨rfl,rfl,rfl⟩:=tC
 rw[ia]
 refine⟨_,trivial,Zyu sc 0 0 m2 (hr.mono aK) hl iz (Nat.zero_lt_two),Ztm,?_⟩
 rintro n3 a3 n4 c3 a4 n5 c4 n6 m3 aR ⟨sd,tH,xz,rV⟩ b5
 have tI:(Value.agg #[.int .i64 n3,.slice a3 n4 c3,.slice a4 n5 c4]=sd.v)/\n6=0:=by
  simp only[Value.tuple.injEq,Array.mk.injEq,List.cons.injEq,Value.int.injEq,true_and,and_true]at tH
  exact tH
 obtain⟨xA,rfl⟩:=tI
 have nU:=mLt aK aR
 refine Zan (Zp6 sc m3 (hr.mono nU)) Zwa ?_
 rintro ta tn tc m4 cE ⟨ta',tc',L',cQ,gC,l3,pJ⟩
 simp only[Value.slice.injEq]at cQ
 obtain⟨rfl,rfl,rfl⟩:=cQ
 rw[hl,if_pos rfl]at gC
 have xB:L'.length=2:=by
  have:=congrArg List.length gC
  rw[List.length_map,List.length_map,gR]at this;exact this
 obtain⟨y0,ol⟩:=Zfi (show 0 < L'.length by omega)
 obtain⟨y1,u9⟩:=Zfi (show 1 < L'.length by omega)
 have e0:y0.l=[1]:=by
  have:=congrArg (λl=>l[0]?) gC
  simp only[List.getElem?_map,ol,iz,Option.map_some,Option.some.injEq]at this
  rw[this,xx]
 have e1:y1.l=[]:=by
  have:=congrArg (λl=>l[1]?) gC
  simp only[List.getElem?_map,u9,dZ,Option.map_some,Option.some.injEq]at this
  rw[this,xy]
 have ic:=mLt nU cE
 have hz:=ZmI sc m4 (hr.mono ic)
 rw[bJ]at hz
 refine⟨false,Zor rfl (Zor rfl ⟨rfl,by rw[xB];rfl⟩),Zor rfl ⟨_,trivial,hz,Zk2,?_⟩⟩
 rintro z1 z2 z3 z4 z5 z6 m5 cP gF
 have gF:Value.agg _=Value.agg _:=gF
 simp only[msV,Value.agg.injEq,Array.mk.injEq,List.cons.injEq,Value.int.injEq,true_and,and_true]at gF
 obtain⟨rfl,rfl,rfl,rfl,rfl,rfl⟩:=gF
 have pp:=mLt ic cP
 obtain⟨b6,o6,ij,tJ⟩:=Zaj Il.len l3 ol (by omega)
 obtain⟨b7,o7,s7,tK⟩:=Zaj Il.len l3 u9 (by omega)
 refine⟨_,Zzm 2 3 5 2 2 2 2 3 5 2 2 2,ZwD rfl ⟨b6,o6,ij,⟨by omega,by omega⟩,_,(tJ.mono cP) 0 _ rfl,λb8 np=>?_⟩⟩
 have hE:=Ztn y0.l [1] y0.a (some ⟨b8,0,none⟩) y0.c 1 (m5.add b8 [.int .i64 1]) (by rw[e0];decide) ((pJ y0 (zA2 ol)).mono (mLt cP (Mem.le_add np _))) Zbk
 rw[decide_eq_true e0]at hE
 refine Zah hE λm6 ef=>ZwD rfl ⟨b7,o7,s7,⟨by omega,by omega⟩,_,(tK.mono (mLt cP (mLt (Mem.le_add np _) ef))) 0 _ rfl,Zaa rfl (ZwD (by show(((y1.l.length:Nat):Int) == 0)=true;rw[e1];rfl) ?_)⟩
 have kX:=mLt pp (mLt (Mem.le_add np _) ef)
 have vb:=Zwd (Zrc g r cc l s p a0) m6 (jz.mono kX)
 rw[Zvy]at vb
 refine Zan vb ZoG ?_
 rintro ra rn rc m7 eo ⟨ra',rc',ve,pK⟩
 simp only[Value.slice.injEq]at ve
 obtain⟨rfl,rfl,rfl⟩:=ve
 intro b9 qK
 have vg:=Zk1 [⟨#[110]⟩] [⟨#[110]⟩] ra (some ⟨b9,0,none⟩) rc 1 (m7.add b9 [.string ⟨#[110]⟩]) (by decide) (pK.mono (Mem.le_add qK _)) Zbk
 rw[decide_eq_true rfl]at vg
 refine Zah vg λm8 eA=>ZwD rfl ?_
 have qD:=mLt kX (mLt eo (mLt (Mem.le_add qK _) eA))
 have vh:=Ztl (Zrc g r cc l s p a0) m8 (jz.mono qD)
 rw[ZsV]at vh
 refine Zan vh ZoG ?_
 rintro wa wn wc m9 ga ⟨wa',wc',qH,pL⟩
 simp only[Value.slice.injEq]at qH
 obtain⟨rfl,rfl,rfl⟩:=qH
 intro b10 gv
 have vj:=Zk1 [⟨#[110]⟩] [⟨#[110]⟩] wa (some ⟨b10,0,none⟩) wc 1 (m9.add b10 [.string ⟨#[110]⟩]) (by decide) (pL.mono (Mem.le_add gv _)) Zbk
 rw[decide_eq_true rfl]at vj
 refine Zah vj λm10 fu=>ZwD rfl ?_
 have pM:=mLt qD (mLt ga (mLt (Mem.le_add gv _) fu))
 have vn:=Zyq (Zrc g r cc l s p a0) m10 (jz.mono pM)
 rw[ZxK]at vn
 refine ZcQ vn λm11 fL=>ZwD rfl ?_
 have tL:=mLt pM fL
 have xC:m2.le m11:=mLt aR (mLt cE (mLt cP (mLt (Mem.le_add np _) (mLt ef (mLt eo (mLt (Mem.le_add qK _) (mLt eA (mLt ga (mLt (Mem.le_add gv _) (mLt fu fL))))))))))
 obtain⟨b12,o12,tM,pN⟩:=Zaj (λp:Pl=>(rfl:p.cs.length=5)) (pI.mono xC) xw (Nat.zero_lt_succ 4)
 refine⟨b12,o12,tM,⟨by omega,by omega⟩,_,_,_,_,_,pN,_,Zyv ⟨-1,0,0,1,-1⟩ ⟨-1,0,0,1,-1⟩,ZwD rfl ?_⟩
 have xD:m3.le m11:=mLt cE (mLt cP (mLt (Mem.le_add np _) (mLt ef (mLt eo (mLt (Mem.le_add qK _) (mLt eA (mLt ga (mLt (Mem.le_add gv _) (mLt fu fL)))))))))
 have vo:=ZmI sd m11 (rV.mono xD)
 rw[Zrg xz,uL,<-xA]at vo
 refine⟨_,trivial,vo,Zk2,?_⟩
 rintro y1 y2 y3 y4 y5 y6 m12 jV qL
 have qL:Value.agg _=Value.agg _:=qL
 simp only[msV,Value.agg.injEq,Array.mk.injEq,List.cons.injEq,Value.int.injEq,true_and,and_true]at qL
 obtain⟨rfl,rfl,rfl,rfl,rfl,rfl⟩:=qL
 exact⟨_,Zzm 2 2 0 0 0 0 2 2 0 0 0 0,Zaf (mLt aG (mLt tL jV)) rfl⟩
end Go.Proofs.YtpjepnkiiojgfaaGreat
namespace Go.Proofs.YtpjepnkiiojgfaaGreat
open Go Go.Eng Go.Proofs Go.RowKit
open Go.Value (int slice agg bool string tuple func)
open Go.IntKind (u8 u64 i64)
set_option maxRecDepth 100000
def ZaS:Env:={ EB with
 loops:=swI nLa [(4,⟨[(17,.int .i64)],[],[],false⟩)] }
theorem ZaP(p0a:Option Addr)(p0n p0c:Nat)(p1a:Option Addr)(p1n p1c p2g:Nat)(p2fi p2ca:List Value)(m:Mem)(R:RT)(h:
 br (!(↑p0n:Int) == (↑p1n:Int)) (rtM m m R (bool false)) (∃I,inI I [int i64 0] [] [] m/\∀n m' (n_1:Nat),m.le m'->I [int i64 n] [] [] m' n_1->br (decide (n < (↑p0n:Int))) (atA p0a λb o=>Zae n p0n/\∃v v_1
 v_2 v_3:Value,m'.reads b (o+Int.toNat n*4) [v,v_1,v_2,v_3]/\∀(b:Nat),chk (v.oneCell'&&(v_1.oneCell'&&(v_2.oneCell'&&(v_3.oneCell'&&true)))) (atA p1a λb o=>Zae n p1n/\∃v_4 v_5 v_6 v_7:Value,
 m'.reads b (o+Int.toNat n*4) [v_4,v_5,v_6,v_7]/\∀(b:Nat),chk (v_4.oneCell'&&(v_5.oneCell'&&(v_6.oneCell'&&(v_7.oneCell'&&true)))) (kB pG p2g (List.append (List.append p2fi [agg (.mk [v,v_1,v_2,v_3]),agg
 (.mk [v_4,v_5,v_6,v_7])]) p2ca) m' λb m'=>br (!b) (rtM m m' R (bool false)) (nxI n_1 I [int i64 (i64.wrap (n+1))] [] [] m')))) (rtM m m' R (bool true)))):CX Tryz.prog 96 #[.slice p0a p0n p0c,.slice p1a p1n p1c,.func (.func p2g) p2fi.toArray p2ca.toArray] m [] R:=
 Zad (E:=ZaS) Zap mix Tryz.func96 (by kernel_rfl) (Eq.mp (by kernel_rfl) h)
def ZaE:Env:={ EB with
 loops:=swI nLa [(4,⟨[(17,.int .i64)],[],[],false⟩)] }
theorem ZaC(p0a:Option Addr)(p0n p0c:Nat)(p1a:Option Addr)(p1n p1c p2g:Nat)(p2fi p2ca:List Value)(m:Mem)(R:RT)(h:
 br (!(↑p0n:Int) == (↑p1n:Int)) (rtM m m R (bool false)) (∃I,inI I [int i64 0] [] [] m/\∀n m' (n_1:Nat),m.le m'->I [int i64 n] [] [] m' n_1->br (decide (n < (↑p0n:Int))) (atA p0a λb o=>Zae n p0n/\∃v v_1:
 Value,m'.reads b (o+Int.toNat n*2) [v,v_1]/\∀(b:Nat),chk (v.oneCell'&&(v_1.oneCell'&&true)) (atA p1a λb o=>Zae n p1n/\∃v_2 v_3:Value,m'.reads b (o+Int.toNat n*2) [v_2,v_3]/\∀(b:Nat),chk
 (v_2.oneCell'&&(v_3.oneCell'&&true)) (kB pG p2g (List.append (List.append p2fi [agg (.mk [v,v_1]),agg (.mk [v_2,v_3])]) p2ca) m' λb m'=>br (!b) (rtM m m' R (bool false)) (nxI n_1 I [int i64 (i64.wrap (n+1))] [] []
 m')))) (rtM m m' R (bool true)))):CX Tryz.prog 98 #[.slice p0a p0n p0c,.slice p1a p1n p1c,.func (.func p2g) p2fi.toArray p2ca.toArray] m [] R:=
 Zad (E:=ZaE) Zap mix Tryz.func98 (by kernel_rfl) (Eq.mp (by kernel_rfl) h)
def ZaM:Env:={ EB with
 loops:=swI nLa [(4,⟨[(17,.int .i64)],[],[],false⟩)] }
theorem ZaK(p0a:Option Addr)(p0n p0c:Nat)(p1a:Option Addr)(p1n p1c p2g:Nat)(p2fi p2ca:List Value)(m:Mem)(R:RT)(h:
 br (!(↑p0n:Int) == (↑p1n:Int)) (rtM m m R (bool false)) (∃I,inI I [int i64 0] [] [] m/\∀n m' (n_1:Nat),m.le m'->I [int i64 n] [] [] m' n_1->br (decide (n < (↑p0n:Int))) (atA p0a λb o=>Zae n p0n/\∃v v_1
 v_2 v_3 v_4 v_5 v_6 v_7 v_8 v_9 v_10 v_11 v_12 v_13 v_14 v_15:Value,lV [v,v_1,v_2,v_3,v_4,v_5,v_6,v_7,v_8,v_9,v_10,v_11,v_12,v_13,v_14,v_15] λxL=>m'.reads b (o+Int.toNat n*16) xL/\∀(b:Nat),chk
 (v.oneCell'&&(v_1.oneCell'&&(v_2.oneCell'&&(v_3.oneCell'&&(v_4.oneCell'&&(v_5.oneCell'&&(v_6.oneCell'&&(v_7.oneCell'&&(v_8.oneCell'&&(v_9.oneCell'&&(v_10.oneCell'&&(v_11.oneCell'&&(v_12.oneCell' &&
 (v_13.oneCell'&&(v_14.oneCell'&&(v_15.oneCell'&&true)))))))))))))))) (atA p1a λb o=>Zae n p1n/\∃v v_16 v_17 v_18 v_19 v_20 v_21 v_22 v_23 v_24 v_25 v_26 v_27 v_28 v_29 v_30:Value,lV [v,v_16,v_17,v_18,v_19,
 v_20,v_21,v_22,v_23,v_24,v_25,v_26,v_27,v_28,v_29,v_30] λxL_1=>m'.reads b (o+Int.toNat n*16) xL_1/\∀(b:Nat),chk (v.oneCell'&&(v_16.oneCell'&&(v_17.oneCell'&&(v_18.oneCell'&&(v_19.oneCell' &&
 (v_20.oneCell'&&(v_21.oneCell'&&(v_22.oneCell'&&(v_23.oneCell'&&(v_24.oneCell'&&(v_25.oneCell'&&(v_26.oneCell'&&(v_27.oneCell'&&(v_28.oneCell'&&(v_29.oneCell'&&(v_30.oneCell'&&true)))))))))))))))) (kB pG p2g
 (List.append (List.append p2fi [agg (.mk xL),agg (.mk xL_1)]) p2ca) m' λb m'=>br (!b) (rtM m m' R (bool false)) (nxI n_1 I [int i64 (i64.wrap (n+1))] [] [] m')))) (rtM m m' R (bool true)))):CX Tryz.prog 99 #[.slice p0a p0n p0c,.slice p1a p1n p1c,.func (.func p2g) p2fi.toArray p2ca.toArray] m [] R:=
 Zad (E:=ZaM) Zap mix Tryz.func99 (by kernel_rfl) (Eq.mp (by kernel_rfl) h)
def Zek:Env:=EB
theorem ZdD(p0a:Option Addr)(p0n p0c:Nat)(p1a:Option Addr)(p1n p1c p2g:Nat)(p2fi p2ca:List Value)(m:Mem)(R:RT)(h:
 kB pG 96 [slice p0a p0n p0c,slice p1a p1n p1c,func (Fn.func p2g) (Array.mk p2fi) (Array.mk p2ca)] m λb m'=>rtM m m' R (bool b)):CX Tryz.prog 61 #[.slice p0a p0n p0c,.slice p1a p1n p1c,.func (.func p2g) p2fi.toArray p2ca.toArray] m [] R:=
 Zad (E:=Zek) Zap mix Tryz.func61 (by kernel_rfl) (Eq.mp (by kernel_rfl) h)
def Zdn:Env:=EB
theorem Zc6(p0a:Option Addr)(p0n p0c:Nat)(p1a:Option Addr)(p1n p1c p2g:Nat)(p2fi p2ca:List Value)(m:Mem)(R:RT)(h:
 kB pG 98 [slice p0a p0n p0c,slice p1a p1n p1c,func (Fn.func p2g) (Array.mk p2fi) (Array.mk p2ca)] m λb m'=>rtM m m' R (bool b)):CX Tryz.prog 64 #[.slice p0a p0n p0c,.slice p1a p1n p1c,.func (.func p2g) p2fi.toArray p2ca.toArray] m [] R:=
 Zad (E:=Zdn) Zap mix Tryz.func64 (by kernel_rfl) (Eq.mp (by kernel_rfl) h)
def ZdE:Env:=EB
theorem Zdo(p0a:Option Addr)(p0n p0c:Nat)(p1a:Option Addr)(p1n p1c p2g:Nat)(p2fi p2ca:List Value)(m:Mem)(R:RT)(h:
 kB pG 99 [slice p0a p0n p0c,slice p1a p1n p1c,func (Fn.func p2g) (Array.mk p2fi) (Array.mk p2ca)] m λb m'=>rtM m m' R (bool b)):CX Tryz.prog 66 #[.slice p0a p0n p0c,.slice p1a p1n p1c,.func (.func p2g) p2fi.toArray p2ca.toArray] m [] R:=
 Zad (E:=ZdE) Zap mix Tryz.func66 (by kernel_rfl) (Eq.mp (by kernel_rfl) h)
def Zhh:Env:={ EB with
 joins:=swI none [(1,some [(4,.bool)])]
 frzNew:=[2,3] }
theorem Zge(aA:Bool)(aD:ByteArray)(aF:Value)(bM:Bool)(cA:ByteArray)(cD:Value)(m:Mem)(R:RT)(h:
 lV [bool bM,string cA,cD] λxL=>lV [bool aA,string aD,aF] λxL_1=>fzM m xL_1 λb m'=>lE [some (Box.mk b xL_1 101 3 true true)] λxL_2=>fzM m' xL λb m'=>∃(b_1:Bool),lE (some (Box.mk b xL 101
 3 true true)::xL_2) λxL=>br (aA == bM) (br (ByteArray.toList aD == ByteArray.toList cA) (kB pG 97 [aF,cD] m' λb m'=>Zac xL/\[bool b]=[bool b_1]) (Zac xL/\[bool false]=[bool b_1])) (Zac xL/\
 [bool false]=[bool b_1])/\rtM m m' R (bool b_1)):CX Tryz.prog 63 #[.agg #[.bool aA,.string aD,aF],.agg #[.bool bM,.string cA,cD]] m [] R:=
 Zad (E:=Zhh) Zap mix Tryz.func63 (by kernel_rfl) (Eq.mp (by kernel_rfl) h)
def Zl8:Env:={ EB with
 joins:=swI none [(1,some [(4,.bool)])]
 frzNew:=[2,3] }
theorem Zj5(aA:ByteArray)(aD:Bool)(aF:ByteArray)(aE:Value)(bM:ByteArray)(cA:Bool)(cD:ByteArray)(cF:Value)(m:Mem)(R:RT)(h:
 lV [bool aD,string aF,aE] λxL=>lV [bool cA,string cD,cF] λxL_1=>fzM m (string aA::xL) λb m'=>lE [some (Box.mk b (string aA::xL) 103 4 true true)] λxL_2=>fzM m' (string bM::xL_1) fun
 b m'=>∃(b_1:Bool),lE (some (Box.mk b (string bM::xL_1) 103 4 true true)::xL_2) λxL_3=>br (ByteArray.toList aA == ByteArray.toList bM) (kB pG 63 [agg (.mk xL),agg (.mk xL_1)] m' λb m'=>Zac xL_3/\[bool
 b]=[bool b_1]) (Zac xL_3/\[bool false]=[bool b_1])/\rtM m m' R (bool b_1)):CX Tryz.prog 62 #[.agg #[.string aA,.bool aD,.string aF,aE],.agg #[.string bM,.bool cA,.string cD,cF]] m [] R:=
 Zad (E:=Zl8) Zap mix Tryz.func62 (by kernel_rfl) (Eq.mp (by kernel_rfl) h)
def Zl9:Env:={ EB with
 joins:=swI none [(1,some [(4,.bool)])]
 frzNew:=[2,3] }
theorem Zj6(aA:ByteArray)(aY:Option Addr)(aT bF:Nat)(bM:ByteArray)(eI:Option Addr)(eJ eK:Nat)(m:Mem)(R:RT)(h:
 lV [string aA,slice aY aT bF] λxL=>lV [string bM,slice eI eJ eK] λxL_1=>fzM m xL λb m'=>lE [some (Box.mk b xL 36 2 true true)] λxL=>fzM m' xL_1 λb m'=>∃(b_1:Bool),lE (some
 (Box.mk b xL_1 36 2 true true)::xL) λxL=>br (ByteArray.toList aA == ByteArray.toList bM) (kB pG 66 [slice aY aT bF,slice eI eJ eK,func (Fn.func 67) (Array.mk []) (Array.mk [])] m' λb m'=>Zac
 xL/\[bool b]=[bool b_1]) (Zac xL/\[bool false]=[bool b_1])/\rtM m m' R (bool b_1)):CX Tryz.prog 65 #[.agg #[.string aA,.slice aY aT bF],.agg #[.string bM,.slice eI eJ eK]] m [] R:=
 Zad (E:=Zl9) Zap mix Tryz.func65 (by kernel_rfl) (Eq.mp (by kernel_rfl) h)
def Zqd:Env:={ EB with
 joins:=swI none [(1,some [(4,.bool)])]
 frzNew:=[2,3] }
theorem ZoX(aA:Int)(aY:Option Addr)(aT bF:Nat)(aO:Option Addr)(aI aW:Nat)(bM:Int)(eI:Option Addr)(eJ eK:Nat)(eE:Option Addr)(eG eH:Nat)(m:Mem)(R:RT)(h:
 lV [int i64 bM,slice eI eJ eK,slice eE eG eH] λxL=>lV [int i64 aA,slice aY aT bF,slice aO aI aW] λxL_1=>fzM m xL_1 λb m'=>lE [some (Box.mk b xL_1 32 3 true true)] λxL_2
 => fzM m' xL λb m'=>∃(b_1:Bool),lV [bool b_1] λxL_3=>lE (some (Box.mk b xL 32 3 true true)::xL_2) λxL_4=>(kB pG 19 [agg (.mk xL_1)] m' λb m'=>br b (kB pG 19 [agg (.mk xL)] m' λb m'=>br b (br (aA ==
 bM) (kB pG 61 [slice aY aT bF,slice eI eJ eK,func (Fn.func 62) (Array.mk []) (Array.mk [])] m' λb m'=>br b (kB pG 64 [slice aO aI aW,slice eE eG eH,func (Fn.func 65) (Array.mk [])
 (Array.mk [])] m' λb m'=>Zac xL_4/\[bool b]=xL_3) (Zac xL_4/\[bool false]=xL_3)) (Zac xL_4/\[bool false]=xL_3)) (Zac xL_4/\[bool false]=xL_3)) (Zac xL_4/\[bool false]=xL_3))/\rtM m m' R (bool
 b_1)):CX Tryz.prog 20 #[.agg #[.int .i64 aA,.slice aY aT bF,.slice aO aI aW],.agg #[.int .i64 bM,.slice eI eJ eK,.slice eE eG eH]] m [] R:=
 Zad (E:=Zqd) Zap mix Tryz.func20 (by kernel_rfl) (Eq.mp (by kernel_rfl) h)
end Go.Proofs.YtpjepnkiiojgfaaGreat
namespace Go.Proofs.YtpjepnkiiojgfaaGreat
open Go Go.Eng Go.Rx Go.Proofs Go.RowKit
set_option maxRecDepth 100000
theorem ZyB(cb:Nat)(f:Pt->Pt->Bool)(L R:List Pt)(a b:Option Addr)(c d:Nat)(m:Mem)(h1:rowRd m a (L.map Pt.cs).flatten)(h2:rowRd m b (R.map Pt.cs).flatten)(hl:L.length<=few)(gx:∀x∈L,∀y∈R,∀m2,m.le m2->CX Tryz.prog cb #[.agg x.cs.toArray,.agg y.cs.toArray] m2 [] (Ret (.bool (f x y)))):
  CX Tryz.prog 138 #[.slice a L.length c,.slice b R.length d,.func (.func cb) #[] #[]] m [] (Ret (.bool (eqL f L R))):=by
 have hl:L.length<=100000:=hl
 apply Zdm (p2fi:=[]) (p2ca:=[])
 refine Zah (x:=eqL f L R) ?_ λm1 aG=>Zaf aG rfl
 apply ZaJ (p2fi:=[]) (p2ca:=[])
 refine Zab (λcI=>Zaf (Mem.le_refl m) ?_) (λheq=>?_)
 ·have:¬L.length=R.length:=λe=>by simp[e]at cI
  show Value.bool _=Value.bool _
  rw[Ziz this]
 have heq:L.length=R.length:=by
  have:(L.length:Int)=R.length:=by simpa using heq
  omega
 refine⟨λxs css tvs m' q=>∃k:Nat,k<=L.length/\xs=[.int .i64 k]/\q=L.length - k/\m.le m'/\eqL f (L.take k) (R.take k)=true,⟨_,0,by omega,rfl,rfl,Mem.le_refl m,by simp[eqL]⟩,?_⟩
 rintro z m1 q _ ⟨k,hk,cC,hq,aG,ht⟩
 obtain rfl:z=k:=by simpa using cC
 refine Zab (λaB=>?_) (λbO=>?_)
 ·have aJ:k < L.length:=by have:=zA6 aB;omega
  obtain⟨x,hx⟩:=Zao aJ
  obtain⟨y,hy⟩:=Zao (l:=R) (k:=k) (by omega)
  obtain⟨b1,o1,fb,dF⟩:=Zaj Pt.len h1 hx (by omega)
  obtain⟨b2,o2,eX,dY⟩:=Zaj Pt.len h2 hy (by omega)
  have hw:IntKind.i64.wrap ((k:Int)+1)=((k+1:Nat):Int):=by rw[Zal (by omega) (by omega)];rfl
  refine⟨b1,o1,fb,⟨by omega,by omega⟩,_,_,_,_,_,_,_,_,dF.mono aG,λb3=>Zaa rfl ⟨b2,o2,eX,⟨by omega,by omega⟩,_,_,_,_,_,_,_,_,dY.mono aG,λb4=>Zaa rfl (Zah (gx x (zA2 hx) y (zA2 hy) m1 aG) λm2 aK=>Zab (λhf=>Zaf (mLt aG aK) ?_) (λhf=>?_))⟩⟩
  ·have:f x y=false:=by simpa using hf
   show Value.bool _=Value.bool _
   rw[Zn4 hx hy this]
  ·exact⟨L.length - (k+1),by omega,k+1,by omega,by rw[hw],rfl,mLt aG aK,ZfO hx hy ht (by simpa using hf)⟩
 ·have cY:k=L.length:=by have:=of_decide_eq_false bO;omega
  refine Zaf aG ?_
  rw[cY,List.take_length,heq,List.take_length]at ht
  show Value.bool _=Value.bool _
  rw[ht]
theorem ZyC(cb:Nat)(f:Ac->Ac->Bool)(L R:List Ac)(a b:Option Addr)(c d:Nat)(m:Mem)(h1:rowRd m a (L.map Ac.cs).flatten)(h2:rowRd m b (R.map Ac.cs).flatten)(hl:L.length<=few)(gx:∀x∈L,∀y∈R,∀m2,m.le m2->CX Tryz.prog cb #[.agg x.cs.toArray,.agg y.cs.toArray] m2 [] (Ret (.bool (f x y)))):
  CX Tryz.prog 101 #[.slice a L.length c,.slice b R.length d,.func (.func cb) #[] #[]] m [] (Ret (.bool (eqL f L R))):=by
 have hl:L.length<=100000:=hl
 apply Zc0 (p2fi:=[]) (p2ca:=[])
 refine Zah (x:=eqL f L R) ?_ λm1 aG=>Zaf aG rfl
 apply Zay (p2fi:=[]) (p2ca:=[])
 refine Zab (λcI=>Zaf (Mem.le_refl m) ?_) (λheq=>?_)
 ·have:¬L.length=R.length:=λe=>by simp[e]at cI
  show Value.bool _=Value.bool _
  rw[Ziz this]
 have heq:L.length=R.length:=by
  have:(L.length:Int)=R.length:=by simpa using heq
  omega
 refine⟨λxs css tvs m' q=>∃k:Nat,k<=L.length/\xs=[.int .i64 k]/\q=L.length - k/\m.le m'/\eqL f (L.take k) (R.take k)=true,⟨_,0,by omega,rfl,rfl,Mem.le_refl m,by simp[eqL]⟩,?_⟩
 rintro z m1 q _ ⟨k,hk,cC,hq,aG,ht⟩
 obtain rfl:z=k:=by simpa using cC
 refine Zab (λaB=>?_) (λbO=>?_)
 ·have aJ:k < L.length:=by have:=zA6 aB;omega
  obtain⟨x,hx⟩:=Zao aJ
  obtain⟨y,hy⟩:=Zao (l:=R) (k:=k) (by omega)
  obtain⟨b1,o1,fb,dF⟩:=Zaj Ac.len h1 hx (by omega)
  obtain⟨b2,o2,eX,dY⟩:=Zaj Ac.len h2 hy (by omega)
  have hw:IntKind.i64.wrap ((k:Int)+1)=((k+1:Nat):Int):=by rw[Zal (by omega) (by omega)];rfl
  refine⟨b1,o1,fb,⟨by omega,by omega⟩,_,_,_,_,_,_,_,_,dF.mono aG,λb3=>Zaa rfl ⟨b2,o2,eX,⟨by omega,by omega⟩,_,_,_,_,_,_,_,_,dY.mono aG,λb4=>Zaa rfl (Zah (gx x (zA2 hx) y (zA2 hy) m1 aG) λm2 aK=>Zab (λhf=>Zaf (mLt aG aK) ?_) (λhf=>?_))⟩⟩
  ·have:f x y=false:=by simpa using hf
   show Value.bool _=Value.bool _
   rw[Zn4 hx hy this]
  ·exact⟨L.length - (k+1),by omega,k+1,by omega,by rw[hw],rfl,mLt aG aK,ZfO hx hy ht (by simpa using hf)⟩
 ·have cY:k=L.length:=by have:=of_decide_eq_false bO;omega
  refine Zaf aG ?_
  rw[cY,List.take_length,heq,List.take_length]at ht
  show Value.bool _=Value.bool _
  rw[ht]
theorem Zwg(p q:Pt)(m:Mem)(hp:RepP m p)(hq:RepP m q):CX Tryz.prog 139 #[.agg p.cs.toArray,.agg q.cs.toArray] m [] (Ret (.bool (ZkN p q))):=by
 apply Zhd
 intro b m1 aG _ b1 m2 aK _
 have cV:=mLt aG aK
 refine⟨ZkN p q,Zab (λh1=>Zab (λh2=>Zab (λh3=>?_) (λh3=>⟨rfl,?_⟩)) (λh2=>⟨rfl,?_⟩)) (λh1=>⟨rfl,?_⟩),Zaf cV rfl⟩
 ·refine Zah (Zrz p.e q.e m2 (hp.e.mono' cV) (hq.e.mono' cV)) λm3 aR=>⟨rfl,?_⟩
  simp only[ZkN,eqS,h1,h2,h3,Bool.true_and]
 ·simp only[ZkN,eqS,h1,h2,h3,Bool.true_and,Bool.false_and]
 ·simp only[ZkN,eqS,h1,h2,Bool.true_and,Bool.false_and]
 ·simp only[ZkN,eqS,h1,Bool.false_and]
theorem Zwh(p q:Ac)(m:Mem)(hp:RepA m p)(hq:RepA m q):CX Tryz.prog 102 #[.agg p.cs.toArray,.agg q.cs.toArray] m [] (Ret (.bool (ZkO p q))):=by
 apply Zfj
 intro b m1 aG _ b1 m2 aK _
 have cV:=mLt aG aK
 refine⟨ZkO p q,Zab (λh1=>Zab (λh2=>?_) (λh2=>⟨rfl,?_⟩)) (λh1=>⟨rfl,?_⟩),Zaf cV rfl⟩
 ·refine Zah (ZyB 139 ZkN p.parts q.parts p.pa q.pa p.pc q.pc m2 (hp.row.mono cV) (hq.row.mono cV) hp.n λx hx y hy m' hm'=>Zwg x y m' ((hp.all x hx).mono (mLt cV hm')) ((hq.all y hy).mono (mLt cV hm'))) λm3 aR=>Zab (λh3=>?_) (λh3=>⟨rfl,?_⟩)
  ·refine Zah (Zrz p.e q.e m3 (hp.e.mono' (mLt cV aR)) (hq.e.mono' (mLt cV aR))) λm4 cE=>⟨rfl,?_⟩
   simp only[ZkO,eqS,h1,h2,h3,Bool.true_and]
  ·simp only[ZkO,eqS,h1,h2,h3,Bool.true_and,Bool.false_and]
 ·simp only[ZkO,eqS,h1,h2,Bool.true_and,Bool.false_and]
 ·simp only[ZkO,eqS,h1,Bool.false_and]
theorem Zwi(p q:Ru)(m:Mem)(hp:RepR m p)(hq:RepR m q):CX Tryz.prog 67 #[.agg p.cs.toArray,.agg q.cs.toArray] m [] (Ret (.bool (Zgh p q))):=by
 apply Zhe
 intro b m1 aG _ b1 m2 aK _
 have cV:=mLt aG aK
 refine⟨Zgh p q,Zab (λh1=>Zab (λh2=>Zab (λh3=>?_) (λh3=>⟨rfl,?_⟩)) (λh2=>⟨rfl,?_⟩)) (λh1=>⟨rfl,?_⟩),Zaf cV rfl⟩
 ·refine Zah (ZxV p.t q.t m2 (hp.t.mono cV) (hq.t.mono cV)) λm3 aR=>Zab (λh4=>Zab (λh5=>Zab (λh6=>?_) (λh6=>⟨rfl,?_⟩)) (λh5=>⟨rfl,?_⟩)) (λh4=>⟨rfl,?_⟩)
  ·have dA:=mLt cV aR
   refine Zah (ZyC 102 ZkO p.acts q.acts p.aa q.aa p.ac q.ac m3 (hp.row.mono dA) (hq.row.mono dA) hp.len λx hx y hy m' hm'=>Zwh x y m' ((hp.all x hx).mono (mLt dA hm')) ((hq.all y hy).mono (mLt dA hm'))) λm4 cE=>Zab (λh7=>Zab (λh8=>⟨rfl,?_⟩) (λh8=>⟨rfl,?_⟩)) (λh7=>⟨rfl,?_⟩)
   ·simp only[Zgh,eqS,h1,h2,h3,h4,h5,h6,h7,h8,Bool.true_and]
   ·simp only[Zgh,eqS,h1,h2,h3,h4,h5,h6,h7,h8,Bool.true_and,Bool.false_and]
   ·simp only[Zgh,eqS,h1,h2,h3,h4,h5,h6,h7,Bool.true_and,Bool.false_and]
  ·simp only[Zgh,eqS,h1,h2,h3,h4,h5,h6,Bool.true_and,Bool.false_and]
  ·simp only[Zgh,eqS,h1,h2,h3,h4,h5,Bool.true_and,Bool.false_and]
  ·simp only[Zgh,eqS,h1,h2,h3,h4,Bool.true_and,Bool.false_and]
 ·simp only[Zgh,eqS,h1,h2,h3,Bool.true_and,Bool.false_and]
 ·simp only[Zgh,eqS,h1,h2,Bool.true_and,Bool.false_and]
 ·simp only[Zgh,eqS,h1,Bool.false_and]
theorem ZyD(cb:Nat)(f:Va->Va->Bool)(L R:List Va)(a b:Option Addr)(c d:Nat)(m:Mem)(h1:rowRd m a (L.map Va.cs).flatten)(h2:rowRd m b (R.map Va.cs).flatten)(hl:L.length<=few)(gx:∀x∈L,∀y∈R,∀m2,m.le m2->CX Tryz.prog cb #[.agg x.cs.toArray,.agg y.cs.toArray] m2 [] (Ret (.bool (f x y)))):
  CX Tryz.prog 61 #[.slice a L.length c,.slice b R.length d,.func (.func cb) #[] #[]] m [] (Ret (.bool (eqL f L R))):=by
 have hl:L.length<=100000:=hl
 apply ZdD (p2fi:=[]) (p2ca:=[])
 refine Zah (x:=eqL f L R) ?_ λm1 aG=>Zaf aG rfl
 apply ZaP (p2fi:=[]) (p2ca:=[])
 refine Zab (λcI=>Zaf (Mem.le_refl m) ?_) (λheq=>?_)
 ·have:¬L.length=R.length:=λe=>by simp[e]at cI
  show Value.bool _=Value.bool _
  rw[Ziz this]
 have heq:L.length=R.length:=by
  have:(L.length:Int)=R.length:=by simpa using heq
  omega
 refine⟨λxs css tvs m' q=>∃k:Nat,k<=L.length/\xs=[.int .i64 k]/\q=L.length - k/\m.le m'/\eqL f (L.take k) (R.take k)=true,⟨_,0,by omega,rfl,rfl,Mem.le_refl m,by simp[eqL]⟩,?_⟩
 rintro z m1 q _ ⟨k,hk,cC,hq,aG,ht⟩
 obtain rfl:z=k:=by simpa using cC
 refine Zab (λaB=>?_) (λbO=>?_)
 ·have aJ:k < L.length:=by have:=zA6 aB;omega
  obtain⟨x,hx⟩:=Zao aJ
  obtain⟨y,hy⟩:=Zao (l:=R) (k:=k) (by omega)
  obtain⟨b1,o1,fb,dF⟩:=Zaj Va.len h1 hx (by omega)
  obtain⟨b2,o2,eX,dY⟩:=Zaj Va.len h2 hy (by omega)
  have hw:IntKind.i64.wrap ((k:Int)+1)=((k+1:Nat):Int):=by rw[Zal (by omega) (by omega)];rfl
  refine⟨b1,o1,fb,⟨by omega,by omega⟩,_,_,_,_,dF.mono aG,λb3=>Zaa rfl ⟨b2,o2,eX,⟨by omega,by omega⟩,_,_,_,_,dY.mono aG,λb4=>Zaa rfl (Zah (gx x (zA2 hx) y (zA2 hy) m1 aG) λm2 aK=>Zab (λhf=>Zaf (mLt aG aK) ?_) (λhf=>?_))⟩⟩
  ·have:f x y=false:=by simpa using hf
   show Value.bool _=Value.bool _
   rw[Zn4 hx hy this]
  ·exact⟨L.length - (k+1),by omega,k+1,by omega,by rw[hw],rfl,mLt aG aK,ZfO hx hy ht (by simpa using hf)⟩
 ·have cY:k=L.length:=by have:=of_decide_eq_false bO;omega
  refine Zaf aG ?_
  rw[cY,List.take_length,heq,List.take_length]at ht
  show Value.bool _=Value.bool _
  rw[ht]
theorem ZyE(cb:Nat)(f:Ru->Ru->Bool)(L R:List Ru)(a b:Option Addr)(c d:Nat)(m:Mem)(h1:rowRd m a (L.map Ru.cs).flatten)(h2:rowRd m b (R.map Ru.cs).flatten)(hl:L.length<=few)(gx:∀x∈L,∀y∈R,∀m2,m.le m2->CX Tryz.prog cb #[.agg x.cs.toArray,.agg y.cs.toArray] m2 [] (Ret (.bool (f x y)))):
  CX Tryz.prog 66 #[.slice a L.length c,.slice b R.length d,.func (.func cb) #[] #[]] m [] (Ret (.bool (eqL f L R))):=by
 have hl:L.length<=100000:=hl
 apply Zdo (p2fi:=[]) (p2ca:=[])
 refine Zah (x:=eqL f L R) ?_ λm1 aG=>Zaf aG rfl
 apply ZaK (p2fi:=[]) (p2ca:=[])
 refine Zab (λcI=>Zaf (Mem.le_refl m) ?_) (λheq=>?_)
 ·have:¬L.length=R.length:=λe=>by simp[e]at cI
  show Value.bool _=Value.bool _
  rw[Ziz this]
 have heq:L.length=R.length:=by
  have:(L.length:Int)=R.length:=by simpa using heq
  omega
 refine⟨λxs css tvs m' q=>∃k:Nat,k<=L.length/\xs=[.int .i64 k]/\q=L.length - k/\m.le m'/\eqL f (L.take k) (R.take k)=true,⟨_,0,by omega,rfl,rfl,Mem.le_refl m,by simp[eqL]⟩,?_⟩
 rintro z m1 q _ ⟨k,hk,cC,hq,aG,ht⟩
 obtain rfl:z=k:=by simpa using cC
 refine Zab (λaB=>?_) (λbO=>?_)
 ·have aJ:k < L.length:=by have:=zA6 aB;omega
  obtain⟨x,hx⟩:=Zao aJ
  obtain⟨y,hy⟩:=Zao (l:=R) (k:=k) (by omega)
  obtain⟨b1,o1,fb,dF⟩:=Zaj Ru.len h1 hx (by omega)
  obtain⟨b2,o2,eX,dY⟩:=Zaj Ru.len h2 hy (by omega)
  have hw:IntKind.i64.wrap ((k:Int)+1)=((k+1:Nat):Int):=by rw[Zal (by omega) (by omega)];rfl
  refine⟨b1,o1,fb,⟨by omega,by omega⟩,_,_,_,_,_,_,_,_,_,_,_,_,_,_,_,_,dF.mono aG,λb3=>Zaa rfl ⟨b2,o2,eX,⟨by omega,by omega⟩,_,_,_,_,_,_,_,_,_,_,_,_,_,_,_,_,dY.mono aG,λb4=>Zaa rfl (Zah (gx x (zA2 hx) y (zA2 hy) m1 aG) λm2 aK=>Zab (λhf=>Zaf (mLt aG aK) ?_) (λhf=>?_))⟩⟩
  ·have:f x y=false:=by simpa using hf
   show Value.bool _=Value.bool _
   rw[Zn4 hx hy this]
  ·exact⟨L.length - (k+1),by omega,k+1,by omega,by rw[hw],rfl,mLt aG aK,ZfO hx hy ht (by simpa using hf)⟩
 ·have cY:k=L.length:=by have:=of_decide_eq_false bO;omega
  refine Zaf aG ?_
  rw[cY,List.take_length,heq,List.take_length]at ht
  show Value.bool _=Value.bool _
  rw[ht]
theorem ZyF(cb:Nat)(f:Sta->Sta->Bool)(L R:List Sta)(a b:Option Addr)(c d:Nat)(m:Mem)(h1:rowRd m a (L.map Sta.cs).flatten)(h2:rowRd m b (R.map Sta.cs).flatten)(hl:L.length<=few)(gx:∀x∈L,∀y∈R,∀m2,m.le m2->CX Tryz.prog cb #[.agg x.cs.toArray,.agg y.cs.toArray] m2 [] (Ret (.bool (f x y)))):
  CX Tryz.prog 64 #[.slice a L.length c,.slice b R.length d,.func (.func cb) #[] #[]] m [] (Ret (.bool (eqL f L R))):=by
 have hl:L.length<=100000:=hl
 apply Zc6 (p2fi:=[]) (p2ca:=[])
 refine Zah (x:=eqL f L R) ?_ λm1 aG=>Zaf aG rfl
 apply ZaC (p2fi:=[]) (p2ca:=[])
 refine Zab (λcI=>Zaf (Mem.le_refl m) ?_) (λheq=>?_)
 ·have:¬L.length=R.length:=λe=>by simp[e]at cI
  show Value.bool _=Value.bool _
  rw[Ziz this]
 have heq:L.length=R.length:=by
  have:(L.length:Int)=R.length:=by simpa using heq
  omega
 refine⟨λxs css tvs m' q=>∃k:Nat,k<=L.length/\xs=[.int .i64 k]/\q=L.length - k/\m.le m'/\eqL f (L.take k) (R.take k)=true,⟨_,0,by omega,rfl,rfl,Mem.le_refl m,by simp[eqL]⟩,?_⟩
 rintro z m1 q _ ⟨k,hk,cC,hq,aG,ht⟩
 obtain rfl:z=k:=by simpa using cC
 refine Zab (λaB=>?_) (λbO=>?_)
 ·have aJ:k < L.length:=by have:=zA6 aB;omega
  obtain⟨x,hx⟩:=Zao aJ
  obtain⟨y,hy⟩:=Zao (l:=R) (k:=k) (by omega)
  obtain⟨b1,o1,fb,dF⟩:=Zaj Sta.len h1 hx (by omega)
  obtain⟨b2,o2,eX,dY⟩:=Zaj Sta.len h2 hy (by omega)
  have hw:IntKind.i64.wrap ((k:Int)+1)=((k+1:Nat):Int):=by rw[Zal (by omega) (by omega)];rfl
  refine⟨b1,o1,fb,⟨by omega,by omega⟩,_,_,dF.mono aG,λb3=>Zaa rfl ⟨b2,o2,eX,⟨by omega,by omega⟩,_,_,dY.mono aG,λb4=>Zaa rfl (Zah (gx x (zA2 hx) y (zA2 hy) m1 aG) λm2 aK=>Zab (λhf=>Zaf (mLt aG aK) ?_) (λhf=>?_))⟩⟩
  ·have:f x y=false:=by simpa using hf
   show Value.bool _=Value.bool _
   rw[Zn4 hx hy this]
  ·exact⟨L.length - (k+1),by omega,k+1,by omega,by rw[hw],rfl,mLt aG aK,ZfO hx hy ht (by simpa using hf)⟩
 ·have cY:k=L.length:=by have:=of_decide_eq_false bO;omega
  refine Zaf aG ?_
  rw[cY,List.take_length,heq,List.take_length]at ht
  show Value.bool _=Value.bool _
  rw[ht]
theorem Zwj(p q:Va)(m:Mem):CX Tryz.prog 62 #[.agg p.cs.toArray,.agg q.cs.toArray] m [] (Ret (.bool (ZgQ p q))):=by
 have hV:∀m,CX Tryz.prog 63 #[.agg #[.bool p.b,.string p.t,.float .f64 p.x],.agg #[.bool q.b,.string q.t,.float .f64 q.x]] m [] (Ret (.bool (p.b == q.b&&(eqS p.t q.t&&Zjc p.x q.x)))):=by
  intro m
  apply Zge
  intro b m1 aG _ b1 m2 aK _
  have cV:=mLt aG aK
  refine⟨p.b == q.b&&(eqS p.t q.t&&Zjc p.x q.x),Zab (λh1=>Zab (λh2=>?_) (λh2=>⟨rfl,?_⟩)) (λh1=>⟨rfl,?_⟩),Zaf cV rfl⟩
  ·refine Zah (Zrs p.x q.x m2) λm3 aR=>⟨rfl,?_⟩
   simp only[eqS,h1,h2,Bool.true_and]
  ·simp only[eqS,h1,h2,Bool.true_and,Bool.false_and]
  ·simp only[h1,Bool.false_and]
 apply Zj5
 intro b m1 aG _ b1 m2 aK _
 have cV:=mLt aG aK
 refine⟨ZgQ p q,Zab (λh1=>?_) (λh1=>⟨rfl,?_⟩),Zaf cV rfl⟩
 ·refine Zah (hV m2) λm3 aR=>⟨rfl,?_⟩
  simp only[ZgQ,eqS,h1,Bool.true_and]
 ·simp only[ZgQ,eqS,h1,Bool.false_and]
theorem Zwk(p q:Sta)(m:Mem)(hp:RepS m p)(hq:RepS m q):CX Tryz.prog 65 #[.agg p.cs.toArray,.agg q.cs.toArray] m [] (Ret (.bool (ZgR p q))):=by
 apply Zj6
 intro b m1 aG _ b1 m2 aK _
 have cV:=mLt aG aK
 refine⟨ZgR p q,Zab (λh1=>?_) (λh1=>⟨rfl,?_⟩),Zaf cV rfl⟩
 ·refine Zah (ZyE 67 Zgh p.rules q.rules p.ra q.ra p.rc q.rc m2 (hp.row.mono cV) (hq.row.mono cV) hp.len λx hx y hy m' hm'=>Zwi x y m' ((hp.all x hx).mono (mLt cV hm')) ((hq.all y hy).mono (mLt cV hm'))) λm3 aR=>⟨rfl,?_⟩
  simp only[ZgR,eqS,h1,Bool.true_and]
 ·simp only[ZgR,eqS,h1,Bool.false_and]
theorem Zc1(p q:Sc)(m:Mem)(hp:RepC m p)(hq:RepC m q):CX Tryz.prog 20 #[p.v,q.v] m [] (Ret (.bool (ZbH p q))):=by
 apply ZoX
 intro b m1 aG _ b1 m2 aK _
 have cV:=mLt aG aK
 refine⟨ZbH p q,Zah (Zcc p m2 (hp.mono cV)) λm3 aR=>Zab (λh1=>?_) (λh1=>⟨rfl,by simp only[ZbH,h1,Bool.false_and]⟩),Zaf cV rfl⟩
 refine Zah (Zcc q m3 (hq.mono (mLt cV aR))) λm4 cE=>Zab (λh2=>Zab (λh3=>?_) (λh3=>⟨rfl,by simp only[ZbH,h1,h2,h3,Bool.true_and,Bool.false_and]⟩)) (λh2=>⟨rfl,by simp only[ZbH,h1,h2,Bool.true_and,Bool.false_and]⟩)
 have fZ:=mLt cV (mLt aR cE)
 refine Zah (ZyD 62 ZgQ p.vars q.vars p.va q.va p.vc q.vc m4 (hp.mono fZ).vrow (hq.mono fZ).vrow hp.vlen λx _ y _ m' _=>Zwj x y m') λm5 cP=>Zab (λh4=>?_) (λh4=>⟨rfl,by simp only[ZbH,h1,h2,h3,h4,Bool.true_and,Bool.false_and]⟩)
 have gV:=mLt fZ cP
 refine Zah (ZyF 65 ZgR p.states q.states p.sa q.sa p.sc q.sc m5 (hp.mono gV).row (hq.mono gV).row hp.len λx hx y hy m' hm'=>Zwk x y m' ((hp.all x hx).mono (mLt gV hm')) ((hq.all y hy).mono (mLt gV hm'))) λm6 ef=>⟨rfl,?_⟩
 simp only[ZbH,h1,h2,h3,h4,Bool.true_and]
end Go.Proofs.YtpjepnkiiojgfaaGreat
namespace Go.Proofs.YtpjepnkiiojgfaaGreat
open Go Go.Eng Go.Proofs Go.RowKit
open Go.Value (int slice agg bool string tuple func)
open Go.IntKind (u8 u64 i64)
set_option maxRecDepth 100000
def Zbn:Env:={ EB with
 loops:=swI nLa [(4,⟨[(13,.int .i64)],[],[],false⟩)]
 dr:=swI [] [(6,[dO 0 [],dO 1 [],dO 2 [0,1],dO 3 [0,1,2],dO 4 [],dO 5 [],dO 6 [4,5],dO 7 [4,5,6],dO 8 [0,1,2,3,4,5,6,7]])] }
theorem Zbj(p0a:Option Addr)(p0n p0c:Nat)(p1a:Option Addr)(p1n p1c:Nat)(m:Mem)(R:RT)(h:
 br (!(↑p0n:Int) == (↑p1n:Int)) (rtM m m R (bool false)) (∃I,inI I [int i64 0] [] [] m/\∀n m' (n_1:Nat),m.le m'->I [int i64 n] [] [] m' n_1->br (decide (n < (↑p0n:Int))) (atA p0a λb o=>Zae n p0n/\∃v v_1
 v_2 v_3 v_4:Value,m'.reads b (o+Int.toNat n*5) [v,v_1,v_2,v_3,v_4]/\atA p1a λb o=>Zae n p1n/\∃v_5 v_6 v_7 v_8 v_9:Value,m'.reads b (o+Int.toNat n*5) [v_5,v_6,v_7,v_8,v_9]/\∃(b:Bool),EqIs pG
 27 (agg (.mk [v,v_1,v_2,v_3,v_4])) (agg (.mk [v_5,v_6,v_7,v_8,v_9])) b/\br (!b) (rtM m m' R (bool false)) (nxI n_1 I [int i64 (i64.wrap (n+1))] [] [] m')) (rtM m m' R (bool true)))):CX Tryz.prog 22 #[.slice p0a p0n p0c,.slice p1a p1n p1c] m [] R:=
 Zad (E:=Zbn) Zap mix Tryz.func22 (by kernel_rfl) (Eq.mp (by kernel_rfl) h)
end Go.Proofs.YtpjepnkiiojgfaaGreat
end
