/- Part of the proof: functions of the program. No condition. -/
import Derived.Test.YtdopppmkbkkmiaaGreatDoorPVGR
import Derived.Test.YtdopppmkbkkmiaaGreatDoorMr
import Derived.Test.YtdopppmkbkkmiaaGreatDoorPEnv
import Derived.Test.YtdopppmkbkkmiaaGreatDoorPC25F
import Derived.Test.YtdopppmkbkkmiaaGreatDoorPC25N
import Derived.Test.YtdopppmkbkkmiaaGreatDoorPC25MA
import Derived.Test.YtdopppmkbkkmiaaGreatDoorPC25H
import Derived.Test.YtdopppmkbkkmiaaGreatDoorPC25MD
set_option linter.unusedVariables false
set_option linter.unusedSimpArgs false
set_option linter.unusedSectionVars false
namespace Go.Proofs.YtdopppmkbkkmiaaGreatDoor
open Go Go.Eng Go.Rx Go.Proofs Go.RowKit
set_option maxRecDepth 100000
theorem Zyg(a b c d e f a' b' c' d' e' f':Int):EqIs Tryz.prog 66 (.agg #[.int .i64 a,.int .i64 b,.int .i64 c,.int .i64 d,.int .i64 e,.int .i64 f]) (.agg #[.int .i64 a',.int .i64 b',.int .i64 c',.int .i64 d',.int .i64 e',.int .i64 f']) ((a == a'&&b == b'&&c == c'&&d == d'&&e == e')&&f == f'):=by
 refine⟨λw=>?_,λop ox oy w=>Ze1 (by kernel_rfl) op ox oy _ _ w⟩
 have u3:=Tryz.underlying3
 have a3:=Tryz.isAgg3
 have z3:=Tryz.sizeOf3
 have u5:=Tryz.underlying58
 have a5:=Tryz.isAgg58
 have z5:=Tryz.sizeOf58
 have a6:=Tryz.isAgg64
 have z6:=Tryz.sizeOf64
 rw[Op.equal,Op.maxDepth,show(10000:Nat)=9997+2+1 from rfl]
 rw[run_equalIn_agg _ _ _ _ _ (by kernel_rfl) (by kernel_rfl)]
 have hf:(Tryz.prog.fieldsOf 66).toList=[⟨ "Place",64,0,false, "", "",0⟩,⟨ "Error",58,5,false, "", "",40⟩]:=by kernel_rfl
 rw[hf]
 go_simp
 by_cases h1:a=a' <;> by_cases h2:b=b' <;> by_cases h3:c=c' <;> by_cases h4:d=d' <;> by_cases h5:e=e' <;> by_cases h6:f=f' <;> simp[h1,h2,h3,h4,h5,h6]
theorem ZBE(p q:Pl×Int):EqIs Tryz.prog 66 (ZiF p) (ZiF q) (decide (p=q)):=by
 have h:=Zyg p.1.v p.1.s p.1.r p.1.a p.1.p p.2 q.1.v q.1.s q.1.r q.1.a q.1.p q.2
 have e:((p.1.v == q.1.v&&p.1.s == q.1.s&&p.1.r == q.1.r&&p.1.a == q.1.a&&p.1.p == q.1.p)&&p.2 == q.2)=decide (p=q):=by
  rw[Bool.eq_iff_iff,decide_eq_true_iff]
  simp only[zA7,beq_iff_eq]
  obtain⟨⟨a,b,c,d,e⟩,f⟩:=p
  obtain⟨⟨a',b',c',d',e'⟩,f'⟩:=q
  simp[and_assoc]
 rw[e]at h;exact h
theorem Zr9(l:List (Pl×Int))(a:Option Addr)(c:Nat)(p:Pl×Int)(m:Mem)(hl:l.length<=1000000000000000)(hr:rowRd m a (l.map Zlq).flatten):
  CX Tryz.prog 78 #[.slice a l.length c,ZiF p] m [] (λv _ _=>∃z:Int,v=.int .i64 z/\(z ≥ 0↔p∈l)):=by
 apply Za1 a l.length c
 intro b m1 aB _
 refine⟨λxs _ _ m'' q=>∃i:Nat,i<=l.length/\xs=[.int .i64 i]/\(∀x∈l.take i,¬p=x)/\q=l.length - i,⟨l.length,0,by omega,rfl,by simp,by omega⟩,?_⟩
 rintro n m2 q aH ⟨i,hi,hn,eT,hq⟩
 obtain rfl:n=i:=by simpa using hn
 have hm:=mLt aB aH
 refine Zab (λaG=>?_) (λbK=>?_)
 ·have aT:i < l.length:=by simpa using aG
  obtain⟨x,hx⟩:=ZcC aT
  have bL:x∈l:=zA2 hx
  obtain⟨b1,o1,ha,dP⟩:=Zao (cs:=Zlq) (n:=6) (λ_=>rfl) (hr.mono hm) hx (by decide)
  refine⟨b1,o1,ha,⟨by omega,by omega⟩,_,_,_,_,_,_,dP,decide (p=x),ZBE p x,Zav (λeK=>?_) (λeK=>?_)⟩
  ·exact⟨m2,hm,Mem.le_refl _,_,rfl,⟨λ_=>eK ▸ bL,λ_=>by omega⟩⟩
  ·refine⟨rfl,l.length - (i+1),by omega,i+1,by omega,by rw[Zal (by omega) (by omega)];rfl,?_,rfl⟩
   intro y hy
   rw[List.take_add_one,hx]at hy
   rcases List.mem_append.1 hy with hy|hy
   ·exact eT y hy
   ·simp at hy;rw[hy];exact eK
 ·have hi':i=l.length:=by
   have:¬((i:Int) < (l.length:Int)):=by simpa using bK
   omega
  subst hi'
  rw[List.take_length]at eT
  exact⟨m2,hm,Mem.le_refl _,_,rfl,⟨λh=>by omega,λh=>absurd rfl (eT p h)⟩⟩
theorem Zvp(l:List (Pl×Int))(a:Option Addr)(c:Nat)(p:Pl×Int)(m:Mem)(hl:l.length<=1000000000000000)(hr:rowRd m a (l.map Zlq).flatten):
  CX Tryz.prog 52 #[.slice a l.length c,ZiF p] m [] (Ret (.bool (decide (p∈l)))):=by
 apply ZaT a l.length c
 intro b m1 aB _
 refine Zaj (Zr9 l a c p m1 hl (hr.mono aB)) (λv _ _ ⟨z,e,_⟩=>by rw[e];rfl) ?_
 rintro z m2 aH ⟨z',hz,hx⟩
 cases hz
 exact Zac (mLt aB aH) (by unfold Ret;congr 1;exact decide_eq_decide.2 hx)
set_option maxHeartbeats 1000000 in
theorem ZAa(s:Sc)(k:Nat)(m:Mem)(hr:RepC m s)(hk:MkC s){xk:Sta}(l7:s.states[k]?=some xk)(h0:0 < k):CX Tryz.prog 19 #[s.v,.int .i64 k] m [] (Ret (.bool true)):=by
 have fO:=hk.len
 have hl:=hk.light
 have l5:=(zA0 l7).1
 apply Zls
 intro b m1 aB _
 have r1:=hr.mono aB
 refine⟨λxs _ tvs mm q=>∃(i:Nat)(a:Option Addr)(c:Nat),i<=s.states.length/\xs=[.slice a (Zly k i).length c,.int .i64 i]/\tvs=[.slice a (Zly k i).length c]/\rowRd mm a (ZAT (ZAU (Zly k i)))/\q=s.states.length - i,⟨_,0,none,0,by omega,rfl,rfl,.inl rfl,rfl⟩,?_⟩
 rintro a n c u a2 n2 c2 mm q rD ⟨i,a',c',hi,cT,cS,aD,rfl⟩
 simp only[List.cons.injEq,Value.slice.injEq,Value.int.injEq,true_and,and_true]at cT cS
 obtain⟨⟨rfl,rfl,rfl⟩,rfl⟩:=cT
 obtain⟨rfl,rfl,rfl⟩:=cS
 have ro:=Zog k i
 have ld:IntKind.i64.wrap ((i:Int)+1)=((i+1:Nat):Int):=by rw[Zal (by omega) (by omega)];rfl
 have rm:=r1.mono rD
 have pC:=mLt aB rD
 refine Zav (λaG=>?_) (λbK=>?_)
 ·have aG:(i:Int) < (s.states.length:Nat):=aG
  refine Zab (λcY=>?_) (λheq=>?_)
  ·have cY:(!((i:Int) == (k:Int)))=true:=cY
   have cY:i≠k:=λe=>by subst e;simp at cY
   intro b5 j1
   have cR:=Zm1 cY
   refine Zgo ZBC ZBD (ts:=Zly k i) j1 i (by rw[Zto];exact aD) 8 (by omega) (by omega) (.inl rfl) λa5 c5 m6 iI jv=>⟨rfl,_,by omega,i+1,a5,c5,by omega,by rw[ld,cR,zA1];rfl,by rw[cR,zA1];rfl,by rw[cR,<-Zto];exact jv,rfl⟩
  ·have heq:(!((i:Int) == (k:Int)))=false:=heq
   have heq:i=k:=by
    have h2:(i:Int)=(k:Int):=by simpa using heq
    omega
   subst heq
   have cR:=Zm2 i
   exact⟨rfl,_,by omega,i+1,a2,c2,by omega,by rw[ld,cR],by rw[cR],by rw[cR];exact aD,rfl⟩
 have bK:¬(i:Int) < (s.states.length:Nat):=bK
 obtain rfl:i=s.states.length:=by omega
 have aG:∀j∈Zly k s.states.length,j < s.states.length:=λj hj=>(Zit.1 hj).1
 refine Zaj (Zye s (Zly k s.states.length) a2 c2 mm rm hl (by unfold ZAT ZAU at aD;rw[List.map_map]at aD;exact aD) aG (Zmm _ _) (by omega)) Zr7 ?_
 rintro n a n1 c a1 n4 c1 n3 m2 aH ⟨t,cS,rq,ut,mZ,rW⟩ b3
 obtain⟨⟨rfl,rfl,rfl,rfl,rfl,rfl,rfl⟩,rfl⟩:=Zz9 cS
 have pF:t.er=(ZuD s (Zly k s.states.length)).er:=ZzB rq ut rfl rfl mZ (Zn8 aG)
 have rW:=rW.mono (Zpy _ _)
 have hG:=ZuI hk l7 h0
 have uu:(ZuD s (Zly k s.states.length)).states.length=(Zly k s.states.length).length:=by
  have:=congrArg List.length (Zn8 aG)
  simpa using this.symm
 have jG:t.states.length=(Zly k s.states.length).length:=(Zxa pF).trans uu
 refine⟨false,Zfj rfl ⟨rfl,by rw[jG];simp⟩,Zfj rfl ?_⟩
 refine Zaj (ZjU t m2 rW) ZqF ?_
 rintro a n c m3 aS ⟨a3,c3,hv,lN⟩
 simp only[Value.slice.injEq]at hv
 obtain⟨rfl,rfl,rfl⟩:=hv
 have nW:=ZjL pF
 have kA:=hG.problems_len hk
 rw[<-nW]at kA
 rw[<-ZrG (nk:=xk.s) pF]at kA
 have we:ZjN (goX xk.s) t.states<=20001:=by rw[<-kA];exact Zh7 t
 have mN:t.states.length<=4:=by rw[jG];have:=Zog k s.states.length;omega
 refine⟨λxs _ _ mm q=>∃j:Nat,j<=t.states.length/\xs=[.int .i64 ((ZjN (goX xk.s) (t.states.take j):Nat):Int),.int .i64 j]/\q=t.states.length - j,⟨_,0,by omega,rfl,rfl⟩,?_⟩
 rintro nc nj m4 q bM ⟨j,hj,cT,rfl⟩
 simp only[List.cons.injEq,Value.int.injEq,true_and,and_true]at cT
 obtain⟨rfl,rfl⟩:=cT
 have mP:IntKind.i64.wrap ((j:Int)+1)=((j+1:Nat):Int):=by rw[Zal (by omega) (by omega)];rfl
 have r4:=rW.mono (mLt aS bM)
 have jK:=mLt pC (mLt aH (mLt aS bM))
 refine Zav (λaG=>?_) (λbK=>Zac jK ?_)
 ·have aG:(j:Int) < (t.states.length:Nat):=aG
  obtain⟨x',hx'⟩:=ZcC (show j < t.states.length by omega)
  obtain⟨x,hx,rQ⟩:=ZB2 pF.symm hx'
  have cR:=ZkE (goX xk.s) hx'
  have bH:=Zs2 (goX xk.s) t.states (j+1)
  obtain⟨b10,o10,oX,lO⟩:=Zao Sta.len r4.row hx' (by omega)
  refine⟨b10,o10,oX,⟨by omega,aG⟩,_,_,lO,λb11=>Zaa rfl (Zaa rfl ⟨λxs _ _ mm q=>∃i:Nat,i<=x'.rules.length/\xs=[.int .i64 ((ZjN (goX xk.s) (t.states.take j)+ZjN (goN xk.s) (x'.rules.take i):Nat):Int),.int .i64 i]/\q=x'.rules.length - i,⟨_,0,by omega,rfl,rfl⟩,?_⟩)⟩
  rintro nc ni m5 q cV ⟨i,hi,cT,rfl⟩
  simp only[List.cons.injEq,Value.int.injEq,true_and,and_true]at cT
  obtain⟨rfl,rfl⟩:=cT
  have j9:x'.rules.length<=100000:=(r4.all x' (zA2 hx')).len
  have ld:IntKind.i64.wrap ((i:Int)+1)=((i+1:Nat):Int):=by rw[Zal (by omega) (by omega)];rfl
  have r5:=r4.mono cV
  have rs5:=rm.mono (mLt aH (mLt aS (mLt bM cV)))
  have kJ:=Zs2 (goN xk.s) x'.rules i
  have tC:goX xk.s x'=ZjN (goN xk.s) x'.rules:=rfl
  refine Zav (λdU=>?_) (λeI=>?_)
  ·have dU:(i:Int) < (x'.rules.length:Nat):=dU
   obtain⟨r',hr'⟩:=ZcC (show i < x'.rules.length by omega)
   have qI:=ZkE (goN xk.s) hr'
   have iJ:=Zs2 (goN xk.s) x'.rules (i+1)
   obtain⟨b12,o12,oY,lQ⟩:=Zao Ru.len (r5.all x' (zA2 hx')).row hr' (by omega)
   obtain⟨b14,o14,oZ,lR⟩:=Zao Sta.len rs5.row l7 (by omega)
   refine Zaa rfl ⟨b12,o12,oY,⟨by omega,dU⟩,_,_,_,_,_,_,_,_,_,_,_,_,_,_,_,_,lQ,λb13=>Zaa rfl ⟨b14,o14,oZ,⟨by omega,by omega⟩,_,lR 0 _ rfl,Zaa rfl (Zab (λh=>?_) (λh=>?_))⟩⟩
   ·have h:(!eqS r'.go xk.s)=true:=h
    have h0':goN xk.s r'=0:=by unfold goN;rw[if_neg (by simpa using h)]
    exact⟨rfl,rfl,_,by omega,i+1,by omega,by rw[ld,qI,h0'];rfl,rfl⟩
   ·have h:(!eqS r'.go xk.s)=false:=h
    have he:eqS r'.go xk.s=true:=by simpa using h
    have h1':goN xk.s r'=1:=by unfold goN;rw[if_pos he]
    have yx:IntKind.i64.wrap (((ZjN (goX xk.s) (t.states.take j)+ZjN (goN xk.s) (x'.rules.take i):Nat):Int)+1)=((ZjN (goX xk.s) (t.states.take j)+ZjN (goN xk.s) (x'.rules.take (i+1)):Nat):Int):=by
     rw[Zal (by omega) (by omega)];omega
    obtain⟨r,gD,yy⟩:∃r,x.rules[i]?=some r/\r.er=r'.er:=by
     have e:=(Zxb rQ).2.1
     have:=congrArg (λl=>l[i]?) e
     simp only[List.getElem?_map,hr',Option.map_some]at this
     cases h3:x.rules[i]? with
     | none=>rw[h3]at this;cases this
     | some r=>rw[h3]at this;exact⟨r,rfl,by simpa using this⟩
    have gX:=hG.in_problems hk hx gD (by rw[show r.go=r'.go from(congrArg Ru.go yy:r.er.go=r'.er.go)];exact he)
    rw[<-nW]at gX
    have qT:=Zvp t.problems a c (⟨-1,j,i,-1,-1⟩,306) m5 (by have:=Zh7 t;omega) (lN.mono (mLt bM cV))
    rw[decide_eq_true gX]at qT
    exact Zah qT λm6 iI=>Zfj rfl ⟨rfl,rfl,_,by omega,i+1,by omega,by rw[ld,yx],rfl⟩
  ·have eI:¬(i:Int) < (x'.rules.length:Nat):=eI
   obtain rfl:i=x'.rules.length:=by omega
   refine⟨rfl,rfl,_,by omega,j+1,by omega,?_,rfl⟩
   rw[mP,cR,List.take_length,tC]
 ·have bK:¬(j:Int) < (t.states.length:Nat):=bK
  obtain rfl:j=t.states.length:=by omega
  show Value.bool _=Value.bool true
  rw[List.take_length,kA];simp
end Go.Proofs.YtdopppmkbkkmiaaGreatDoor
namespace Go.Proofs.YtdopppmkbkkmiaaGreatDoor
open Go Go.Eng Go.Proofs Go.RowKit
open Go.Value (int slice agg bool string tuple func)
open Go.IntKind (u8 u64 i64)
set_option maxRecDepth 100000
noncomputable def Zlt:Env:={ EB with
 frzNew:=[1] }
theorem Zjq(aA:Int)(aM:Option Addr)(aK aN:Nat)(aJ:Option Addr)(aI aO:Nat)(m:Mem)(R:RT)(h:
 fzM m [int i64 aA,slice aM aK aN,slice aJ aI aO] λb m'=>rtM m m' R (func (Fn.func 103) (Array.mk []) (Array.mk [Value.pointer (some (Addr.mk b 0 none))]))):CX Tryz.prog 76 #[.agg #[.int .i64 aA,.slice aM aK aN,.slice aJ aI aO]] m [] R:=
 Zad (E:=Zlt) Zam mix Tryz.func76 (by kernel_rfl) (Eq.mp (by kernel_rfl) h)
noncomputable def Zh8:Env:={ EB with
 loops:=swI nLa [(1,⟨[(12,.int .i64)],[],[],true⟩),(4,⟨[(19,.int .i64)],[],[],true⟩),(7,⟨[(26,.int .i64)],[],[],true⟩)] }
theorem ZgT(p0g:Nat)(p0fi p0ca:List Value)(c0b c0o:Nat)(m:Mem)(xs:List (List Value))(h:
 ∀(l:Nat),∃(v:Value),m c0b (c0o+2)=some v/\chk (Za8 v) (∃I,inI I [int i64 0,int i64 0] [] [] m/\∀y n m' (n_1:Nat),m.le m'->I [int i64 y,int i64 n] [] [] m' n_1->br (decide (n < (↑(slN v):Int))) (chk (Za8
 v) (atA (slA v) λb o=>Zag n (slN v)/\∃v v_1:Value,m'.reads b (o+Int.toNat n*2) [v,v_1]/\∀b,lE [some (Box.mk b [v,v_1] 34 2 false true)] λxL=>chk (v.oneCell'&&(v_1.oneCell'&&true)) (chk (Za8 v_1) (∃
 I_1,inI I_1 [int i64 y,int i64 0] [] [] m'/\∀y n_2 m'_1 (n_3:Nat),lX (int i64 y) λyL=>m'.le m'_1->I_1 [yL,int i64 n_2] [] [] m'_1 n_3->br (decide (n_2 < (↑(slN v_1):Int))) (chk (Za8 v_1) (atA (slA v_1) λb o=>
 Zag n_2 (slN v_1)/\∃v v_2 v_3 v_4 v_5 v_6 v_7 v_8 v_9 v_10 v_11 v_12 v_13 v_14 v_15 v_16:Value,lV [v,v_2,v_3,v_4,v_5,v_6,v_7,v_8,v_9,v_10,v_11,v_12,v_13,v_14,v_15,v_16] λxL_1=>m'_1.reads b (o +
 Int.toNat n_2*16) xL_1/\∀b,chk (v.oneCell'&&(v_2.oneCell'&&(v_3.oneCell'&&(v_4.oneCell'&&(v_5.oneCell'&&(v_6.oneCell'&&(v_7.oneCell'&&(v_8.oneCell'&&(v_9.oneCell'&&(v_10.oneCell'&&(v_11.oneCell' &&
 (v_12.oneCell'&&(v_13.oneCell'&&(v_14.oneCell'&&(v_15.oneCell'&&(v_16.oneCell'&&true)))))))))))))))) (chk (Za8 v_14) (∃I,inI I [yL,int i64 0] [] [] m'_1/\∀y n m' (n_4:Nat),m'_1.le m'->I [int i64 y,int i64 n]
 [] [] m' n_4->br (decide (n < (↑(slN v_14):Int))) (chk (Za8 v_14) (atA (slA v_14) λb_1 o=>Zag n (slN v_14)/\∃v v_17 v_18 v_19 v_20 v_21 v_22 v_23:Value,lV [v,v_17,v_18,v_19,v_20,v_21,v_22,v_23] λxL_2=>
 m'.reads b_1 (o+Int.toNat n*8) xL_2/\∀(b_2:Nat),chk (v.oneCell'&&(v_17.oneCell'&&(v_18.oneCell'&&(v_19.oneCell'&&(v_20.oneCell'&&(v_21.oneCell'&&(v_22.oneCell'&&(v_23.oneCell'&&true)))))))) ((l=l/\(0:
 Int)<=y/\List.get?Internal xs (Int.toNat y)=some [agg (.mk xL_2)])/\(Zae (some (Box.mk b xL_1 45 16 false true)::xL)/\nxI n_4 I [int i64 (y+1),int i64 (i64.wrap (n+1))] [] [] m')/\((-1:Int)=(↑(xs.length):
 Int)\/(-1:Int)=(-1:Int))))) (Zae xL/\nxI n_3 I_1 [int i64 y,int i64 (i64.wrap (n_2+1))] [] [] m'))))) (nxI n_1 I [yL,int i64 (i64.wrap (n+1))] [] [] m'_1))))) (y=(↑(xs.length):Int)\/y=(-1:Int)))):IX Tryz.prog 103 [] [.pointer (some ⟨c0b,c0o,none⟩)] m xs:=
 Zhm (E:=Zh8) Zam mix Tryz.func103 _ _ _ (by kernel_rfl) (Eq.mp (by kernel_rfl) h)
end Go.Proofs.YtdopppmkbkkmiaaGreatDoor
namespace Go.Proofs.YtdopppmkbkkmiaaGreatDoor
open Go Go.Eng Go.Rx Go.Proofs Go.RowKit
set_option maxRecDepth 100000
theorem Zsa(s:Sc)(m:Mem):CX Tryz.prog 76 #[s.v] m [] (λv m' _=>∃b,v=.func (.func 103) #[] #[.pointer (some ⟨b,0,none⟩)]/\m'.reads b 0 s.cs):=by
 apply Zjq
 intro b m' hm hb
 exact⟨m',hm,Mem.le_refl _,b,rfl,hb⟩
theorem ZqK(s:Sc)(m:Mem)(c0b:Nat)(hr:RepC m s)(hb:m.reads c0b 0 s.cs):IX Tryz.prog 103 [] [.pointer (some ⟨c0b,0,none⟩)] m ((ZyB s).map λa=>[.agg a.cs.toArray]):=by
 apply ZgT 0 [] [] c0b 0
 intro l
 have fO:s.states.length<=100000:=hr.len
 refine⟨.slice s.sa s.states.length s.sc,hb 2 _ rfl,Zaa rfl ⟨λxs _ _ m' q=>∃i:Nat,i<=s.states.length/\xs=[.int .i64 (((s.states.take i).flatMap ZsT).length:Nat),.int .i64 i]/\q=s.states.length - i,⟨s.states.length,0,by omega,rfl,rfl⟩,?_⟩⟩
 rintro y n m1 q aB ⟨i,hi,hx,rfl⟩
 simp only[List.cons.injEq,Value.int.injEq,true_and,and_true]at hx
 obtain⟨rfl,rfl⟩:=hx
 have hw:IntKind.i64.wrap ((i:Int)+1)=((i+1:Nat):Int):=by rw[Zal (by omega) (by omega)];rfl
 refine Zav (λaG=>?_) (λbK=>.inl ?_)
 ·have aG:(i:Int) < (s.states.length:Nat):=aG
  obtain⟨x,hx⟩:=ZaL (show i < s.states.length by omega)
  have md:=zA2 hx
  obtain⟨b1,o1,lw,dH⟩:=Zao Sta.len (hr.mono aB).row hx (by omega)
  have cT:=(hr.mono aB).all x md
  have kY:x.rules.length<=100000:=cT.len
  refine Zaa rfl ⟨b1,o1,lw,⟨by omega,aG⟩,_,_,dH,λb2=>Zaa rfl (Zaa rfl ⟨λxs _ _ m' q=>∃k:Nat,k<=x.rules.length/\xs=[.int .i64 (((s.states.take i).flatMap ZsT).length+((x.rules.take k).flatMap (·.acts)).length:Nat),.int .i64 k]/\q=x.rules.length - k,⟨x.rules.length,0,by omega,rfl,rfl⟩,?_⟩)⟩
  rintro y n2 m2 q2 aH ⟨k,hk,iw,rfl⟩
  simp only[List.cons.injEq,Value.int.injEq,true_and,and_true]at iw
  obtain⟨rfl,rfl⟩:=iw
  have yz:IntKind.i64.wrap ((k:Int)+1)=((k+1:Nat):Int):=by rw[Zal (by omega) (by omega)];rfl
  refine Zav (λdU=>?_) (λeI=>?_)
  ·have dU:(k:Int) < (x.rules.length:Nat):=dU
   obtain⟨r,gD⟩:=ZaL (show k < x.rules.length by omega)
   obtain⟨b3,o3,hO,ia⟩:=Zao Ru.len (cT.mono aH).row gD (by omega)
   have fW:=(cT.mono aH).all r (zA2 gD)
   have oT:r.acts.length<=100000:=fW.len
   refine Zaa rfl ⟨b3,o3,hO,⟨by omega,dU⟩,_,_,_,_,_,_,_,_,_,_,_,_,_,_,_,_,ia,λb4=>Zaa rfl (Zaa rfl ⟨λxs _ _ m' q=>∃j:Nat,j<=r.acts.length/\xs=[.int .i64 (((s.states.take i).flatMap ZsT).length+(((x.rules.take k).flatMap (·.acts)).length+j):Nat),.int .i64 j]/\q=r.acts.length - j,⟨r.acts.length,0,by omega,rfl,rfl⟩,?_⟩)⟩
   rintro y n3 m3 q3 aS ⟨j,hj,kx,rfl⟩
   simp only[List.cons.injEq,Value.int.injEq,true_and,and_true]at kx
   obtain⟨rfl,rfl⟩:=kx
   have mP:IntKind.i64.wrap ((j:Int)+1)=((j+1:Nat):Int):=by rw[Zal (by omega) (by omega)];rfl
   refine Zav (λgP=>?_) (λjA=>?_)
   ·have gP:(j:Int) < (r.acts.length:Nat):=gP
    obtain⟨a,ha⟩:=ZaL (show j < r.acts.length by omega)
    obtain⟨b5,o5,mh,kQ⟩:=Zao Ac.len (fW.mono aS).row ha (by omega)
    refine Zaa rfl ⟨b5,o5,mh,⟨by omega,gP⟩,_,_,_,_,_,_,_,_,kQ,λb6=>Zaa rfl ⟨⟨rfl,Int.natCast_nonneg _,?_⟩,⟨rfl,r.acts.length - (j+1),by omega,j+1,by omega,by rw[mP];rfl,rfl⟩,.inr rfl⟩⟩
    show(List.map (λa:Ac=>[Value.agg a.cs.toArray]) (ZyB s))[((((s.states.take i).flatMap ZsT).length+(((x.rules.take k).flatMap (·.acts)).length+j):Nat):Int).toNat]?=some [Value.agg a.cs.toArray]
    rw[zA8,List.getElem?_map,show(ZyB s)[_]?=some a from Zwa ZsT hx (Zwa (·.acts) gD ha)];rfl
   ·have jA:¬(j:Int) < (r.acts.length:Nat):=jA
    have:j=r.acts.length:=by omega
    subst this
    refine⟨rfl,x.rules.length - (k+1),by omega,k+1,by omega,?_,rfl⟩
    rw[ZpJ (·.acts) gD,zA1,yz]
  ·have eI:¬(k:Int) < (x.rules.length:Nat):=eI
   have:k=x.rules.length:=by omega
   subst this
   refine⟨s.states.length - (i+1),by omega,i+1,by omega,?_,rfl⟩
   rw[ZpJ ZsT hx,zA1,List.take_length,hw];rfl
 ·have bK:¬(i:Int) < (s.states.length:Nat):=bK
  have:i=s.states.length:=by omega
  subst this
  rw[List.take_length,List.length_map];rfl
theorem NmSt.up{m mm mL:Mem}{v0:Value}{a:Option Addr}{c:Nat}{l:List ByteArray}(h:NmSt m v0 mm a c l)(bH:mm.le mL):NmSt m v0 mL a c l:=⟨h.row.mono bH,mLt h.base (ZpC bH),h.new⟩
theorem Zyh{a:Option Addr}{n c b:Nat}(h:Yn (.slice a n c) b):∃o e,a=some ⟨b,o,e⟩:=by
 cases a with
 | none=>simp[Yn,Tok.blk]at h
 | some q=>
  obtain⟨b',o,e⟩:=q
  obtain rfl:b'=b:=by simpa[Yn,Tok.blk]using h
  exact⟨o,e,rfl⟩
structure Nl (l:List ByteArray)(a:Option Addr)(c:Nat):Prop where
 nil:l=[]->a=none
 cap:l.length<=c
def ZyD(l:List ByteArray):Value->Mem->List (List Value)->Prop:=λv m' _=>∃a c,v=.slice a l.length c/\rowRd m' a (ZcQ l)/\l.length<=c
theorem ZdH{l}:∀(v:Value)(m':Mem) (css:List (List Value)),ZyD l v m' css->Shape.fits .slice v=true:=λv _ _ ⟨_,_,e,_⟩=>by rw[e];rfl
def ZDf(v0:Value)(m:Mem)(l:List ByteArray):RTY:=λv m' css tvs=>∃a c,v=.tuple #[]/\css=[[.slice a l.length c]]/\tvs=[.slice a l.length c]/\rowRd m' a (ZcQ l)/\(∀b,Yn (.slice a l.length c) b->Yn v0 b\/(m.free b/\m.k b=none))/\Nl l a c
theorem Zlu{v0 m l}:∀(v:Value)(m':Mem) (css:List (List Value)) (tvs:List Value),ZDf v0 m l v m' css tvs->Shape.fits (.tup []) v=true:=λv _ _ _ ⟨_,_,h,_⟩=>by rw[h];rfl
theorem ZqL(l out:List ByteArray)(la:Option Addr)(lc:Nat)(a:Option Addr)(c c0b:Nat)(m:Mem)(hl:rowRd (m.off (Yn (.slice a out.length c))) la (ZcQ l))(ho:rowRd m a (ZcQ out))(eL:Nl out a c)(hb:out.length+l.length<=100000):
  CXY Tryz.prog 75 #[.slice la l.length lc,.pointer (some ⟨c0b,0,none⟩)] m (Yn (.slice a out.length c)) [⟨c0b,[.slice a out.length c],76,1,false,true⟩] [⟨.slice a out.length c,1⟩] (ZDf (.slice a out.length c) m (l.foldl ZdQ out)):=by
 apply Zjp
 refine⟨λxs css tvs mm q=>∃(i:Nat)(a':Option Addr)(c':Nat),i<=l.length/\xs=[.int .i64 i]/\css=[[.slice a' ((l.take i).foldl ZdQ out).length c']]/\tvs=[.slice none 0 0,.slice a' ((l.take i).foldl ZdQ out).length c']/\NmSt m (.slice a out.length c) mm a' c' ((l.take i).foldl ZdQ out)/\Nl ((l.take i).foldl ZdQ out) a' c'/\q=l.length - i,
  ⟨_,0,a,c,by omega,rfl,rfl,rfl,⟨ho,Mem.le_refl _,λb h=>.inl h⟩,eL,rfl⟩,?_⟩
 rintro z cs a1 n1 c1 a2 n2 c2 mm q _ ⟨i,a',c',hi,hz,cA,cS,hS,hn,rfl⟩
 obtain rfl:z=i:=by simpa using hz
 simp only[List.cons.injEq,Value.slice.injEq,and_true]at cA cS
 obtain⟨⟨rfl,rfl,rfl⟩,rfl,rfl,rfl⟩:=cS
 subst cA
 have aQ:=Zoa (l.take i) out
 rw[List.length_take]at aQ
 have ld:IntKind.i64.wrap ((i:Int)+1)=((i+1:Nat):Int):=by rw[Zal (by omega) (by omega)];rfl
 refine Zav (λaG=>?_) (λbK=>⟨rfl,?_⟩)
 ·have aG:(i:Int) < (l.length:Nat):=aG
  obtain⟨s,hs⟩:=ZcC (show i < l.length by omega)
  have cR:=ZkB ZdQ out hs
  obtain⟨b,o,ha,hv⟩:=ZCr (hl.mono (mLt hS.base (Mem.off_le _ _))) (show(ZcQ l)[i]?=some (.string s) by unfold ZcQ;rw[List.getElem?_map,hs];rfl)
  refine⟨b,o,ha,⟨by omega,aG⟩,_,hv,Zan rfl (Zah (Zb9 ((l.take i).foldl ZdQ out) a2 c2 s mm (by omega) hS.row) λm2 aH=>?_)⟩
  have wg:=hS.up aH
  refine Zab (λh=>Zan rfl (Zaa rfl λb3 gZ=>Zaa rfl ?_)) (λh=>⟨rfl,rfl,?_⟩)
  ·have dR:((l.take i).foldl ZdQ out).any (λy=>eqS s y)=false:=by simpa using h
   have eJ:ZdQ ((l.take i).foldl ZdQ out) s=(l.take i).foldl ZdQ out++[s]:=Zzu dR
   rw[eJ]at cR
   have bH:m2.le (m2.add b3 [.string s]):=Mem.le_add gZ _
   have wh:=wg.up bH
   refine⟨.inl rfl,ZcQ ((l.take i).foldl ZdQ out),[.string s],by rw[ZeI];exact(Nat.mul_one _).symm,rfl,wh.row,.inr ⟨b3,0,rfl,Zaq m2 b3 _⟩,λu hu=>?_,by show(((l.take i).foldl ZdQ out).length+1)*16<=_;omega,by show((l.take i).foldl ZdQ out).length+1<=_;omega,λa5 c5 m5 cV cG hT=>⟨rfl,rfl,l.length - (i+1),by omega,i+1,a5,c5,by omega,by rw[ld],?_,?_,?_,?_,rfl⟩⟩
   ·obtain rfl:u=.string s:=by simpa using hu
    rfl
   ·rw[cR,zA1];rfl
   ·rw[cR,zA1];rfl
   ·have e:((l.take i).foldl ZdQ out++[s]).length=((l.take i).foldl ZdQ out).length+1:=by rw[zA1];rfl
    rw[cR]
    refine wh.step (mLt (Mem.off_le _ _) cV) (by unfold ZcQ at cG ⊢;rw[List.map_append];exact cG) λb' hb'=>?_
    obtain⟨oo,oe,hb'⟩:=Zyh hb'
    rcases hT.2 with h|⟨b6,o6,ha',h⟩
    ·rw[h]at hb';cases hb'
    ·rw[ha']at hb';cases hb'
     rcases h with h|⟨_,h2,h3⟩
     ·left
      have h:a2=a5:=h
      rw[h,ha'];simp[Yn,Tok.blk]
     ·exact .inr ⟨h2,h3⟩
   ·rw[cR];exact⟨λe=>by simp at e,by rw[zA1];exact hT.1⟩
  ·have dR:((l.take i).foldl ZdQ out).any (λy=>eqS s y)=true:=by simpa using h
   have eJ:ZdQ ((l.take i).foldl ZdQ out) s=(l.take i).foldl ZdQ out:=Zzv dR
   rw[eJ]at cR
   exact⟨l.length - (i+1),by omega,i+1,a2,c2,by omega,by rw[ld],by rw[cR],by rw[cR],by rw[cR];exact wg,by rw[cR];exact hn,rfl⟩
 ·have bK:¬(i:Int) < (l.length:Nat):=bK
  have hi:i=l.length:=by omega
  subst hi
  rw[List.take_length]at hS hn ⊢
  exact⟨a2,c2,rfl,rfl,rfl,hS.row,hS.new,hn⟩
def ZCg(r:Ru):Value->Mem->List (List Value)->Prop:=λv m' _=>∃s:Sc,v=s.v/\RepC m' s/\s.light=Zgz r/\ZyB s=r.acts
theorem Zmv{r:Ru}:∀(v:Value)(m':Mem) (css:List (List Value)),ZCg r v m' css->Shape.fits (.agg [.int .i64,.slice,.slice]) v=true:=λv _ _ ⟨t,e,_⟩=>by rw[e];rfl
theorem ZAb(r:Ru)(m:Mem)(hr:RepR m r):CX Tryz.prog 40 #[.agg r.cs.toArray] m [] (ZCg r):=by
 apply Zvo
 intro b m1 aB _ b1 b2 jV b3 gZ
 have h2:m1.le (m1.add b2 r.cs):=Mem.le_add jV _
 have h3:(m1.add b2 r.cs).le ((m1.add b2 r.cs).add b3 [.string ⟨#[]⟩,.slice (some ⟨b2,0,none⟩) 1 1]):=Mem.le_add gZ _
 have wi:=mLt aB (mLt h2 h3)
 refine⟨_,wi,Mem.le_refl _,⟨0,none,0,[],some ⟨b3,0,none⟩,1,[⟨⟨#[]⟩,some ⟨b2,0,none⟩,1,[r]⟩]⟩,rfl,⟨by show I64 0;unfold I64;omega,by show 0<=few;omega,.inl rfl,by simp,by show 1<=few;unfold few;omega,Zdn,λx hx=>?_,Nat.le_refl _,Nat.le_refl _⟩,?_,?_⟩
 ·simp only[List.mem_singleton]at hx
  subst hx
  have aD:rowRd (m1.add b2 r.cs) (some ⟨b2,0,none⟩) ([r].map Ru.cs).flatten:=by simpa using(Zdn (m:=m1) (b:=b2) (cs:=r.cs))
  exact⟨by show(ByteArray.mk #[]).size<=_;decide,by show 1<=few;unfold few;omega,aD.mono h3,λp hp=>by
   simp only[List.mem_singleton]at hp;subst hp;exact hr.mono wi⟩
 ·unfold Sc.light Sc.weight Zgz
  simp only[List.length_nil,List.length_singleton,List.map_cons,List.map_nil,ZbC,wS]
  congr 1
  refine propext ?_
  constructor <;> intro h <;> simp only[Int.add_zero]at h ⊢ <;> omega
 ·simp[ZyB,ZsT]
theorem Ztp(e:E){M0 mm:Mem}{v0:Value}{a:Option Addr}{c:Nat}{o:List ByteArray}(hS:NmSt M0 v0 mm a c o)(hn:Nl o a c)(he:RepE (M0.off (Yn v0)) e):
  CX Tryz.prog 77 #[e.v] mm [] (λv m' _=>∃a1 c1,v=.slice a1 e.vars.length c1/\∃m1:Mem,m1.le m'/\rowRd (m1.off (Yn (.slice a o.length c))) a1 (ZcQ e.vars)):=by
 refine((Ztg e (mm.off (Yn (.slice a o.length c))) (RepE.mono' he hS.base)).frame2 (Mem.off_le _ _)).mono ?_
 rintro v m' css _ ⟨m1,h1,h2,h3,a1,c1,hv,aD⟩
 refine⟨a1,c1,hv,m1,h2,?_⟩
 rcases aD with h|⟨b,oo,ha,h⟩
 ·exact .inl h
 ·refine .inr ⟨b,oo,ha,λj u hj=>?_⟩
  by_cases hY:Yn (.slice a o.length c) b
  ·exfalso
   obtain⟨o2,e2,mO⟩:=Zyh hY
   have ho:o≠[]:=λe=>by rw[hn.nil e]at mO;cases mO
   rcases hS.row with h4|⟨b4,o4,kL,h4⟩
   ·have:=congrArg List.length h4
    rw[ZeI]at this
    exact ho (List.eq_nil_of_length_eq_zero (by simpa using this))
   ·rw[mO]at kL;cases kL
    have aG:0 < (ZcQ o).length:=by rw[ZeI];exact List.length_pos_iff.2 ho
    have h5:=h3 _ _ _ (h4 0 _ (zA3 aG)) (oo+j)
    have h6:(mm.off (Yn (.slice a o.length c))) b (oo+j)=none:=Mem.off_free hY _
    rw[h6]at h5
    have h7:=h j u hj
    rw[h5]at h7;cases h7
  ·rw[Mem.off_at hY];exact h j u hj
theorem ZC2(m:Mem):NmSt m (.slice none 0 0) m none 0 []:=⟨.inl rfl,Mem.le_refl _,λb h=>.inl h⟩
theorem NmSt.put{M0 mm m':Mem}{v0:Value}{a a':Option Addr}{c c':Nat}{o l:List ByteArray}(h:NmSt M0 v0 mm a c o)(bH:(mm.off (Yn (.slice a o.length c))).le m')(hr:rowRd m' a' (ZcQ l))(hn:∀b,Yn (.slice a' l.length c') b->Yn (.slice a o.length c) b\/(mm.free b/\mm.k b=none)):NmSt M0 v0 m' a' c' l:=h.step bH hr hn
theorem NmSt.low{m mm:Mem}{a:Option Addr}{c:Nat}{l:List ByteArray}(h:NmSt m (.slice none 0 0) mm a c l):m.le mm:=by
 have hY:∀b,¬Yn (.slice none 0 0) b:=λb hb=>by simp[Yn,Tok.blk]at hb
 have iu:m.le (m.off (Yn (.slice none 0 0))):=⟨λb o v hv=>by rw[Mem.off_at (hY b)];exact hv,λb e he=>by rw[Mem.off_k (hY b)];exact he⟩
 exact mLt iu (mLt h.base (Mem.off_le _ _))
theorem Zwx(m:Mem):m.le (m.off (Yn (.slice none 0 0))):=Zuo (Mem.le_refl m) λb hb=>by simp[Yn,Tok.blk]at hb
theorem ZAc{M0 mm:Mem}{v0:Value}{a:Option Addr}{c b:Nat}{o:List ByteArray}(hS:NmSt M0 v0 mm a c o)(hn:Nl o a c)(hf:mm.free b):¬Yn (.slice a o.length c) b:=λhY=>by
 obtain⟨o2,e2,mO⟩:=Zyh hY
 have ho:o≠[]:=λe=>by rw[hn.nil e]at mO;cases mO
 rcases hS.row with h4|⟨b4,o4,kL,h4⟩
 ·have:=congrArg List.length h4
  rw[ZeI]at this
  exact ho (List.eq_nil_of_length_eq_zero (by simpa using this))
 ·rw[mO]at kL;cases kL
  have aG:0 < (ZcQ o).length:=by rw[ZeI];exact List.length_pos_iff.2 ho
  have:=h4 0 _ (zA3 aG)
  rw[hf]at this;cases this
theorem ZqM{cs:List Value}{a7:Option Addr}{c7 d7:Nat}{v0:Value}{m m7:Mem}{l:List ByteArray}{v:Value}(h:ZDf v0 m l v m7 [cs] [.slice a7 c7 d7]):c7=l.length/\cs=[.slice a7 l.length d7]/\rowRd m7 a7 (ZcQ l)/\(∀b,Yn (.slice a7 l.length d7) b->Yn v0 b\/(m.free b/\m.k b=none))/\Nl l a7 d7:=by
 obtain⟨a8,c8,_,cA,cS,aD,cC,eL⟩:=h
 simp only[List.cons.injEq,Value.slice.injEq,and_true]at cA cS
 obtain⟨rfl,rfl,rfl⟩:=cS
 exact⟨rfl,cA,aD,cC,eL⟩
theorem Zwy(r:Ru)(w:Bool)(m:Mem)(hr:RepR m r):CX Tryz.prog 50 #[.agg r.cs.toArray,.bool w] m [] (ZyD (ZfI w r)):=by
 have oT:r.acts.length<=100000:=hr.len
 apply ZqI
 intro b m1 aB qU iY _ b1 m2 aH _ _ _
 have eZ:=mLt aB aH
 refine⟨_,trivial,ZAb r m2 (hr.mono eZ),Zmv,?_⟩
 rintro n a n1 c a1 n2 c1 m3 aS ⟨s,hv,hs,fO,wj⟩
 rw[hv]
 have dI:=mLt eZ aS
 refine Zah (ZdT s m3 hs) λm4 bM=>Zab (λh=>Zac (mLt dI bM) ?_) (λh=>?_)
 ·have hl:Zgz r=false:=by rw[<-fO];simpa using h
  unfold ZfI
  rw[hl]
  exact⟨none,0,rfl,.inl rfl,Nat.le_refl _⟩
 have hl:Zgz r=true:=by rw[<-fO];simpa using h
 have jK:=mLt dI bM
 intro b3 b4
 refine⟨_,trivial,ZAb r m4 (hr.mono jK),Zmv,?_⟩
 rintro n' a' n1' c' a1' n2' c1' m5 cV ⟨s',hv',hs',pb,uv⟩
 rw[hv']
 have qF:=mLt jK cV
 refine Zaj (Zsa s' m5) (λv m' css h=>by obtain⟨_,rfl,_⟩:=h;rfl) ?_
 rintro g fi ca m6 iI ⟨b5,gS,qJ⟩
 obtain⟨rfl,rfl,rfl⟩:=Zcr gS
 have lb:=mLt qF iI
 have wk:=ZqK s' m6 b5 (hs'.mono iI) qJ
 rw[uv]at wk
 have yA:=hr.mono lb
 refine⟨m6,Mem.le_refl _,_,wk,λy hy=>?_,λ_ css tvs mm q=>∃(a:Option Addr)(c:Nat),q<=r.acts.length/\css=[[.slice a ((r.acts.take q).foldl (ZeM w) []).length c]]/\tvs=[.slice a ((r.acts.take q).foldl (ZeM w) []).length c]/\NmSt m6 (.slice none 0 0) mm a c ((r.acts.take q).foldl (ZeM w) [])/\Nl ((r.acts.take q).foldl (ZeM w) []) a c,⟨none,0,by omega,rfl,rfl,ZC2 m6,⟨λ_=>rfl,Nat.le_refl _⟩⟩,?_,?_⟩
 ·obtain⟨z,_,rfl⟩:=List.mem_map.1 hy;rfl
 ·rintro k0 s0 pa pn pc k1 x1 s1 g1 sa sn sc cs ta tn tc mm q ng hq ⟨a',c',ib,cA,cS,hS,hn⟩ b6
  simp only[List.cons.injEq,Value.slice.injEq,and_true]at cA cS
  obtain⟨rfl,rfl,rfl⟩:=cS
  subst cA
  have hq':(List.map (λa:Ac=>[Value.agg a.cs.toArray]) r.acts)[(q:Nat)]?=some [Value.agg #[.int .u8 k0,.string s0,.slice pa pn pc,.int .u8 k1,x1,.string s1,.int .i64 g1,.slice sa sn sc]]:=hq
  rw[List.getElem?_map]at hq'
  obtain⟨x,hx,wl⟩:=Option.map_eq_some_iff.1 hq'
  have qq:=(zA0 hx).1
  simp only[Ac.cs,List.cons.injEq,Value.agg.injEq,Array.mk.injEq,Value.int.injEq,Value.string.injEq,Value.slice.injEq,true_and,and_true]at wl
  obtain⟨rfl,rfl,⟨rfl,rfl,rfl⟩,rfl,rfl,rfl,rfl,rfl,rfl,rfl⟩:=wl
  have cR:=ZkB (ZeM w) [] hx
  have we:=Zwf w hl q hx
  have dH:=yA.all x (zA2 hx)
  have zH:=Zuj x
  have mE:x.parts.length<=100000:=dH.n
  obtain⟨o,ho⟩:∃o,o=(r.acts.take q).foldl (ZeM w) []:=⟨_,rfl⟩
  rw[<-ho]at hS hn cR we ⊢
  have qV:ZeM w o x=o->NmSt m6 (.slice none 0 0) mm ta tc o/\((r.acts.take (q+1)).foldl (ZeM w) []=o):=λh=>⟨hS,by rw[cR,h]⟩
  refine Zaa rfl ?_
  cases w with
  | true=>
   refine Ztv rfl ⟨x.k == 2||x.k == 3,Zab (λh=>⟨rfl,rfl,by rw[h];rfl⟩) (λh=>⟨rfl,rfl,by rw[h];rfl⟩),Zab (λh b7 lI=>?_) (λh=>?_)⟩
   ·have hu:ZeM true o x=ZdQ o x.s:=by
     unfold ZeM;rw[if_pos rfl,if_pos (by simpa using h)]
    have rX:=hS.up (Mem.le_add lI [.string x.s])
    have uw:=ZAc hS hn lI
    refine⟨_,_,ZqL [x.s] o (some ⟨b7,0,none⟩) 1 ta tc b3 (mm.add b7 [.string x.s]) ?_ rX.row hn (by simp;omega),λt ht bb fV=>?_,λbb fV=>.inl ⟨_,by simp,fV⟩,Zlu,?_⟩
    ·refine .inr ⟨b7,0,rfl,λj v hj=>?_⟩
     rw[Mem.off_at uw]
     exact Zaq mm b7 _ j v hj
    ·obtain rfl:t=_:=by simpa using ht
     exact fV
    ·rintro m7 ju _ cs7 a7 c7 d7 hp
     obtain⟨rfl,rfl,aD,cC,eL⟩:=ZqM hp
     have hS':=rX.step ju aD cC
     rw[show[x.s].foldl ZdQ o=ZdQ o x.s from rfl,<-hu,<-cR]at hS' eL ⊢
     exact⟨hS'.low,rfl,a7,d7,by omega,rfl,rfl,hS',eL⟩
   ·have hu:ZeM true o x=o:=by
     unfold ZeM;rw[if_pos rfl,if_neg (by simpa using h)]
    have:=qV hu
    exact⟨ng,rfl,ta,tc,by omega,by rw[this.2],by rw[this.2],by rw[this.2];exact hS,by rw[this.2];exact hn⟩
  | false=>
   have hu:ZeM false o x=x.parts.foldl Zc6 (ZcN o x):=by unfold ZeM;rw[if_neg (by decide)]
   have fZ:=ZsW x.e
   refine Zfj rfl ⟨λ_ css tvs mm'=>∃(a:Option Addr)(c:Nat),css=[[.slice a (ZcN o x).length c]]/\tvs=[.slice a (ZcN o x).length c]/\NmSt m6 (.slice none 0 0) mm' a c (ZcN o x)/\Nl (ZcN o x) a c,Zab (λh=>?_) (λh=>?_),?_⟩
   ·have hk:ZcN o x=x.e.vars.foldl ZdQ o:=by unfold ZcN;rw[if_pos (by simpa using h)]
    refine⟨λ_ _ _=>_,_,rfl,Ztp x.e hS hn (RepE.mono' dH.e (Zwx m6)),(λv _ _ ⟨_,_,e,_⟩=>by rw[e];rfl),?_⟩
    rintro a8 n8 c8 m8 iO ⟨a9,c9,nM,m9,ky,lS⟩ M hM yB
    simp only[Value.slice.injEq]at nM
    obtain⟨rfl,rfl,rfl⟩:=nM
    have qW:=hS.up hM
    refine⟨_,_,ZqL x.e.vars o a8 c8 ta tc b3 M (lS.mono (ZpC (mLt ky yB))) qW.row hn (by omega),λt ht bb fV=>?_,λbb fV=>.inl ⟨_,by simp,fV⟩,Zlu,?_⟩
    ·obtain rfl:t=_:=by simpa using ht
     exact fV
    ·rintro m7 ju _ cs7 a7 c7 d7 hp
     obtain⟨rfl,rfl,aD,cC,eL⟩:=ZqM hp
     have hS':=qW.step ju aD cC
     rw[<-hk]at hS' eL ⊢
     exact⟨rfl,rfl,a7,d7,rfl,rfl,hS',eL⟩
   ·have hk:ZcN o x=o:=by unfold ZcN;rw[if_neg (by simpa using h)]
    exact⟨rfl,rfl,ta,tc,by rw[hk],by rw[hk],by rw[hk];exact hS,by rw[hk];exact hn⟩
   rintro cs ja jn jc m7 _ ⟨a',c',cA,cS,rX,yC⟩
   simp only[List.cons.injEq,Value.slice.injEq,and_true]at cA cS
   obtain⟨rfl,rfl,rfl⟩:=cS
   subst cA
   refine⟨λxs css tvs mm' q=>∃(j:Nat)(a:Option Addr)(c:Nat),j<=x.parts.length/\xs=[.int .i64 j]/\css=[[.slice a ((x.parts.take j).foldl Zc6 (ZcN o x)).length c]]/\tvs=[.slice a ((x.parts.take j).foldl Zc6 (ZcN o x)).length c]/\NmSt m6 (.slice none 0 0) mm' a c ((x.parts.take j).foldl Zc6 (ZcN o x))/\Nl ((x.parts.take j).foldl Zc6 (ZcN o x)) a c/\q=x.parts.length - j,⟨_,0,ja,jc,by omega,rfl,rfl,rfl,rX,yC,rfl⟩,?_⟩
   rintro z cs a1 n1 c1 m8 q2 _ ⟨j,a',c',hj,hz,cA,cS,mj,kZ,rfl⟩
   obtain rfl:z=j:=by simpa using hz
   simp only[List.cons.injEq,Value.slice.injEq,and_true]at cA cS
   obtain⟨rfl,rfl,rfl⟩:=cS
   subst cA
   have mP:IntKind.i64.wrap ((j:Int)+1)=((j+1:Nat):Int):=by rw[Zal (by omega) (by omega)];rfl
   have yD:=Zis o x j
   refine Zav (λaG=>?_) (λbK=>?_)
   ·have aG:(j:Int) < (x.parts.length:Nat):=aG
    obtain⟨p,hp⟩:=ZcC (show j < x.parts.length by omega)
    have yE:=dH.mono mj.low
    obtain⟨b8,o8,ux,pf⟩:=Zao Pt.len yE.row hp (by omega)
    have kX:=dH.all p (zA2 hp)
    have jC:=ZkB Zc6 (ZcN o x) hp
    have yF:=Zis o x (j+1)
    have zI:=ZsW p.e
    obtain⟨o',ho'⟩:∃o',o'=(x.parts.take j).foldl Zc6 (ZcN o x):=⟨_,rfl⟩
    rw[<-ho']at mj kZ jC yD ⊢
    refine⟨b8,o8,ux,⟨by omega,aG⟩,_,_,_,_,_,_,_,_,pf,λb9=>Zaa rfl (Zaa rfl (Zab (λh=>Zaa rfl λb10 j5=>?_) (λh=>Zaa rfl (Zab (λh2=>?_) (λh2=>?_)))))⟩
    ·have h:(p.k == 2)=true:=h
     have hk:Zc6 o' p=ZdQ o' p.s:=by unfold Zc6;rw[if_pos (by simpa using h)]
     have qX:=mj.up (Mem.le_add j5 [.string p.s])
     have uw:=ZAc mj kZ j5
     refine⟨_,_,ZqL [p.s] o' (some ⟨b10,0,none⟩) 1 a1 c1 b3 (m8.add b10 [.string p.s]) ?_ qX.row kZ (by simp;omega),λt ht bb fV=>?_,λbb fV=>.inl ⟨_,by simp,fV⟩,Zlu,?_⟩
     ·refine .inr ⟨b10,0,rfl,λj v hj=>?_⟩
      rw[Mem.off_at uw]
      exact Zaq m8 b10 _ j v hj
     ·obtain rfl:t=_:=by simpa using ht
      exact fV
     ·rintro m9 ky _ cs9 a9 c9 d9 uy
      obtain⟨rfl,rfl,aD,cC,eL⟩:=ZqM uy
      have hS':=qX.step ky aD cC
      rw[show[p.s].foldl ZdQ o'=ZdQ o' p.s from rfl,<-hk,<-jC]at hS' eL ⊢
      exact⟨rfl,rfl,x.parts.length - (j+1),by omega,j+1,a9,d9,by omega,by rw[mP],rfl,rfl,hS',eL,rfl⟩
    ·have h:(p.k == 2)=false:=h
     have h2:(p.k == 4)=true:=h2
     have hk:Zc6 o' p=p.e.vars.foldl ZdQ o':=by unfold Zc6;rw[if_neg (by simpa using h),if_pos (by simpa using h2)]
     refine⟨λ_ _ _=>_,_,rfl,Ztp p.e mj kZ (RepE.mono' kX.e (Zwx m6)),(λv _ _ ⟨_,_,e,_⟩=>by rw[e];rfl),?_⟩
     rintro a10 n10 c10 m10 kR ⟨a9,c9,nM,m9,ky,lS⟩ M hM uz
     simp only[Value.slice.injEq]at nM
     obtain⟨rfl,rfl,rfl⟩:=nM
     have qW:=mj.up hM
     refine⟨_,_,ZqL p.e.vars o' a10 c10 a1 c1 b3 M (lS.mono (ZpC (mLt ky uz))) qW.row kZ (by omega),λt ht bb fV=>?_,λbb fV=>.inl ⟨_,by simp,fV⟩,Zlu,?_⟩
     ·obtain rfl:t=_:=by simpa using ht
      exact fV
     ·rintro m11 j7 _ cs9 a9 c9 d9 uy
      obtain⟨rfl,rfl,aD,cC,eL⟩:=ZqM uy
      have hS':=qW.step j7 aD cC
      rw[<-hk,<-jC]at hS' eL ⊢
      exact⟨rfl,rfl,x.parts.length - (j+1),by omega,j+1,a9,d9,by omega,by rw[mP],rfl,rfl,hS',eL,rfl⟩
    ·have h:(p.k == 2)=false:=h
     have h2:(p.k == 4)=false:=h2
     have hk:Zc6 o' p=o':=by unfold Zc6;rw[if_neg (by simpa using h),if_neg (by simpa using h2)]
     rw[hk]at jC
     exact⟨rfl,rfl,x.parts.length - (j+1),by omega,j+1,a1,c1,by omega,by rw[mP],by rw[jC],by rw[jC],by rw[jC];exact mj,by rw[jC];exact kZ,rfl⟩
   ·have bK:¬(j:Int) < (x.parts.length:Nat):=bK
    have hj:j=x.parts.length:=by omega
    subst hj
    rw[List.take_length,<-hu,<-cR]at mj kZ ⊢
    exact⟨mj.low,rfl,a1,c1,by omega,rfl,rfl,mj,kZ⟩
 ·rintro cs a7 n7 c7 m7 ju ⟨a',c',_,cA,cS,hS,hn⟩
  rw[List.length_map,List.take_length]at cA cS hS hn
  simp only[List.cons.injEq,Value.slice.injEq,and_true]at cA cS
  obtain⟨rfl,rfl,rfl⟩:=cS
  subst cA
  refine Zan rfl (ZaH (mLt lb ju) ?_)
  unfold ZfI
  rw[hl,if_pos rfl]
  exact⟨a7,c7,rfl,hS.row,hn.cap⟩
theorem ZqN(r:Ru)(m:Mem)(hr:RepR m r):CX Tryz.prog 16 #[.agg r.cs.toArray] m [] (ZyD (ZfI false r)):=by
 apply ZnM
 intro b m0 eM _
 refine Zaj (Zwy r false m0 (hr.mono eM)) ZdH ?_
 rintro a n c m1 aB ⟨a',c',hv,aD,hc⟩
 exact ZaH (mLt eM aB) ⟨a',c',hv,aD,hc⟩
theorem Zmw(r:Ru)(m:Mem)(hr:RepR m r):CX Tryz.prog 17 #[.agg r.cs.toArray] m [] (ZyD (ZfI true r)):=by
 apply Zlr
 intro b m0 eM _
 refine Zaj (Zwy r true m0 (hr.mono eM)) ZdH ?_
 rintro a n c m1 aB ⟨a',c',hv,aD,hc⟩
 exact ZaH (mLt eM aB) ⟨a',c',hv,aD,hc⟩
end Go.Proofs.YtdopppmkbkkmiaaGreatDoor
namespace Go.Proofs.YtdopppmkbkkmiaaGreatDoor
open Go Go.Eng Go.Proofs Go.RowKit
open Go.Value (int slice agg bool string tuple func)
open Go.IntKind (u8 u64 i64)
set_option maxRecDepth 100000
noncomputable def Ze8:Env:={ EB with
 loops:=swI nLa [(12,⟨[(11,.slice),(61,.int .i64)],[],[(72,5)],false⟩),(20,⟨[(83,.int .i64)],[],[],false⟩),(23,⟨[(91,.int .i64)],[],[],false⟩),(26,⟨[(99,.int .i64)],[],[],false⟩),(34,⟨[(134,.int .i64)],[22],[],false⟩)]
 joins:=swI none [(30,some [(23,.bool)]),(43,some [(6,.bool)])]
 dr:=swI [] [(37,[dO 0 [],⟨1,[22],[],none,[],[]⟩,dO 2 [0,1],⟨3,[25],[],none,[],[]⟩,⟨4,[145],[145],none,[3],[]⟩,⟨5,[145],[],none,[3,4],[]⟩,⟨6,[147],[147],none,[3,4,5],[4]⟩,⟨7,[147],[],none,[3,4,5,6],[]⟩,⟨8,[],[],none,[0,1,2,3,4,5,6,7],[2,6]⟩,dO 9 [],⟨10,[],[],none,[0,1,2,3,4,5,6,7,8,9],[8]⟩,dO 11 [0,1,2,3,4,5,6,7,8,9,10]])]
 tokOf:=swI 0 [(72,72)]
 borrow:=swI [] [(56,[200])]
 frzNew:=[3]
 acqB:=swI none [(9,some 200)]
 frzAt:=swI [] [(59,[200])]
 last:=swI false [(9,true)]
 lastK:=swI 1 [(9,3)]
 gb:=true
 thaw:=true
 kF:=true
 cuts:=swI none [(31,some ⟨[(23,.bool)],[],[],false⟩)] }
theorem ZeK(aA:Int)(aM:Option Addr)(aK aN:Nat)(aJ:Option Addr)(aI aO:Nat)(p1 p2:Int)(m:Mem)(R:RT)(h:
 lE (i64.wrap p1) λyL=>lV [int u8 aA,slice aM aK aN,slice aJ aI aO] λxL=>fzM m xL λb m'=>lE [some (Box.mk b xL 25 3 true true)] λcv=>m.free b->(∀(b' o:Nat)(u:Value),m' b' o=some u
 -> m b' o=some u\/b'=b)->Mem.k m b=none->kB pG 6 [] m' λcw m'=>br (!cw) (rtM m m' R (bool false)) (∃R_1,True/\CX pG 7 (.mk [agg (.mk xL)]) m' [] R_1/\Za7 (.agg [.int i64,.slice,.slice]) R_1/\∀n a an c bf ao
 cx ap,lV [int i64 n,slice a an c,slice bf ao cx] λxL=>lX (agg (.mk xL)) λa1=>lE (Int.tmod (i64.wrap p2) (↑ao:Int)) λbg=>lE (Int.tmod yL (↑an:Int)) λyL=>m'.le ap->R_1 a1 ap []->∀cy,lE (some (Box.mk cy
 xL 30 3 false true)::cv) λxL=>(↑an:Int)≠0/\atA a λcz o=>Zag yL an/\∃(v:Value),ap cz (o+Int.toNat yL*4+0)=some v/\∃R_2,True/\CX pG 13 (.mk [a1]) ap [] R_2/\Za7 (.agg [.int i64,.slice,
 .slice]) R_2/\∀n a a2 c da db dc m',lX (int i64 n) λa3=>lV [slice da db dc] λa4=>ap.le m'->R_2 (agg (.mk (a3::slice a a2 c::a4))) m' []->∀dd,br (!(↑a2:Int) == (↑an:Int)) (rtM m m' R (bool false)) (∃(ac:
 Nat),∃(cs:List Value),lM (Mem.off m' λk=>k=ac) λmL=>cs≠[]/\m'.reads ac 0 cs/\m.free ac/\(b≠ac/\True)/\∀(T:TypeId)(cap:Nat),∃R_3,True/\CX pG 14 (.mk [slice a a2 c,int i64 yL,int i64 (i64.wrap
 (yL+1))]) mL [Box.mk ac cs T cap false false] R_3/\Za7 .slice R_3/\∀a n c m',lX (slice a n c) λyL=>lE (some (Box.mk dd (a3::yL::a4) 30 3 false true)::xL) λxL=>mL.le m'->∀(cs:List Value),lE (some (Box.mk
 ac cs T cap true false)::xL) λxL=>R_3 yL m' [cs]->∀a5,m'.le a5->a5.reads ac 0 cs->kS pG 12 [agg (.mk (a3::yL::a4))] a5 λa n c m'=>∃I,inI I [slice none 0 0,int i64 0] [] [slice none 0 0] m'/\∀a6 (a7:Nat)
 c aq de df dg (m':Mem) (bh:Nat),lX (slice de df dg) λyL=>lE (a7+1) λag=>lX (slice a6 a7 c) λah=>lE [some (Tok.mk yL 5)] λaa=>True->I [ah,int i64 aq] [] [yL] m' bh->br (decide (aq < (↑n:Int))) (atA a
 λb o=>Zag aq n/\∃v ai ab aj ak ad:Value,lV [v,ai,ab,aj,ak] λau=>m'.reads b (o+Int.toNat aq*6) [v,ai,ab,aj,ak,ad]/\∀(b:Nat),chk (v.oneCell'&&(ai.oneCell'&&(ab.oneCell'&&(aj.oneCell' &&
 (ak.oneCell'&&(ad.oneCell'&&true)))))) (chk (ZaR i64 ad&&decide (i64=i64)) (br (!RowKit.intOf ad == 308) (rtM m m' R (bool false)) (∀b,lM (m'.add b au) λmL=>m'.free b->(Tok.mk yL 5=Tok.mk ah 5\/ah=slice none
 0 0\/c < ag)/\∃(xs:List Value),∃(ys:List Value),xs.length=a7*5/\ys.length=1*5/\rowRd mL a6 xs/\rowRd mL (some (Addr.mk b 0 none)) ys/\(∀(u:Value),u∈ys->u.oneCell'=true)/\ag*40<=140737488355328/\
 ag<=9223372036854775807/\∀(a':Option Addr)(c':Nat) m',mL.le m'->rowRd m' a' (List.append xs ys)->TokFact mL a6 a' ag c'->Zae xL/\nxI bh I [slice a' ag c',int i64 (i64.wrap (aq+1))] [] [slice a' ag c'] m'))))
 ((↑ao:Int)≠0/\∃I,inI I [int i64 0] [] [] m'/\∀n (m':Mem) (bi:Nat),lX (int i64 n) λyL=>True->I [yL] [] [] m' bi->br (decide (n < (↑ao:Int))) (atA bf λb o=>Zag n ao/\∃ai ab:Value,lV [ai,ab] fun
 au=>m'.reads b (o+Int.toNat n*2) au/\∀b,lE (some (Box.mk b au 34 2 false true)::xL) λbj=>chk (ai.oneCell'&&(ab.oneCell'&&true)) (chk (Za8 ab) (∃a8,inI a8 [int i64 0] [] [] m'/\∀ar (m':Mem) (bk:Nat),lX
 (int i64 ar) λbl=>True->a8 [bl] [] [] m' bk->br (decide (ar < (↑(slN ab):Int))) (chk (Za8 ab) (atA (slA ab) λb o=>Zag ar (slN ab)/\∃aj ak ad bm bn bo bp bq bs bt bu bv bw ae bx bz:Value,lV [aj,ak,ad,bm,
 bn,bo,bp,bq,bs,bt,bu,bv,bw,ae,bx,bz] λxL=>m'.reads b (o+Int.toNat ar*16) xL/\∀b,lE (some (Box.mk b xL 45 16 false true)::bj) λxL=>chk (aj.oneCell'&&(ak.oneCell'&&(ad.oneCell'&&(bm.oneCell' &&
 (bn.oneCell'&&(bo.oneCell'&&(bp.oneCell'&&(bq.oneCell'&&(bs.oneCell'&&(bt.oneCell'&&(bu.oneCell'&&(bv.oneCell'&&(bw.oneCell'&&(ae.oneCell'&&(bx.oneCell'&&(bz.oneCell'&&true)))))))))))))))) (chk (Za8 ae) (∃
 I,inI I [int i64 0] [] [] m'/\∀n (m':Mem) (ca:Nat),lV [int i64 (-1),yL,bl,int i64 n,int i64 (-1)] λa9=>True->I [int i64 n] [] [] m' ca->br (decide (n < (↑(slN ae):Int))) (chk (Za8 ae) (atA (slA ae) λb o=>
 Zag n (slN ae)/\∃av cb af cc cd ce cf cg:Value,lV [av,cb,af,cc,cd,ce,cf,cg] λaw=>m'.reads b (o+Int.toNat n*8) aw/\∀b,lE (some (Box.mk b aw 57 8 false true)::xL) λdh=>chk (av.oneCell' &&
 (cb.oneCell'&&(af.oneCell'&&(cc.oneCell'&&(cd.oneCell'&&(ce.oneCell'&&(cf.oneCell'&&(cg.oneCell'&&true)))))))) (∀b,lM (m'.add b aw) λmL=>lV [int u8 0,bool false,bool false,int u8 0,int u64 0,int u64 0,
 int u64 0,int u64 0,int i64 0,int i64 0,slice none 0 0,string bE0,int i64 0,slice (some (Addr.mk b 0 none)) 1 1,string bE0,int i64 0] λch=>lV [agg (.mk ch)] λba=>lE (some (Box.mk b aw 57 8 true true)::dh) fun
 di=>m'.free b->∀b ax,∃(J:JT),lE (some (Box.mk b ch 45 16 false true)::di) λci=>lE (some (Box.mk ax a9 64 5 false true)::ci) λay=>(∃(b:Bool),lV [bool b] λxL=>chk (ZaR u8 av&&decide (u8=u8)) (br
 (RowKit.intOf av == 3) (kS pG 16 ba mL λa n c m'=>kB pG 15 [slice a n c,v] m' λb m'=>br b (Zae ay/\aa=aa/\[bool true]=xL) (kS pG 17 ba m' λa n c m'=>kB pG 15 [slice a n c,v] m' λb m'=>Zae ay/\aa
 = aa/\[bool b]=xL)) (kS pG 17 ba mL λa n c m'=>kB pG 15 [slice a n c,v] m' λb m'=>Zae ay/\aa=aa/\[bool b]=xL))/\Zae ay/\aa=aa/\J xL [] [] mL)/\∀(b:Bool)(m':Mem),True->J [bool b] [] [] m'->
 kB pG 18 [ah,agg (.mk a9)] m' λdj m'=>br (!dj == b) (rtM m m' R (bool false)) (chk (Za8 af) (∃bb,inI bb [int i64 0] [a9] [] m'/\∀al (cs:List Value) (m':Mem) (cj:Nat),lV (ZaB cs 4 [int i64 al]) λbc=>True->
 bb [int i64 al] [cs] [] m' cj->br (decide (al < (↑(slN af):Int))) (chk (Za8 af) (atA (slA af) λb o=>Zag al (slN af)/\∃ck cl cm cn co cp cq cr:Value,lV [ck,cl,cm,cn,co,cp,cq,cr] λxL=>m'.reads b (o +
 Int.toNat al*8) xL/\∀(b:Nat),chk (ck.oneCell'&&(cl.oneCell'&&(cm.oneCell'&&(cn.oneCell'&&(co.oneCell'&&(cp.oneCell'&&(cq.oneCell'&&(cr.oneCell'&&true)))))))) (chk (Nat.ble 5 (cs.length)) (∃(f:Fx),∃R_4,
 R_4=f 2 [ah,agg (.mk bc)] m'/\CX pG 18 (.mk [ah,agg (.mk bc)]) m' [] R_4/\Za7 .bool R_4/\∀(b:Bool) az,m'.le az->R_4 (bool b) az []->∀bd,lM (m'.add bd xL) λmL=>lV [int u8 1,string bE0,slice (some (Addr.mk bd
 0 none)) 1 1,int u8 0,Value.float FloatKind.f64 0,string bE0,int i64 0,slice none 0 0] λxL=>m'.free bd->∀(a0:Nat),lV [agg (.mk [int u8 0,bool false,bool false,int u8 0,int u64 0,int u64 0,int u64 0,int u64 0,
 int i64 0,int i64 0,slice none 0 0,string bE0,int i64 0,slice (some (Addr.mk a0 0 none)) 1 1,string bE0,int i64 0])] λct=>mL.free a0->∀V,m'.le V->az.le V->Mem.le (mL.add a0 xL) V->∃R_5,R_5=f 8 ct V/\CX pG 16
 (.mk ct) V [] R_5/\Za7 .slice R_5/\∀a n c am,lX (slice a n c) λyL=>V.le am->R_5 yL am []->∃R_6,R_6=f 10 [yL,v] am/\CX pG 15 (.mk [yL,v]) am [] R_6/\Za7 .bool R_6/\∀(cu:Bool) be,am.le be->R_6 (bool cu) be
 []->∀M,m'.le M->az.le M->mL.le M->Mem.le (mL.add a0 xL) M->am.le M->be.le M->br (!b == cu) (rtM m M R (bool false)) (Zae (some (Box.mk ax [] 64 5 false true)::ci)/\aa=aa/\nxI cj bb [int i64 (i64.wrap (al+1))]
 [bc] [] M))))) (Zae xL/\aa=aa/\nxI ca I [int i64 (i64.wrap (n+1))] [] [] m')))))) (Zae bj/\aa=aa/\nxI bk a8 [int i64 (i64.wrap (ar+1))] [] [] m'))))) (Zae xL/\aa=aa/\nxI bi I [int i64 (i64.wrap (n+1))]
 [] [] m')))) (∃(b:Bool),br (bg == 0) (Zae xL/\aa=aa/\[bool true]=[bool b]) (kB pG 19 [a1,int i64 bg] m' λax m'=>Zae xL/\aa=aa/\[bool ax]=[bool b])/\rtM m m' R (bool b)))))):CX Tryz.prog 4 #[.agg #[.int .u8 aA,.slice aM aK aN,.slice aJ aI aO],.int .u8 p1,.int .u8 p2] m [] R:=
 Zad (E:=Ze8) Zam mix Tryz.func4 (by kernel_rfl) (Eq.mp (by kernel_rfl) h)
end Go.Proofs.YtdopppmkbkkmiaaGreatDoor
namespace Go.Proofs.YtdopppmkbkkmiaaGreatDoor
open Go Go.Eng Go.Rx Go.Proofs Go.RowKit
set_option maxRecDepth 100000
theorem ZAd(p:Pl):p.cs.length=5:=rfl
theorem ZAe(p:Pl):∀u∈p.cs,u.oneCell'=true:=by
 intro u hu
 simp only[Pl.cs,List.mem_cons,List.not_mem_nil,or_false]at hu
 rcases hu with rfl|rfl|rfl|rfl|rfl <;> rfl
theorem ZAf{m3 m4 M:Mem}{s':Sc}{bS bV:Nat}{μ:Nat->Mem}(dX:RepC (nw m3 m4) s')(iG:SepC m3 m4 s' bS μ)(rY:s'.va=some ⟨bV,0,none⟩)(cY:s'.vars≠[])(hM:(m4.off λq=>q=bV).le M){L:List Va}(hL:L.length<=s'.vars.length)(yG:∀v∈L,RepV v)
  (aD:rowRd M (some ⟨bV,0,none⟩) (L.map Va.cs).flatten):RepC M ⟨s'.n,some ⟨bV,0,none⟩,s'.vc,L,s'.sa,s'.sc,s'.states⟩:=by
 obtain⟨μv,h1,h2,h3,h4⟩:=iG.va
 have hk:¬μv.free bV:=λhf=>by
  rcases h1 with h|⟨b,o,ha,h⟩
  ·have:=congrArg List.length h
   rw[Zbe Va.len]at this
   have hp:=List.length_pos_iff.2 cY
   simp at this;omega
  ·rw[rY]at ha;cases ha
   have aG:0 < (s'.vars.map Va.cs).flatten.length:=by
    have hp:=List.length_pos_iff.2 cY
    rw[Zbe Va.len];omega
   have:=h 0 _ (zA3 aG)
   rw[hf]at this;cases this
 have yH:bS≠bV:=λe=>hk (e ▸ h3)
 have off:∀{ν:Mem},ν.le (nw m3 m4)->ν.free bV->ν.le M:=λh1 h2=>mLt (Zuo (Y:=λq=>q=bV) (mLt h1 (Zpy _ _)) λb e=>⟨by rw[show b=bV from e];exact h2,Zkz h1 rfl⟩) hM
 have wj:=iG.sa
 refine⟨dX.n,Nat.le_trans hL dX.vlen,aD,yG,dX.len,?_,λx hx=>?_,Nat.le_trans hL dX.vcap,dX.scap⟩
 ·rcases dX.row with h|⟨b,o,ha,h⟩
  ·exact .inl h
  ·refine .inr ⟨b,o,ha,λj v hj=>hM _ _ _ ?_⟩
   rw[wj]at ha;cases ha
   rw[Mem.off_at (Y:=λq=>q=bV) yH];exact(Zpy m3 m4) _ _ _ (h j v hj)
 ·obtain⟨j,hj⟩:=List.getElem?_of_mem hx
  have vW:=(zA0 hj).1
  obtain⟨g1,_,g3,_⟩:=iG.all j x hj
  exact g1.mono (off g3 ((h4 j vW bV).resolve_left hk))
theorem Ztq{s:Sc}{n:Int}{a a1:Option Addr}{p c p1 c1:Nat}(h:Value.agg #[.int .i64 n,.slice a p c,.slice a1 p1 c1]=s.v):n=s.n/\a=s.va/\p=s.vars.length/\c=s.vc/\a1=s.sa/\p1=s.states.length/\c1=s.sc:=by
 simpa[Sc.v,and_assoc]using h
theorem ZqO{m:Mem}{b:Nat}{a:Ac}(h:rowRd m (some ⟨b,0,none⟩) ([a].map Ac.cs).flatten)(ha:RepA m a):RepR m (Ztu b a):=
 ⟨by show(0:Int)<=0/\(0:Int) < 256;decide,ZmW m,by show(ByteArray.mk #[]).size<=_;decide,by show I64 0;unfold I64;omega,by show 1<=few;decide,h,λp hp=>by
  obtain rfl:p=a:=by simpa[Ztu]using hp
  exact ha,by show(ByteArray.mk #[]).size<=_;decide,by show I64 0;unfold I64;omega⟩
theorem Zvq{m:Mem}{b:Nat}{p:Pt}(h:rowRd m (some ⟨b,0,none⟩) ([p].map Pt.cs).flatten)(hp:RepP m p):RepA m ⟨1,⟨#[]⟩,some ⟨b,0,none⟩,1,[p],E0⟩:=
 ⟨by show(0:Int)<=1/\(1:Int) < 256;decide,by show(ByteArray.mk #[]).size<=_;decide,by show 1<=few;decide,h,λq hq=>by
  obtain rfl:q=p:=by simpa using hq
  exact hp,Zpm m⟩
def lP(p:Pt):List ByteArray:=ZfI false (ZBl 0 0 p)
theorem Zlv(w:Bool)(b:Nat){a:Ac}:(ZfI w (Ztu b a)).length<=100000:=by
 unfold ZfI
 split
 ·rename_i h
  have h1:=Zwf w h 0 (a:=a) rfl
  have h2:=ZpL w [] a
  show(([a]:List Ac).foldl (ZeM w) []).length<=100000
  have h3:=Zuj a
  simp only[List.foldl_cons,List.foldl_nil]
  have h4:(Ztu b a).acts.take 0=[]:=rfl
  rw[h4]at h1
  simp only[List.foldl_nil,List.length_nil]at h1 h2
  omega
 ·simp
theorem Ziy{α:Type}{cs:α->List Value}{m:Mem}{b:Nat}{t:α}(h:m.reads b 0 (cs t)):rowRd m (some ⟨b,0,none⟩) ([t].map cs).flatten:=.inr ⟨b,0,rfl,by simpa using h⟩
def plT(P:List (Pl×Int))(j:Nat):List Pl:=(P.take j).map (·.1)
theorem Zyi{P:List (Pl×Int)}{j:Nat}{z:Pl×Int}(h:P[j]?=some z):plT P (j+1)=plT P j++[z.1]:=by
 unfold plT
 rw[List.take_add_one,h,List.map_append];rfl
theorem ZAg{P:List (Pl×Int)}{j:Nat}(h:j<=P.length):(plT P j).length=j:=by
 unfold plT;rw[List.length_map,List.length_take];omega
theorem ZAh(P:List (Pl×Int)):plT P P.length=P.map (·.1):=by unfold plT;rw[List.take_length]
theorem Zyj{c:Int}{a:Ac}(h:MkA c a){n:Nat}{p:Pt}(hp:a.parts[n]?=some p):MkT c a.parts:=by
 cases h with
 | send _ _ l hl=>exact hl
 | set _ _ _ _ l hl=>exact hl
 | let_ _ _ e _=>simp at hp
theorem ZBF{c:Int}{a:Ac}(h:MkA c a):a.parts.length<=5:=by
 cases h with
 | send _ _ l hl=>exact hl.len
 | set _ _ _ _ l hl=>exact hl.len
 | let_ _ _ e _=>simp
theorem Zgu{x:Bool}:∀(v:Value)(m':Mem) (css:List (List Value)),Ret (.bool x) v m' css->Shape.fits .bool v=true:=λv _ _ h=>by rw[show v=.bool x from h];rfl
set_option maxHeartbeats 6000000 in
theorem Zlw(x:SScr)(p1 p2:Nat)(m:Mem)(hx:RepSC m x)(te:p1 < 256)(ip:p2 < 256):CX Tryz.prog 4 #[.agg x.cs.toArray,.int .u8 (p1:Int),.int .u8 (p2:Int)] m [] (Ret (.bool true)):=by
 apply ZeK
 intro b1 m1 aB qU pD yI jf
 refine Zah (Zyd m1) λm2 aH=>Zfj rfl ?_
 have eZ:=mLt aB aH
 refine⟨_,trivial,ZzS x m2 (hx.mono eZ),ZzQ,?_⟩
 rintro n a n1 c a1 n2 c1 m3 aS ⟨s,hv,hr,hk⟩ b4
 obtain⟨rfl,rfl,rfl,rfl,rfl,rfl,rfl⟩:=Ztq hv
 have dI:=mLt eZ aS
 have fO:=hk.len
 have fZ:=hk.vlen
 have hl:=hk.light
 obtain⟨i,hi⟩:∃i,i=p1 % s.vars.length:=⟨_,rfl⟩
 obtain⟨k,dS⟩:∃k,k=p2 % s.states.length:=⟨_,rfl⟩
 have rV:i < s.vars.length:=by rw[hi];exact Nat.mod_lt _ (by omega)
 have l5:k < s.states.length:=by rw[dS];exact Nat.mod_lt _ (by omega)
 have iQ:Int.tmod (IntKind.i64.wrap (p1:Int)) (s.vars.length:Int)=(i:Int):=by rw[Zal (by omega) (by omega),hi];rfl
 have iB:Int.tmod (IntKind.i64.wrap (p2:Int)) (s.states.length:Int)=(k:Int):=by rw[Zal (by omega) (by omega),dS];rfl
 rw[iQ,iB]
 obtain⟨v,hv⟩:=ZcC rV
 obtain⟨b5,o5,mh,uA⟩:=Zao Va.len hr.vrow hv (by omega)
 refine⟨by omega,b5,o5,mh,⟨by omega,by omega⟩,_,uA 0 _ rfl,Zaj (Zws s m3 hr hl) Ztk ?_⟩
 rintro n a n1 c a1 n2 c1 m4 bM ⟨s',hv',oW,dX,iG⟩ b6
 obtain⟨rfl,rfl,rfl,rfl,rfl,rfl,rfl⟩:=Ztq hv'
 obtain⟨uo,jO⟩:=Zv8 oW
 have pb:=Zxa oW
 have qY:s'.vars.length=6:=by rw[jO];exact fZ
 obtain⟨bS,μ,iG⟩:=iG.resolve_left λe=>by rw[e]at pb;simp at pb;omega
 obtain⟨bV,rY,uB,uC,yJ⟩:∃bV,s'.va=some ⟨bV,0,none⟩/\m4.reads bV 0 (s'.vars.map Va.cs).flatten/\m3.free bV/\m3.k bV=none:=by
  rcases dX.vrow with h|⟨b,o,ha,h⟩
  ·have:=congrArg List.length h
   rw[Zbe Va.len]at this;simp at this;omega
  ·obtain⟨rfl,ii⟩:=iG.v0 b o ha
   refine⟨b,ha,h.mono (Zpy _ _),Classical.byContradiction λhn=>?_,ii⟩
   have aG:0 < (s'.vars.map Va.cs).flatten.length:=by rw[Zbe Va.len];omega
   have:=h 0 _ (zA3 aG)
   rw[Zrz hn]at this;cases this
 have ld:IntKind.i64.wrap ((i:Int)+1)=((i+1:Nat):Int):=by rw[Zal (by omega) (by omega)];rfl
 rw[rY,ld]
 have cY:(s'.vars.map Va.cs).flatten≠[]:=λe=>by
  have:=congrArg List.length e
  rw[Zbe Va.len]at this;simp at this;omega
 have yK:b1≠bV:=λe=>by
  subst e
  have:=(mLt aH aS) _ _ _ (qU 0 _ rfl)
  rw[uC]at this;cases this
 refine Zfj (by rw[jO];simp) ⟨bV,_,cY,uB,Zdj dI uC,⟨yK,trivial⟩,λT cap=>?_⟩
 refine⟨_,trivial,ZxW s'.vars bV s'.vc i T cap _ (by omega) dX.vcap (by omega),(λv _ _ h=>by rw[h.1];rfl),?_⟩
 rintro a n c m5 cV cs ⟨gS,cA⟩ m6 iI uD
 have qZ:(s.vars.eraseIdx i).length=s'.vars.length - 1:=by rw[List.length_eraseIdx,if_pos rV,jO]
 rw[<-qZ]at gS
 simp only[Value.slice.injEq]at gS
 obtain⟨rfl,rfl,rfl⟩:=gS
 obtain rfl:cs=((s'.vars.eraseIdx i).map Va.cs).flatten++zVa.cells.toList:=by simpa using cA
 obtain⟨t,ht⟩:∃t:Sc,t=⟨s'.n,some ⟨bV,0,none⟩,s'.vc,s.vars.eraseIdx i,s'.sa,s'.sc,s'.states⟩:=⟨_,rfl⟩
 have iu:(m4.off λq=>q=bV).le m6:=mLt cV iI
 have yM:m3.le m6:=mLt (Zuo (Y:=λq=>q=bV) bM λb e=>⟨by rw[show b=bV from e];exact uC,by rw[show b=bV from e];exact yJ⟩) iu
 have gH:RepC m6 t:=by
  rw[ht]
  refine ZAf dX iG rY (λe=>by rw[e]at qY;cases qY) iu (by rw[qZ];omega) (λw hw=>hr.vall w (List.mem_of_mem_eraseIdx hw)) (.inr ⟨bV,0,rfl,λj w hj=>uD j w ?_⟩)
  rw[jO,zA5 (zA0 hj).1];exact hj
 have pF:t.er=(ZgV s i).er:=ZsO (by rw[ht];exact uo) (by rw[ht];rfl) (by rw[ht];exact(Zhu oW:s'.states.map Sta.er=s.states.map Sta.er))
 obtain⟨P,hP⟩:∃P,P=(ZgV s i).problems:=⟨_,rfl⟩
 have wm:=ZjU t m6 gH
 rw[ZjL pF,<-hP,ht]at wm
 have yN:∀z∈P,z.2=308:=λz hz=>by
  rw[hP]at hz
  obtain⟨g1,g2,g3⟩:=Zxo hz
  rcases ZBj hk hv z.1 g1 with h|h
  ·rw[h]at g2;exact absurd g2 g3
  ·rw[g2,h]
 have hW:∀(p:Pl)(b:Bool),p∈(ZgV s i).places->atS (ZgV s i) p=(if b then(308:Int)else 0)->ZAS p (plT P P.length)=b:=λp b hp he=>by
  rw[ZAh,Bool.eq_iff_iff,Zom,hP,ZzA hp,he]
  cases b <;> simp
 have zJ:P.length<=20001:=by rw[hP];exact Zh7 _
 refine Zaj wm ZqF ?_
 rintro aP nP cP m7 ju ⟨aP',cP',wn,lN⟩
 simp only[Value.slice.injEq]at wn
 obtain⟨rfl,rfl,rfl⟩:=wn
 refine⟨λxs _ tvs mm q=>∃(j:Nat)(a:Option Addr)(c:Nat),j<=P.length/\xs=[.slice a (plT P j).length c,.int .i64 j]/\tvs=[.slice a (plT P j).length c]/\rowRd mm a ((plT P j).map Pl.cs).flatten/\m7.le mm/\q=P.length - j,⟨_,0,none,0,by omega,rfl,rfl,.inl rfl,Mem.le_refl _,rfl⟩,?_⟩
 rintro a7 n5 c7 n6 a8 n7 c8 mm q _ ⟨j,aw,cw,hj,cT,cS,aD,uE,rfl⟩
 simp only[List.cons.injEq,Value.slice.injEq,Value.int.injEq,true_and,and_true]at cT cS
 obtain⟨⟨rfl,rfl,rfl⟩,rfl⟩:=cT
 obtain⟨rfl,rfl,rfl⟩:=cS
 have mP:IntKind.i64.wrap ((j:Int)+1)=((j+1:Nat):Int):=by rw[Zal (by omega) (by omega)];rfl
 have zK:=ZAg hj
 refine Zav (λaG=>?_) (λbK=>?_)
 ·have aG:(j:Int) < (P.length:Nat):=aG
  obtain⟨z,hz⟩:=ZcC (show j < P.length by omega)
  obtain⟨b8,o8,ux,pf⟩:=Zao (cs:=Zlq) (n:=6) (λ_=>rfl) (lN.mono uE) hz (by decide)
  have yO:=yN z (zA2 hz)
  refine⟨b8,o8,ux,⟨by omega,aG⟩,_,_,_,_,_,_,pf,λb9=>Zaa rfl (Zaa rfl (Zfj (by show(!(z.2 == 308))=false;rw[yO];rfl) ?_))⟩
  intro b10 j5
  have cR:=Zyi hz
  refine Zdo (cs:=Pl.cs) ZAd ZAe j5 z.1 aD 40 (by omega) (by omega) (.inl rfl) λa11 c11 m11 j7 pg _=>⟨rfl,P.length - (j+1),by omega,j+1,a11,c11,by omega,by rw[mP,cR,zA1];rfl,by rw[cR,zA1];rfl,by rw[cR];exact pg,mLt uE (mLt (Mem.le_add j5 _) j7),rfl⟩
 have bK:¬(j:Int) < (P.length:Nat):=bK
 obtain rfl:j=P.length:=by omega
 have wo:m3.le mm:=mLt yM (mLt ju uE)
 have pz:m.le mm:=mLt dI wo
 have mK:=hr.mono wo
 have contP:∀(p:Pl)(b:Bool)(M:Mem),mm.le M->p∈(ZgV s i).places->atS (ZgV s i) p=(if b then(308:Int)else 0)->CX Tryz.prog 18 #[.slice a8 (plT P P.length).length c8,.agg p.cs.toArray] M [] (Ret (.bool b)):=λp b M hM hp he=>by
  have:=Zvm (plT P P.length) a8 c8 p M (by omega) (aD.mono hM)
  rwa [hW p b hp he]at this
 have td:=ZpO hk hv
 refine⟨by omega,λxs _ _ m' q=>∃i1:Nat,i1<=s.states.length/\xs=[.int .i64 i1]/\mm.le m'/\q=s.states.length - i1,⟨_,0,by omega,rfl,Mem.le_refl _,rfl⟩,?_⟩
 rintro ni m9 q _ ⟨i1,jN,cT,ky,rfl⟩
 obtain rfl:ni=i1:=by simpa using cT
 have uF:IntKind.i64.wrap ((i1:Int)+1)=((i1+1:Nat):Int):=by rw[Zal (by omega) (by omega)];rfl
 have r9:=mK.mono ky
 refine Zav (λaG=>?_) (λbK=>?_)
 ·have aG:(i1:Int) < (s.states.length:Nat):=aG
  obtain⟨x1,dP⟩:=ZcC (show i1 < s.states.length by omega)
  have hS:=hk.all i1 x1 dP
  have vL:=hS.len
  obtain⟨b10,o10,oX,lO⟩:=Zao Sta.len r9.row dP (by omega)
  refine⟨b10,o10,oX,⟨by omega,aG⟩,_,_,lO,λb11=>Zaa rfl (Zaa rfl ⟨λxs _ _ m' q=>∃i2:Nat,i2<=x1.rules.length/\xs=[.int .i64 i2]/\mm.le m'/\q=x1.rules.length - i2,⟨_,0,by omega,rfl,ky,rfl⟩,?_⟩)⟩
  rintro ni m10 q _ ⟨i2,jd,cT,kR,rfl⟩
  obtain rfl:ni=i2:=by simpa using cT
  have uG:IntKind.i64.wrap ((i2:Int)+1)=((i2+1:Nat):Int):=by rw[Zal (by omega) (by omega)];rfl
  have r10:=(mK.all x1 (zA2 dP)).mono kR
  refine Zav (λdU=>?_) (λeI=>?_)
  ·have dU:(i2:Int) < (x1.rules.length:Nat):=dU
   obtain⟨r,eD⟩:=ZcC (show i2 < x1.rules.length by omega)
   have hR:=hS.all r (zA2 eD)
   have zL:=hR.len
   obtain⟨b12,o12,oY,lQ⟩:=Zao Ru.len r10.row eD (by omega)
   refine Zaa rfl ⟨b12,o12,oY,⟨by omega,dU⟩,_,_,_,_,_,_,_,_,_,_,_,_,_,_,_,_,lQ,λb13=>Zaa rfl (Zaa rfl ⟨λxs _ _ m' q=>∃i3:Nat,i3<=r.acts.length/\xs=[.int .i64 i3]/\mm.le m'/\q=r.acts.length - i3,⟨_,0,by omega,rfl,kR,rfl⟩,?_⟩)⟩
   rintro ni m11 q _ ⟨i3,lZ,cT,j7,rfl⟩
   obtain rfl:ni=i3:=by simpa using cT
   have uH:IntKind.i64.wrap ((i3:Int)+1)=((i3+1:Nat):Int):=by rw[Zal (by omega) (by omega)];rfl
   have r11:=((mK.all x1 (zA2 dP)).all r (zA2 eD)).mono j7
   refine Zav (λgP=>?_) (λjA=>?_)
   ·have gP:(i3:Int) < (r.acts.length:Nat):=gP
    obtain⟨ac,pH⟩:=ZcC (show i3 < r.acts.length by omega)
    have ph:=zA2 pH
    have hA:=hR.all ac ph
    have zM:=ZBF hA
    obtain⟨b14,o14,oZ,lR⟩:=Zao Ac.len r11.row pH (by omega)
    refine Zaa rfl ⟨b14,o14,oZ,⟨by omega,gP⟩,_,_,_,_,_,_,_,_,lR,λb15=>Zaa rfl ?_⟩
    intro b16 uI b17 b18
    have nX:m11.le (m11.add b16 ac.cs):=Mem.le_add uI _
    have uJ:RepR (m11.add b16 ac.cs) (Ztu b16 ac):=ZqO (Ziy (Zaq _ _ _)) ((r11.all ac ph).mono nX)
    have hu:=Zxp hA b16 v.s
    refine⟨λxs _ _ m'=>xs=[.bool (Zwg v.s ac)]/\(m11.add b16 ac.cs).le m',⟨Zwg v.s ac,?_,rfl,rfl,rfl,Mem.le_refl _⟩,?_⟩
    ·refine Zaa rfl (Zab (λh3=>?_) (λh3=>?_))
     ·have h3:(ac.k == 3)=true:=h3
      rw[h3,Bool.true_and]at hu
      refine Zaj (ZqN (Ztu b16 ac) _ uJ) ZdH ?_
      rintro a n c m12 jW ⟨a',c',hv',iv,cJ⟩
      simp only[Value.slice.injEq]at hv'
      obtain⟨rfl,rfl,rfl⟩:=hv'
      refine Zah (Zb9 _ a c v.s m12 (Nat.le_trans (Zlv false b16) (by decide)) iv) λm13 jX=>Zab (λh=>⟨rfl,rfl,?_⟩) (λh=>?_)
      ·have h:ZiL (ZfI false (Ztu b16 ac)) v.s=true:=h
       rw[hu,h];rfl
      have h:ZiL (ZfI false (Ztu b16 ac)) v.s=false:=h
      refine Zaj (Zmw (Ztu b16 ac) _ (uJ.mono (mLt jW jX))) ZdH ?_
      rintro a n c m14 iH ⟨a',c',hv',iv,cJ⟩
      simp only[Value.slice.injEq]at hv'
      obtain⟨rfl,rfl,rfl⟩:=hv'
      refine Zah (Zb9 _ a c v.s m14 (Nat.le_trans (Zlv true b16) (by decide)) iv) λm15 q6=>⟨rfl,rfl,?_⟩
      rw[hu,h];rfl
     ·have h3:(ac.k == 3)=false:=h3
      rw[h3,Bool.false_and]at hu
      refine Zaj (Zmw (Ztu b16 ac) _ uJ) ZdH ?_
      rintro a n c m14 iH ⟨a',c',hv',iv,cJ⟩
      simp only[Value.slice.injEq]at hv'
      obtain⟨rfl,rfl,rfl⟩:=hv'
      refine Zah (Zb9 _ a c v.s m14 (Nat.le_trans (Zlv true b16) (by decide)) iv) λm15 q6=>⟨rfl,rfl,?_⟩
      rw[hu];rfl
    rintro bU m12 _ ⟨hU,jW⟩
    obtain rfl:bU=Zwg v.s ac:=by simpa using hU
    have nY:mm.le m12:=mLt j7 (mLt nX jW)
    refine Zah (contP ⟨-1,i1,i2,i3,-1⟩ (Zwg v.s ac) m12 nY (Zzz td dP eD pH) (by rw[Zxj (ZgV s i) dP eD pH,Zwi hk hv hA])) λm13 jX=>Zfj (by simp) (Zaa rfl ?_)
    refine⟨λxs css _ m' q=>∃(i4:Nat)(z:Int),i4<=ac.parts.length/\xs=[.int .i64 i4]/\css=[Pl.cs ⟨-1,i1,i2,i3,z⟩]/\mm.le m'/\q=ac.parts.length - i4,⟨_,0,-1,by omega,rfl,rfl,mLt nY jX,rfl⟩,?_⟩
    rintro ni cs m14 q _ ⟨i4,z,vn,cT,cA,iH,rfl⟩
    obtain rfl:ni=i4:=by simpa using cT
    obtain rfl:cs=Pl.cs ⟨-1,i1,i2,i3,z⟩:=by simpa using cA
    have uK:IntKind.i64.wrap ((i4:Int)+1)=((i4+1:Nat):Int):=by rw[Zal (by omega) (by omega)];rfl
    have r14:=(((mK.all x1 (zA2 dP)).all r (zA2 eD)).all ac ph).mono iH
    refine Zav (λjB=>?_) (λj6=>?_)
    ·have jB:(i4:Int) < (ac.parts.length:Nat):=jB
     obtain⟨pt,q7⟩:=ZcC (show i4 < ac.parts.length by omega)
     have q8:=zA2 q7
     have hT:=Zyj hA q7
     have yP:=hT.all pt q8
     obtain⟨b20,o20,uL,q9⟩:=Zao Pt.len r14.row q7 (by omega)
     refine Zaa rfl ⟨b20,o20,uL,⟨by omega,jB⟩,_,_,_,_,_,_,_,_,q9,λb21=>Zaa rfl (Zaa rfl ?_)⟩
     refine⟨λn _ _=>if n=2 then Ret (.bool (ZvB v.s pt))else if n=8 then ZyD (lP pt)else Ret (.bool (ZvB v.s pt)),_,rfl,contP ⟨-1,i1,i2,i3,i4⟩ (ZvB v.s pt) m14 iH (ZBk td dP eD pH (by omega)) (by rw[Zxk (ZgV s i) dP eD pH q7,Zoe hk hv hT q7]),Zgu,?_⟩
     intro bP m15 q6 uM b22 uN b23 uO V yQ yR hV
     have uM:Value.bool bP=.bool (ZvB v.s pt):=uM
     obtain rfl:bP=ZvB v.s pt:=by simpa using uM
     have yS:m14.le (m14.add b22 pt.cs):=Mem.le_add uN _
     have tF:=Mem.le_add uO (Ac.cs ⟨1,⟨#[]⟩,some ⟨b22,0,none⟩,1,[pt],E0⟩)
     have yU:RepR V (ZBl b23 b22 pt):=(ZqO (Ziy (Zaq _ _ _)) ((Zvq (Ziy (Zaq _ _ _)) ((r14.all pt q8).mono yS)).mono tF)).mono hV
     refine⟨_,rfl,ZqN (ZBl b23 b22 pt) V yU,ZdH,?_⟩
     rintro a n c m16 yV ⟨a',c',hv',iv,cJ⟩
     simp only[Value.slice.injEq]at hv'
     obtain⟨rfl,rfl,rfl⟩:=hv'
     have qT:=Zb9 (lP pt) a c v.s m16 (Nat.le_trans (Zlv false 0) (by decide)) iv
     have yW:ZvB v.s pt=((lP pt).any λy=>eqS v.s y):=ZuH yP 0 0 v.s
     rw[<-yW]at qT
     refine⟨_,rfl,qT,Zgu,?_⟩
     intro bQ m17 yX uP M uQ yY _ _ _ _
     have uP:Value.bool bQ=.bool (ZvB v.s pt):=uP
     obtain rfl:bQ=ZvB v.s pt:=by simpa using uP
     exact Zfj (by simp) ⟨rfl,rfl,ac.parts.length - (i4+1),by omega,i4+1,i4,by omega,by rw[uK],rfl,mLt iH uQ,rfl⟩
    ·have j6:¬(i4:Int) < (ac.parts.length:Nat):=j6
     exact⟨rfl,rfl,r.acts.length - (i3+1),by omega,i3+1,by omega,by rw[uH],iH,rfl⟩
   ·exact⟨rfl,rfl,x1.rules.length - (i2+1),by omega,i2+1,by omega,by rw[uG],j7,rfl⟩
  ·exact⟨rfl,rfl,s.states.length - (i1+1),by omega,i1+1,by omega,by rw[uF],kR,rfl⟩
 ·refine⟨true,Zab (λ_=>⟨rfl,rfl,rfl⟩) (λh=>?_),Zac (mLt pz ky) rfl⟩
  have h:((k:Int) == 0)=false:=h
  obtain⟨xk,l7⟩:=ZcC l5
  exact Zah (ZAa s k m9 r9 hk l7 (Nat.pos_of_ne_zero λe=>by rw[e]at h;simp at h)) λm10 kR=>⟨rfl,rfl,rfl⟩
end Go.Proofs.YtdopppmkbkkmiaaGreatDoor