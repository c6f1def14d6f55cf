/- Part of the proof: conditions and contracts of functions of this program. No condition of its own. -/
import Derived.Test.YtgclajkldphoaaaGreatMr
import Derived.Test.YtgclajkldphoaaaGreatPVSC
import Derived.Test.YtgclajkldphoaaaGreatPC14W
import Derived.Test.YtgclajkldphoaaaGreatPEnv
import Derived.Test.YtgclajkldphoaaaGreatMc
import Derived.Test.YtgclajkldphoaaaGreatPC13J
set_option linter.unusedVariables false
set_option linter.unusedSimpArgs false
set_option linter.unusedSectionVars false
namespace Go.Proofs.YtgclajkldphoaaaGreat
open Go Go.Eng Go.Rx Go.Proofs Go.RowKit
set_option maxRecDepth 100000
theorem ZsB(m:Mem):CX Tryz.prog 17 #[] m [] (λv _ _=>v=.agg #[.int .i64 (-1),.int .i64 (-1)]):=by
 apply Znq
 unfold ZiB
 intro b
 exact⟨m,Mem.le_refl _,Mem.le_refl _,rfl⟩
def noP:Int×Int:=(-1,-1)
def kE(t:T):Nat:=if t.k=6 then 1 else 0
def ZBp(kb:Nat)(es:List (Value×Value))(k0:Nat)(t:T)(pa:Option Addr)(P:PL)(f0 f3:Value)(m:Mem):RTY:=λv m' css tvs=>∃(n:Nd)(pa':Option Addr)(pc':Nat),v=.pointer (some ⟨n.b,0,none⟩)/\n.t=t/\NRep (m'.off (Zp kb pa')) n/\n.num P.length/\n.idn k0/\
 css=[[f0,.int .i64 ((k0+t.nodes.length:Nat):Int),.slice pa' (P.length+t.ngr) pc',f3]]/\tvs=[.slice pa' (P.length+t.ngr) pc']/\PtAt m' pa' (P++List.replicate t.ngr noP)/\NewP m pa pa'/\m'.k kb=some es
def ZBg(fb kb:Nat)(es:List (Value×Value))(t:T):Prop:=∀(k0:Nat)(pa:Option Addr)(pc:Nat)(P:PL)(f0 f3:Value)(m:Mem),Rep (m.off (Zp kb pa)) t->m.k kb=some es->(∀b,pa=some ⟨b,0,none⟩->b≠kb)->PtAt m pa P->k0+t.nodes.length<=1000000->P.length+t.ngr<=1000000->
 CXY Tryz.prog 56 #[.pointer (some ⟨fb,0,none⟩),t.v] m (λb=>pa=some ⟨b,0,none⟩) [⟨fb,[f0,.int .i64 (k0:Nat),.slice pa P.length pc,f3],90,4,false,true⟩] [⟨.slice pa P.length pc,2⟩] (ZBp kb es k0 t pa P f0 f3 m)
theorem Zt5{m M m4:Mem}{pa a4:Option Addr}{P:PL}{n c:Nat}{x y:Int}(h:PtAt m pa P)(hm:m.le m4)(bG:rowRd m4 a4 ((P.flatMap λp=>[.int .i64 p.1,.int .i64 p.2])++[.int .i64 x,.int .i64 y]))(hf:TokFact M pa a4 n c):PtAt m4 a4 (P++[(x,y)]):=by
 rcases bG with bG|⟨b,o,ha,cP⟩
 ·simp at bG
 obtain⟨_,hf⟩:=hf
 rcases hf with hf|⟨b',o',ha',hf⟩
 ·rw[ha]at hf;cases hf
 rw[ha]at ha';cases ha'
 have ho:o=0:=by
  rcases hf with hf|⟨ho,_⟩
  ·have hf:pa=some ⟨b,o,none⟩:=hf.trans ha
   rcases h with⟨_,h⟩|⟨b2,h1,_⟩
   ·rw[h]at hf;cases hf
   ·rw[h1]at hf;cases hf;rfl
  ·exact ho
 subst ho
 have e:(P.flatMap λp=>[Value.int .i64 p.1,.int .i64 p.2])++[.int .i64 x,.int .i64 y]=(P++[(x,y)]).flatMap λp=>[Value.int .i64 p.1,.int .i64 p.2]:=by simp
 rw[e]at cP
 have at2:∀(P:PL)(q:Nat)(p:Int×Int),P[q]?=some p->(P.flatMap λp=>[Value.int .i64 p.1,.int .i64 p.2])[q*2]?=some (.int .i64 p.1)/\(P.flatMap λp=>[Value.int .i64 p.1,.int .i64 p.2])[q*2+1]?=some (.int .i64 p.2):=λP=>by
  induction P with
  | nil=>intro q p hq;simp at hq
  | cons p0 P ih=>
   intro q p hq
   cases q with
   | zero=>simp at hq;subst hq;exact⟨rfl,rfl⟩
   | succ q=>
    have:=ih q p (by simpa using hq)
    rw[show(q+1)*2=q*2+2 by omega]
    exact this
 refine .inr ⟨b,ha,λq p hq=>?_,by simp⟩
 obtain⟨h1,h2⟩:=at2 _ q p hq
 have:=cP _ _ h1
 have h3:=cP _ _ h2
 rw[Nat.zero_add]at this h3
 exact⟨this,h3⟩
theorem ZlB{m:Mem}{pa:Option Addr}{P:PL}(h:PtAt m pa P):rowRd m pa (P.flatMap λp=>[.int .i64 p.1,.int .i64 p.2]):=by
 rcases h with⟨h,_⟩|⟨b,h1,h2,h3⟩
 ·subst h;exact .inl rfl
 ·refine .inr ⟨b,0,h1,?_⟩
  have key:∀(P:PL)(o:Nat),(∀q p,P[q]?=some p->m b (o+q*2)=some (.int .i64 p.1)/\m b (o+(q*2+1))=some (.int .i64 p.2))->m.reads b o (P.flatMap λp=>[.int .i64 p.1,.int .i64 p.2]):=λP=>by
   induction P with
   | nil=>intro o _ j v hj;simp at hj
   | cons p0 P ih=>
    intro o hp j v hj
    match j,hj with
    | 0,hj=>cases hj;exact(hp 0 p0 rfl).1
    | 1,hj=>cases hj;exact(hp 0 p0 rfl).2
    | j+2,hj=>
     have:=ih (o+2) (λq p hq=>by
      have:=hp (q+1) p (by simpa using hq)
      rwa [show o+(q+1)*2=o+2+q*2 by omega,show o+((q+1)*2+1)=o+2+(q*2+1) by omega]at this) j v hj
     rwa [show o+(j+2)=o+2+j by omega]
  exact key P 0 λq p hq=>by rw[Nat.zero_add,Nat.zero_add];exact h2 q p hq
theorem Zwt{M m4:Mem}{pa a4:Option Addr}{n c:Nat}(hf:TokFact M pa a4 n c):NewP M pa a4:=λb hb=>by
 obtain⟨_,hf⟩:=hf
 rcases hf with hf|⟨b',o',ha',hf⟩
 ·rw[hb]at hf;cases hf
 rw[hb]at ha';cases ha'
 rcases hf with hf|⟨_,h1,h2⟩
 ·exact .inl hf
 ·exact .inr ⟨h1,h2⟩
theorem ZBv(fb kb:Nat)(es:List (Value×Value))(t:T)(ih:∀x∈t.subs,ZBg fb kb es x):ZBg fb kb es t:=by
 intro k0 pa pc P f0 f3 m c7 eE lI jB ra hP
 have bV:=(ZdB c7)
 have nJ:t.nodes.length=(Zal t.subs).length+1:=by rw[Zbh];rfl
 have o9:t.ngr=kE t+ZdD t.subs:=ZxG t
 unfold T.v
 apply ZdS
 unfold ZcK
 intro b m1 bH hb lC _ gC
 have rB:=jB.mono bH
 have iZ:=bH.k _ _ eE
 have fH:IntKind.i64.wrap ((k0:Int)+1)=((k0+1:Nat):Int):=wr1 (by omega)
 have gT:=ZlB rB
 have tJ:∀P:PL,(P.flatMap λp=>[Value.int .i64 p.1,.int .i64 p.2]).length=P.length*2:=λP=>by
  induction P with
  | nil=>rfl
  | cons p P ih=>simp only[List.flatMap_cons,List.length_append,List.length_cons,List.length_nil,ih];omega
 have rel0:∀{M:Mem} {pa1:Option Addr},m.le M->NewP m pa pa1->(m.off (Zp kb pa)).le (M.off (Zp kb pa1)):=λhM hN=>ZuT (mLt (Mem.off_le _ _) hM) hN
 refine⟨rfl,λnb=>⟨rfl,rfl,by omega,λxs css tvs M=>∃(pa1:Option Addr)(pc1:Nat),css=[[.int .u8 t.k,.int .u64 t.s0,.int .u64 t.s1,.int .u64 t.s2,.int .u64 t.s3,.int .i64 t.mn,.int .i64 t.mx,.slice t.a t.subs.length t.c,.int .i64 (k0:Nat),.int .i64 ((if t.k=6 then P.length else 0:Nat):Int),.slice none 0 0],[f0,.int .i64 ((k0+1:Nat):Int),.slice pa1 (P.length+kE t) pc1,f3]]/\tvs=[.slice pa1 (P.length+kE t) pc1]/\PtAt M pa1 (P++List.replicate (kE t) noP)/\NewP m pa pa1/\m.le M,?_,?_⟩⟩
 ·refine Zab (λh6=>⟨rfl,?_⟩) (λh6=>⟨rfl,rfl,pa,pc,?_,?_,?_,.same,bH⟩)
  ·have pA:t.k=6:=by simpa using h6
   have pB:kE t=1:=by unfold kE;rw[if_pos pA]
   refine⟨λ_ _ _=>λv _ _=>v=.agg #[.int .i64 (-1),.int .i64 (-1)],rfl,_,rfl,ZsB m1,λv m' css h=>by rw[h];rfl,?_⟩
   rintro n1 n2 m2 bL hv b2 eA
   obtain⟨rfl,rfl⟩:n1=-1/\n2=-1:=by simpa using hv
   have fD:m1.le (m2.add b2 [.int .i64 (-1),.int .i64 (-1)]):=mLt bL (Mem.le_add eA _)
   refine⟨.inl rfl,(P.flatMap λp=>[.int .i64 p.1,.int .i64 p.2]),[.int .i64 (-1),.int .i64 (-1)],tJ P,rfl,gT.mono fD,.inr ⟨b2,0,rfl,λj v hj=>by rw[Nat.zero_add,Mem.add_same];exact hj⟩,?_,by omega,by omega,λa4 c4 m4 cA cO hf=>⟨rfl,by omega,λM _ _ _ hM=>⟨rfl,rfl,a4,c4,?_,?_,?_,?_,?_⟩⟩⟩
   ·intro u hu
    have:u=.int .i64 (-1):=by simpa using hu
    rw[this];rfl
   ·rw[fH,if_pos pA,pB]
   ·rw[pB]
   ·rw[pB]
    exact(Zt5 rB (mLt fD cA) cO hf).mono hM
   ·intro b' hb'
    rcases Zwt (m4:=m4) hf b' hb' with h|⟨h1,h2⟩
    ·exact .inl h
    ·have hl:=mLt bH fD
     refine .inr ⟨ZmA hl h1,?_⟩
     cases he:m.k b' with
     | none=>rfl
     | some e=>rw[hl.k _ _ he]at h2;cases h2
   ·exact mLt bH (mLt fD (mLt cA hM))
  ·have pA:t.k≠6:=by simpa using h6
   have pB:kE t=0:=by unfold kE;rw[if_neg pA]
   rw[fH,if_neg pA,pB];rfl
  ·have pA:t.k≠6:=by simpa using h6
   have pB:kE t=0:=by unfold kE;rw[if_neg pA]
   rw[pB];rfl
  ·have pA:t.k≠6:=by simpa using h6
   have pB:kE t=0:=by unfold kE;rw[if_neg pA]
   rw[pB];simpa using rB
 rintro cs aw a n c m2 _ ⟨pa1,pc1,nK,pC,wL,qq,bL⟩
 simp only[List.cons.injEq,and_true]at nK pC
 obtain⟨rfl,rfl⟩:=nK
 obtain⟨rfl,rfl,rfl⟩:a=pa1/\n=P.length+kE t/\c=pc1:=by simpa using pC
 refine⟨λxs css tvs M q=>∃(j:Nat)(L:List Nd)(sa2:Option Addr)(sc2:Nat)(pa':Option Addr)(pc':Nat),j<=t.subs.length/\xs=[.int .i64 (j:Nat)]/\
  css=[[.int .u8 t.k,.int .u64 t.s0,.int .u64 t.s1,.int .u64 t.s2,.int .u64 t.s3,.int .i64 t.mn,.int .i64 t.mx,.slice t.a t.subs.length t.c,.int .i64 (k0:Nat),.int .i64 ((if t.k=6 then P.length else 0:Nat):Int),.slice sa2 j sc2],[f0,.int .i64 ((k0+1+(Zal (t.subs.take j)).length:Nat):Int),.slice pa' (P.length+kE t+ZdD (t.subs.take j)) pc',f3]]/\
  tvs=[.slice sa2 j sc2,.slice pa' (P.length+kE t+ZdD (t.subs.take j)) pc']/\L.map Nd.t=t.subs.take j/\SubsAt M (Zp kb pa') sa2 L/\(∀x∈L,NRep (M.off (Zp kb pa')) x)/\ZxH L (P.length+kE t)/\Zy2 L (k0+1)/\PtAt M pa' (P++List.replicate (kE t+ZdD (t.subs.take j)) noP)/\NewP m pa pa'/\(m.off (Zp kb pa)).le (M.off (Zp kb pa'))/\M.k kb=some es/\q=t.subs.length - j,
  ⟨_,0,[],none,0,a,c,by omega,rfl,rfl,rfl,rfl,.inl ⟨rfl,rfl⟩,by simp,trivial,trivial,wL,qq,rel0 bL qq,bL.k _ _ eE,rfl⟩,?_⟩
 rintro y cs cs2 a3 n3 c3 a4 n4 c4 m3 q _ ⟨j,L,sa2,sc2,pa',pc',hj,cJ,nK,pC,sj,tK,qr,yn,iD,kP,nL,lF,dZ,rfl⟩
 obtain rfl:y=j:=by simpa using cJ
 simp only[List.cons.injEq,and_true]at nK
 obtain⟨rfl,rfl⟩:=nK
 obtain⟨⟨rfl,Aq,rfl⟩,rfl,rfl,rfl⟩:(a3=sa2/\n3=j/\c3=sc2)/\a4=pa'/\n4=P.length+kE t+ZdD (t.subs.take j)/\c4=pc':=by simpa using pC
 obtain rfl:=Aq.symm
 have yo:L.length=j:=by have:=congrArg List.length sj;simp at this;omega
 have pX:ZdD (t.subs.take j)<=ZdD t.subs:=ZuR
 have qL:(Zal (t.subs.take j)).length<=(Zal t.subs).length:=Zo6
 have Ar:Rep (m3.off (Zp kb a4)) t:=Rep.mono lF t c7
 have tL:=ZdB Ar
 refine Zab (λbF=>?_) (λcR=>?_)
 ·have bI:j < t.subs.length:=by have:=of_decide_eq_true bF;omega
  obtain⟨x,hx⟩:∃x,t.subs[j]?=some x:=⟨_,List.getElem?_eq_getElem bI⟩
  have gZ:=List.mem_of_getElem? hx
  have wM:ZdD (t.subs.take (j+1))<=ZdD t.subs:=ZuR
  have wN:(Zal (t.subs.take (j+1))).length<=(Zal t.subs).length:=Zo6
  rw[Zil hx]at wM
  rw[Zhu hx,List.length_append]at wN
  have As:j<=(Zal t.subs).length:=by
   have:∀l:List T,l.length<=(Zal l).length:=λl=>by
    induction l with
    | nil=>simp
    | cons x l ih=>
     simp only[Zal,List.length_append,List.length_cons]
     have:1<=x.nodes.length:=by rw[Zbh];simp
     omega
   have:=this t.subs
   omega
  rcases tL.2 with h|⟨b0,o,ha,gE⟩
  ·rw[h]at bI;simp at bI
  obtain⟨cP,eL⟩:=gE.get hx
  refine⟨b0,o,ha,⟨by omega,by omega⟩,.int .u8 x.k,.int .u64 x.s0,.int .u64 x.s1,.int .u64 x.s2,.int .u64 x.s3,.int .i64 x.mn,.int .i64 x.mx,.slice x.a x.subs.length x.c,by rw[Int.toNat_natCast];exact cP.mono (Mem.off_le _ _),λa1=>Zaa rfl (Zar rfl ⟨λb=>a4=some ⟨b,0,none⟩,ZBp kb es (k0+1+(Zal (t.subs.take j)).length) x a4 (P++List.replicate (kE t+ZdD (t.subs.take j)) noP) f0 f3 m3,?_,?_,?_,?_,?_⟩)⟩
  ·have:=ih x gZ (k0+1+(Zal (t.subs.take j)).length) a4 c4 (P++List.replicate (kE t+ZdD (t.subs.take j)) noP) f0 f3 m3 eL dZ ?_ kP (by omega) (by simp;omega)
   ·unfold T.v at this
    rw[show(P++List.replicate (kE t+ZdD (t.subs.take j)) noP).length=P.length+kE t+ZdD (t.subs.take j) by simp;omega]at this
    exact this
   ·intro b hb e
    subst e
    rcases nL b hb with h|⟨_,h⟩
    ·exact lI b (h.trans hb) rfl
    ·rw[eE]at h;cases h
  ·intro tk dG b' hb'
   obtain rfl:tk=_:=by simpa using dG
   rcases kP with⟨_,h⟩|⟨b2,h,_⟩
   ·rw[h]at hb';simp[Tok.blk]at hb'
   ·rw[h]at hb'
    have:b2=b':=by simpa[Tok.blk]using hb'
    rw[h,this]
  ·intro b' hb'
   refine .inl ⟨_,List.mem_singleton.2 rfl,?_⟩
   rw[hb'];rfl
  ·rintro v m' css tvs ⟨n,_,_,h,_⟩;rw[h];rfl
  rintro pb po m4 cA _ cs3 a5 n5 c5 ⟨n,pa2,pc2,hv,oM,qR,uO,sJ,tM,tN,tO,qs,tP⟩ b5 si
  rw[show(P++List.replicate (kE t+ZdD (t.subs.take j)) noP).length=P.length+kE t+ZdD (t.subs.take j) by simp;omega]at uO tM tN
  obtain⟨rfl,rfl⟩:pb=n.b/\po=0:=by simpa using hv
  obtain rfl:cs3=_:=by simpa using tM
  obtain⟨rfl,rfl,rfl⟩:a5=pa2/\n5=P.length+kE t+ZdD (t.subs.take j)+x.ngr/\c5=pc2:=by simpa using tN
  have rC:(m3.off (Zp kb a4)).le (m4.off (Zp kb a5)):=ZuT cA qs
  have nM:m4.le (m4.add b5 [.pointer (some ⟨n.b,0,none⟩)]):=Mem.le_add si _
  have qt:=tK.next rC
  refine Zaa rfl ⟨.inl rfl,L.map (λx:Nd=>ptr x.b 0),[.pointer (some ⟨n.b,0,none⟩)],by simp[slN,yo],rfl,qt.row.mono nM,.inr ⟨b5,0,rfl,λq v hq=>by rw[Nat.zero_add,Mem.add_same];exact hq⟩,?_,by simp only[slN];omega,by simp only[slN];omega,λa6 c6 m5 c9 bG hf=>Zaa rfl ⟨rfl,rfl,_,?_,j+1,L++[n],a6,c6,a5,c5,by omega,?_,?_,?_,?_,?_,?_,?_,?_,?_,?_,?_,?_,rfl⟩⟩
  ·intro u hu
   have:u=.pointer (some ⟨n.b,0,none⟩):=by simpa using hu
   rw[this];rfl
  ·omega
  ·rw[wr1 (by omega)]
  ·rw[Zil hx,Zhu hx,List.length_append,<-Nat.add_assoc (P.length+kE t),<-Nat.add_assoc (k0+1)]
   rfl
  ·rw[Zil hx,<-Nat.add_assoc (P.length+kE t)]
   rfl
  ·rw[List.map_append,sj,ZbZ hx,<-oM];rfl
  ·
   have bG:rowRd m5 a6 ((L.map λx=>ptr x.b 0)++[ptr n.b 0]):=bG
   rcases bG with bG|⟨b6,o6,uP,wO⟩
   ·simp at bG
   obtain⟨_,hf⟩:=hf
   rcases hf with hf|⟨b',o',ha',hf⟩
   ·rw[uP]at hf;cases hf
   rw[uP]at ha';cases ha'
   have key:o6=0/\¬Zp kb a5 b6:=by
    rcases hf with hf|⟨ho,kH,nB⟩
    ·have hf:a3=some ⟨b6,o6,none⟩:=hf.trans uP
     rcases qt with⟨_,h⟩|⟨b2,h1,h2,_⟩
     ·rw[h]at hf;cases hf
     ·rw[h1]at hf;cases hf;exact⟨rfl,h2⟩
    ·obtain⟨g1,g2⟩:=ZiE (by simp) kH
     refine⟨ho,λhz=>?_⟩
     rcases hz with rfl|hz
     ·have nB:m4.k b6=none:=nB
      rw[tP]at nB;cases nB
     ·rcases tO with⟨_,h⟩|⟨b2,h,hc,cT⟩
      ·rw[h]at hz;cases hz
      ·rw[h]at hz;cases hz
       generalize (P++List.replicate (kE t+ZdD (t.subs.take j)) noP++List.replicate x.ngr noP)=PP at hc cT
       cases PP with
       | nil=>exact cT rfl
       | cons p l=>
        have:=(hc 0 p rfl).1
        rw[g2 _]at this;cases this
   obtain⟨rfl,At⟩:=key
   exact .inr ⟨b6,uP,At,λq v hq=>wO q v (by simpa using hq),by simp⟩
  ·intro y hy
   have yp:(m4.off (Zp kb a5)).le (m5.off (Zp kb a5)):=Zgd (mLt nM c9)
   rcases List.mem_append.1 hy with hy|hy
   ·exact NRep.mono (mLt rC yp) _ (qr y hy)
   ·obtain rfl:y=n:=by simpa using hy
    exact NRep.mono yp _ qR
  ·refine ZrZ yn ?_
   rw[sj];exact uO
  ·refine Zr0 iD ?_
   rw[sj];exact sJ
  ·rw[Zil hx,<-Nat.add_assoc]
   have:=tO.mono (mLt nM c9)
   rwa [List.append_assoc,List.replicate_append_replicate]at this
  ·exact nL.trans qs lF ⟨es,dZ⟩
  ·exact mLt lF (mLt rC (Zgd (mLt nM c9)))
  ·exact(mLt nM c9).k _ _ tP
 ·have:j=t.subs.length:=by have:=of_decide_eq_false cR;omega
  subst this
  rw[List.take_length]at kP sj pX qL ⊢
  refine⟨rfl,λbP oG=>?_⟩
  have pD:=Mem.le_add bP [.int .u8 t.k,.int .u64 t.s0,.int .u64 t.s1,.int .u64 t.s2,.int .u64 t.s3,.int .i64 t.mn,.int .i64 t.mx,.slice t.a t.subs.length t.c,.int .i64 (k0:Nat),.int .i64 ((if t.k=6 then P.length else 0:Nat):Int),.slice a3 t.subs.length c3]
  have vp:¬Zp kb a4 nb:=λhz=>by
   rcases hz with rfl|hz
   ·rw[dZ]at oG;cases oG
   ·rcases kP with⟨_,h⟩|⟨b2,h,hc,cT⟩
    ·rw[h]at hz;cases hz
    ·rw[h]at hz;cases hz
     generalize (P++List.replicate (kE t+ZdD t.subs) noP)=PP at hc cT
     cases PP with
     | nil=>exact cT rfl
     | cons p l=>
      have:=(hc 0 p rfl).1
      rw[bP _]at this;cases this
  have tQ:=Zgd pD (Z:=Zp kb a4)
  have tR:=tK.next tQ
  have uQ:(if t.k=6 then P.length else 0)<=P.length:=by split <;> omega
  refine⟨.mk nb k0 (if t.k=6 then P.length else 0) t a3 c3 L,a4,c4,rfl,rfl,?_,?_,?_,?_,?_,?_,nL,pD.k _ _ dZ⟩
  ·rw[ZdC]
   refine⟨λq v hq=>?_,⟨Rep.mono (mLt lF tQ) t c7,sj⟩,⟨?_,?_⟩,tR.rep λx hx=>NRep.mono tQ _ (qr x hx)⟩
   ·show Mem.off (Mem.add m3 nb _) (Zp kb a4) nb (0+q)=some v
    rw[Mem.off_at vp]
    rw[Nat.zero_add,Mem.add_same]
    have e:(Nd.mk nb k0 (if t.k=6 then P.length else 0) t a3 c3 L).cs=[.int .u8 t.k,.int .u64 t.s0,.int .u64 t.s1,.int .u64 t.s2,.int .u64 t.s3,.int .i64 t.mn,.int .i64 t.mx,.slice t.a t.subs.length t.c,.int .i64 (k0:Nat),.int .i64 ((if t.k=6 then P.length else 0:Nat):Int),.slice a3 t.subs.length c3]:=by
     show t.cs++[_,_,.slice a3 L.length c3]=_
     rw[yo];rfl
    rw[<-e]
    exact hq
   ·show k0 < _;omega
   ·show(if t.k=6 then P.length else 0) < _;omega
  ·rw[ZxI]
   exact⟨λh=>by have h:t.k=6:=h;show(if t.k=6 then P.length else 0)=_;rw[if_pos h],yn⟩
  ·rw[Zzn];exact⟨rfl,iD⟩
  ·rw[nJ,o9,<-Nat.add_assoc P.length,show k0+((Zal t.subs).length+1)=k0+1+(Zal t.subs).length by omega]
  ·rw[o9,<-Nat.add_assoc P.length]
  ·rw[o9];exact kP.mono pD
theorem Zrd(fb kb:Nat)(es:List (Value×Value)):∀(N:Nat)(t:T),SizeOf.sizeOf t < N->ZBg fb kb es t:=by
 intro N
 induction N with
 | zero=>intro t h;omega
 | succ N ihN=>
  intro t hN
  refine ZBv fb kb es t λx hx=>ihN x ?_
  cases t with
  | node k s0 s1 s2 s3 mn mx a c l=>
   have h':x∈l:=hx
   have:=List.sizeOf_lt_of_mem h'
   simp only[T.node.sizeOf_spec]at hN
   omega
end Go.Proofs.YtgclajkldphoaaaGreat
namespace Go.Proofs.YtgclajkldphoaaaGreat
open Go Go.Eng Go.Proofs Go.RowKit
open Go.Value (int slice agg bool string tuple func)
open Go.IntKind (u8 u64 i64)
set_option maxRecDepth 100000
noncomputable def ZdV:Env:={ EB with
 tokOf:=(λi=>bif Nat.beq i 2 then 7 else bif Nat.beq i 7 then 7 else 0)
 tokC:=(λi=>bif Nat.beq i 5 then some (7,1)else none)
 thaw:=true }
def Zbt(p0a:Option Addr)(p0n p0c:Nat)(m:Mem)(R:RT):Prop:=
 br (Option.isNone p0a) (slice none 0 0=slice none 0 0/\R (slice none 0 0) m []) (((0:Int)=(0:Int)/\(0:Int)<=(0:Int)/\(0:Int)*(↑(8:Nat):Int)<=(281474976710656:Int)/\(0:Int) <=
 (9223372036854775807:Int))/\∀(b:Nat),Mem.free m b->(Tok.mk (slice (some (Addr.mk b 0 none)) 0 (Int.toNat (0:Int))) 1=Tok.mk (slice (some (Addr.mk b 0 none)) 0 (Int.toNat (0:Int))) 1\/slice (some (Addr.mk
 b 0 none)) 0 (Int.toNat (0:Int))=slice none 0 0\/Int.toNat (0:Int) < 0+p0n)/\∃(xs:List Value),∃(ys:List Value),List.length xs=0*1/\List.length ys=p0n*1/\rowRd m (some (Addr.mk b 0 none)) xs/\
 rowRd m p0a ys/\(∀(u:Value),u∈ys->Value.oneCell' u=true)/\(0+p0n)*8<=140737488355328/\0+p0n<=9223372036854775807/\∀(a':Option Addr)(c':Nat)(m':Mem),Mem.le m m'->rowRd m' a' (List.append
 xs ys)->TokFact m (some (Addr.mk b 0 none)) a' (0+p0n) c'->some (Tok.mk (slice a' (0+p0n) c') 1)=some (Tok.mk (slice a' (0+p0n) c') 1)/\R (slice a' (0+p0n) c') m' [])
theorem Zb3(p0a:Option Addr)(p0n p0c:Nat)(m:Mem)(R:RT)(h:Zbt p0a p0n p0c m R):CXT Tryz.prog 14 #[.slice p0a p0n p0c] m 1 R:=
 Zmj (E:=ZdV) Zay mix Tryz.func14 [.v (.slice p0a p0n p0c)] (by kernel_rfl) (Eq.mp (by kernel_rfl) h)
noncomputable def ZbB:Env:={ EB with
 loops:=(λi=>bif Nat.beq i 4 then⟨[(13,.int .i64)],[],[],false⟩ else⟨[],[],[],false⟩)
 dr:=(λi=>bif Nat.beq i 6 then[⟨0,[],[],none,[],[]⟩,⟨1,[],[],none,[],[]⟩,⟨2,[],[],none,[0,1],[]⟩,⟨3,[],[],none,[0,1,2],[]⟩,⟨4,[],[],none,[],[]⟩,⟨5,[],[],none,[],[]⟩,⟨6,[],[],none,[4,5],[]⟩,⟨7,[],[],none,[4,5,6],[]⟩,⟨8,[],[],none,[0,1,2,3,4,5,6,7],[]⟩]else[]) }
def Za2(p0a:Option Addr)(p0n p0c:Nat)(p1a:Option Addr)(p1n p1c:Nat)(m:Mem)(R:RT):Prop:=
 br (!(↑p0n:Int) == (↑p1n:Int)) (∃(m'':Mem),Mem.le m m''/\Mem.le m'' m/\R (bool false) m'' []) (∃(I:IT),(∃(n:Nat),I [int i64 0] [] [] m n)/\∀(n:Int)(m':Mem)(n_1:Nat),Mem.le m m'->I [int i64
 n] [] [] m' n_1->br (decide (n < (↑p0n:Int))) (∃(b:Nat),∃(o:Nat),p0a=some (Addr.mk b o none)/\Zag n p0n/\∃(v:Value),∃(v_1:Value),Mem.reads m' b (o+Int.toNat n*2) [v,v_1]/\∃(b:Nat),∃
 (o:Nat),p1a=some (Addr.mk b o none)/\Zag n p1n/\∃(v_2:Value),∃(v_3:Value),Mem.reads m' b (o+Int.toNat n*2) [v_2,v_3]/\∃(b:Bool),EqIs Tryz.prog 51 (agg (Array.mk [v,v_1])) (agg (Array.mk
 [v_2,v_3])) b/\br (!b) (∃(m'':Mem),Mem.le m m''/\Mem.le m'' m'/\R (bool false) m'' []) (∃(n':Nat),n' < n_1/\I [int i64 (IntKind.wrap i64 (n+(1:Int)))] [] [] m' n')) (∃(m'':Mem),Mem.le m m''/\Mem.le
 m'' m'/\R (bool true) m'' []))
theorem Zbz(p0a:Option Addr)(p0n p0c:Nat)(p1a:Option Addr)(p1n p1c:Nat)(m:Mem)(R:RT)(h:Za2 p0a p0n p0c p1a p1n p1c m R):CX Tryz.prog 23 #[.slice p0a p0n p0c,.slice p1a p1n p1c] m [] R:=
 Zah (E:=ZbB) Zay mix Tryz.func23 [.v (.slice p0a p0n p0c),.v (.slice p1a p1n p1c)] [] (by kernel_rfl) (Eq.mp (by kernel_rfl) h)
noncomputable def ZjF:Env:=EB
def ZfW(p0:Int)(m:Mem)(R:RT):Prop:=
 ∀(b b:Nat),(64:Int)≠(0:Int)/\(64:Int)≠(0:Int)/\(0:Int)<=Int.tmod p0 (64:Int)/\Zag (IntKind.wrap u8 (Int.tdiv p0 (64:Int))) 4/\chk (Nat.ble (0+Int.toNat (IntKind.wrap u8 (Int.tdiv p0 (64
 : Int)))*1) (nat_lit 3)) (chk (Nat.beq (List.length (ZaH [int u64 0,int u64 0,int u64 0,int u64 0] (0+Int.toNat (IntKind.wrap u8 (Int.tdiv p0 (64:Int)))*1) [int u64 (IntKind.wrap u64 ((1:Int)*(2:Int)
 ^ min (Int.toNat (Int.tmod p0 (64:Int))) 64))])) 4&&true) (chk (Nat.beq (List.length (List.append (ZaH [int u64 0,int u64 0,int u64 0,int u64 0] (0+Int.toNat (IntKind.wrap u8 (Int.tdiv p0 (64:Int)))*1)
 [int u64 (IntKind.wrap u64 ((1:Int)*(2:Int) ^ min (Int.toNat (Int.tmod p0 (64:Int))) 64))]) (List.drop (1+List.length (ZaH [int u64 0,int u64 0,int u64 0,int u64 0] (0+Int.toNat (IntKind.wrap u8
 (Int.tdiv p0 (64:Int)))*1) [int u64 (IntKind.wrap u64 ((1:Int)*(2:Int) ^ min (Int.toNat (Int.tmod p0 (64:Int))) 64))])) [int u8 2,int u64 0,int u64 0,int u64 0,int u64 0,int i64 0,int i64 0,slice none
 0 0]))) (nat_lit 7)&&ZeL (List.append (ZaH [int u64 0,int u64 0,int u64 0,int u64 0] (0+Int.toNat (IntKind.wrap u8 (Int.tdiv p0 (64:Int)))*1) [int u64 (IntKind.wrap u64 ((1:Int)*(2:Int) ^ min
 (Int.toNat (Int.tmod p0 (64:Int))) 64))]) (List.drop (1+List.length (ZaH [int u64 0,int u64 0,int u64 0,int u64 0] (0+Int.toNat (IntKind.wrap u8 (Int.tdiv p0 (64:Int)))*1) [int u64 (IntKind.wrap u64 ((1
 : Int)*(2:Int) ^ min (Int.toNat (Int.tmod p0 (64:Int))) 64))])) [int u8 2,int u64 0,int u64 0,int u64 0,int u64 0,int i64 0,int i64 0,slice none 0 0]))) (∃(m'':Mem),Mem.le m m''/\Mem.le m'' m/\R (agg
 (Array.mk (ZaH [int u8 2,int u64 0,int u64 0,int u64 0,int u64 0,int i64 0,int i64 0,slice none 0 0] 1 (ZaH [int u64 0,int u64 0,int u64 0,int u64 0] (0+Int.toNat (IntKind.wrap u8 (Int.tdiv p0 (64:
 Int)))*1) [int u64 (IntKind.wrap u64 ((1:Int)*(2:Int) ^ min (Int.toNat (Int.tmod p0 (64:Int))) 64))])))) m'' [])))
theorem ZiH(p0:Int)(m:Mem)(R:RT)(h:ZfW p0 m R):CX Tryz.prog 18 #[.int .u8 p0] m [] R:=
 Zah (E:=ZjF) Zay mix Tryz.func18 [.v (.int .u8 p0)] [] (by kernel_rfl) (Eq.mp (by kernel_rfl) h)
noncomputable def ZlC:Env:={ EB with
 frzNew:=[1] }
def ZgB(aG aD aI aJ aK aE aH:Int)(aB:Option Addr)(aA aC:Nat)(m:Mem)(R:RT):Prop:=
 ∀(b:Nat)(m':Mem),Mem.le m m'->Mem.reads m' b 0 [int u8 aG,int u64 aD,int u64 aI,int u64 aJ,int u64 aK,int i64 aE,int i64 aH,slice aB aA aC]->∀(b b:Nat),Mem.free m' b->∃(m'':
 Mem),Mem.le m m''/\Mem.le m'' (Mem.add m' b [int u8 aG,int u64 aD,int u64 aI,int u64 aJ,int u64 aK,int i64 aE,int i64 aH,slice aB aA aC])/\R (agg (Array.mk [int u8 6,int u64 0,int u64
 0,int u64 0,int u64 0,int i64 0,int i64 0,slice (some (Addr.mk b 0 none)) 1 1])) m'' []
theorem ZjG(aG aD aI aJ aK aE aH:Int)(aB:Option Addr)(aA aC:Nat)(m:Mem)(R:RT)(h:ZgB aG aD aI aJ aK aE aH aB aA aC m R):CX Tryz.prog 21 #[.agg #[.int .u8 aG,.int .u64 aD,.int .u64 aI,.int .u64 aJ,.int .u64 aK,.int .i64 aE,.int .i64 aH,.slice aB aA aC]] m [] R:=
 Zah (E:=ZlC) Zay mix Tryz.func21 [.v (.agg #[.int .u8 aG,.int .u64 aD,.int .u64 aI,.int .u64 aJ,.int .u64 aK,.int .i64 aE,.int .i64 aH,.slice aB aA aC])] [] (by kernel_rfl) (Eq.mp (by kernel_rfl) h)
noncomputable def ZpQ:Env:=EB
def ZiI(p0a:Option Addr)(p0n p0c:Nat)(m:Mem)(R:RT):Prop:=
 ∀(b:Nat),∃(m'':Mem),Mem.le m m''/\Mem.le m'' m/\R (agg (Array.mk [int u8 3,int u64 0,int u64 0,int u64 0,int u64 0,int i64 0,int i64 0,slice p0a p0n p0c])) m'' []
theorem Znt(p0a:Option Addr)(p0n p0c:Nat)(m:Mem)(R:RT)(h:ZiI p0a p0n p0c m R):CX Tryz.prog 19 #[.slice p0a p0n p0c] m [] R:=
 Zah (E:=ZpQ) Zay mix Tryz.func19 [.v (.slice p0a p0n p0c)] [] (by kernel_rfl) (Eq.mp (by kernel_rfl) h)
noncomputable def ZpR:Env:={ EB with
 frzNew:=[3] }
def ZiJ(aG aD aI aJ aK aE aH:Int)(aB:Option Addr)(aA aC:Nat)(p1 p2:Int)(m:Mem)(R:RT):Prop:=
 ∀(b:Nat)(m':Mem),Mem.le m m'->Mem.reads m' b 0 [int u8 aG,int u64 aD,int u64 aI,int u64 aJ,int u64 aK,int i64 aE,int i64 aH,slice aB aA aC]->∀(b b:Nat),Mem.free m' b->∃(m'':
 Mem),Mem.le m m''/\Mem.le m'' (Mem.add m' b [int u8 aG,int u64 aD,int u64 aI,int u64 aJ,int u64 aK,int i64 aE,int i64 aH,slice aB aA aC])/\R (agg (Array.mk [int u8 5,int u64 0,int u64
 0,int u64 0,int u64 0,int i64 p1,int i64 p2,slice (some (Addr.mk b 0 none)) 1 1])) m'' []
theorem Znu(aG aD aI aJ aK aE aH:Int)(aB:Option Addr)(aA aC:Nat)(p1 p2:Int)(m:Mem)(R:RT)(h:ZiJ aG aD aI aJ aK aE aH aB aA aC p1 p2 m R):CX Tryz.prog 20 #[.agg #[.int .u8 aG,.int .u64 aD,.int .u64 aI,.int .u64 aJ,.int .u64 aK,.int .i64 aE,.int .i64 aH,.slice aB aA aC],.int .i64 p1,.int .i64 p2] m [] R:=
 Zah (E:=ZpR) Zay mix Tryz.func20 [.v (.agg #[.int .u8 aG,.int .u64 aD,.int .u64 aI,.int .u64 aJ,.int .u64 aK,.int .i64 aE,.int .i64 aH,.slice aB aA aC]),.v (.int .i64 p1),.v (.int .i64 p2)] [] (by kernel_rfl) (Eq.mp (by kernel_rfl) h)
noncomputable def ZpS:Env:=EB
def ZiK(p0a:Option Addr)(p0n p0c:Nat)(m:Mem)(R:RT):Prop:=
 ∀(b:Nat),∃(m'':Mem),Mem.le m m''/\Mem.le m'' m/\R (agg (Array.mk [int u8 4,int u64 0,int u64 0,int u64 0,int u64 0,int i64 0,int i64 0,slice p0a p0n p0c])) m'' []
theorem Znv(p0a:Option Addr)(p0n p0c:Nat)(m:Mem)(R:RT)(h:ZiK p0a p0n p0c m R):CX Tryz.prog 22 #[.slice p0a p0n p0c] m [] R:=
 Zah (E:=ZpS) Zay mix Tryz.func22 [.v (.slice p0a p0n p0c)] [] (by kernel_rfl) (Eq.mp (by kernel_rfl) h)
end Go.Proofs.YtgclajkldphoaaaGreat
namespace Go.Proofs.YtgclajkldphoaaaGreat
open Go Go.Eng Go.Rx Go.Proofs Go.RowKit
set_option maxRecDepth 100000
theorem Zz9{m M:Mem}{kb:Nat}{pa:Option Addr}(hm:m.le M)(h1:m.free kb/\m.k kb=none)(h2:∀b,pa=some ⟨b,0,none⟩->m.free b/\m.k b=none):m.le (M.off (Zp kb pa)):=by
 have key:∀b,Zp kb pa b->m.free b/\m.k b=none:=λb hb=>by
  rcases hb with rfl|hb
  ·exact h1
  ·exact h2 b hb
 refine⟨λb o v hv=>?_,λb e he=>?_⟩
 ·rw[Mem.off_at (λhb=>by have:=(key b hb).1 o;rw[hv]at this;cases this)]
  exact hm.c _ _ _ hv
 ·rw[Mem.off_k (λhb=>by have:=(key b hb).2;rw[he]at this;cases this)]
  exact hm.k _ _ he
theorem Zyw{m M:Mem}{b:Nat}(hm:m.le M)(h:M.k b=none):m.k b=none:=by
 cases he:m.k b with
 | none=>rfl
 | some e=>rw[hm.k _ _ he]at h;cases h
structure Made14 (m m':Mem)(fb kb:Nat)(n:Nd)(t:T)(sa:Option Addr)(s:List Nat)(sc:Nat)(pa:Option Addr)(pc:Nat):Prop where
 tr:n.t=t
 num:n.num 0
 st:Byt m sa s->St fb kb n sa s sc pa pc t.ngr m' (List.replicate t.ngr noP)
 kf:m.free kb/\m.k kb=none
 pf:∀b,pa=some ⟨b,0,none⟩->m.free b/\m.k b=none
def ZwQ(m:Mem)(t:T)(sa:Option Addr)(s:List Nat)(sc:Nat):RT:=λv m' _=>
 (ZcV t s.length≠0/\v=.tuple #[.pointer none,.pointer none,.int .i64 (ZcV t s.length)])\/
 (ZcV t s.length=0/\∃(fb kb:Nat)(n:Nd)(pa:Option Addr)(pc:Nat),v=.tuple #[.pointer (some ⟨fb,0,none⟩),.pointer (some ⟨n.b,0,none⟩),.int .i64 0]/\Made14 m m' fb kb n t sa s sc pa pc)
theorem Zjh{m:Mem}{t:T}{sa:Option Addr}{s:List Nat}{sc:Nat}:∀(v:Value)(m':Mem) (css:List (List Value)),ZwQ m t sa s sc v m' css->Shape.fits (Shape.tup [Shape.any,Shape.any,Shape.int .i64]) v=true:=λv m' css h=>by
 rcases h with⟨_,h⟩|⟨_,fb,kb,n,pa,pc,h,_⟩ <;> (rw[h];rfl)
theorem ZsC(t:T)(sa:Option Addr)(s:List Nat)(sc:Nat)(m:Mem)(hr:Rep m t):CX Tryz.prog 42 #[t.v,.slice sa s.length sc] m [] (ZwQ m t sa s sc):=by
 unfold T.v
 apply Znn
 unfold Ziz
 intro b m1 bH cP lC _ gC
 refine⟨_,trivial,Zn0 false false t m1 (hr.mono bH),λv m' css h=>by unfold Ret at h;rw[h];rfl,?_⟩
 rintro e m2 bL he
 obtain rfl:e=t.check:=by simpa[Ret]using he
 have gU:=mLt bH bL
 refine Zab (λhq=>⟨m2,gU,Mem.le_refl _,.inl ?_⟩) (λhq=>Zab (λkJ=>⟨m2,gU,Mem.le_refl _,.inl ?_⟩) (λkJ=>?_))
 ·have:t.check≠0:=by simpa using hq
  have:ZcV t s.length=140:=by unfold ZcV;rw[if_pos this]
  rw[this];exact⟨by decide,rfl⟩
 ·have h1:t.check=0:=by simpa using hq
  have h2:512 < s.length:=by have:=of_decide_eq_true kJ;omega
  have:ZcV t s.length=3:=by unfold ZcV;rw[if_neg (by simp[h1]),if_pos h2]
  rw[this];exact⟨by decide,rfl⟩
 have hc:t.check=0:=by simpa using hq
 have hl:s.length<=512:=by have:=of_decide_eq_false kJ;omega
 have hw:ZcV t s.length=0:=by unfold ZcV;rw[if_neg (by simp[hc]),if_neg (by omega)]
 obtain⟨lE,nJ⟩:=Zb1 hc
 intro kb Au dM fb
 have uR:=Mem.le_updK (Mem.le_refl m2) dM []
 have o9:t.ngr<=t.nodes.length:=by rw[Zim];exact List.countP_le_length
 have mN:m.free kb/\m.k kb=none:=⟨ZmA gU Au,Zyw gU dM⟩
 have tS:Rep ((m2.updK kb []).off (Zp kb none)) t:=hr.mono (Zz9 (mLt gU uR) mN (λb hb=>by cases hb))
 have o8:=Zrd fb kb [] _ t (Nat.lt_succ_self _) 0 none 0 [] (.slice sa s.length sc) (.map (some kb)) (m2.updK kb []) tS (Mem.updK_same _ _ _) (λb hb=>by cases hb) (.inl ⟨rfl,rfl⟩) (by omega) (by simp;omega)
 refine⟨_,_,o8,?_,?_,?_,?_⟩
 ·intro tk dG b' hb'
  obtain rfl:tk=_:=by simpa using dG
  cases hb'
 ·intro b' hb'
  cases hb'
 ·rintro v m' css tvs ⟨n,_,_,h,_⟩;rw[h];rfl
 rintro nb no m3 bX _ cs a d c ⟨n,pa,pc,hv,oM,qR,uO,sJ,cQ,fI,jB,cC,eE⟩ yq yr
 obtain⟨rfl,rfl⟩:nb=n.b/\no=0:=by simpa using hv
 have cQ:=List.singleton_inj.1 cQ
 subst cQ
 clear fI hv
 have sk:(m2.updK kb []).le m3:=by
  refine mLt ⟨λb o v hv=>?_,λb e he=>?_⟩ bX
  ·rw[Mem.off_at (λh=>by cases h)];exact hv
  ·rw[Mem.off_k (λh=>by cases h)];exact he
 have lS:=mLt gU (mLt uR sk)
 have pD:=Mem.le_add yq [.slice sa s.length sc,.int .i64 ((0+t.nodes.length:Nat):Int),.slice pa (([]:PL).length+t.ngr) pc,.map (some kb)]
 have rD:∀b,pa=some ⟨b,0,none⟩->(m2.updK kb []).free b/\(m2.updK kb []).k b=none:=λb hb=>by
  rcases cC b hb with h|h
  ·rw[hb]at h;cases h
  ·exact h
 have yt:∀b,pa=some ⟨b,0,none⟩->m.free b/\m.k b=none:=λb hb=>⟨ZmA (mLt gU uR) (rD b hb).1,Zyw (mLt gU uR) (rD b hb).2⟩
 have jI:¬Zp kb pa fb:=λhz=>by
  rcases hz with rfl|hz
  ·rw[eE]at yr;cases yr
  ·rcases jB with⟨_,h⟩|⟨b2,h,yu,cT⟩
   ·rw[h]at hz;cases hz
   ·rw[h]at hz;cases hz
    generalize (([]:PL)++List.replicate t.ngr noP)=PP at yu cT
    cases PP with
    | nil=>exact cT rfl
    | cons p l=>
     have:=(yu 0 p rfl).1
     rw[yq _]at this;cases this
 have tQ:=Zgd pD (Z:=Zp kb pa)
 rw[List.nil_append]at jB
 have tT:=jB.mono pD
 refine⟨_,mLt lS pD,Mem.le_refl _,.inr ⟨hw,fb,kb,n,pa,pc,rfl,oM,uO,λhb=>⟨⟨⟨?_,?_,?_,hl,NRep.mono tQ _ qR,ZuS n 0 (ZxK qR) sJ,λx hx=>?_⟩,⟨[],pD.k _ _ eE,λe he=>by cases he⟩,Zws tT⟩,tT,by simp,?_,λb hb e=>?_⟩,mN,yt⟩⟩
 ·rw[Mem.off_at jI,Mem.add_same];rfl
 ·rw[Mem.off_at jI,Mem.add_same];rfl
 ·exact hb.mono (Zz9 (mLt lS pD) mN yt)
 ·have:=Zo7 n (ZxK qR) x hx
  rw[oM]at this
  unfold T.good at lE
  exact List.all_eq_true.1 lE _ this
 ·rw[Mem.off_at jI,Mem.add_same]
  simp
 ·subst e
  have:=(rD b hb).2
  rw[Mem.updK_same]at this;cases this
theorem ZwR{P:Program}{g:FuncId}{args:Array Value}{m m0:Mem}{Y:Nat->Prop}{R0:RTY}{sh:Shape}{E:Nat->Prop}{Kf:(Nat->Prop)->RTY->Prop}(h:CXY P g args m Y [] [] R0)(hY:∀b,Y b->(m0.free b/\m0.k b=none)/\((∃(o:Nat),∃(v:Value),m b o=some v)\/∃(e:List (Value×Value)),Mem.k m b=some e)/\E b)(hf:∀(v:Value)(m':Mem) (css:List (List Value)) (tvs:List Value),R0 v m' css tvs->Shape.fits sh v=true)(k:Kf Y R0):
  ∃(Y:Nat->Prop),∃(R:Value->Mem->List (List Value)->List Value->Prop),CXY P g args m Y [] [] R/\(∀(t:Tok),t∈[]->∀(b:Nat),t.blk=some b->Y b)/\
   (∀(b:Nat),Y b->(∃(t:Tok),t∈[]/\t.blk=some b)\/(Mem.free m0 b/\Mem.k m0 b=none)/\((∃(o:Nat),∃(v:Value),m b o=some v)\/∃(e:List (Value×Value)),Mem.k m b=some e)/\E b)/\
   (∀(v:Value)(m':Mem) (css:List (List Value)) (tvs:List Value),R v m' css tvs->Shape.fits sh v=true)/\Kf Y R:=
 ⟨Y,R0,h,by simp,λb hb=>.inr (hY b hb),hf,k⟩
theorem Zkn{m:Mem}{vs:List Value}(h:rowRd m none vs):vs=[]:=by
 rcases h with h|⟨b,o,h,_⟩
 ·exact h
 ·cases h
theorem Zre(l:List Nat)(a:Option Addr)(c:Nat)(m:Mem)(h:rowRd m a (nsL l))(hl:l.length<=1000000):CX Tryz.prog 14 #[.slice a l.length c] m [] (λv m' _=>∃a c,v=.slice a l.length c/\rowRd m' a (nsL l)):=by
 have key:CXT Tryz.prog 14 #[.slice a l.length c] m 1 (λv m' _=>∃a c,v=.slice a l.length c/\rowRd m' a (nsL l)):=by
  apply Zb3
  unfold Zbt
  refine Zab (λhn=>?_) (λhn=>⟨⟨rfl,Int.le_refl _,by decide,by decide⟩,λb hb=>⟨.inl rfl,[],nsL l,rfl,by simp[nsL],.inl rfl,h,λu hu=>Zvj u hu,by omega,by omega,λa' c' m' hm' hr vV=>⟨rfl,a',c',by rw[Nat.zero_add],hr⟩⟩⟩)
  have:a=none:=by simpa using hn
  subst this
  have:=Zkn h
  obtain rfl:l=[]:=by simpa[nsL]using this
  exact⟨rfl,none,0,rfl,.inl rfl⟩
 exact key.toCX
theorem Made14.here{m m':Mem}{fb kb:Nat}{n:Nd}{t:T}{sa:Option Addr}{s:List Nat}{sc:Nat}{pa:Option Addr}{pc:Nat}(h:Made14 m m' fb kb n t sa s sc pa pc)(gR:Byt m sa s):∀b,Zp kb pa b->(m.free b/\m.k b=none)/\((∃(o:Nat),∃(v:Value),m' b o=some v)\/∃(e:List (Value×Value)),Mem.k m' b=some e):=λb hb=>
 ⟨by rcases hb with rfl|hb;exact h.kf;exact h.pf b hb,((h.st gR).zin b hb).2.1⟩
theorem ZfX{m m1 m2:Mem}{fb kb:Nat}{n:Nd}{t:T}{sa:Option Addr}{s:List Nat}{sc:Nat}{pa:Option Addr}{pc:Nat}{b:Nat}{v:Value}(h:Made14 m1 m2 fb kb n t sa s sc pa pc)(gR:Byt m1 sa s)(hm:m.le m1)(hb:m1 b 0=some v):∀x,Zp kb pa x->(m.free x/\m.k x=none)/\((∃(o:Nat),∃(v:Value),m2 x o=some v)\/∃(e:List (Value×Value)),Mem.k m2 x=some e)/\(b≠x/\True):=λx hx=>by
 obtain⟨⟨h1,h2⟩,h3⟩:=h.here gR x hx
 refine⟨⟨ZmA hm h1,Zyw hm h2⟩,h3,λe=>?_,trivial⟩
 subst e
 rw[h1 0]at hb;cases hb
theorem Zko{m m' M:Mem}{Y:Nat->Prop}(hm:m.le m')(hn:∀b,Y b->m.free b/\m.k b=none)(hM:(m'.off Y).le M):m.le M:=⟨λb o v hv=>by
 refine hM.c _ _ _ ?_
 rw[Mem.off_at (λhb=>by have:=(hn b hb).1 o;rw[hv]at this;cases this)]
 exact hm.c _ _ _ hv,λb e he=>by
 refine hM.k _ _ ?_
 rw[Mem.off_k (λhb=>by have:=(hn b hb).2;rw[he]at this;cases this)]
 exact hm.k _ _ he⟩
def ZAD(t:T)(s:List Nat)(i:Int):RT:=λv m' _=>∃a c,v=.tuple #[.slice a (ZuY t s i).1.length c,.int .i64 (ZuY t s i).2]/\rowRd m' a (nsL (ZuY t s i).1)
theorem ZsD(t:T)(sa:Option Addr)(s:List Nat)(sc:Nat)(i:Int)(m:Mem)(hr:Rep m t)(hb:ZcV t s.length=0->0<=i/\i<=s.length->Byt m sa s):CX Tryz.prog 12 #[t.v,.slice sa s.length sc,.int .i64 i] m [] (ZAD t s i):=by
 unfold T.v
 apply Zls
 unfold ZhC
 intro b m1 bH cP lC _
 refine⟨_,trivial,ZsC t sa s sc m1 (hr.mono bH),Zjh,?_⟩
 rintro v v1 e m2 bL hR
 have gU:=mLt bH bL
 unfold ZwQ at hR
 rcases hR with⟨hw,hv⟩|⟨hw,fb,kb,n,pa,pc,hv,hM⟩
 ·simp only[Value.tuple.injEq,Array.mk.injEq,List.cons.injEq,Value.int.injEq,true_and,and_true]at hv
  obtain⟨rfl,rfl,rfl⟩:=hv
  refine ZjJ (by simpa using hw) ⟨m2,gU,Mem.le_refl _,none,0,?_,?_⟩ <;> (unfold ZuY;rw[if_pos hw])
  ·rfl
  ·exact .inl rfl
 simp only[Value.tuple.injEq,Array.mk.injEq,List.cons.injEq,Value.int.injEq,true_and,and_true]at hv
 obtain⟨rfl,rfl,rfl⟩:=hv
 refine ZiP (by simp) ⟨decide (i < 0)||decide (i > (s.length:Int)),Zab (λh=>⟨rfl,by rw[h];rfl⟩) (λh=>⟨rfl,by rw[h];rfl⟩),Zab (λhq=>⟨m2,gU,Mem.le_refl _,none,0,?_,?_⟩) (λhq=>?_)⟩
 ·have hq:i < 0\/i > (s.length:Int):=by simpa using hq
  unfold ZuY;rw[if_neg (by simp[hw]),if_pos hq];rfl
 ·have hq:i < 0\/i > (s.length:Int):=by simpa using hq
  unfold ZuY;rw[if_neg (by simp[hw]),if_pos hq];exact .inl rfl
 have hq:¬(i < 0\/i > (s.length:Int)):=by simpa using hq
 obtain⟨j,rfl⟩:∃j:Nat,i=j:=⟨i.toNat,by omega⟩
 have hj:j<=s.length:=by omega
 have gR:=(hb hw ⟨by omega,by omega⟩).mono bH
 have cW:=hM.st gR
 have hX:ZuY t s j=(t.e0 s j,0):=by unfold ZuY;rw[if_neg (by simp[hw]),if_neg hq];simp
 have jA:=ZbV (d:=0) (cW.wk.fin.good n (Zc8 n)) cW.wk.fin.len hj
 rw[Za3,hM.tr]at jA
 refine ZwR (Zjg fb kb (Zp kb pa) n sa s sc n (Zc8 n) 0 j (by omega) hj (λ_=>Nat.zero_le _) m2 cW.wk) (λx hx=>ZfX hM gR bH (cP 0 _ rfl) x (.inl hx)) Zbd ?_
 rintro a nn c m3 bX _ ⟨a',c',hv,bG,dI⟩
 rw[Za3,hM.tr]at hv bG
 obtain⟨rfl,rfl,rfl⟩:a=a'/\nn=(t.e0 s j).length/\c=c':=by simpa using hv
 have lS:m.le m3:=Zko gU (λx hx=>(ZfX hM gR bH (cP 0 _ rfl) x (.inl hx)).1) bX
 refine⟨_,trivial,Zre _ a c m3 (bG.mono (Mem.off_le _ _)) (by omega),λv m' css ⟨_,_,h,_⟩=>by rw[h];rfl,?_⟩
 rintro a2 n2 c2 m4 cA ⟨a3,c3,hv,cO⟩
 obtain⟨rfl,rfl,rfl⟩:a2=a3/\n2=(t.e0 s j).length/\c2=c3:=by simpa using hv
 refine⟨m4,mLt lS cA,Mem.le_refl _,a2,c2,?_,?_⟩ <;> rw[hX]
 exact cO
def ZBh(t:T)(s:List Nat):RT:=λv m' _=>∃a c,v=.tuple #[.slice a (ZbG t s).1.length c,.int .i64 (ZbG t s).2]/\PtAt m' a (ZbG t s).1
theorem ZsE(t:T)(sa:Option Addr)(s:List Nat)(sc:Nat)(m:Mem)(hr:Rep m t)(hb:ZcV t s.length=0->Byt m sa s):CX Tryz.prog 10 #[t.v,.slice sa s.length sc] m [] (ZBh t s):=by
 unfold T.v
 apply Zlt
 unfold ZhD
 intro b m1 bH cP lC _
 refine⟨_,trivial,ZsC t sa s sc m1 (hr.mono bH),Zjh,?_⟩
 rintro v v1 e m2 bL hR
 have gU:=mLt bH bL
 unfold ZwQ at hR
 rcases hR with⟨hw,hv⟩|⟨hw,fb,kb,n,pa,pc,hv,hM⟩
 ·simp only[Value.tuple.injEq,Array.mk.injEq,List.cons.injEq,Value.int.injEq,true_and,and_true]at hv
  obtain⟨rfl,rfl,rfl⟩:=hv
  refine ZjJ (by simpa using hw) ⟨m2,gU,Mem.le_refl _,none,0,?_,?_⟩ <;> (unfold ZbG;rw[if_pos hw])
  ·rfl
  ·exact .inl ⟨rfl,rfl⟩
 simp only[Value.tuple.injEq,Array.mk.injEq,List.cons.injEq,Value.int.injEq,true_and,and_true]at hv
 obtain⟨rfl,rfl,rfl⟩:=hv
 have gR:=(hb hw).mono bH
 have cW:=hM.st gR
 have jA:=ZbV (d:=0) (i:=0) (cW.wk.fin.good n (Zc8 n)) cW.wk.fin.len (by omega)
 rw[Za3,hM.tr]at jA
 refine ZiP (by simp) (ZwR (Zjg fb kb (Zp kb pa) n sa s sc n (Zc8 n) 0 0 (by omega) (by omega) (λ_=>Nat.zero_le _) m2 cW.wk) (λx hx=>ZfX hM gR bH (cP 0 _ rfl) x (.inl hx)) Zbd ?_)
 rintro a nn c m3 bX _ ⟨a',c',hv,bG,dI⟩
 rw[Za3,hM.tr]at hv bG
 obtain⟨rfl,rfl,rfl⟩:a=a'/\nn=(t.e0 s 0).length/\c=c':=by simpa using hv
 have lS:m.le m3:=Zko gU (λx hx=>(ZfX hM gR bH (cP 0 _ rfl) x (.inl hx)).1) bX
 have dV:=cW.step bX dI
 refine⟨_,trivial,Zee _ a c s.length m3 (bG.mono (Mem.off_le _ _)) (by omega),λv m' css h=>by unfold Ret at h;rw[h];rfl,?_⟩
 rintro bb m4 cA hR
 obtain rfl:bb=decide (s.length∈t.e0 s 0):=by simpa[Ret]using hR
 have eO:=dV.le cA
 have tU:=mLt lS cA
 refine Zab (λhq=>⟨m4,tU,Mem.le_refl _,none,0,?_,?_⟩) (λhq=>?_)
 ·have hq:s.length ∉ t.e0 s 0:=by simpa using hq
  unfold ZbG;rw[if_neg (by simp[hw]),if_neg hq];rfl
 ·have hq:s.length ∉ t.e0 s 0:=by simpa using hq
  unfold ZbG;rw[if_neg (by simp[hw]),if_neg hq];exact .inl ⟨rfl,rfl⟩
 have hq:s.length∈t.e0 s 0:=by simpa using hq
 have hX:ZbG t s=((Znb t s).1,0):=by unfold ZbG;rw[if_neg (by simp[hw]),if_pos hq]
 have rE:=ZsA fb kb n sa s sc pa pc t.ngr _ n (Nat.lt_succ_self _) (Zc8 n) 0 hM.num (by rw[hM.tr];omega) 0 s.length (by omega) (by rw[hM.tr];exact hq) m4 _ eO
 rw[hM.tr]at rE
 refine ZwR rE (λx hx=>?_) Zeg ?_
 ·obtain⟨q1,_,q3⟩:=ZfX hM gR bH (cP 0 _ rfl) x hx
  exact⟨q1,(eO.zin x hx).2.1,q3⟩
 rintro z m5 c9 _ ⟨_,hh,jB⟩
 have wP:m.le m5:=Zko tU (λx hx=>(ZfX hM gR bH (cP 0 _ rfl) x hx).1) c9
 refine Zaa rfl (Zaa rfl ⟨_,c9.c _ _ _ eO.parts,m5,wP,Mem.le_refl _,pa,pc,?_,?_⟩) <;> rw[hX]
 ·rw[ZnU]
 ·exact jB
theorem Zt6(t:T)(sa:Option Addr)(s:List Nat)(sc:Nat)(m:Mem)(hr:Rep m t)(hb:ZcV t s.length=0->t.k=5->Byt m sa s):CX Tryz.prog 24 #[t.v,.slice sa s.length sc] m [] (Ret (.tuple #[.int .i64 ((ZtE t s).1:Nat),.int .i64 (ZtE t s).2])):=by
 unfold T.v
 apply ZjE
 unfold Zgz
 intro b m1 bH cP lC _
 refine⟨_,trivial,ZsC t sa s sc m1 (hr.mono bH),Zjh,?_⟩
 rintro v v1 e m2 bL hR
 have gU:=mLt bH bL
 unfold ZwQ at hR
 rcases hR with⟨hw,hv⟩|⟨hw,fb,kb,n,pa,pc,hv,hM⟩
 ·simp only[Value.tuple.injEq,Array.mk.injEq,List.cons.injEq,Value.int.injEq,true_and,and_true]at hv
  obtain⟨rfl,rfl,rfl⟩:=hv
  refine ZjJ (by simpa using hw) ⟨m2,gU,Mem.le_refl _,?_⟩
  unfold Ret ZtE;rw[if_pos hw];rfl
 simp only[Value.tuple.injEq,Array.mk.injEq,List.cons.injEq,Value.int.injEq,true_and,and_true]at hv
 obtain⟨rfl,rfl,rfl⟩:=hv
 refine ZiP (by simp) (Zab (λhk=>⟨m2,gU,Mem.le_refl _,?_⟩) (λhk=>?_))
 ·have hk:t.k≠5:=by simpa using hk
  unfold Ret ZtE;rw[if_neg (by simp[hw]),if_pos hk];rfl
 have hk:t.k=5:=by simpa using hk
 have gR:=(hb hw hk).mono bH
 have cW:=hM.st gR
 have jA:=ZbV (d:=0) (i:=0) (cW.wk.fin.good n (Zc8 n)) cW.wk.fin.len (by omega)
 rw[Za3,hM.tr]at jA
 refine ZwR (Zjg fb kb (Zp kb pa) n sa s sc n (Zc8 n) 0 0 (by omega) (by omega) (λ_=>Nat.zero_le _) m2 cW.wk) (λx hx=>ZfX hM gR bH (cP 0 _ rfl) x (.inl hx)) Zbd ?_
 rintro a nn c m3 bX _ ⟨a',c',hv,bG,dI⟩
 rw[Za3,hM.tr]at hv bG
 obtain⟨rfl,rfl,rfl⟩:a=a'/\nn=(t.e0 s 0).length/\c=c':=by simpa using hv
 have lS:m.le m3:=Zko gU (λx hx=>(ZfX hM gR bH (cP 0 _ rfl) x (.inl hx)).1) bX
 have dV:=cW.step bX dI
 refine⟨_,trivial,Zee _ a c s.length m3 (bG.mono (Mem.off_le _ _)) (by omega),λv m' css h=>by unfold Ret at h;rw[h];rfl,?_⟩
 rintro bb m4 cA hR
 obtain rfl:bb=decide (s.length∈t.e0 s 0):=by simpa[Ret]using hR
 have eO:=dV.le cA
 have tU:=mLt lS cA
 refine Zab (λhq=>⟨m4,tU,Mem.le_refl _,?_⟩) (λhq=>?_)
 ·have hq:s.length ∉ t.e0 s 0:=by simpa using hq
  unfold Ret ZtE;rw[if_neg (by simp[hw]),if_neg (by simp[hk]),if_neg hq];rfl
 have hq:s.length∈t.e0 s 0:=by simpa using hq
 have rE:=ZsA fb kb n sa s sc pa pc t.ngr _ n (Nat.lt_succ_self _) (Zc8 n) 0 hM.num (by rw[hM.tr];omega) 0 s.length (by omega) (by rw[hM.tr];exact hq) m4 _ eO
 rw[hM.tr]at rE
 refine ZwR rE (λx hx=>?_) Zeg ?_
 ·obtain⟨q1,_,q3⟩:=ZfX hM gR bH (cP 0 _ rfl) x hx
  exact⟨q1,(eO.zin x hx).2.1,q3⟩
 rintro z m5 c9 _ ⟨hz,hh,jB⟩
 have wP:m.le m5:=Zko tU (λx hx=>(ZfX hM gR bH (cP 0 _ rfl) x hx).1) c9
 obtain rfl:z=((Znb t s).2:Nat):=by simpa[Znb,noP]using hz
 refine⟨m5,wP,Mem.le_refl _,?_⟩
 unfold Ret ZtE;rw[if_neg (by simp[hw]),if_neg (by simp[hk]),if_pos hq]
def mkS(l:List Nat):ByteArray:=⟨(l.map UInt8.ofNat).toArray⟩
theorem Zrf{l:List Nat}(h:∀c∈l,c < 256):Zb2 (mkS l)=l:=by
 unfold Zb2 mkS
 simp only[List.map_map]
 conv=>rhs;rw[<-List.map_id l]
 refine List.map_congr_left λc hc=>?_
 simp only[Function.comp,id]
 rw[UInt8.toNat_ofNat']
 exact Nat.mod_eq_of_lt (h c hc)
theorem ZsF(l:List Nat):(mkS l).size=l.length:=by
 unfold mkS ByteArray.size
 simp
theorem ZsG{m:Mem}{a:Option Addr}{l:List Nat}(h:Byt m a l):rowRd m a (ZaI (mkS l)):=by
 rw[Zkk,Zrf h.2]
 rcases h.1 with h|⟨b,o,h1,h2⟩
 ·subst h;exact .inl rfl
 ·exact .inr ⟨b,o,h1,h2⟩
theorem Zvk{m:Mem}{a:Option Addr}{s:List Nat}(h:Byt m a s)(i n c:Nat)(hc:s.length<=c)(hn:n<=s.length)(hi:i<=n):Byt m (Za0 a i c 1) ((s.take n).drop i):=by
 refine⟨?_,λx hx=>h.2 x (List.mem_of_mem_take (List.mem_of_mem_drop hx))⟩
 by_cases e:i=n
 ·left
  rw[List.drop_eq_nil_of_le (by rw[List.length_take];omega)]
 rcases h.1 with hs|⟨b,o,rfl,hr⟩
 ·subst hs;left;simp
 ·refine .inr ⟨b,o+i,?_,λj v hj=>?_⟩
  ·unfold Za0
   cases i with
   | zero=>rfl
   | succ i=>
    have e1:Nat.beq (i+1) 0=false:=rfl
    have e2:Nat.beq c (i+1)=false:=by
     cases hb:Nat.beq c (i+1)with
     | false=>rfl
     | true=>have:=Nat.eq_of_beq_eq_true hb;omega
    rw[e1,e2]
    show some (Addr.add _ ((i+1)*1))=_
    rw[ZbT,Nat.mul_one]
  ·have bF:=(List.getElem?_eq_some_iff.1 hj).1
   simp only[List.length_map,List.length_drop,List.length_take]at bF
   rw[List.getElem?_map,List.getElem?_drop,List.getElem?_take_of_lt (by omega),<-List.getElem?_map]at hj
   rw[Nat.add_assoc];exact hr _ _ hj
theorem ZBq(x:Int):(if(0:Int) > x then 0 else x)=((x.toNat:Nat):Int):=by split <;> omega
def ZwS(l:List Nat):Value:=.string (mkS l)
def ZAE(t:T)(s:List Nat):RT:=λv m' _=>∃a c,v=.tuple #[.slice a (ZwY t s).1.length c,.int .i64 (ZwY t s).2]/\rowRd m' a ((ZwY t s).1.map ZwS)
theorem ZpT(t:T)(sa:Option Addr)(s:List Nat)(sc:Nat)(m:Mem)(hr:Rep m t)(hb:ZcV t s.length=0->Byt m sa s)(sm:s.length<=sc):CX Tryz.prog 25 #[t.v,.slice sa s.length sc] m [] (ZAE t s):=by
 unfold T.v
 apply ZhS
 unfold ZeU
 intro b m1 bH cP
 refine⟨_,trivial,ZsE t sa s sc m1 (hr.mono bH) (λh=>(hb h).mono bH),λv m' css ⟨_,_,h,_⟩=>by rw[h];rfl,?_⟩
 rintro a n c e m2 bL ⟨a',c',hv,jB⟩
 simp only[Value.tuple.injEq,Array.mk.injEq,List.cons.injEq,Value.int.injEq,Value.slice.injEq,true_and,and_true]at hv
 obtain⟨⟨rfl,rfl,rfl⟩,rfl⟩:=hv
 have gU:=mLt bH bL
 refine Zab (λhq=>⟨m2,gU,Mem.le_refl _,none,0,?_,?_⟩) (λhq=>?_)
 ·have hq:(ZbG t s).2≠0:=by simpa using hq
  unfold ZwY;rw[if_pos hq];rfl
 ·have hq:(ZbG t s).2≠0:=by simpa using hq
  unfold ZwY;rw[if_pos hq];exact .inl rfl
 have hq:(ZbG t s).2=0:=by simpa using hq
 have hX:ZwY t s=(s::(ZbG t s).1.map (ZwX s),0):=by unfold ZwY;rw[if_neg (by simp[hq])]
 obtain⟨P,wQ⟩:∃P,P=(ZbG t s).1:=⟨_,rfl⟩
 have rF:∀p∈P,Zeq s.length p:=wQ ▸ ZuZ
 have Av:P.length<=1000:=by
  rw[wQ];unfold ZbG
  split
  ·simp
  ·rename_i hw
   split
   ·simp only;rw[ZnU]
    have hc:=(Zr2 (Classical.not_not.1 hw)).1
    have:=(Zb1 hc).2
    have:t.ngr<=t.nodes.length:=by rw[Zim];exact List.countP_le_length
    omega
   ·simp
 rw[<-wQ]at jB hX ⊢
 have Aw:ZcV t s.length=0:=by
  unfold ZbG at hq
  by_cases hw:ZcV t s.length=0
  ·exact hw
  ·rw[if_pos hw]at hq;exact hq
 have eA:=(hb Aw).mono gU
 refine⟨mkS s,ZsF s,ZsG eA,λb1 kH=>⟨λxs css tvs m' q=>∃(j:Nat)(a4:Option Addr)(c4:Nat)(a5:Option Addr)(n5 c5:Nat),j<=P.length/\xs=[.slice a4 (j+1) c4,.int .i64 (j:Nat)]/\tvs=[.slice a5 n5 c5]/\((a5=a4/\n5=j+1/\c5=c4)\/c4 < j+2)/\rowRd m' a4 ((s::(P.take j).map (ZwX s)).map ZwS)/\q=P.length - j,⟨_,0,_,1,none,0,0,by omega,rfl,rfl,.inr (by omega),.inr ⟨b1,0,rfl,λj v hj=>by rw[Nat.zero_add,Mem.add_same];exact hj⟩,rfl⟩,?_⟩⟩
 rintro a4' n4' c4' y a5' n5' c5' m3 q bX ⟨j,a4,c4,a5,n5,c5,hj,cJ,fI,dB,bG,rfl⟩
 simp only[List.cons.injEq,Value.int.injEq,Value.slice.injEq,true_and,and_true]at cJ fI
 obtain⟨⟨rfl,rfl,rfl⟩,rfl⟩:=cJ
 obtain⟨rfl,rfl,rfl⟩:=fI
 have sk:m2.le m3:=mLt (Mem.le_add kH _) bX
 have kC:=eA.mono sk
 have kP:=jB.mono sk
 refine Zab (λbF=>?_) (λcR=>?_)
 ·have bI:j < P.length:=by have:=of_decide_eq_true bF;omega
  obtain⟨p,hp⟩:∃p,P[j]?=some p:=⟨_,List.getElem?_eq_getElem bI⟩
  have pE:=rF p (List.mem_of_getElem? hp)
  rcases kP with⟨h,_⟩|⟨pb,h1,h2,_⟩
  ·rw[h]at bI;simp at bI
  obtain⟨h3,h4⟩:=h2 j p hp
  have jS:p.2.toNat<=s.length:=by rcases pE with h|h;rw[h];exact Nat.zero_le _;omega
  have Ax:p.1.toNat<=p.2.toNat:=by rcases pE with h|h;rw[h];exact Nat.le_refl _;omega
  refine⟨pb,0,h1,⟨by omega,by omega⟩,.int .i64 p.1,.int .i64 p.2,?_,λb3=>Zaa rfl (Zaa rfl (Zaa rfl ?_))⟩
  ·intro i v hi
   have bF:i < 2:=(List.getElem?_eq_some_iff.1 hi).1
   rw[Nat.zero_add,Int.toNat_natCast]
   have:i=0\/i=1:=by omega
   rcases this with rfl|rfl <;> (cases hi;assumption)
  ·have e1:(if(0:Int) > RowKit.intOf (.int .i64 p.1)then 0 else RowKit.intOf (.int .i64 p.1))=((p.1.toNat:Nat):Int):=ZBq p.1
   have e2:(if(0:Int) > RowKit.intOf (.int .i64 p.2)then 0 else RowKit.intOf (.int .i64 p.2))=((p.2.toNat:Nat):Int):=ZBq p.2
   rw[e1,e2]
   refine⟨⟨by omega,by omega⟩,⟨by omega,by rw[Int.toNat_natCast];omega⟩,mkS (ZwX s p),?_,by rw[Int.toNat_natCast];exact ZsG (Zvk kC _ _ sc sm jS Ax),λb4 wR=>⟨?_,(s::(P.take j).map (ZwX s)).map ZwS,[ZwS (ZwX s p)],?_,rfl,bG.mono (Mem.le_add wR _),.inr ⟨b4,0,rfl,λj v hj=>by rw[Nat.zero_add,Mem.add_same];exact hj⟩,?_,by omega,by omega,λa6 c6 m6 fE tV=>⟨rfl,_,?_,j+1,a6,c6,a6,j+1+1,c6,by omega,by rw[wr1 (show j<=1000000000000000 by omega)],rfl,.inl ⟨rfl,rfl,rfl⟩,?_,rfl⟩⟩⟩
   ·rw[ZsF,Int.toNat_natCast,Int.toNat_natCast];unfold ZwX;rw[List.length_drop,List.length_take];omega
   ·rcases dB with⟨rfl,rfl,rfl⟩|h
    ·exact .inl rfl
    ·exact .inr (.inr (by omega))
   ·simp;omega
   ·intro u hu
    obtain rfl:u=ZwS (ZwX s p):=by simpa using hu
    rfl
   ·omega
   ·have e:(s::(P.take (j+1)).map (ZwX s)).map ZwS=(s::(P.take j).map (ZwX s)).map ZwS++[ZwS (ZwX s p)]:=by
     rw[ZbZ hp];simp
    rw[e];exact tV
 ·have:j=P.length:=by have:=of_decide_eq_false cR;omega
  subst this
  rw[List.take_length]at bG
  refine⟨m3,mLt gU sk,Mem.le_refl _,a4',c4',?_,?_⟩ <;> rw[hX]
  ·simp
  ·exact bG
def IsE(E:T):Value->Mem->List (List Value)->Prop:=ZfG λt=>t.er=E
theorem ZaB{E:T}:∀(v:Value)(m':Mem) (css:List (List Value)),IsE E v m' css->Shape.fits (.agg [.int .u8,.int .u64,.int .u64,.int .u64,.int .u64,.int .i64,.int .i64,.slice]) v=true:=Zbw
theorem ZgI{E:T}{m:Mem}{K:TRK}(k:∀(t:T)(m':Mem),m.le m'->Rep m' t->t.er=E->K t.k t.s0 t.s1 t.s2 t.s3 t.mn t.mx t.a t.subs.length t.c m'):
  ∀(n0 n1 n2 n3 n4 n5 n6:Int)(a:Option Addr)(n c:Nat)(m':Mem),m.le m'->IsE E (.agg #[.int .u8 n0,.int .u64 n1,.int .u64 n2,.int .u64 n3,.int .u64 n4,.int .i64 n5,.int .i64 n6,.slice a n c]) m' []->K n0 n1 n2 n3 n4 n5 n6 a n c m':=
 ZfH λt m' hm hr h=>k t m' hm hr h
theorem ZhG(c:Nat)(hc:c < 256)(m:Mem):CX Tryz.prog 18 #[.int .u8 c] m [] (IsE (Zd6 c)):=by
 apply ZiH
 unfold ZfW
 intro b b1
 have hq:IntKind.u8.wrap (Int.tdiv (c:Int) 64)=((c / 64:Nat):Int):=by rw[Zyd];exact Zz5 (by omega) (by omega)
 have hr:IntKind.u64.wrap (1*2 ^ min (Int.toNat (Int.tmod (c:Int) 64)) 64)=((2 ^ (c % 64):Nat):Int):=by
  rw[Zsv,Int.toNat_natCast,Nat.min_eq_left (by omega),Int.one_mul]
  have:=ZwM (2 ^ (c % 64)) (by
   have:2 ^ (c % 64) < 2 ^ 64:=Nat.pow_lt_pow_right (by omega) (by omega)
   exact this)
  rw[<-this];push_cast;rfl
 simp only[hq,hr,Int.toNat_natCast,Nat.zero_add,Nat.mul_one]
 have hL:(Value.agg #[.int .u8 2,.int .u64 (Zmn c 0),.int .u64 (Zmn c 1),.int .u64 (Zmn c 2),.int .u64 (Zmn c 3),.int .i64 0,.int .i64 0,.slice none 0 0])=(Zd6 c).v:=rfl
 refine⟨by omega,by omega,by rw[Zsv];omega,⟨by omega,by omega⟩,Zaa (by rw[Nat.ble_eq];omega) ?_⟩
 have:c / 64=0\/c / 64=1\/c / 64=2\/c / 64=3:=by omega
 rcases this with e|e|e|e <;>
 ·rw[e]
  refine Zaa rfl (Zaa rfl (Zaf (Mem.le_refl _) ⟨Zd6 c,?_,ZqR c m,rfl⟩))
  rw[<-hL]
  unfold Zmn
  rw[e]
  rfl
theorem ZlD{k mn mx:Int}{a:Option Addr}{c:Nat}{l:List T}{E:List T}(h:l.map T.er=E):(Zas k mn mx a c l).er=Zas k mn mx none 0 E:=by
 unfold Zas;simp only[T.er];rw[Zo8,h]
theorem Zgj(a:Option Addr)(c:Nat)(l E:List T)(m:Mem)(hl:RepL m a l)(hE:l.map T.er=E):CX Tryz.prog 19 #[.slice a l.length c] m [] (IsE (Zas 3 0 0 none 0 E)):=by
 apply Znt
 unfold ZiI
 intro b
 exact Zaf (Mem.le_refl _) ⟨Zas 3 0 0 a c l,rfl,Zbk hl (by omega) (by omega) (by omega),ZlD hE⟩
theorem ZdJ(a:Option Addr)(c:Nat)(l E:List T)(m:Mem)(hl:RepL m a l)(hE:l.map T.er=E):CX Tryz.prog 22 #[.slice a l.length c] m [] (IsE (Zas 4 0 0 none 0 E)):=by
 apply Znv
 unfold ZiK
 intro b
 exact Zaf (Mem.le_refl _) ⟨Zas 4 0 0 a c l,rfl,Zbk hl (by omega) (by omega) (by omega),ZlD hE⟩
theorem Zbe(t E:T)(m:Mem)(hr:Rep m t)(hE:t.er=E):CX Tryz.prog 21 #[t.v] m [] (IsE (Zas 6 0 0 none 0 [E])):=by
 apply ZjG
 unfold ZgB
 intro b m1 bH _ b1 b2 hf
 have cF:=Mem.le_add hf t.cs
 refine Zhs (mLt bH cF) ⟨Zas 6 0 0 (some ⟨b2,0,none⟩) 1 [t],rfl,Zbk (Zi9 ?_ (hr.mono (mLt bH cF))) (by omega) (by omega) (by omega),ZlD (by rw[<-hE];rfl)⟩
 intro j v hj
 rw[Nat.zero_add,Mem.add_same];exact hj
theorem Zgk(t E:T)(mn mx:Int)(h1 : -9223372036854775808<=mn/\mn<=9223372036854775807)(h2 : -9223372036854775808<=mx/\mx<=9223372036854775807)(m:Mem)(hr:Rep m t)(hE:t.er=E):CX Tryz.prog 20 #[t.v,.int .i64 mn,.int .i64 mx] m [] (IsE (Zas 5 mn mx none 0 [E])):=by
 apply Znu
 unfold ZiJ
 intro b m1 bH _ b1 b2 hf
 have cF:=Mem.le_add hf t.cs
 refine Zhs (mLt bH cF) ⟨Zas 5 mn mx (some ⟨b2,0,none⟩) 1 [t],rfl,Zbk (Zi9 ?_ (hr.mono (mLt bH cF))) (by omega) h1 h2,ZlD (by rw[<-hE];rfl)⟩
 intro j v hj
 rw[Nat.zero_add,Mem.add_same];exact hj
def plV(P:PL):List Value:=P.flatMap λp=>[.int .i64 p.1,.int .i64 p.2]
theorem ZsH(a b a' b':Int):EqIs Tryz.prog 51 (.agg #[.int .i64 a,.int .i64 b]) (.agg #[.int .i64 a',.int .i64 b']) (a == a'&&b == b'):=by
 refine⟨λw=>?_,λop ox oy w=>Zer (by kernel_rfl) op ox oy _ _ w⟩
 have u3:=Tryz.underlying3
 have a3:=Tryz.isAgg3
 have z3:=Tryz.sizeOf3
 rw[Op.equal,Op.maxDepth,show(10000:Nat)=9999+1 from rfl]
 rw[run_equalIn_agg _ _ _ _ _ (by kernel_rfl) (by kernel_rfl)]
 have hf:(Tryz.prog.fieldsOf 51).toList=[⟨ "From",3,0,false, "", "",0⟩,⟨ "To",3,1,false, "", "",8⟩]:=by kernel_rfl
 rw[hf]
 go_simp
 by_cases h1:a=a' <;> by_cases h2:b=b' <;> simp[h1,h2]
theorem Zt7:∀(P:PL)(q:Nat)(p:Int×Int),P[q]?=some p->(plV P)[q*2]?=some (.int .i64 p.1)/\(plV P)[q*2+1]?=some (.int .i64 p.2):=λP=>by
 induction P with
 | nil=>intro q p hq;simp at hq
 | cons p0 P ih=>
  intro q p hq
  cases q with
  | zero=>simp at hq;subst hq;exact⟨rfl,rfl⟩
  | succ q=>
   have:=ih q p (by simpa using hq)
   rw[show(q+1)*2=q*2+2 by omega]
   exact this
theorem ZlE(P Q:PL)(a b:Option Addr)(c d:Nat)(m:Mem)(hp:rowRd m a (plV P))(hq:rowRd m b (plV Q))(hl:P.length<=1000000):CX Tryz.prog 23 #[.slice a P.length c,.slice b Q.length d] m [] (Ret (.bool (P == Q))):=by
 apply Zbz
 unfold Za2
 refine Zab (λcT=>Zaf (Mem.le_refl _) ?_) (λheq=>?_)
 ·have:P≠Q:=λe=>by subst e;simp at cT
  unfold Ret;rw[beq_eq_false_iff_ne.2 this]
 have bO:P.length=Q.length:=by
  have:(P.length:Int)=(Q.length:Int):=by simpa using heq
  omega
 refine⟨λxs css tvs m' q=>∃j:Nat,j<=P.length/\xs=[.int .i64 (j:Nat)]/\P.take j=Q.take j/\q=P.length - j,⟨_,0,by omega,rfl,rfl,rfl⟩,?_⟩
 rintro y m1 q bH ⟨j,hj,cJ,jR,rfl⟩
 obtain rfl:y=j:=by simpa using cJ
 have two:∀(P:PL)(a:Option Addr)(p:Int×Int),rowRd m a (plV P)->P[j]?=some p->∃b o,a=some ⟨b,o,none⟩/\m1.reads b (o+j*2) [.int .i64 p.1,.int .i64 p.2]:=λP a p h hj=>by
  obtain⟨g1,g2⟩:=Zt7 P j p hj
  rcases h with h|⟨b,o,h1,h2⟩
  ·rw[h]at g1;simp at g1
  ·refine⟨b,o,h1,λi v hi=>?_⟩
   have h3:=h2 _ _ g1
   have h4:=h2 _ _ g2
   have bF:i < 2:=(List.getElem?_eq_some_iff.1 hi).1
   have:i=0\/i=1:=by omega
   rcases this with rfl|rfl
   ·cases hi;exact bH.c _ _ _ h3
   ·cases hi;rw[Nat.add_assoc];exact bH.c _ _ _ h4
 refine Zab (λbF=>?_) (λcR=>Zaf bH ?_)
 ·have bI:j < P.length:=by have:=of_decide_eq_true bF;omega
  obtain⟨p,uA⟩:∃p,P[j]?=some p:=⟨_,List.getElem?_eq_getElem bI⟩
  obtain⟨r,iM⟩:∃p,Q[j]?=some p:=⟨_,List.getElem?_eq_getElem (by omega)⟩
  obtain⟨b1,o1,e1,r1⟩:=two P a p hp uA
  obtain⟨b2,o2,e2,r2⟩:=two Q b r hq iM
  rw[wr1 (by omega)]
  refine⟨b1,o1,e1,⟨by omega,by omega⟩,.int .i64 p.1,.int .i64 p.2,by rw[Int.toNat_natCast];exact r1,b2,o2,e2,⟨by omega,by omega⟩,.int .i64 r.1,.int .i64 r.2,by rw[Int.toNat_natCast];exact r2,_,ZsH _ _ _ _,Zab (λhc=>Zaf bH ?_) (λhc=>⟨P.length - (j+1),by omega,j+1,by omega,rfl,?_,rfl⟩)⟩
  ·unfold Ret
   rw[beq_eq_false_iff_ne.2 λe=>?_]
   subst e
   rw[uA]at iM;cases iM
   simp at hc
  ·rw[ZbZ uA,ZbZ iM,jR]
   have:p=r:=by
    have h2:p.1=r.1/\p.2=r.2:=by simpa using hc
    exact Prod.ext h2.1 h2.2
   rw[this]
 ·have:j=P.length:=by have:=of_decide_eq_false cR;omega
  subst this
  rw[List.take_length,bO,List.take_length]at jR
  unfold Ret
  rw[jR];simp
def eN(k mn mx:Int)(l:List T):T:=Zas k mn mx none 0 l
end Go.Proofs.YtgclajkldphoaaaGreat