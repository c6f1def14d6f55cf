/- Part of the proof: conditions and contracts of functions of this program. No condition of its own. -/
import Derived.Test.YtgclajkldphoaaaMr
import Derived.Test.YtgclajkldphoaaaPVSC
import Derived.Test.YtgclajkldphoaaaPC14W
import Derived.Test.YtgclajkldphoaaaPEnv
import Derived.Test.YtgclajkldphoaaaMc
import Derived.Test.YtgclajkldphoaaaPC13S
set_option linter.unusedVariables false
set_option linter.unusedSimpArgs false
set_option linter.unusedSectionVars false
namespace Go.Proofs.Ytgclajkldphoaaa
open Go Go.Eng Go.Rx Go.Proofs Go.RowKit
set_option maxRecDepth 100000
theorem ZpR(m:Mem):CX Try.prog 21 #[] m [] (λv _ _=>v=.agg #[.int .i64 (-1),.int .i64 (-1)]):=by
 apply Zny
 unfold ZiO
 intro b
 exact⟨m,Mem.le_refl _,Mem.le_refl _,rfl⟩
def noP:Int×Int:=(-1,-1)
def kE(t:T):Nat:=if t.k=6 then 1 else 0
def ZBb(kb:Nat)(es:List (Value×Value))(k0:Nat)(t:T)(pa:Option Addr)(P:PL)(f0 f3:Value)(m:Mem):RTY:=λv m' css tvs=>∃(n:Nd)(pa':Option Addr)(pc':Nat),v=.pointer (some ⟨n.b,0,none⟩)/\n.t=t/\NRep (m'.off (Zp kb pa')) n/\n.num P.length/\n.idn k0/\
 css=[[f0,.int .i64 ((k0+t.nodes.length:Nat):Int),.slice pa' (P.length+t.ngr) pc',f3]]/\tvs=[.slice pa' (P.length+t.ngr) pc']/\PtAt m' pa' (P++List.replicate t.ngr noP)/\NewP m pa pa'/\m'.k kb=some es
def ZA4(fb kb:Nat)(es:List (Value×Value))(t:T):Prop:=∀(k0:Nat)(pa:Option Addr)(pc:Nat)(P:PL)(f0 f3:Value)(m:Mem),Rep (m.off (Zp kb pa)) t->m.k kb=some es->(∀b,pa=some ⟨b,0,none⟩->b≠kb)->PtAt m pa P->k0+t.nodes.length<=1000000->P.length+t.ngr<=1000000->
 CXY Try.prog 69 #[.pointer (some ⟨fb,0,none⟩),t.v] m (λb=>pa=some ⟨b,0,none⟩) [⟨fb,[f0,.int .i64 (k0:Nat),.slice pa P.length pc,f3],92,4,false,true⟩] [⟨.slice pa P.length pc,2⟩] (ZBb kb es k0 t pa P f0 f3 m)
theorem Zt2{m M m4:Mem}{pa a4:Option Addr}{P:PL}{n c:Nat}{x y:Int}(h:PtAt m pa P)(hm:m.le m4)(bG:rowRd m4 a4 ((P.flatMap λp=>[.int .i64 p.1,.int .i64 p.2])++[.int .i64 x,.int .i64 y]))(hf:TokFact M pa a4 n c):PtAt m4 a4 (P++[(x,y)]):=by
 rcases bG with bG|⟨b,o,ha,cK⟩
 ·simp at bG
 obtain⟨_,hf⟩:=hf
 rcases hf with hf|⟨b',o',ha',hf⟩
 ·rw[ha]at hf;cases hf
 rw[ha]at ha';cases ha'
 have ho:o=0:=by
  rcases hf with hf|⟨ho,_⟩
  ·have hf:pa=some ⟨b,o,none⟩:=hf.trans ha
   rcases h with⟨_,h⟩|⟨b2,h1,_⟩
   ·rw[h]at hf;cases hf
   ·rw[h1]at hf;cases hf;rfl
  ·exact ho
 subst ho
 have e:(P.flatMap λp=>[Value.int .i64 p.1,.int .i64 p.2])++[.int .i64 x,.int .i64 y]=(P++[(x,y)]).flatMap λp=>[Value.int .i64 p.1,.int .i64 p.2]:=by simp
 rw[e]at cK
 have at2:∀(P:PL)(q:Nat)(p:Int×Int),P[q]?=some p->(P.flatMap λp=>[Value.int .i64 p.1,.int .i64 p.2])[q*2]?=some (.int .i64 p.1)/\(P.flatMap λp=>[Value.int .i64 p.1,.int .i64 p.2])[q*2+1]?=some (.int .i64 p.2):=λP=>by
  induction P with
  | nil=>intro q p hq;simp at hq
  | cons p0 P ih=>
   intro q p hq
   cases q with
   | zero=>simp at hq;subst hq;exact⟨rfl,rfl⟩
   | succ q=>
    have:=ih q p (by simpa using hq)
    rw[show(q+1)*2=q*2+2 by omega]
    exact this
 refine .inr ⟨b,ha,λq p hq=>?_,by simp⟩
 obtain⟨h1,h2⟩:=at2 _ q p hq
 have:=cK _ _ h1
 have h3:=cK _ _ h2
 rw[Nat.zero_add]at this h3
 exact⟨this,h3⟩
theorem ZlM{m:Mem}{pa:Option Addr}{P:PL}(h:PtAt m pa P):rowRd m pa (P.flatMap λp=>[.int .i64 p.1,.int .i64 p.2]):=by
 rcases h with⟨h,_⟩|⟨b,h1,h2,h3⟩
 ·subst h;exact .inl rfl
 ·refine .inr ⟨b,0,h1,?_⟩
  have key:∀(P:PL)(o:Nat),(∀q p,P[q]?=some p->m b (o+q*2)=some (.int .i64 p.1)/\m b (o+(q*2+1))=some (.int .i64 p.2))->m.reads b o (P.flatMap λp=>[.int .i64 p.1,.int .i64 p.2]):=λP=>by
   induction P with
   | nil=>intro o _ j v hj;simp at hj
   | cons p0 P ih=>
    intro o hp j v hj
    match j,hj with
    | 0,hj=>cases hj;exact(hp 0 p0 rfl).1
    | 1,hj=>cases hj;exact(hp 0 p0 rfl).2
    | j+2,hj=>
     have:=ih (o+2) (λq p hq=>by
      have:=hp (q+1) p (by simpa using hq)
      rwa [show o+(q+1)*2=o+2+q*2 by omega,show o+((q+1)*2+1)=o+2+(q*2+1) by omega]at this) j v hj
     rwa [show o+(j+2)=o+2+j by omega]
  exact key P 0 λq p hq=>by rw[Nat.zero_add,Nat.zero_add];exact h2 q p hq
theorem Zwj{M m4:Mem}{pa a4:Option Addr}{n c:Nat}(hf:TokFact M pa a4 n c):NewP M pa a4:=λb hb=>by
 obtain⟨_,hf⟩:=hf
 rcases hf with hf|⟨b',o',ha',hf⟩
 ·rw[hb]at hf;cases hf
 rw[hb]at ha';cases ha'
 rcases hf with hf|⟨_,h1,h2⟩
 ·exact .inl hf
 ·exact .inr ⟨h1,h2⟩
theorem ZBh(fb kb:Nat)(es:List (Value×Value))(t:T)(ih:∀x∈t.subs,ZA4 fb kb es x):ZA4 fb kb es t:=by
 intro k0 pa pc P f0 f3 m cX eD lS jB rv hP
 have bV:=(ZdM cX)
 have nX:t.nodes.length=(Zak t.subs).length+1:=by rw[Zbk];rfl
 have pR:t.ngr=kE t+ZdO t.subs:=Zxw t
 unfold T.v
 apply Zd4
 unfold ZcV
 intro b m1 bH hb lM _ iJ
 have rW:=jB.mono bH
 have iZ:=bH.k _ _ eD
 have fQ:IntKind.i64.wrap ((k0:Int)+1)=((k0+1:Nat):Int):=wr1 (by omega)
 have gN:=ZlM rW
 have uf:∀P:PL,(P.flatMap λp=>[Value.int .i64 p.1,.int .i64 p.2]).length=P.length*2:=λP=>by
  induction P with
  | nil=>rfl
  | cons p P ih=>simp only[List.flatMap_cons,List.length_append,List.length_cons,List.length_nil,ih];omega
 have rel0:∀{M:Mem} {pa1:Option Addr},m.le M->NewP m pa pa1->(m.off (Zp kb pa)).le (M.off (Zp kb pa1)):=λhM hN=>ZuH (mLt (Mem.off_le _ _) hM) hN
 refine⟨rfl,λnb=>⟨rfl,rfl,by omega,λxs css tvs M=>∃(pa1:Option Addr)(pc1:Nat),css=[[.int .u8 t.k,.int .u64 t.s0,.int .u64 t.s1,.int .u64 t.s2,.int .u64 t.s3,.int .i64 t.mn,.int .i64 t.mx,.slice t.a t.subs.length t.c,.int .i64 (k0:Nat),.int .i64 ((if t.k=6 then P.length else 0:Nat):Int),.slice none 0 0],[f0,.int .i64 ((k0+1:Nat):Int),.slice pa1 (P.length+kE t) pc1,f3]]/\tvs=[.slice pa1 (P.length+kE t) pc1]/\PtAt M pa1 (P++List.replicate (kE t) noP)/\NewP m pa pa1/\m.le M,?_,?_⟩⟩
 ·refine Zab (λh6=>⟨rfl,?_⟩) (λh6=>⟨rfl,rfl,pa,pc,?_,?_,?_,.same,bH⟩)
  ·have pS:t.k=6:=by simpa using h6
   have pT:kE t=1:=by unfold kE;rw[if_pos pS]
   refine⟨λ_ _ _=>λv _ _=>v=.agg #[.int .i64 (-1),.int .i64 (-1)],rfl,_,rfl,ZpR m1,λv m' css h=>by rw[h];rfl,?_⟩
   rintro n1 n2 m2 bL hv b2 eB
   obtain⟨rfl,rfl⟩:n1=-1/\n2=-1:=by simpa using hv
   have fM:m1.le (m2.add b2 [.int .i64 (-1),.int .i64 (-1)]):=mLt bL (Mem.le_add eB _)
   refine⟨.inl rfl,(P.flatMap λp=>[.int .i64 p.1,.int .i64 p.2]),[.int .i64 (-1),.int .i64 (-1)],uf P,rfl,gN.mono fM,.inr ⟨b2,0,rfl,λj v hj=>by rw[Nat.zero_add,Mem.add_same];exact hj⟩,?_,by omega,by omega,λa4 c4 m4 bZ cO hf=>⟨rfl,by omega,λM _ _ _ hM=>⟨rfl,rfl,a4,c4,?_,?_,?_,?_,?_⟩⟩⟩
   ·intro u hu
    have:u=.int .i64 (-1):=by simpa using hu
    rw[this];rfl
   ·rw[fQ,if_pos pS,pT]
   ·rw[pT]
   ·rw[pT]
    exact(Zt2 rW (mLt fM bZ) cO hf).mono hM
   ·intro b' hb'
    rcases Zwj (m4:=m4) hf b' hb' with h|⟨h1,h2⟩
    ·exact .inl h
    ·have hl:=mLt bH fM
     refine .inr ⟨ZpK hl h1,?_⟩
     cases he:m.k b' with
     | none=>rfl
     | some e=>rw[hl.k _ _ he]at h2;cases h2
   ·exact mLt bH (mLt fM (mLt bZ hM))
  ·have pS:t.k≠6:=by simpa using h6
   have pT:kE t=0:=by unfold kE;rw[if_neg pS]
   rw[fQ,if_neg pS,pT];rfl
  ·have pS:t.k≠6:=by simpa using h6
   have pT:kE t=0:=by unfold kE;rw[if_neg pS]
   rw[pT];rfl
  ·have pS:t.k≠6:=by simpa using h6
   have pT:kE t=0:=by unfold kE;rw[if_neg pS]
   rw[pT];simpa using rW
 rintro cs aw a n c m2 _ ⟨pa1,pc1,kY,pU,w4,qJ,bL⟩
 simp only[List.cons.injEq,and_true]at kY pU
 obtain⟨rfl,rfl⟩:=kY
 obtain⟨rfl,rfl,rfl⟩:a=pa1/\n=P.length+kE t/\c=pc1:=by simpa using pU
 refine⟨λxs css tvs M q=>∃(j:Nat)(L:List Nd)(sa2:Option Addr)(sc2:Nat)(pa':Option Addr)(pc':Nat),j<=t.subs.length/\xs=[.int .i64 (j:Nat)]/\
  css=[[.int .u8 t.k,.int .u64 t.s0,.int .u64 t.s1,.int .u64 t.s2,.int .u64 t.s3,.int .i64 t.mn,.int .i64 t.mx,.slice t.a t.subs.length t.c,.int .i64 (k0:Nat),.int .i64 ((if t.k=6 then P.length else 0:Nat):Int),.slice sa2 j sc2],[f0,.int .i64 ((k0+1+(Zak (t.subs.take j)).length:Nat):Int),.slice pa' (P.length+kE t+ZdO (t.subs.take j)) pc',f3]]/\
  tvs=[.slice sa2 j sc2,.slice pa' (P.length+kE t+ZdO (t.subs.take j)) pc']/\L.map Nd.t=t.subs.take j/\SubsAt M (Zp kb pa') sa2 L/\(∀x∈L,NRep (M.off (Zp kb pa')) x)/\Zxy L (P.length+kE t)/\ZyP L (k0+1)/\PtAt M pa' (P++List.replicate (kE t+ZdO (t.subs.take j)) noP)/\NewP m pa pa'/\(m.off (Zp kb pa)).le (M.off (Zp kb pa'))/\M.k kb=some es/\q=t.subs.length - j,
  ⟨_,0,[],none,0,a,c,by omega,rfl,rfl,rfl,rfl,.inl ⟨rfl,rfl⟩,by simp,trivial,trivial,w4,qJ,rel0 bL qJ,bL.k _ _ eD,rfl⟩,?_⟩
 rintro y cs cs2 a3 n3 c3 a4 n4 c4 m3 q _ ⟨j,L,sa2,sc2,pa',pc',hj,cJ,kY,pU,sM,ug,qK,yS,gZ,kZ,nY,lP,dY,rfl⟩
 obtain rfl:y=j:=by simpa using cJ
 simp only[List.cons.injEq,and_true]at kY
 obtain⟨rfl,rfl⟩:=kY
 obtain⟨⟨rfl,AP,rfl⟩,rfl,rfl,rfl⟩:(a3=sa2/\n3=j/\c3=sc2)/\a4=pa'/\n4=P.length+kE t+ZdO (t.subs.take j)/\c4=pc':=by simpa using pU
 obtain rfl:=AP.symm
 have yU:L.length=j:=by have:=congrArg List.length sM;simp at this;omega
 have qA:ZdO (t.subs.take j)<=ZdO t.subs:=ZuF
 have q7:(Zak (t.subs.take j)).length<=(Zak t.subs).length:=Zo8
 have AQ:Rep (m3.off (Zp kb a4)) t:=Rep.mono lP t cX
 have uh:=ZdM AQ
 refine Zab (λbF=>?_) (λcP=>?_)
 ·have bI:j < t.subs.length:=by have:=of_decide_eq_true bF;omega
  obtain⟨x,hx⟩:∃x,t.subs[j]?=some x:=⟨_,List.getElem?_eq_getElem bI⟩
  have gV:=List.mem_of_getElem? hx
  have w5:ZdO (t.subs.take (j+1))<=ZdO t.subs:=ZuF
  have w6:(Zak (t.subs.take (j+1))).length<=(Zak t.subs).length:=Zo8
  rw[Ziy hx]at w5
  rw[ZhG hx,List.length_append]at w6
  have CJ:j<=(Zak t.subs).length:=by
   have:∀l:List T,l.length<=(Zak l).length:=λl=>by
    induction l with
    | nil=>simp
    | cons x l ih=>
     simp only[Zak,List.length_append,List.length_cons]
     have:1<=x.nodes.length:=by rw[Zbk];simp
     omega
   have:=this t.subs
   omega
  rcases uh.2 with h|⟨b0,o,ha,iI⟩
  ·rw[h]at bI;simp at bI
  obtain⟨cK,eC⟩:=iI.get hx
  refine⟨b0,o,ha,⟨by omega,by omega⟩,.int .u8 x.k,.int .u64 x.s0,.int .u64 x.s1,.int .u64 x.s2,.int .u64 x.s3,.int .i64 x.mn,.int .i64 x.mx,.slice x.a x.subs.length x.c,by rw[Int.toNat_natCast];exact cK.mono (Mem.off_le _ _),λa1=>Zaa rfl (Zaw rfl ⟨λb=>a4=some ⟨b,0,none⟩,ZBb kb es (k0+1+(Zak (t.subs.take j)).length) x a4 (P++List.replicate (kE t+ZdO (t.subs.take j)) noP) f0 f3 m3,?_,?_,?_,?_,?_⟩)⟩
  ·have:=ih x gV (k0+1+(Zak (t.subs.take j)).length) a4 c4 (P++List.replicate (kE t+ZdO (t.subs.take j)) noP) f0 f3 m3 eC dY ?_ kZ (by omega) (by simp;omega)
   ·unfold T.v at this
    rw[show(P++List.replicate (kE t+ZdO (t.subs.take j)) noP).length=P.length+kE t+ZdO (t.subs.take j) by simp;omega]at this
    exact this
   ·intro b hb e
    subst e
    rcases nY b hb with h|⟨_,h⟩
    ·exact lS b (h.trans hb) rfl
    ·rw[eD]at h;cases h
  ·intro tk dC b' hb'
   obtain rfl:tk=_:=by simpa using dC
   rcases kZ with⟨_,h⟩|⟨b2,h,_⟩
   ·rw[h]at hb';simp[Tok.blk]at hb'
   ·rw[h]at hb'
    have:b2=b':=by simpa[Tok.blk]using hb'
    rw[h,this]
  ·intro b' hb'
   refine .inl ⟨_,List.mem_singleton.2 rfl,?_⟩
   rw[hb'];rfl
  ·rintro v m' css tvs ⟨n,_,_,h,_⟩;rw[h];rfl
  rintro pb po m4 bZ _ cs3 a5 n5 c5 ⟨n,pa2,pc2,hv,pD,rc,vf,tc,ui,uj,uk,qL,ul⟩ b5 sL
  rw[show(P++List.replicate (kE t+ZdO (t.subs.take j)) noP).length=P.length+kE t+ZdO (t.subs.take j) by simp;omega]at vf ui uj
  obtain⟨rfl,rfl⟩:pb=n.b/\po=0:=by simpa using hv
  obtain rfl:cs3=_:=by simpa using ui
  obtain⟨rfl,rfl,rfl⟩:a5=pa2/\n5=P.length+kE t+ZdO (t.subs.take j)+x.ngr/\c5=pc2:=by simpa using uj
  have rX:(m3.off (Zp kb a4)).le (m4.off (Zp kb a5)):=ZuH bZ qL
  have nZ:m4.le (m4.add b5 [.pointer (some ⟨n.b,0,none⟩)]):=Mem.le_add sL _
  have qM:=ug.next rX
  refine Zaa rfl ⟨.inl rfl,L.map (λx:Nd=>ptr x.b 0),[.pointer (some ⟨n.b,0,none⟩)],by simp[slN,yU],rfl,qM.row.mono nZ,.inr ⟨b5,0,rfl,λq v hq=>by rw[Nat.zero_add,Mem.add_same];exact hq⟩,?_,by simp only[slN];omega,by simp only[slN];omega,λa6 c6 m5 c9 bG hf=>Zaa rfl ⟨rfl,rfl,_,?_,j+1,L++[n],a6,c6,a5,c5,by omega,?_,?_,?_,?_,?_,?_,?_,?_,?_,?_,?_,?_,rfl⟩⟩
  ·intro u hu
   have:u=.pointer (some ⟨n.b,0,none⟩):=by simpa using hu
   rw[this];rfl
  ·omega
  ·rw[wr1 (by omega)]
  ·rw[Ziy hx,ZhG hx,List.length_append,<-Nat.add_assoc (P.length+kE t),<-Nat.add_assoc (k0+1)]
   rfl
  ·rw[Ziy hx,<-Nat.add_assoc (P.length+kE t)]
   rfl
  ·rw[List.map_append,sM,Zcf hx,<-pD];rfl
  ·
   have bG:rowRd m5 a6 ((L.map λx=>ptr x.b 0)++[ptr n.b 0]):=bG
   rcases bG with bG|⟨b6,o6,vg,w7⟩
   ·simp at bG
   obtain⟨_,hf⟩:=hf
   rcases hf with hf|⟨b',o',ha',hf⟩
   ·rw[vg]at hf;cases hf
   rw[vg]at ha';cases ha'
   have key:o6=0/\¬Zp kb a5 b6:=by
    rcases hf with hf|⟨ho,kP,mB⟩
    ·have hf:a3=some ⟨b6,o6,none⟩:=hf.trans vg
     rcases qM with⟨_,h⟩|⟨b2,h1,h2,_⟩
     ·rw[h]at hf;cases hf
     ·rw[h1]at hf;cases hf;exact⟨rfl,h2⟩
    ·obtain⟨g1,g2⟩:=ZiR (by simp) kP
     refine⟨ho,λhz=>?_⟩
     rcases hz with rfl|hz
     ·have mB:m4.k b6=none:=mB
      rw[ul]at mB;cases mB
     ·rcases uk with⟨_,h⟩|⟨b2,h,hc,cT⟩
      ·rw[h]at hz;cases hz
      ·rw[h]at hz;cases hz
       generalize (P++List.replicate (kE t+ZdO (t.subs.take j)) noP++List.replicate x.ngr noP)=PP at hc cT
       cases PP with
       | nil=>exact cT rfl
       | cons p l=>
        have:=(hc 0 p rfl).1
        rw[g2 _]at this;cases this
   obtain⟨rfl,AR⟩:=key
   exact .inr ⟨b6,vg,AR,λq v hq=>w7 q v (by simpa using hq),by simp⟩
  ·intro y hy
   have yV:(m4.off (Zp kb a5)).le (m5.off (Zp kb a5)):=Zgk (mLt nZ c9)
   rcases List.mem_append.1 hy with hy|hy
   ·exact NRep.mono (mLt rX yV) _ (qK y hy)
   ·obtain rfl:y=n:=by simpa using hy
    exact NRep.mono yV _ rc
  ·refine Zr5 yS ?_
   rw[sM];exact vf
  ·refine Zr6 gZ ?_
   rw[sM];exact tc
  ·rw[Ziy hx,<-Nat.add_assoc]
   have:=uk.mono (mLt nZ c9)
   rwa [List.append_assoc,List.replicate_append_replicate]at this
  ·exact nY.trans qL lP ⟨es,dY⟩
  ·exact mLt lP (mLt rX (Zgk (mLt nZ c9)))
  ·exact(mLt nZ c9).k _ _ ul
 ·have:j=t.subs.length:=by have:=of_decide_eq_false cP;omega
  subst this
  rw[List.take_length]at kZ sM qA q7 ⊢
  refine⟨rfl,λbQ mQ=>?_⟩
  have pV:=Mem.le_add bQ [.int .u8 t.k,.int .u64 t.s0,.int .u64 t.s1,.int .u64 t.s2,.int .u64 t.s3,.int .i64 t.mn,.int .i64 t.mx,.slice t.a t.subs.length t.c,.int .i64 (k0:Nat),.int .i64 ((if t.k=6 then P.length else 0:Nat):Int),.slice a3 t.subs.length c3]
  have vM:¬Zp kb a4 nb:=λhz=>by
   rcases hz with rfl|hz
   ·rw[dY]at mQ;cases mQ
   ·rcases kZ with⟨_,h⟩|⟨b2,h,hc,cT⟩
    ·rw[h]at hz;cases hz
    ·rw[h]at hz;cases hz
     generalize (P++List.replicate (kE t+ZdO t.subs) noP)=PP at hc cT
     cases PP with
     | nil=>exact cT rfl
     | cons p l=>
      have:=(hc 0 p rfl).1
      rw[bQ _]at this;cases this
  have um:=Zgk pV (Z:=Zp kb a4)
  have un:=ug.next um
  have CK:(if t.k=6 then P.length else 0)<=P.length:=by split <;> omega
  refine⟨.mk nb k0 (if t.k=6 then P.length else 0) t a3 c3 L,a4,c4,rfl,rfl,?_,?_,?_,?_,?_,?_,nY,pV.k _ _ dY⟩
  ·rw[ZdN]
   refine⟨λq v hq=>?_,⟨Rep.mono (mLt lP um) t cX,sM⟩,⟨?_,?_⟩,un.rep λx hx=>NRep.mono um _ (qK x hx)⟩
   ·show Mem.off (Mem.add m3 nb _) (Zp kb a4) nb (0+q)=some v
    rw[Mem.off_at vM]
    rw[Nat.zero_add,Mem.add_same]
    have e:(Nd.mk nb k0 (if t.k=6 then P.length else 0) t a3 c3 L).cs=[.int .u8 t.k,.int .u64 t.s0,.int .u64 t.s1,.int .u64 t.s2,.int .u64 t.s3,.int .i64 t.mn,.int .i64 t.mx,.slice t.a t.subs.length t.c,.int .i64 (k0:Nat),.int .i64 ((if t.k=6 then P.length else 0:Nat):Int),.slice a3 t.subs.length c3]:=by
     show t.cs++[_,_,.slice a3 L.length c3]=_
     rw[yU];rfl
    rw[<-e]
    exact hq
   ·show k0 < _;omega
   ·show(if t.k=6 then P.length else 0) < _;omega
  ·rw[Zxz]
   exact⟨λh=>by have h:t.k=6:=h;show(if t.k=6 then P.length else 0)=_;rw[if_pos h],yS⟩
  ·rw[Zzc];exact⟨rfl,gZ⟩
  ·rw[nX,pR,<-Nat.add_assoc P.length,show k0+((Zak t.subs).length+1)=k0+1+(Zak t.subs).length by omega]
  ·rw[pR,<-Nat.add_assoc P.length]
  ·rw[pR];exact kZ.mono pV
theorem Zrh(fb kb:Nat)(es:List (Value×Value)):∀(N:Nat)(t:T),SizeOf.sizeOf t < N->ZA4 fb kb es t:=by
 intro N
 induction N with
 | zero=>intro t h;omega
 | succ N ihN=>
  intro t hN
  refine ZBh fb kb es t λx hx=>ihN x ?_
  cases t with
  | node k s0 s1 s2 s3 mn mx a c l=>
   have h':x∈l:=hx
   have:=List.sizeOf_lt_of_mem h'
   simp only[T.node.sizeOf_spec]at hN
   omega
end Go.Proofs.Ytgclajkldphoaaa
namespace Go.Proofs.Ytgclajkldphoaaa
open Go Go.Eng Go.Proofs Go.RowKit
open Go.Value (int slice agg bool string tuple func)
open Go.IntKind (u8 u64 i64)
set_option maxRecDepth 100000
noncomputable def Zd7:Env:={ EB with
 tokOf:=(λi=>bif Nat.beq i 2 then 7 else bif Nat.beq i 7 then 7 else 0)
 tokC:=(λi=>bif Nat.beq i 5 then some (7,1)else none)
 thaw:=true }
def Zck(p0a:Option Addr)(p0n p0c:Nat)(m:Mem)(R:RT):Prop:=
 br (Option.isNone p0a) (slice none 0 0=slice none 0 0/\R (slice none 0 0) m []) (((0:Int)=(0:Int)/\(0:Int)<=(0:Int)/\(0:Int)*(↑(8:Nat):Int)<=(281474976710656:Int)/\(0:Int) <=
 (9223372036854775807:Int))/\∀(b:Nat),Mem.free m b->(Tok.mk (slice (some (Addr.mk b 0 none)) 0 (Int.toNat (0:Int))) 1=Tok.mk (slice (some (Addr.mk b 0 none)) 0 (Int.toNat (0:Int))) 1\/slice (some (Addr.mk
 b 0 none)) 0 (Int.toNat (0:Int))=slice none 0 0\/Int.toNat (0:Int) < 0+p0n)/\∃(xs:List Value),∃(ys:List Value),List.length xs=0*1/\List.length ys=p0n*1/\rowRd m (some (Addr.mk b 0 none)) xs/\
 rowRd m p0a ys/\(∀(u:Value),u∈ys->Value.oneCell' u=true)/\(0+p0n)*8<=140737488355328/\0+p0n<=9223372036854775807/\∀(a':Option Addr)(c':Nat)(m':Mem),Mem.le m m'->rowRd m' a' (List.append
 xs ys)->TokFact m (some (Addr.mk b 0 none)) a' (0+p0n) c'->some (Tok.mk (slice a' (0+p0n) c') 1)=some (Tok.mk (slice a' (0+p0n) c') 1)/\R (slice a' (0+p0n) c') m' [])
theorem ZdH(p0a:Option Addr)(p0n p0c:Nat)(m:Mem)(R:RT)(h:Zck p0a p0n p0c m R):CXT Try.prog 43 #[.slice p0a p0n p0c] m 1 R:=
 Zjm (E:=Zd7) Zay mix Try.func43 [.v (.slice p0a p0n p0c)] (by kernel_rfl) (Eq.mp (by kernel_rfl) h)
noncomputable def ZbE:Env:={ EB with
 tokOf:=(λi=>bif Nat.beq i 2 then 7 else bif Nat.beq i 7 then 7 else 0)
 tokC:=(λi=>bif Nat.beq i 5 then some (7,2)else none)
 thaw:=true }
def Za4(p0a:Option Addr)(p0n p0c:Nat)(m:Mem)(R:RT):Prop:=
 br (Option.isNone p0a) (slice none 0 0=slice none 0 0/\R (slice none 0 0) m []) (((0:Int)=(0:Int)/\(0:Int)<=(0:Int)/\(0:Int)*(↑(16:Nat):Int)<=(281474976710656:Int)/\(0:Int) <=
 (9223372036854775807:Int))/\∀(b:Nat),Mem.free m b->(Tok.mk (slice (some (Addr.mk b 0 none)) 0 (Int.toNat (0:Int))) 2=Tok.mk (slice (some (Addr.mk b 0 none)) 0 (Int.toNat (0:Int))) 2\/slice (some (Addr.mk
 b 0 none)) 0 (Int.toNat (0:Int))=slice none 0 0\/Int.toNat (0:Int) < 0+p0n)/\∃(xs:List Value),∃(ys:List Value),List.length xs=0*2/\List.length ys=p0n*2/\rowRd m (some (Addr.mk b 0 none)) xs/\
 rowRd m p0a ys/\(∀(u:Value),u∈ys->Value.oneCell' u=true)/\(0+p0n)*16<=140737488355328/\0+p0n<=9223372036854775807/\∀(a':Option Addr)(c':Nat)(m':Mem),Mem.le m m'->rowRd m' a' (List.append
 xs ys)->TokFact m (some (Addr.mk b 0 none)) a' (0+p0n) c'->some (Tok.mk (slice a' (0+p0n) c') 2)=some (Tok.mk (slice a' (0+p0n) c') 2)/\R (slice a' (0+p0n) c') m' [])
theorem Zbv(p0a:Option Addr)(p0n p0c:Nat)(m:Mem)(R:RT)(h:Za4 p0a p0n p0c m R):CXT Try.prog 33 #[.slice p0a p0n p0c] m 2 R:=
 Zjm (E:=ZbE) Zay mix Try.func33 [.v (.slice p0a p0n p0c)] (by kernel_rfl) (Eq.mp (by kernel_rfl) h)
noncomputable def ZbF:Env:={ EB with
 loops:=(λi=>bif Nat.beq i 4 then⟨[(13,.int .i64)],[],[],false⟩ else⟨[],[],[],false⟩)
 dr:=(λi=>bif Nat.beq i 6 then[⟨0,[],[],none,[],[]⟩,⟨1,[],[],none,[],[]⟩,⟨2,[],[],none,[0,1],[]⟩,⟨3,[],[],none,[0,1,2],[]⟩,⟨4,[],[],none,[],[]⟩,⟨5,[],[],none,[],[]⟩,⟨6,[],[],none,[4,5],[]⟩,⟨7,[],[],none,[4,5,6],[]⟩,⟨8,[],[],none,[0,1,2,3,4,5,6,7],[]⟩]else[]) }
def Za5(p0a:Option Addr)(p0n p0c:Nat)(p1a:Option Addr)(p1n p1c:Nat)(m:Mem)(R:RT):Prop:=
 br (!(↑p0n:Int) == (↑p1n:Int)) (∃(m'':Mem),Mem.le m m''/\Mem.le m'' m/\R (bool false) m'' []) (∃(I:IT),(∃(n:Nat),I [int i64 0] [] [] m n)/\∀(n:Int)(m':Mem)(n_1:Nat),Mem.le m m'->I [int i64
 n] [] [] m' n_1->br (decide (n < (↑p0n:Int))) (∃(b:Nat),∃(o:Nat),p0a=some (Addr.mk b o none)/\Zaj n p0n/\∃(v:Value),∃(v_1:Value),Mem.reads m' b (o+Int.toNat n*2) [v,v_1]/\∃(b:Nat),∃
 (o:Nat),p1a=some (Addr.mk b o none)/\Zaj n p1n/\∃(v_2:Value),∃(v_3:Value),Mem.reads m' b (o+Int.toNat n*2) [v_2,v_3]/\∃(b:Bool),EqIs Try.prog 56 (agg (Array.mk [v,v_1])) (agg (Array.mk
 [v_2,v_3])) b/\br (!b) (∃(m'':Mem),Mem.le m m''/\Mem.le m'' m'/\R (bool false) m'' []) (∃(n':Nat),n' < n_1/\I [int i64 (IntKind.wrap i64 (n+(1:Int)))] [] [] m' n')) (∃(m'':Mem),Mem.le m m''/\Mem.le
 m'' m'/\R (bool true) m'' []))
theorem ZbB(p0a:Option Addr)(p0n p0c:Nat)(p1a:Option Addr)(p1n p1c:Nat)(m:Mem)(R:RT)(h:Za5 p0a p0n p0c p1a p1n p1c m R):CX Try.prog 22 #[.slice p0a p0n p0c,.slice p1a p1n p1c] m [] R:=
 Zah (E:=ZbF) Zay mix Try.func22 [.v (.slice p0a p0n p0c),.v (.slice p1a p1n p1c)] [] (by kernel_rfl) (Eq.mp (by kernel_rfl) h)
noncomputable def Zf0:Env:={ EB with
 dr:=(λi=>bif Nat.beq i 1 then[⟨0,[],[],none,[],[]⟩,⟨1,[4],[4],none,[0],[0]⟩,⟨2,[1],[],none,[],[]⟩,⟨3,[],[],none,[0,2],[0]⟩,⟨4,[4],[4],none,[0,1,2,3],[1,3]⟩,⟨5,[],[],none,[0,1,2,3,4],[]⟩]else[])
 frzNew:=[1] }
def Zda(aG aD aI aJ aK aE aH:Int)(aB:Option Addr)(aA aC:Nat)(m:Mem)(R:RT):Prop:=
 ∀(b:Nat)(m':Mem),Mem.le m m'->Mem.reads m' b 0 [int u8 aG,int u64 aD,int u64 aI,int u64 aJ,int u64 aK,int i64 aE,int i64 aH,slice aB aA aC]->∃(f:Fx),∃(R_1:RT),R_1=f 0 []
 m'/\CX Try.prog 21 (Array.mk []) m' [] R_1/\Zar (Shape.agg [Shape.int i64,Shape.int i64]) R_1/\∀(n n_1:Int)(m'_1:Mem),Mem.le m' m'_1->R_1 (agg (Array.mk [int i64 n,int i64 n_1])) m'_1 []->∀(b:Nat),
 Mem.free m'_1 b->∃(R_2:RT),R_2=f 3 [agg (Array.mk [int u8 aG,int u64 aD,int u64 aI,int u64 aJ,int u64 aK,int i64 aE,int i64 aH,slice aB aA aC])] m'_1/\CX Try.prog 20 (Array.mk [agg
 (Array.mk [int u8 aG,int u64 aD,int u64 aI,int u64 aJ,int u64 aK,int i64 aE,int i64 aH,slice aB aA aC])]) m'_1 [] R_2/\Zar (Shape.int i64) R_2/\∀(n_2:Int)(m'_2:Mem),Mem.le m'_1
 m'_2->R_2 (int i64 n_2) m'_2 []->∀(V:Mem),Mem.le m' V->Mem.le (Mem.add m'_1 b [int i64 n,int i64 n_1]) V->Mem.le m'_2 V->∃(R_3:RT),R_3=f 4 [slice (some (Addr.mk b 0 none)) 1 1,int i64 n_2] V/\CX
 Try.prog 31 (Array.mk [slice (some (Addr.mk b 0 none)) 1 1,int i64 n_2]) V [] R_3/\Zar Shape.slice R_3/\∀(a:Option Addr)(n_3 c:Nat)(m'_3:Mem),Mem.le V m'_3->R_3 (slice a n_3 c) m'_3 []->∀(M:Mem),
 Mem.le m' M->Mem.le m'_1 M->Mem.le (Mem.add m'_1 b [int i64 n,int i64 n_1]) M->Mem.le m'_2 M->Mem.le m'_3 M->∃(m'':Mem),Mem.le m m''/\Mem.le m'' M/\R (slice a n_3 c) m'' []
theorem Zfm(aG aD aI aJ aK aE aH:Int)(aB:Option Addr)(aA aC:Nat)(m:Mem)(R:RT)(h:Zda aG aD aI aJ aK aE aH aB aA aC m R):CX Try.prog 30 #[.agg #[.int .u8 aG,.int .u64 aD,.int .u64 aI,.int .u64 aJ,.int .u64 aK,.int .i64 aE,.int .i64 aH,.slice aB aA aC]] m [] R:=
 Zah (E:=Zf0) Zay mix Try.func30 [.v (.agg #[.int .u8 aG,.int .u64 aD,.int .u64 aI,.int .u64 aJ,.int .u64 aK,.int .i64 aE,.int .i64 aH,.slice aB aA aC])] [] (by kernel_rfl) (Eq.mp (by kernel_rfl) h)
noncomputable def ZjR:Env:=EB
def Zf1(p0:Int)(m:Mem)(R:RT):Prop:=
 ∀(b b:Nat),(64:Int)≠(0:Int)/\(64:Int)≠(0:Int)/\(0:Int)<=Int.tmod p0 (64:Int)/\Zaj (IntKind.wrap u8 (Int.tdiv p0 (64:Int))) 4/\chk (Nat.ble (0+Int.toNat (IntKind.wrap u8 (Int.tdiv p0 (64
 : Int)))*1) (nat_lit 3)) (chk (Nat.beq (List.length (ZaG [int u64 0,int u64 0,int u64 0,int u64 0] (0+Int.toNat (IntKind.wrap u8 (Int.tdiv p0 (64:Int)))*1) [int u64 (IntKind.wrap u64 ((1:Int)*(2:Int)
 ^ min (Int.toNat (Int.tmod p0 (64:Int))) 64))])) 4&&true) (chk (Nat.beq (List.length (List.append (ZaG [int u64 0,int u64 0,int u64 0,int u64 0] (0+Int.toNat (IntKind.wrap u8 (Int.tdiv p0 (64:Int)))*1)
 [int u64 (IntKind.wrap u64 ((1:Int)*(2:Int) ^ min (Int.toNat (Int.tmod p0 (64:Int))) 64))]) (List.drop (1+List.length (ZaG [int u64 0,int u64 0,int u64 0,int u64 0] (0+Int.toNat (IntKind.wrap u8
 (Int.tdiv p0 (64:Int)))*1) [int u64 (IntKind.wrap u64 ((1:Int)*(2:Int) ^ min (Int.toNat (Int.tmod p0 (64:Int))) 64))])) [int u8 2,int u64 0,int u64 0,int u64 0,int u64 0,int i64 0,int i64 0,slice none
 0 0]))) (nat_lit 7)&&Zfn (List.append (ZaG [int u64 0,int u64 0,int u64 0,int u64 0] (0+Int.toNat (IntKind.wrap u8 (Int.tdiv p0 (64:Int)))*1) [int u64 (IntKind.wrap u64 ((1:Int)*(2:Int) ^ min
 (Int.toNat (Int.tmod p0 (64:Int))) 64))]) (List.drop (1+List.length (ZaG [int u64 0,int u64 0,int u64 0,int u64 0] (0+Int.toNat (IntKind.wrap u8 (Int.tdiv p0 (64:Int)))*1) [int u64 (IntKind.wrap u64 ((1
 : Int)*(2:Int) ^ min (Int.toNat (Int.tmod p0 (64:Int))) 64))])) [int u8 2,int u64 0,int u64 0,int u64 0,int u64 0,int i64 0,int i64 0,slice none 0 0]))) (∃(m'':Mem),Mem.le m m''/\Mem.le m'' m/\R (agg
 (Array.mk (ZaG [int u8 2,int u64 0,int u64 0,int u64 0,int u64 0,int i64 0,int i64 0,slice none 0 0] 1 (ZaG [int u64 0,int u64 0,int u64 0,int u64 0] (0+Int.toNat (IntKind.wrap u8 (Int.tdiv p0 (64:
 Int)))*1) [int u64 (IntKind.wrap u64 ((1:Int)*(2:Int) ^ min (Int.toNat (Int.tmod p0 (64:Int))) 64))])))) m'' [])))
theorem ZiU(p0:Int)(m:Mem)(R:RT)(h:Zf1 p0 m R):CX Try.prog 11 #[.int .u8 p0] m [] R:=
 Zah (E:=ZjR) Zay mix Try.func11 [.v (.int .u8 p0)] [] (by kernel_rfl) (Eq.mp (by kernel_rfl) h)
noncomputable def ZlN:Env:={ EB with
 frzNew:=[1] }
def ZgM(aG aD aI aJ aK aE aH:Int)(aB:Option Addr)(aA aC:Nat)(m:Mem)(R:RT):Prop:=
 ∀(b:Nat)(m':Mem),Mem.le m m'->Mem.reads m' b 0 [int u8 aG,int u64 aD,int u64 aI,int u64 aJ,int u64 aK,int i64 aE,int i64 aH,slice aB aA aC]->∀(b b:Nat),Mem.free m' b->∃(m'':
 Mem),Mem.le m m''/\Mem.le m'' (Mem.add m' b [int u8 aG,int u64 aD,int u64 aI,int u64 aJ,int u64 aK,int i64 aE,int i64 aH,slice aB aA aC])/\R (agg (Array.mk [int u8 6,int u64 0,int u64
 0,int u64 0,int u64 0,int i64 0,int i64 0,slice (some (Addr.mk b 0 none)) 1 1])) m'' []
theorem ZjS(aG aD aI aJ aK aE aH:Int)(aB:Option Addr)(aA aC:Nat)(m:Mem)(R:RT)(h:ZgM aG aD aI aJ aK aE aH aB aA aC m R):CX Try.prog 10 #[.agg #[.int .u8 aG,.int .u64 aD,.int .u64 aI,.int .u64 aJ,.int .u64 aK,.int .i64 aE,.int .i64 aH,.slice aB aA aC]] m [] R:=
 Zah (E:=ZlN) Zay mix Try.func10 [.v (.agg #[.int .u8 aG,.int .u64 aD,.int .u64 aI,.int .u64 aJ,.int .u64 aK,.int .i64 aE,.int .i64 aH,.slice aB aA aC])] [] (by kernel_rfl) (Eq.mp (by kernel_rfl) h)
noncomputable def ZpS:Env:=EB
def ZiV(p0a:Option Addr)(p0n p0c:Nat)(m:Mem)(R:RT):Prop:=
 ∀(b:Nat),∃(m'':Mem),Mem.le m m''/\Mem.le m'' m/\R (agg (Array.mk [int u8 3,int u64 0,int u64 0,int u64 0,int u64 0,int i64 0,int i64 0,slice p0a p0n p0c])) m'' []
theorem ZnB(p0a:Option Addr)(p0n p0c:Nat)(m:Mem)(R:RT)(h:ZiV p0a p0n p0c m R):CX Try.prog 12 #[.slice p0a p0n p0c] m [] R:=
 Zah (E:=ZpS) Zay mix Try.func12 [.v (.slice p0a p0n p0c)] [] (by kernel_rfl) (Eq.mp (by kernel_rfl) h)
noncomputable def ZpT:Env:={ EB with
 frzNew:=[3] }
def ZiW(aG aD aI aJ aK aE aH:Int)(aB:Option Addr)(aA aC:Nat)(p1 p2:Int)(m:Mem)(R:RT):Prop:=
 ∀(b:Nat)(m':Mem),Mem.le m m'->Mem.reads m' b 0 [int u8 aG,int u64 aD,int u64 aI,int u64 aJ,int u64 aK,int i64 aE,int i64 aH,slice aB aA aC]->∀(b b:Nat),Mem.free m' b->∃(m'':
 Mem),Mem.le m m''/\Mem.le m'' (Mem.add m' b [int u8 aG,int u64 aD,int u64 aI,int u64 aJ,int u64 aK,int i64 aE,int i64 aH,slice aB aA aC])/\R (agg (Array.mk [int u8 5,int u64 0,int u64
 0,int u64 0,int u64 0,int i64 p1,int i64 p2,slice (some (Addr.mk b 0 none)) 1 1])) m'' []
theorem ZnC(aG aD aI aJ aK aE aH:Int)(aB:Option Addr)(aA aC:Nat)(p1 p2:Int)(m:Mem)(R:RT)(h:ZiW aG aD aI aJ aK aE aH aB aA aC p1 p2 m R):CX Try.prog 13 #[.agg #[.int .u8 aG,.int .u64 aD,.int .u64 aI,.int .u64 aJ,.int .u64 aK,.int .i64 aE,.int .i64 aH,.slice aB aA aC],.int .i64 p1,.int .i64 p2] m [] R:=
 Zah (E:=ZpT) Zay mix Try.func13 [.v (.agg #[.int .u8 aG,.int .u64 aD,.int .u64 aI,.int .u64 aJ,.int .u64 aK,.int .i64 aE,.int .i64 aH,.slice aB aA aC]),.v (.int .i64 p1),.v (.int .i64 p2)] [] (by kernel_rfl) (Eq.mp (by kernel_rfl) h)
noncomputable def ZpU:Env:=EB
def ZiX(p0a:Option Addr)(p0n p0c:Nat)(m:Mem)(R:RT):Prop:=
 ∀(b:Nat),∃(m'':Mem),Mem.le m m''/\Mem.le m'' m/\R (agg (Array.mk [int u8 4,int u64 0,int u64 0,int u64 0,int u64 0,int i64 0,int i64 0,slice p0a p0n p0c])) m'' []
theorem ZnD(p0a:Option Addr)(p0n p0c:Nat)(m:Mem)(R:RT)(h:ZiX p0a p0n p0c m R):CX Try.prog 24 #[.slice p0a p0n p0c] m [] R:=
 Zah (E:=ZpU) Zay mix Try.func24 [.v (.slice p0a p0n p0c)] [] (by kernel_rfl) (Eq.mp (by kernel_rfl) h)
end Go.Proofs.Ytgclajkldphoaaa
namespace Go.Proofs.Ytgclajkldphoaaa
open Go Go.Eng Go.Rx Go.Proofs Go.RowKit
set_option maxRecDepth 100000
theorem ZzW{m M:Mem}{kb:Nat}{pa:Option Addr}(hm:m.le M)(h1:m.free kb/\m.k kb=none)(h2:∀b,pa=some ⟨b,0,none⟩->m.free b/\m.k b=none):m.le (M.off (Zp kb pa)):=by
 have key:∀b,Zp kb pa b->m.free b/\m.k b=none:=λb hb=>by
  rcases hb with rfl|hb
  ·exact h1
  ·exact h2 b hb
 refine⟨λb o v hv=>?_,λb e he=>?_⟩
 ·rw[Mem.off_at (λhb=>by have:=(key b hb).1 o;rw[hv]at this;cases this)]
  exact hm.c _ _ _ hv
 ·rw[Mem.off_k (λhb=>by have:=(key b hb).2;rw[he]at this;cases this)]
  exact hm.k _ _ he
theorem ZyT{m M:Mem}{b:Nat}(hm:m.le M)(h:M.k b=none):m.k b=none:=by
 cases he:m.k b with
 | none=>rfl
 | some e=>rw[hm.k _ _ he]at h;cases h
structure Made14 (m m':Mem)(fb kb:Nat)(n:Nd)(t:T)(sa:Option Addr)(s:List Nat)(sc:Nat)(pa:Option Addr)(pc:Nat):Prop where
 tr:n.t=t
 num:n.num 0
 st:Byt m sa s->St fb kb n sa s sc pa pc t.ngr m' (List.replicate t.ngr noP)
 kf:m.free kb/\m.k kb=none
 pf:∀b,pa=some ⟨b,0,none⟩->m.free b/\m.k b=none
def ZwE(m:Mem)(t:T)(sa:Option Addr)(s:List Nat)(sc:Nat):RT:=λv m' _=>
 (Zdp t s.length≠0/\v=.tuple #[.pointer none,.pointer none,.int .i64 (Zdp t s.length)])\/
 (Zdp t s.length=0/\∃(fb kb:Nat)(n:Nd)(pa:Option Addr)(pc:Nat),v=.tuple #[.pointer (some ⟨fb,0,none⟩),.pointer (some ⟨n.b,0,none⟩),.int .i64 0]/\Made14 m m' fb kb n t sa s sc pa pc)
theorem Zjx{m:Mem}{t:T}{sa:Option Addr}{s:List Nat}{sc:Nat}:∀(v:Value)(m':Mem) (css:List (List Value)),ZwE m t sa s sc v m' css->Shape.fits (Shape.tup [Shape.any,Shape.any,Shape.int .i64]) v=true:=λv m' css h=>by
 rcases h with⟨_,h⟩|⟨_,fb,kb,n,pa,pc,h,_⟩ <;> (rw[h];rfl)
theorem ZsB(t:T)(sa:Option Addr)(s:List Nat)(sc:Nat)(m:Mem)(hr:Rep m t):CX Try.prog 42 #[t.v,.slice sa s.length sc] m [] (ZwE m t sa s sc):=by
 unfold T.v
 apply Znv
 unfold ZiM
 intro b m1 bH cK lM _ iJ
 refine⟨_,trivial,ZlC false false t m1 (hr.mono bH),λv m' css h=>by unfold Ret at h;rw[h];rfl,?_⟩
 rintro e m2 bL he
 obtain rfl:e=t.check:=by simpa[Ret]using he
 have gO:=mLt bH bL
 refine Zab (λhq=>⟨m2,gO,Mem.le_refl _,.inl ?_⟩) (λhq=>Zab (λkR=>⟨m2,gO,Mem.le_refl _,.inl ?_⟩) (λkR=>?_))
 ·have:t.check≠0:=by simpa using hq
  have:Zdp t s.length=140:=by unfold Zdp;rw[if_pos this]
  rw[this];exact⟨by decide,rfl⟩
 ·have h1:t.check=0:=by simpa using hq
  have h2:512 < s.length:=by have:=of_decide_eq_true kR;omega
  have:Zdp t s.length=3:=by unfold Zdp;rw[if_neg (by simp[h1]),if_pos h2]
  rw[this];exact⟨by decide,rfl⟩
 have hc:t.check=0:=by simpa using hq
 have hl:s.length<=512:=by have:=of_decide_eq_false kR;omega
 have hw:Zdp t s.length=0:=by unfold Zdp;rw[if_neg (by simp[hc]),if_neg (by omega)]
 obtain⟨lO,nX⟩:=Zcs hc
 intro kb AS dM fb
 have vh:=Mem.le_updK (Mem.le_refl m2) dM []
 have pR:t.ngr<=t.nodes.length:=by rw[Ziz];exact List.countP_le_length
 have nD:m.free kb/\m.k kb=none:=⟨ZpK gO AS,ZyT gO dM⟩
 have uo:Rep ((m2.updK kb []).off (Zp kb none)) t:=hr.mono (ZzW (mLt gO vh) nD (λb hb=>by cases hb))
 have pQ:=Zrh fb kb [] _ t (Nat.lt_succ_self _) 0 none 0 [] (.slice sa s.length sc) (.map (some kb)) (m2.updK kb []) uo (Mem.updK_same _ _ _) (λb hb=>by cases hb) (.inl ⟨rfl,rfl⟩) (by omega) (by simp;omega)
 refine⟨_,_,pQ,?_,?_,?_,?_⟩
 ·intro tk dC b' hb'
  obtain rfl:tk=_:=by simpa using dC
  cases hb'
 ·intro b' hb'
  cases hb'
 ·rintro v m' css tvs ⟨n,_,_,h,_⟩;rw[h];rfl
 rintro nb no m3 bX _ cs a d c ⟨n,pa,pc,hv,pD,rc,vf,tc,cR,fN,jB,cB,eD⟩ yW yX
 obtain⟨rfl,rfl⟩:nb=n.b/\no=0:=by simpa using hv
 have cR:=List.singleton_inj.1 cR
 subst cR
 clear fN hv
 have sN:(m2.updK kb []).le m3:=by
  refine mLt ⟨λb o v hv=>?_,λb e he=>?_⟩ bX
  ·rw[Mem.off_at (λh=>by cases h)];exact hv
  ·rw[Mem.off_k (λh=>by cases h)];exact he
 have mD:=mLt gO (mLt vh sN)
 have pV:=Mem.le_add yW [.slice sa s.length sc,.int .i64 ((0+t.nodes.length:Nat):Int),.slice pa (([]:PL).length+t.ngr) pc,.map (some kb)]
 have rY:∀b,pa=some ⟨b,0,none⟩->(m2.updK kb []).free b/\(m2.updK kb []).k b=none:=λb hb=>by
  rcases cB b hb with h|h
  ·rw[hb]at h;cases h
  ·exact h
 have yZ:∀b,pa=some ⟨b,0,none⟩->m.free b/\m.k b=none:=λb hb=>⟨ZpK (mLt gO vh) (rY b hb).1,ZyT (mLt gO vh) (rY b hb).2⟩
 have jM:¬Zp kb pa fb:=λhz=>by
  rcases hz with rfl|hz
  ·rw[eD]at yX;cases yX
  ·rcases jB with⟨_,h⟩|⟨b2,h,y0,cT⟩
   ·rw[h]at hz;cases hz
   ·rw[h]at hz;cases hz
    generalize (([]:PL)++List.replicate t.ngr noP)=PP at y0 cT
    cases PP with
    | nil=>exact cT rfl
    | cons p l=>
     have:=(y0 0 p rfl).1
     rw[yW _]at this;cases this
 have um:=Zgk pV (Z:=Zp kb pa)
 rw[List.nil_append]at jB
 have uq:=jB.mono pV
 refine⟨_,mLt mD pV,Mem.le_refl _,.inr ⟨hw,fb,kb,n,pa,pc,rfl,pD,vf,λhb=>⟨⟨⟨?_,?_,?_,hl,NRep.mono um _ rc,ZuG n 0 (ZxB rc) tc,λx hx=>?_⟩,⟨[],pV.k _ _ eD,λe he=>by cases he⟩,Zwi uq⟩,uq,by simp,?_,λb hb e=>?_⟩,nD,yZ⟩⟩
 ·rw[Mem.off_at jM,Mem.add_same];rfl
 ·rw[Mem.off_at jM,Mem.add_same];rfl
 ·exact hb.mono (ZzW (mLt mD pV) nD yZ)
 ·have:=Zo9 n (ZxB rc) x hx
  rw[pD]at this
  unfold T.good at lO
  exact List.all_eq_true.1 lO _ this
 ·rw[Mem.off_at jM,Mem.add_same]
  simp
 ·subst e
  have:=(rY b hb).2
  rw[Mem.updK_same]at this;cases this
theorem ZwF{P:Program}{g:FuncId}{args:Array Value}{m m0:Mem}{Y:Nat->Prop}{R0:RTY}{sh:Shape}{E:Nat->Prop}{Kf:(Nat->Prop)->RTY->Prop}(h:CXY P g args m Y [] [] R0)(hY:∀b,Y b->(m0.free b/\m0.k b=none)/\((∃(o:Nat),∃(v:Value),m b o=some v)\/∃(e:List (Value×Value)),Mem.k m b=some e)/\E b)(hf:∀(v:Value)(m':Mem) (css:List (List Value)) (tvs:List Value),R0 v m' css tvs->Shape.fits sh v=true)(k:Kf Y R0):
  ∃(Y:Nat->Prop),∃(R:Value->Mem->List (List Value)->List Value->Prop),CXY P g args m Y [] [] R/\(∀(t:Tok),t∈[]->∀(b:Nat),t.blk=some b->Y b)/\
   (∀(b:Nat),Y b->(∃(t:Tok),t∈[]/\t.blk=some b)\/(Mem.free m0 b/\Mem.k m0 b=none)/\((∃(o:Nat),∃(v:Value),m b o=some v)\/∃(e:List (Value×Value)),Mem.k m b=some e)/\E b)/\
   (∀(v:Value)(m':Mem) (css:List (List Value)) (tvs:List Value),R v m' css tvs->Shape.fits sh v=true)/\Kf Y R:=
 ⟨Y,R0,h,by simp,λb hb=>.inr (hY b hb),hf,k⟩
theorem ZkC{m:Mem}{vs:List Value}(h:rowRd m none vs):vs=[]:=by
 rcases h with h|⟨b,o,h,_⟩
 ·exact h
 ·cases h
theorem Zri(l:List Nat)(a:Option Addr)(c:Nat)(m:Mem)(h:rowRd m a (nsL l))(hl:l.length<=1000000):CX Try.prog 43 #[.slice a l.length c] m [] (λv m' _=>∃a c,v=.slice a l.length c/\rowRd m' a (nsL l)):=by
 have key:CXT Try.prog 43 #[.slice a l.length c] m 1 (λv m' _=>∃a c,v=.slice a l.length c/\rowRd m' a (nsL l)):=by
  apply ZdH
  unfold Zck
  refine Zab (λhn=>?_) (λhn=>⟨⟨rfl,Int.le_refl _,by decide,by decide⟩,λb hb=>⟨.inl rfl,[],nsL l,rfl,by simp[nsL],.inl rfl,h,λu hu=>Zyc u hu,by omega,by omega,λa' c' m' hm' hr wj=>⟨rfl,a',c',by rw[Nat.zero_add],hr⟩⟩⟩)
  have:a=none:=by simpa using hn
  subst this
  have:=ZkC h
  obtain rfl:l=[]:=by simpa[nsL]using this
  exact⟨rfl,none,0,rfl,.inl rfl⟩
 exact key.toCX
theorem Made14.here{m m':Mem}{fb kb:Nat}{n:Nd}{t:T}{sa:Option Addr}{s:List Nat}{sc:Nat}{pa:Option Addr}{pc:Nat}(h:Made14 m m' fb kb n t sa s sc pa pc)(gL:Byt m sa s):∀b,Zp kb pa b->(m.free b/\m.k b=none)/\((∃(o:Nat),∃(v:Value),m' b o=some v)\/∃(e:List (Value×Value)),Mem.k m' b=some e):=λb hb=>
 ⟨by rcases hb with rfl|hb;exact h.kf;exact h.pf b hb,((h.st gL).zin b hb).2.1⟩
theorem Zf2{m m1 m2:Mem}{fb kb:Nat}{n:Nd}{t:T}{sa:Option Addr}{s:List Nat}{sc:Nat}{pa:Option Addr}{pc:Nat}{b:Nat}{v:Value}(h:Made14 m1 m2 fb kb n t sa s sc pa pc)(gL:Byt m1 sa s)(hm:m.le m1)(hb:m1 b 0=some v):∀x,Zp kb pa x->(m.free x/\m.k x=none)/\((∃(o:Nat),∃(v:Value),m2 x o=some v)\/∃(e:List (Value×Value)),Mem.k m2 x=some e)/\(b≠x/\True):=λx hx=>by
 obtain⟨⟨h1,h2⟩,h3⟩:=h.here gL x hx
 refine⟨⟨ZpK hm h1,ZyT hm h2⟩,h3,λe=>?_,trivial⟩
 subst e
 rw[h1 0]at hb;cases hb
theorem ZmK{m m' M:Mem}{Y:Nat->Prop}(hm:m.le m')(hn:∀b,Y b->m.free b/\m.k b=none)(hM:(m'.off Y).le M):m.le M:=⟨λb o v hv=>by
 refine hM.c _ _ _ ?_
 rw[Mem.off_at (λhb=>by have:=(hn b hb).1 o;rw[hv]at this;cases this)]
 exact hm.c _ _ _ hv,λb e he=>by
 refine hM.k _ _ ?_
 rw[Mem.off_k (λhb=>by have:=(hn b hb).2;rw[he]at this;cases this)]
 exact hm.k _ _ he⟩
def ZAq(t:T)(s:List Nat)(i:Int):RT:=λv m' _=>∃a c,v=.tuple #[.slice a (ZuM t s i).1.length c,.int .i64 (ZuM t s i).2]/\rowRd m' a (nsL (ZuM t s i).1)
theorem ZsC(t:T)(sa:Option Addr)(s:List Nat)(sc:Nat)(i:Int)(m:Mem)(hr:Rep m t)(hb:Zdp t s.length=0->0<=i/\i<=s.length->Byt m sa s):CX Try.prog 14 #[t.v,.slice sa s.length sc,.int .i64 i] m [] (ZAq t s i):=by
 unfold T.v
 apply ZlD
 unfold ZhP
 intro b m1 bH cK lM _
 refine⟨_,trivial,ZsB t sa s sc m1 (hr.mono bH),Zjx,?_⟩
 rintro v v1 e m2 bL hR
 have gO:=mLt bH bL
 unfold ZwE at hR
 rcases hR with⟨hw,hv⟩|⟨hw,fb,kb,n,pa,pc,hv,hM⟩
 ·simp only[Value.tuple.injEq,Array.mk.injEq,List.cons.injEq,Value.int.injEq,true_and,and_true]at hv
  obtain⟨rfl,rfl,rfl⟩:=hv
  refine ZjY (by simpa using hw) ⟨m2,gO,Mem.le_refl _,none,0,?_,?_⟩ <;> (unfold ZuM;rw[if_pos hw])
  ·rfl
  ·exact .inl rfl
 simp only[Value.tuple.injEq,Array.mk.injEq,List.cons.injEq,Value.int.injEq,true_and,and_true]at hv
 obtain⟨rfl,rfl,rfl⟩:=hv
 refine Zi3 (by simp) ⟨decide (i < 0)||decide (i > (s.length:Int)),Zab (λh=>⟨rfl,by rw[h];rfl⟩) (λh=>⟨rfl,by rw[h];rfl⟩),Zab (λhq=>⟨m2,gO,Mem.le_refl _,none,0,?_,?_⟩) (λhq=>?_)⟩
 ·have hq:i < 0\/i > (s.length:Int):=by simpa using hq
  unfold ZuM;rw[if_neg (by simp[hw]),if_pos hq];rfl
 ·have hq:i < 0\/i > (s.length:Int):=by simpa using hq
  unfold ZuM;rw[if_neg (by simp[hw]),if_pos hq];exact .inl rfl
 have hq:¬(i < 0\/i > (s.length:Int)):=by simpa using hq
 obtain⟨j,rfl⟩:∃j:Nat,i=j:=⟨i.toNat,by omega⟩
 have hj:j<=s.length:=by omega
 have gL:=(hb hw ⟨by omega,by omega⟩).mono bH
 have cW:=hM.st gL
 have hX:ZuM t s j=(t.e0 s j,0):=by unfold ZuM;rw[if_neg (by simp[hw]),if_neg hq];simp
 have jA:=Zb2 (d:=0) (cW.wk.fin.good n (Zdg n)) cW.wk.fin.len hj
 rw[Za9,hM.tr]at jA
 refine ZwF (Zjw fb kb (Zp kb pa) n sa s sc n (Zdg n) 0 j (by omega) hj (λ_=>Nat.zero_le _) m2 cW.wk) (λx hx=>Zf2 hM gL bH (cK 0 _ rfl) x (.inl hx)) Zbf ?_
 rintro a nn c m3 bX _ ⟨a',c',hv,bG,dH⟩
 rw[Za9,hM.tr]at hv bG
 obtain⟨rfl,rfl,rfl⟩:a=a'/\nn=(t.e0 s j).length/\c=c':=by simpa using hv
 have mD:m.le m3:=ZmK gO (λx hx=>(Zf2 hM gL bH (cK 0 _ rfl) x (.inl hx)).1) bX
 refine⟨_,trivial,Zri _ a c m3 (bG.mono (Mem.off_le _ _)) (by omega),λv m' css ⟨_,_,h,_⟩=>by rw[h];rfl,?_⟩
 rintro a2 n2 c2 m4 bZ ⟨a3,c3,hv,cO⟩
 obtain⟨rfl,rfl,rfl⟩:a2=a3/\n2=(t.e0 s j).length/\c2=c3:=by simpa using hv
 refine⟨m4,mLt mD bZ,Mem.le_refl _,a2,c2,?_,?_⟩ <;> rw[hX]
 exact cO
def ZA5(t:T)(s:List Nat):RT:=λv m' _=>∃a c,v=.tuple #[.slice a (Zb1 t s).1.length c,.int .i64 (Zb1 t s).2]/\PtAt m' a (Zb1 t s).1
theorem ZsD(t:T)(sa:Option Addr)(s:List Nat)(sc:Nat)(m:Mem)(hr:Rep m t)(hb:Zdp t s.length=0->Byt m sa s):CX Try.prog 15 #[t.v,.slice sa s.length sc] m [] (ZA5 t s):=by
 unfold T.v
 apply ZlE
 unfold ZhQ
 intro b m1 bH cK lM _
 refine⟨_,trivial,ZsB t sa s sc m1 (hr.mono bH),Zjx,?_⟩
 rintro v v1 e m2 bL hR
 have gO:=mLt bH bL
 unfold ZwE at hR
 rcases hR with⟨hw,hv⟩|⟨hw,fb,kb,n,pa,pc,hv,hM⟩
 ·simp only[Value.tuple.injEq,Array.mk.injEq,List.cons.injEq,Value.int.injEq,true_and,and_true]at hv
  obtain⟨rfl,rfl,rfl⟩:=hv
  refine ZjY (by simpa using hw) ⟨m2,gO,Mem.le_refl _,none,0,?_,?_⟩ <;> (unfold Zb1;rw[if_pos hw])
  ·rfl
  ·exact .inl ⟨rfl,rfl⟩
 simp only[Value.tuple.injEq,Array.mk.injEq,List.cons.injEq,Value.int.injEq,true_and,and_true]at hv
 obtain⟨rfl,rfl,rfl⟩:=hv
 have gL:=(hb hw).mono bH
 have cW:=hM.st gL
 have jA:=Zb2 (d:=0) (i:=0) (cW.wk.fin.good n (Zdg n)) cW.wk.fin.len (by omega)
 rw[Za9,hM.tr]at jA
 refine Zi3 (by simp) (ZwF (Zjw fb kb (Zp kb pa) n sa s sc n (Zdg n) 0 0 (by omega) (by omega) (λ_=>Nat.zero_le _) m2 cW.wk) (λx hx=>Zf2 hM gL bH (cK 0 _ rfl) x (.inl hx)) Zbf ?_)
 rintro a nn c m3 bX _ ⟨a',c',hv,bG,dH⟩
 rw[Za9,hM.tr]at hv bG
 obtain⟨rfl,rfl,rfl⟩:a=a'/\nn=(t.e0 s 0).length/\c=c':=by simpa using hv
 have mD:m.le m3:=ZmK gO (λx hx=>(Zf2 hM gL bH (cK 0 _ rfl) x (.inl hx)).1) bX
 have dU:=cW.step bX dH
 refine⟨_,trivial,Zen _ a c s.length m3 (bG.mono (Mem.off_le _ _)) (by omega),λv m' css h=>by unfold Ret at h;rw[h];rfl,?_⟩
 rintro bb m4 bZ hR
 obtain rfl:bb=decide (s.length∈t.e0 s 0):=by simpa[Ret]using hR
 have eK:=dU.le bZ
 have rZ:=mLt mD bZ
 refine Zab (λhq=>⟨m4,rZ,Mem.le_refl _,none,0,?_,?_⟩) (λhq=>?_)
 ·have hq:s.length ∉ t.e0 s 0:=by simpa using hq
  unfold Zb1;rw[if_neg (by simp[hw]),if_neg hq];rfl
 ·have hq:s.length ∉ t.e0 s 0:=by simpa using hq
  unfold Zb1;rw[if_neg (by simp[hw]),if_neg hq];exact .inl ⟨rfl,rfl⟩
 have hq:s.length∈t.e0 s 0:=by simpa using hq
 have hX:Zb1 t s=((Zkm t s).1,0):=by unfold Zb1;rw[if_neg (by simp[hw]),if_pos hq]
 have r5:=ZsA fb kb n sa s sc pa pc t.ngr _ n (Nat.lt_succ_self _) (Zdg n) 0 hM.num (by rw[hM.tr];omega) 0 s.length (by omega) (by rw[hM.tr];exact hq) m4 _ eK
 rw[hM.tr]at r5
 refine ZwF r5 (λx hx=>?_) Zep ?_
 ·obtain⟨q1,_,q3⟩:=Zf2 hM gL bH (cK 0 _ rfl) x hx
  exact⟨q1,(eK.zin x hx).2.1,q3⟩
 rintro z m5 c9 _ ⟨_,hh,jB⟩
 have w8:m.le m5:=ZmK rZ (λx hx=>(Zf2 hM gL bH (cK 0 _ rfl) x hx).1) c9
 refine Zaa rfl (Zaa rfl ⟨_,c9.c _ _ _ eK.parts,m5,w8,Mem.le_refl _,pa,pc,?_,?_⟩) <;> rw[hX]
 ·rw[Zjr]
 ·exact jB
theorem Zt3(t:T)(sa:Option Addr)(s:List Nat)(sc:Nat)(m:Mem)(hr:Rep m t)(hb:Zdp t s.length=0->t.k=5->Byt m sa s):CX Try.prog 17 #[t.v,.slice sa s.length sc] m [] (Ret (.tuple #[.int .i64 ((ZtE t s).1:Nat),.int .i64 (ZtE t s).2])):=by
 unfold T.v
 apply ZjQ
 unfold ZgK
 intro b m1 bH cK lM _
 refine⟨_,trivial,ZsB t sa s sc m1 (hr.mono bH),Zjx,?_⟩
 rintro v v1 e m2 bL hR
 have gO:=mLt bH bL
 unfold ZwE at hR
 rcases hR with⟨hw,hv⟩|⟨hw,fb,kb,n,pa,pc,hv,hM⟩
 ·simp only[Value.tuple.injEq,Array.mk.injEq,List.cons.injEq,Value.int.injEq,true_and,and_true]at hv
  obtain⟨rfl,rfl,rfl⟩:=hv
  refine ZjY (by simpa using hw) ⟨m2,gO,Mem.le_refl _,?_⟩
  unfold Ret ZtE;rw[if_pos hw];rfl
 simp only[Value.tuple.injEq,Array.mk.injEq,List.cons.injEq,Value.int.injEq,true_and,and_true]at hv
 obtain⟨rfl,rfl,rfl⟩:=hv
 refine Zi3 (by simp) (Zab (λhk=>⟨m2,gO,Mem.le_refl _,?_⟩) (λhk=>?_))
 ·have hk:t.k≠5:=by simpa using hk
  unfold Ret ZtE;rw[if_neg (by simp[hw]),if_pos hk];rfl
 have hk:t.k=5:=by simpa using hk
 have gL:=(hb hw hk).mono bH
 have cW:=hM.st gL
 have jA:=Zb2 (d:=0) (i:=0) (cW.wk.fin.good n (Zdg n)) cW.wk.fin.len (by omega)
 rw[Za9,hM.tr]at jA
 refine ZwF (Zjw fb kb (Zp kb pa) n sa s sc n (Zdg n) 0 0 (by omega) (by omega) (λ_=>Nat.zero_le _) m2 cW.wk) (λx hx=>Zf2 hM gL bH (cK 0 _ rfl) x (.inl hx)) Zbf ?_
 rintro a nn c m3 bX _ ⟨a',c',hv,bG,dH⟩
 rw[Za9,hM.tr]at hv bG
 obtain⟨rfl,rfl,rfl⟩:a=a'/\nn=(t.e0 s 0).length/\c=c':=by simpa using hv
 have mD:m.le m3:=ZmK gO (λx hx=>(Zf2 hM gL bH (cK 0 _ rfl) x (.inl hx)).1) bX
 have dU:=cW.step bX dH
 refine⟨_,trivial,Zen _ a c s.length m3 (bG.mono (Mem.off_le _ _)) (by omega),λv m' css h=>by unfold Ret at h;rw[h];rfl,?_⟩
 rintro bb m4 bZ hR
 obtain rfl:bb=decide (s.length∈t.e0 s 0):=by simpa[Ret]using hR
 have eK:=dU.le bZ
 have rZ:=mLt mD bZ
 refine Zab (λhq=>⟨m4,rZ,Mem.le_refl _,?_⟩) (λhq=>?_)
 ·have hq:s.length ∉ t.e0 s 0:=by simpa using hq
  unfold Ret ZtE;rw[if_neg (by simp[hw]),if_neg (by simp[hk]),if_neg hq];rfl
 have hq:s.length∈t.e0 s 0:=by simpa using hq
 have r5:=ZsA fb kb n sa s sc pa pc t.ngr _ n (Nat.lt_succ_self _) (Zdg n) 0 hM.num (by rw[hM.tr];omega) 0 s.length (by omega) (by rw[hM.tr];exact hq) m4 _ eK
 rw[hM.tr]at r5
 refine ZwF r5 (λx hx=>?_) Zep ?_
 ·obtain⟨q1,_,q3⟩:=Zf2 hM gL bH (cK 0 _ rfl) x hx
  exact⟨q1,(eK.zin x hx).2.1,q3⟩
 rintro z m5 c9 _ ⟨hz,hh,jB⟩
 have w8:m.le m5:=ZmK rZ (λx hx=>(Zf2 hM gL bH (cK 0 _ rfl) x hx).1) c9
 obtain rfl:z=((Zkm t s).2:Nat):=by simpa[Zkm,noP]using hz
 refine⟨m5,w8,Mem.le_refl _,?_⟩
 unfold Ret ZtE;rw[if_neg (by simp[hw]),if_neg (by simp[hk]),if_pos hq]
def mkS(l:List Nat):ByteArray:=⟨(l.map UInt8.ofNat).toArray⟩
theorem Zrj{l:List Nat}(h:∀c∈l,c < 256):Zb7 (mkS l)=l:=by
 unfold Zb7 mkS
 simp only[List.map_map]
 conv=>rhs;rw[<-List.map_id l]
 refine List.map_congr_left λc hc=>?_
 simp only[Function.comp,id]
 rw[UInt8.toNat_ofNat']
 exact Nat.mod_eq_of_lt (h c hc)
theorem ZsE(l:List Nat):(mkS l).size=l.length:=by
 unfold mkS ByteArray.size
 simp
theorem ZsF{m:Mem}{a:Option Addr}{l:List Nat}(h:Byt m a l):rowRd m a (ZaM (mkS l)):=by
 rw[Zkz,Zrj h.2]
 rcases h.1 with h|⟨b,o,h1,h2⟩
 ·subst h;exact .inl rfl
 ·exact .inr ⟨b,o,h1,h2⟩
theorem Zva{m:Mem}{a:Option Addr}{s:List Nat}(h:Byt m a s)(i n c:Nat)(hc:s.length<=c)(hn:n<=s.length)(hi:i<=n):Byt m (ZaC a i c 1) ((s.take n).drop i):=by
 refine⟨?_,λx hx=>h.2 x (List.mem_of_mem_take (List.mem_of_mem_drop hx))⟩
 by_cases e:i=n
 ·left
  rw[List.drop_eq_nil_of_le (by rw[List.length_take];omega)]
 rcases h.1 with hs|⟨b,o,rfl,hr⟩
 ·subst hs;left;simp
 ·refine .inr ⟨b,o+i,?_,λj v hj=>?_⟩
  ·unfold ZaC
   cases i with
   | zero=>rfl
   | succ i=>
    have e1:Nat.beq (i+1) 0=false:=rfl
    have e2:Nat.beq c (i+1)=false:=by
     cases hb:Nat.beq c (i+1)with
     | false=>rfl
     | true=>have:=Nat.eq_of_beq_eq_true hb;omega
    rw[e1,e2]
    show some (Addr.add _ ((i+1)*1))=_
    rw[ZbZ,Nat.mul_one]
  ·have bF:=(List.getElem?_eq_some_iff.1 hj).1
   simp only[List.length_map,List.length_drop,List.length_take]at bF
   rw[List.getElem?_map,List.getElem?_drop,List.getElem?_take_of_lt (by omega),<-List.getElem?_map]at hj
   rw[Nat.add_assoc];exact hr _ _ hj
theorem ZBc(x:Int):(if(0:Int) > x then 0 else x)=((x.toNat:Nat):Int):=by split <;> omega
def ZwG(l:List Nat):Value:=.string (mkS l)
def ZAr(t:T)(s:List Nat):RT:=λv m' _=>∃a c,v=.tuple #[.slice a (ZwM t s).1.length c,.int .i64 (ZwM t s).2]/\rowRd m' a ((ZwM t s).1.map ZwG)
theorem ZpV(t:T)(sa:Option Addr)(s:List Nat)(sc:Nat)(m:Mem)(hr:Rep m t)(hb:Zdp t s.length=0->Byt m sa s)(sO:s.length<=sc):CX Try.prog 16 #[t.v,.slice sa s.length sc] m [] (ZAr t s):=by
 unfold T.v
 apply Zh3
 unfold Ze1
 intro b m1 bH cK
 refine⟨_,trivial,ZsD t sa s sc m1 (hr.mono bH) (λh=>(hb h).mono bH),λv m' css ⟨_,_,h,_⟩=>by rw[h];rfl,?_⟩
 rintro a n c e m2 bL ⟨a',c',hv,jB⟩
 simp only[Value.tuple.injEq,Array.mk.injEq,List.cons.injEq,Value.int.injEq,Value.slice.injEq,true_and,and_true]at hv
 obtain⟨⟨rfl,rfl,rfl⟩,rfl⟩:=hv
 have gO:=mLt bH bL
 refine Zab (λhq=>⟨m2,gO,Mem.le_refl _,none,0,?_,?_⟩) (λhq=>?_)
 ·have hq:(Zb1 t s).2≠0:=by simpa using hq
  unfold ZwM;rw[if_pos hq];rfl
 ·have hq:(Zb1 t s).2≠0:=by simpa using hq
  unfold ZwM;rw[if_pos hq];exact .inl rfl
 have hq:(Zb1 t s).2=0:=by simpa using hq
 have hX:ZwM t s=(s::(Zb1 t s).1.map (ZwL s),0):=by unfold ZwM;rw[if_neg (by simp[hq])]
 obtain⟨P,w9⟩:∃P,P=(Zb1 t s).1:=⟨_,rfl⟩
 have xb:∀p∈P,Zey s.length p:=w9 ▸ ZuN
 have CL:P.length<=1000:=by
  rw[w9];unfold Zb1
  split
  ·simp
  ·rename_i hw
   split
   ·simp only;rw[Zjr]
    have hc:=(ZvJ (Classical.not_not.1 hw)).1
    have:=(Zcs hc).2
    have:t.ngr<=t.nodes.length:=by rw[Ziz];exact List.countP_le_length
    omega
   ·simp
 rw[<-w9]at jB hX ⊢
 have AT:Zdp t s.length=0:=by
  unfold Zb1 at hq
  by_cases hw:Zdp t s.length=0
  ·exact hw
  ·rw[if_pos hw]at hq;exact hq
 have eB:=(hb AT).mono gO
 refine⟨mkS s,ZsE s,ZsF eB,λb1 kP=>⟨λxs css tvs m' q=>∃(j:Nat)(a4:Option Addr)(c4:Nat)(a5:Option Addr)(n5 c5:Nat),j<=P.length/\xs=[.slice a4 (j+1) c4,.int .i64 (j:Nat)]/\tvs=[.slice a5 n5 c5]/\((a5=a4/\n5=j+1/\c5=c4)\/c4 < j+2)/\rowRd m' a4 ((s::(P.take j).map (ZwL s)).map ZwG)/\q=P.length - j,⟨_,0,_,1,none,0,0,by omega,rfl,rfl,.inr (by omega),.inr ⟨b1,0,rfl,λj v hj=>by rw[Nat.zero_add,Mem.add_same];exact hj⟩,rfl⟩,?_⟩⟩
 rintro a4' n4' c4' y a5' n5' c5' m3 q bX ⟨j,a4,c4,a5,n5,c5,hj,cJ,fN,dB,bG,rfl⟩
 simp only[List.cons.injEq,Value.int.injEq,Value.slice.injEq,true_and,and_true]at cJ fN
 obtain⟨⟨rfl,rfl,rfl⟩,rfl⟩:=cJ
 obtain⟨rfl,rfl,rfl⟩:=fN
 have sN:m2.le m3:=mLt (Mem.le_add kP _) bX
 have kM:=eB.mono sN
 have kZ:=jB.mono sN
 refine Zab (λbF=>?_) (λcP=>?_)
 ·have bI:j < P.length:=by have:=of_decide_eq_true bF;omega
  obtain⟨p,hp⟩:∃p,P[j]?=some p:=⟨_,List.getElem?_eq_getElem bI⟩
  have ur:=xb p (List.mem_of_getElem? hp)
  rcases kZ with⟨h,_⟩|⟨pb,h1,h2,_⟩
  ·rw[h]at bI;simp at bI
  obtain⟨h3,h4⟩:=h2 j p hp
  have jW:p.2.toNat<=s.length:=by rcases ur with h|h;rw[h];exact Nat.zero_le _;omega
  have AU:p.1.toNat<=p.2.toNat:=by rcases ur with h|h;rw[h];exact Nat.le_refl _;omega
  refine⟨pb,0,h1,⟨by omega,by omega⟩,.int .i64 p.1,.int .i64 p.2,?_,λb3=>Zaa rfl (Zaa rfl (Zaa rfl ?_))⟩
  ·intro i v hi
   have bF:i < 2:=(List.getElem?_eq_some_iff.1 hi).1
   rw[Nat.zero_add,Int.toNat_natCast]
   have:i=0\/i=1:=by omega
   rcases this with rfl|rfl <;> (cases hi;assumption)
  ·have e1:(if(0:Int) > RowKit.intOf (.int .i64 p.1)then 0 else RowKit.intOf (.int .i64 p.1))=((p.1.toNat:Nat):Int):=ZBc p.1
   have e2:(if(0:Int) > RowKit.intOf (.int .i64 p.2)then 0 else RowKit.intOf (.int .i64 p.2))=((p.2.toNat:Nat):Int):=ZBc p.2
   rw[e1,e2]
   refine⟨⟨by omega,by omega⟩,⟨by omega,by rw[Int.toNat_natCast];omega⟩,mkS (ZwL s p),?_,by rw[Int.toNat_natCast];exact ZsF (Zva kM _ _ sc sO jW AU),λb4 xc=>⟨?_,(s::(P.take j).map (ZwL s)).map ZwG,[ZwG (ZwL s p)],?_,rfl,bG.mono (Mem.le_add xc _),.inr ⟨b4,0,rfl,λj v hj=>by rw[Nat.zero_add,Mem.add_same];exact hj⟩,?_,by omega,by omega,λa6 c6 m6 fF ut=>⟨rfl,_,?_,j+1,a6,c6,a6,j+1+1,c6,by omega,by rw[wr1 (show j<=1000000000000000 by omega)],rfl,.inl ⟨rfl,rfl,rfl⟩,?_,rfl⟩⟩⟩
   ·rw[ZsE,Int.toNat_natCast,Int.toNat_natCast];unfold ZwL;rw[List.length_drop,List.length_take];omega
   ·rcases dB with⟨rfl,rfl,rfl⟩|h
    ·exact .inl rfl
    ·exact .inr (.inr (by omega))
   ·simp;omega
   ·intro u hu
    obtain rfl:u=ZwG (ZwL s p):=by simpa using hu
    rfl
   ·omega
   ·have e:(s::(P.take (j+1)).map (ZwL s)).map ZwG=(s::(P.take j).map (ZwL s)).map ZwG++[ZwG (ZwL s p)]:=by
     rw[Zcf hp];simp
    rw[e];exact ut
 ·have:j=P.length:=by have:=of_decide_eq_false cP;omega
  subst this
  rw[List.take_length]at bG
  refine⟨m3,mLt gO sN,Mem.le_refl _,a4',c4',?_,?_⟩ <;> rw[hX]
  ·simp
  ·exact bG
def IsE(E:T):Value->Mem->List (List Value)->Prop:=Zcu λt=>t.er=E
theorem ZaE{E:T}:∀(v:Value)(m':Mem) (css:List (List Value)),IsE E v m' css->Shape.fits (.agg [.int .u8,.int .u64,.int .u64,.int .u64,.int .u64,.int .i64,.int .i64,.slice]) v=true:=ZaL
theorem ZgU{E:T}{m:Mem}{K:TRK}(k:∀(t:T)(m':Mem),m.le m'->Rep m' t->t.er=E->K t.k t.s0 t.s1 t.s2 t.s3 t.mn t.mx t.a t.subs.length t.c m'):
  ∀(n0 n1 n2 n3 n4 n5 n6:Int)(a:Option Addr)(n c:Nat)(m':Mem),m.le m'->IsE E (.agg #[.int .u8 n0,.int .u64 n1,.int .u64 n2,.int .u64 n3,.int .u64 n4,.int .i64 n5,.int .i64 n6,.slice a n c]) m' []->K n0 n1 n2 n3 n4 n5 n6 a n c m':=
 Zco λt m' hm hr h=>k t m' hm hr h
theorem ZhT(c:Nat)(hc:c < 256)(m:Mem):CX Try.prog 11 #[.int .u8 c] m [] (IsE (Zei c)):=by
 apply ZiU
 unfold Zf1
 intro b b1
 have hq:IntKind.u8.wrap (Int.tdiv (c:Int) 64)=((c / 64:Nat):Int):=by rw[Zx3];exact ZzS (by omega) (by omega)
 have hr:IntKind.u64.wrap (1*2 ^ min (Int.toNat (Int.tmod (c:Int) 64)) 64)=((2 ^ (c % 64):Nat):Int):=by
  rw[Zsw,Int.toNat_natCast,Nat.min_eq_left (by omega),Int.one_mul]
  have:=Zuy (2 ^ (c % 64)) (by
   have:2 ^ (c % 64) < 2 ^ 64:=Nat.pow_lt_pow_right (by omega) (by omega)
   exact this)
  rw[<-this];push_cast;rfl
 simp only[hq,hr,Int.toNat_natCast,Nat.zero_add,Nat.mul_one]
 have hL:(Value.agg #[.int .u8 2,.int .u64 (Zmu c 0),.int .u64 (Zmu c 1),.int .u64 (Zmu c 2),.int .u64 (Zmu c 3),.int .i64 0,.int .i64 0,.slice none 0 0])=(Zei c).v:=rfl
 refine⟨by omega,by omega,by rw[Zsw];omega,⟨by omega,by omega⟩,Zaa (by rw[Nat.ble_eq];omega) ?_⟩
 have:c / 64=0\/c / 64=1\/c / 64=2\/c / 64=3:=by omega
 rcases this with e|e|e|e <;>
 ·rw[e]
  refine Zaa rfl (Zaa rfl (Zag (Mem.le_refl _) ⟨Zei c,?_,ZqU c m,rfl⟩))
  rw[<-hL]
  unfold Zmu
  rw[e]
  rfl
theorem ZlO{k mn mx:Int}{a:Option Addr}{c:Nat}{l:List T}{E:List T}(h:l.map T.er=E):(Zap k mn mx a c l).er=Zap k mn mx none 0 E:=by
 unfold Zap;simp only[T.er];rw[Zpa,h]
theorem Zgr(a:Option Addr)(c:Nat)(l E:List T)(m:Mem)(hl:RepL m a l)(hE:l.map T.er=E):CX Try.prog 12 #[.slice a l.length c] m [] (IsE (Zap 3 0 0 none 0 E)):=by
 apply ZnB
 unfold ZiV
 intro b
 exact Zag (Mem.le_refl _) ⟨Zap 3 0 0 a c l,rfl,Zbo hl (by omega) (by omega) (by omega),ZlO hE⟩
theorem ZdW(a:Option Addr)(c:Nat)(l E:List T)(m:Mem)(hl:RepL m a l)(hE:l.map T.er=E):CX Try.prog 24 #[.slice a l.length c] m [] (IsE (Zap 4 0 0 none 0 E)):=by
 apply ZnD
 unfold ZiX
 intro b
 exact Zag (Mem.le_refl _) ⟨Zap 4 0 0 a c l,rfl,Zbo hl (by omega) (by omega) (by omega),ZlO hE⟩
theorem Zbg(t E:T)(m:Mem)(hr:Rep m t)(hE:t.er=E):CX Try.prog 10 #[t.v] m [] (IsE (Zap 6 0 0 none 0 [E])):=by
 apply ZjS
 unfold ZgM
 intro b m1 bH _ b1 b2 hf
 have cF:=Mem.le_add hf t.cs
 refine ZhE (mLt bH cF) ⟨Zap 6 0 0 (some ⟨b2,0,none⟩) 1 [t],rfl,Zbo (Zjo ?_ (hr.mono (mLt bH cF))) (by omega) (by omega) (by omega),ZlO (by rw[<-hE];rfl)⟩
 intro j v hj
 rw[Nat.zero_add,Mem.add_same];exact hj
theorem Zgs(t E:T)(mn mx:Int)(h1 : -9223372036854775808<=mn/\mn<=9223372036854775807)(h2 : -9223372036854775808<=mx/\mx<=9223372036854775807)(m:Mem)(hr:Rep m t)(hE:t.er=E):CX Try.prog 13 #[t.v,.int .i64 mn,.int .i64 mx] m [] (IsE (Zap 5 mn mx none 0 [E])):=by
 apply ZnC
 unfold ZiW
 intro b m1 bH _ b1 b2 hf
 have cF:=Mem.le_add hf t.cs
 refine ZhE (mLt bH cF) ⟨Zap 5 mn mx (some ⟨b2,0,none⟩) 1 [t],rfl,Zbo (Zjo ?_ (hr.mono (mLt bH cF))) (by omega) h1 h2,ZlO (by rw[<-hE];rfl)⟩
 intro j v hj
 rw[Nat.zero_add,Mem.add_same];exact hj
def plV(P:PL):List Value:=P.flatMap λp=>[.int .i64 p.1,.int .i64 p.2]
theorem ZsG(a b a' b':Int):EqIs Try.prog 56 (.agg #[.int .i64 a,.int .i64 b]) (.agg #[.int .i64 a',.int .i64 b']) (a == a'&&b == b'):=by
 refine⟨λw=>?_,λop ox oy w=>Zez (by kernel_rfl) op ox oy _ _ w⟩
 have u3:=Try.underlying3
 have a3:=Try.isAgg3
 have z3:=Try.sizeOf3
 rw[Op.equal,Op.maxDepth,show(10000:Nat)=9999+1 from rfl]
 rw[run_equalIn_agg _ _ _ _ _ (by kernel_rfl) (by kernel_rfl)]
 have hf:(Try.prog.fieldsOf 56).toList=[⟨ "From",3,0,false, "", "",0⟩,⟨ "To",3,1,false, "", "",8⟩]:=by kernel_rfl
 rw[hf]
 go_simp
 by_cases h1:a=a' <;> by_cases h2:b=b' <;> simp[h1,h2]
theorem Zyi:∀(P:PL)(q:Nat)(p:Int×Int),P[q]?=some p->(plV P)[q*2]?=some (.int .i64 p.1)/\(plV P)[q*2+1]?=some (.int .i64 p.2):=λP=>by
 induction P with
 | nil=>intro q p hq;simp at hq
 | cons p0 P ih=>
  intro q p hq
  cases q with
  | zero=>simp at hq;subst hq;exact⟨rfl,rfl⟩
  | succ q=>
   have:=ih q p (by simpa using hq)
   rw[show(q+1)*2=q*2+2 by omega]
   exact this
theorem Zfv(P Q:PL)(a b:Option Addr)(c d:Nat)(m:Mem)(hp:rowRd m a (plV P))(hq:rowRd m b (plV Q))(hl:P.length<=1000000):CX Try.prog 22 #[.slice a P.length c,.slice b Q.length d] m [] (Ret (.bool (P == Q))):=by
 apply ZbB
 unfold Za5
 refine Zab (λcT=>Zag (Mem.le_refl _) ?_) (λheq=>?_)
 ·have:P≠Q:=λe=>by subst e;simp at cT
  unfold Ret;rw[beq_eq_false_iff_ne.2 this]
 have bM:P.length=Q.length:=by
  have:(P.length:Int)=(Q.length:Int):=by simpa using heq
  omega
 refine⟨λxs css tvs m' q=>∃j:Nat,j<=P.length/\xs=[.int .i64 (j:Nat)]/\P.take j=Q.take j/\q=P.length - j,⟨_,0,by omega,rfl,rfl,rfl⟩,?_⟩
 rintro y m1 q bH ⟨j,hj,cJ,hH,rfl⟩
 obtain rfl:y=j:=by simpa using cJ
 have two:∀(P:PL)(a:Option Addr)(p:Int×Int),rowRd m a (plV P)->P[j]?=some p->∃b o,a=some ⟨b,o,none⟩/\m1.reads b (o+j*2) [.int .i64 p.1,.int .i64 p.2]:=λP a p h hj=>by
  obtain⟨g1,g2⟩:=Zyi P j p hj
  rcases h with h|⟨b,o,h1,h2⟩
  ·rw[h]at g1;simp at g1
  ·refine⟨b,o,h1,λi v hi=>?_⟩
   have h3:=h2 _ _ g1
   have h4:=h2 _ _ g2
   have bF:i < 2:=(List.getElem?_eq_some_iff.1 hi).1
   have:i=0\/i=1:=by omega
   rcases this with rfl|rfl
   ·cases hi;exact bH.c _ _ _ h3
   ·cases hi;rw[Nat.add_assoc];exact bH.c _ _ _ h4
 refine Zab (λbF=>?_) (λcP=>Zag bH ?_)
 ·have bI:j < P.length:=by have:=of_decide_eq_true bF;omega
  obtain⟨p,uZ⟩:∃p,P[j]?=some p:=⟨_,List.getElem?_eq_getElem bI⟩
  obtain⟨r,iE⟩:∃p,Q[j]?=some p:=⟨_,List.getElem?_eq_getElem (by omega)⟩
  obtain⟨b1,o1,e1,r1⟩:=two P a p hp uZ
  obtain⟨b2,o2,e2,r2⟩:=two Q b r hq iE
  rw[wr1 (by omega)]
  refine⟨b1,o1,e1,⟨by omega,by omega⟩,.int .i64 p.1,.int .i64 p.2,by rw[Int.toNat_natCast];exact r1,b2,o2,e2,⟨by omega,by omega⟩,.int .i64 r.1,.int .i64 r.2,by rw[Int.toNat_natCast];exact r2,_,ZsG _ _ _ _,Zab (λhc=>Zag bH ?_) (λhc=>⟨P.length - (j+1),by omega,j+1,by omega,rfl,?_,rfl⟩)⟩
  ·unfold Ret
   rw[beq_eq_false_iff_ne.2 λe=>?_]
   subst e
   rw[uZ]at iE;cases iE
   simp at hc
  ·rw[Zcf uZ,Zcf iE,hH]
   have:p=r:=by
    have h2:p.1=r.1/\p.2=r.2:=by simpa using hc
    exact Prod.ext h2.1 h2.2
   rw[this]
 ·have:j=P.length:=by have:=of_decide_eq_false cP;omega
  subst this
  rw[List.take_length,bM,List.take_length]at hH
  unfold Ret
  rw[hH];simp
def eN(k mn mx:Int)(l:List T):T:=Zap k mn mx none 0 l
end Go.Proofs.Ytgclajkldphoaaa