/- Part of the proof: conditions and contracts of functions of this program. No condition of its own. -/
import Derived.Test.YtgclajkldphoaaaMr
import Derived.Test.YtgclajkldphoaaaPVSC
import Derived.Test.YtgclajkldphoaaaPC14W
import Derived.Test.YtgclajkldphoaaaPEnv
import Derived.Test.YtgclajkldphoaaaMc
import Derived.Test.YtgclajkldphoaaaPC13S
set_option linter.unusedVariables false
set_option linter.unusedSimpArgs false
namespace Go.Proofs.Ytgclajkldphoaaa
open Go Go.Eng Go.Rx Go.Proofs Go.RowKit
set_option maxRecDepth 100000
theorem Zq6(m:Mem):CX Try.prog 21 #[] m [] (λv _ _=>v=.agg #[.int .i64 (-1),.int .i64 (-1)]):=by
 apply Zk8
 unfold ZgX
 intro b
 exact⟨m,Mem.le_refl _,Mem.le_refl _,rfl⟩
def noP:Int×Int:=(-1,-1)
def kE(t:T):Nat:=if t.k=6 then 1 else 0
def Zwi(kb:Nat)(es:List (Value×Value))(k0:Nat)(t:T)(pa:Option Addr)(P:PL)(f0 f3:Value)(m:Mem):RTY:=λv m' css tvs=>∃(n:Nd)(pa':Option Addr)(pc':Nat),v=.pointer (some ⟨n.b,0,none⟩)/\n.t=t/\NRep (m'.off (Zp kb pa')) n/\n.num P.length/\n.idn k0/\
 css=[[f0,.int .i64 ((k0+t.nodes.length:Nat):Int),.slice pa' (P.length+t.ngr) pc',f3]]/\tvs=[.slice pa' (P.length+t.ngr) pc']/\PtAt m' pa' (P++List.replicate t.ngr noP)/\NewP m pa pa'/\m'.k kb=some es
def Zv9(fb kb:Nat)(es:List (Value×Value))(t:T):Prop:=∀(k0:Nat)(pa:Option Addr)(pc:Nat)(P:PL)(f0 f3:Value)(m:Mem),Rep (m.off (Zp kb pa)) t->m.k kb=some es->(∀b,pa=some ⟨b,0,none⟩->b≠kb)->PtAt m pa P->k0+t.nodes.length<=1000000->P.length+t.ngr<=1000000->
 CXY Try.prog 69 #[.pointer (some ⟨fb,0,none⟩),t.v] m (λb=>pa=some ⟨b,0,none⟩) [⟨fb,[f0,.int .i64 (k0:Nat),.slice pa P.length pc,f3],92,4,false,true⟩] [⟨.slice pa P.length pc,2⟩] (Zwi kb es k0 t pa P f0 f3 m)
theorem Zqj{m M m4:Mem}{pa a4:Option Addr}{P:PL}{n c:Nat}{x y:Int}(h:PtAt m pa P)(hm:m.le m4)(aM:rowRd m4 a4 ((P.flatMap λp=>[.int .i64 p.1,.int .i64 p.2])++[.int .i64 x,.int .i64 y]))(hf:TokFact M pa a4 n c):PtAt m4 a4 (P++[(x,y)]):=by
 rcases aM with aM|⟨b,o,ha,cO⟩
 ·simp at aM
 obtain⟨_,hf⟩:=hf
 rcases hf with hf|⟨b',o',ha',hf⟩
 ·rw[ha]at hf;cases hf
 rw[ha]at ha';cases ha'
 have ho:o=0:=by
  rcases hf with hf|⟨ho,_⟩
  ·have hf:pa=some ⟨b,o,none⟩:=hf.trans ha
   rcases h with⟨_,h⟩|⟨b2,h1,_⟩
   ·rw[h]at hf;cases hf
   ·rw[h1]at hf;cases hf;rfl
  ·exact ho
 subst ho
 have e:(P.flatMap λp=>[Value.int .i64 p.1,.int .i64 p.2])++[.int .i64 x,.int .i64 y]=(P++[(x,y)]).flatMap λp=>[Value.int .i64 p.1,.int .i64 p.2]:=by simp
 rw[e]at cO
 have at2:∀(P:PL)(q:Nat)(p:Int×Int),P[q]?=some p->(P.flatMap λp=>[Value.int .i64 p.1,.int .i64 p.2])[q*2]?=some (.int .i64 p.1)/\(P.flatMap λp=>[Value.int .i64 p.1,.int .i64 p.2])[q*2+1]?=some (.int .i64 p.2):=λP=>by
  induction P with
  | nil=>intro q p hq;simp at hq
  | cons p0 P ih=>
   intro q p hq
   cases q with
   | zero=>simp at hq;subst hq;exact⟨rfl,rfl⟩
   | succ q=>
    have:=ih q p (by simpa using hq)
    rw[show(q+1)*2=q*2+2 by omega]
    exact this
 refine .inr ⟨b,ha,λq p hq=>?_,by simp⟩
 obtain⟨h1,h2⟩:=at2 _ q p hq
 have:=cO _ _ h1
 have h3:=cO _ _ h2
 rw[Nat.zero_add]at this h3
 exact⟨this,h3⟩
theorem Zly{m:Mem}{pa:Option Addr}{P:PL}(h:PtAt m pa P):rowRd m pa (P.flatMap λp=>[.int .i64 p.1,.int .i64 p.2]):=by
 rcases h with⟨h,_⟩|⟨b,h1,h2,h3⟩
 ·subst h;exact .inl rfl
 ·refine .inr ⟨b,0,h1,?_⟩
  have key:∀(P:PL)(o:Nat),(∀q p,P[q]?=some p->m b (o+q*2)=some (.int .i64 p.1)/\m b (o+(q*2+1))=some (.int .i64 p.2))->m.reads b o (P.flatMap λp=>[.int .i64 p.1,.int .i64 p.2]):=λP=>by
   induction P with
   | nil=>intro o _ j v hj;simp at hj
   | cons p0 P ih=>
    intro o hp j v hj
    match j,hj with
    | 0,hj=>cases hj;exact(hp 0 p0 rfl).1
    | 1,hj=>cases hj;exact(hp 0 p0 rfl).2
    | j+2,hj=>
     have:=ih (o+2) (λq p hq=>by
      have:=hp (q+1) p (by simpa using hq)
      rwa [show o+(q+1)*2=o+2+q*2 by omega,show o+((q+1)*2+1)=o+2+(q*2+1) by omega]at this) j v hj
     rwa [show o+(j+2)=o+2+j by omega]
  exact key P 0 λq p hq=>by rw[Nat.zero_add,Nat.zero_add];exact h2 q p hq
theorem ZrX{M m4:Mem}{pa a4:Option Addr}{n c:Nat}(hf:TokFact M pa a4 n c):NewP M pa a4:=λb hb=>by
 obtain⟨_,hf⟩:=hf
 rcases hf with hf|⟨b',o',ha',hf⟩
 ·rw[hb]at hf;cases hf
 rw[hb]at ha';cases ha'
 rcases hf with hf|⟨_,h1,h2⟩
 ·exact .inl hf
 ·exact .inr ⟨h1,h2⟩
theorem Zwr(fb kb:Nat)(es:List (Value×Value))(t:T)(ih:∀x∈t.subs,Zv9 fb kb es x):Zv9 fb kb es t:=by
 intro k0 pa pc P f0 f3 m cS dN kG gR pY hP
 have bR:=(ZgH cS)
 have lY:t.nodes.length=(Zaj t.subs).length+1:=by rw[Zbv];rfl
 have nR:t.ngr=kE t+ZdJ t.subs:=Zs3 t
 unfold T.v
 apply Zdf
 unfold Zcm
 intro b m1 aU hb jX _ gC
 have qE:=gR.mono aU
 have gP:=aU.k _ _ dN
 have eQ:IntKind.i64.wrap ((k0:Int)+1)=((k0+1:Nat):Int):=wr1 (by omega)
 have sq:=Zly qE
 have sr:∀P:PL,(P.flatMap λp=>[Value.int .i64 p.1,.int .i64 p.2]).length=P.length*2:=λP=>by
  induction P with
  | nil=>rfl
  | cons p P ih=>simp only[List.flatMap_cons,List.length_append,List.length_cons,List.length_nil,ih];omega
 have rel0:∀{M:Mem} {pa1:Option Addr},m.le M->NewP m pa pa1->(m.off (Zp kb pa)).le (M.off (Zp kb pa1)):=λhM hN=>ZqQ (mLt (Mem.off_le _ _) hM) hN
 refine⟨rfl,λnb=>⟨rfl,rfl,by omega,λxs css tvs M=>∃(pa1:Option Addr)(pc1:Nat),css=[[.int .u8 t.k,.int .u64 t.s0,.int .u64 t.s1,.int .u64 t.s2,.int .u64 t.s3,.int .i64 t.mn,.int .i64 t.mx,.slice t.a t.subs.length t.c,.int .i64 (k0:Nat),.int .i64 ((if t.k=6 then P.length else 0:Nat):Int),.slice none 0 0],[f0,.int .i64 ((k0+1:Nat):Int),.slice pa1 (P.length+kE t) pc1,f3]]/\tvs=[.slice pa1 (P.length+kE t) pc1]/\PtAt M pa1 (P++List.replicate (kE t) noP)/\NewP m pa pa1/\m.le M,?_,?_⟩⟩
 ·refine Zab (λh6=>⟨rfl,?_⟩) (λh6=>⟨rfl,rfl,pa,pc,?_,?_,?_,.same,aU⟩)
  ·have lZ:t.k=6:=by simpa using h6
   have nS:kE t=1:=by unfold kE;rw[if_pos lZ]
   refine⟨λ_ _ _=>λv _ _=>v=.agg #[.int .i64 (-1),.int .i64 (-1)],rfl,_,rfl,Zq6 m1,λv m' css h=>by rw[h];rfl,?_⟩
   rintro n1 n2 m2 bC hv b2 dW
   obtain⟨rfl,rfl⟩:n1=-1/\n2=-1:=by simpa using hv
   have iN:m1.le (m2.add b2 [.int .i64 (-1),.int .i64 (-1)]):=mLt bC (Mem.le_add dW _)
   refine⟨.inl rfl,(P.flatMap λp=>[.int .i64 p.1,.int .i64 p.2]),[.int .i64 (-1),.int .i64 (-1)],sr P,rfl,sq.mono iN,.inr ⟨b2,0,rfl,λj v hj=>by rw[Nat.zero_add,Mem.add_same];exact hj⟩,?_,by omega,by omega,λa4 c4 m4 cI bP hf=>⟨rfl,by omega,λM _ _ _ hM=>⟨rfl,rfl,a4,c4,?_,?_,?_,?_,?_⟩⟩⟩
   ·intro u hu
    have:u=.int .i64 (-1):=by simpa using hu
    rw[this];rfl
   ·rw[eQ,if_pos lZ,nS]
   ·rw[nS]
   ·rw[nS]
    exact(Zqj qE (mLt iN cI) bP hf).mono hM
   ·intro b' hb'
    rcases ZrX (m4:=m4) hf b' hb' with h|⟨h1,h2⟩
    ·exact .inl h
    ·have hl:=mLt aU iN
     refine .inr ⟨Zm1 hl h1,?_⟩
     cases he:m.k b' with
     | none=>rfl
     | some e=>rw[hl.k _ _ he]at h2;cases h2
   ·exact mLt aU (mLt iN (mLt cI hM))
  ·have lZ:t.k≠6:=by simpa using h6
   have nS:kE t=0:=by unfold kE;rw[if_neg lZ]
   rw[eQ,if_neg lZ,nS];rfl
  ·have lZ:t.k≠6:=by simpa using h6
   have nS:kE t=0:=by unfold kE;rw[if_neg lZ]
   rw[nS];rfl
  ·have lZ:t.k≠6:=by simpa using h6
   have nS:kE t=0:=by unfold kE;rw[if_neg lZ]
   rw[nS];simpa using qE
 rintro cs aw a n c m2 _ ⟨pa1,pc1,my,nT,vb,oS,bC⟩
 simp only[List.cons.injEq,and_true]at my nT
 obtain⟨rfl,rfl⟩:=my
 obtain⟨rfl,rfl,rfl⟩:a=pa1/\n=P.length+kE t/\c=pc1:=by simpa using nT
 refine⟨λxs css tvs M q=>∃(j:Nat)(L:List Nd)(sa2:Option Addr)(sc2:Nat)(pa':Option Addr)(pc':Nat),j<=t.subs.length/\xs=[.int .i64 (j:Nat)]/\
  css=[[.int .u8 t.k,.int .u64 t.s0,.int .u64 t.s1,.int .u64 t.s2,.int .u64 t.s3,.int .i64 t.mn,.int .i64 t.mx,.slice t.a t.subs.length t.c,.int .i64 (k0:Nat),.int .i64 ((if t.k=6 then P.length else 0:Nat):Int),.slice sa2 j sc2],[f0,.int .i64 ((k0+1+(Zaj (t.subs.take j)).length:Nat):Int),.slice pa' (P.length+kE t+ZdJ (t.subs.take j)) pc',f3]]/\
  tvs=[.slice sa2 j sc2,.slice pa' (P.length+kE t+ZdJ (t.subs.take j)) pc']/\L.map Nd.t=t.subs.take j/\SubsAt M (Zp kb pa') sa2 L/\(∀x∈L,NRep (M.off (Zp kb pa')) x)/\Zs4 L (P.length+kE t)/\Zt6 L (k0+1)/\PtAt M pa' (P++List.replicate (kE t+ZdJ (t.subs.take j)) noP)/\NewP m pa pa'/\(m.off (Zp kb pa)).le (M.off (Zp kb pa'))/\M.k kb=some es/\q=t.subs.length - j,
  ⟨_,0,[],none,0,a,c,by omega,rfl,rfl,rfl,rfl,.inl ⟨rfl,rfl⟩,by simp,trivial,trivial,vb,oS,rel0 bC oS,bC.k _ _ dN,rfl⟩,?_⟩
 rintro y cs cs2 a3 n3 c3 a4 n4 c4 m3 q _ ⟨j,L,sa2,sc2,pa',pc',hj,cH,my,nT,q6,ss,kO,wF,fR,jM,mA,kB,dJ,rfl⟩
 obtain rfl:y=j:=by simpa using cH
 simp only[List.cons.injEq,and_true]at my
 obtain⟨rfl,rfl⟩:=my
 obtain⟨⟨rfl,yn,rfl⟩,rfl,rfl,rfl⟩:(a3=sa2/\n3=j/\c3=sc2)/\a4=pa'/\n4=P.length+kE t+ZdJ (t.subs.take j)/\c4=pc':=by simpa using nT
 obtain rfl:=yn.symm
 have qF:L.length=j:=by have:=congrArg List.length q6;simp at this;omega
 have tg:ZdJ (t.subs.take j)<=ZdJ t.subs:=ZqO
 have sW:(Zaj (t.subs.take j)).length<=(Zaj t.subs).length:=ZmC
 have tC:Rep (m3.off (Zp kb a4)) t:=Rep.mono kB t cS
 have su:=ZgH tC
 refine Zab (λaN=>?_) (λcP=>?_)
 ·have aT:j < t.subs.length:=by have:=of_decide_eq_true aN;omega
  obtain⟨x,hx⟩:∃x,t.subs[j]?=some x:=⟨_,List.getElem?_eq_getElem aT⟩
  have fP:=List.mem_of_getElem? hx
  have ve:ZdJ (t.subs.take (j+1))<=ZdJ t.subs:=ZqO
  have vf:(Zaj (t.subs.take (j+1))).length<=(Zaj t.subs).length:=ZmC
  rw[ZgM hx]at ve
  rw[ZfY hx,List.length_append]at vf
  have Av:j<=(Zaj t.subs).length:=by
   have:∀l:List T,l.length<=(Zaj l).length:=λl=>by
    induction l with
    | nil=>simp
    | cons x l ih=>
     simp only[Zaj,List.length_append,List.length_cons]
     have:1<=x.nodes.length:=by rw[Zbv];simp
     omega
   have:=this t.subs
   omega
  rcases su.2 with h|⟨b0,o,ha,hO⟩
  ·rw[h]at aT;simp at aT
  obtain⟨cO,eJ⟩:=hO.get hx
  refine⟨b0,o,ha,⟨by omega,by omega⟩,.int .u8 x.k,.int .u64 x.s0,.int .u64 x.s1,.int .u64 x.s2,.int .u64 x.s3,.int .i64 x.mn,.int .i64 x.mx,.slice x.a x.subs.length x.c,by rw[Int.toNat_natCast];exact cO.mono (Mem.off_le _ _),λa1=>Zaa rfl (Zao rfl ⟨λb=>a4=some ⟨b,0,none⟩,Zwi kb es (k0+1+(Zaj (t.subs.take j)).length) x a4 (P++List.replicate (kE t+ZdJ (t.subs.take j)) noP) f0 f3 m3,?_,?_,?_,?_,?_⟩)⟩
  ·have:=ih x fP (k0+1+(Zaj (t.subs.take j)).length) a4 c4 (P++List.replicate (kE t+ZdJ (t.subs.take j)) noP) f0 f3 m3 eJ dJ ?_ jM (by omega) (by simp;omega)
   ·unfold T.v at this
    rw[show(P++List.replicate (kE t+ZdJ (t.subs.take j)) noP).length=P.length+kE t+ZdJ (t.subs.take j) by simp;omega]at this
    exact this
   ·intro b hb e
    subst e
    rcases mA b hb with h|⟨_,h⟩
    ·exact kG b (h.trans hb) rfl
    ·rw[dN]at h;cases h
  ·intro tk dC b' hb'
   obtain rfl:tk=_:=by simpa using dC
   rcases jM with⟨_,h⟩|⟨b2,h,_⟩
   ·rw[h]at hb';simp[Tok.blk]at hb'
   ·rw[h]at hb'
    have:b2=b':=by simpa[Tok.blk]using hb'
    rw[h,this]
  ·intro b' hb'
   refine .inl ⟨_,List.mem_singleton.2 rfl,?_⟩
   rw[hb'];rfl
  ·rintro v m' css tvs ⟨n,_,_,h,_⟩;rw[h];rfl
  rintro pb po m4 cI _ cs3 a5 n5 c5 ⟨n,pa2,pc2,hv,mZ,pJ,tD,rr,sw,sx,sy,oT,sA⟩ b5 qZ
  rw[show(P++List.replicate (kE t+ZdJ (t.subs.take j)) noP).length=P.length+kE t+ZdJ (t.subs.take j) by simp;omega]at tD sw sx
  obtain⟨rfl,rfl⟩:pb=n.b/\po=0:=by simpa using hv
  obtain rfl:cs3=_:=by simpa using sw
  obtain⟨rfl,rfl,rfl⟩:a5=pa2/\n5=P.length+kE t+ZdJ (t.subs.take j)+x.ngr/\c5=pc2:=by simpa using sx
  have qG:(m3.off (Zp kb a4)).le (m4.off (Zp kb a5)):=ZqQ cI oT
  have mB:m4.le (m4.add b5 [.pointer (some ⟨n.b,0,none⟩)]):=Mem.le_add qZ _
  have oU:=ss.next qG
  refine Zaa rfl ⟨.inl rfl,L.map (λx:Nd=>ptr x.b 0),[.pointer (some ⟨n.b,0,none⟩)],by simp[slN,qF],rfl,oU.row.mono mB,.inr ⟨b5,0,rfl,λq v hq=>by rw[Nat.zero_add,Mem.add_same];exact hq⟩,?_,by simp only[slN];omega,by simp only[slN];omega,λa6 c6 m5 eT aM hf=>Zaa rfl ⟨rfl,rfl,_,?_,j+1,L++[n],a6,c6,a5,c5,by omega,?_,?_,?_,?_,?_,?_,?_,?_,?_,?_,?_,?_,rfl⟩⟩
  ·intro u hu
   have:u=.pointer (some ⟨n.b,0,none⟩):=by simpa using hu
   rw[this];rfl
  ·omega
  ·rw[wr1 (by omega)]
  ·rw[ZgM hx,ZfY hx,List.length_append,<-Nat.add_assoc (P.length+kE t),<-Nat.add_assoc (k0+1)]
   rfl
  ·rw[ZgM hx,<-Nat.add_assoc (P.length+kE t)]
   rfl
  ·rw[List.map_append,q6,Zck hx,<-mZ];rfl
  ·
   have aM:rowRd m5 a6 ((L.map λx=>ptr x.b 0)++[ptr n.b 0]):=aM
   rcases aM with aM|⟨b6,o6,tE,vg⟩
   ·simp at aM
   obtain⟨_,hf⟩:=hf
   rcases hf with hf|⟨b',o',ha',hf⟩
   ·rw[tE]at hf;cases hf
   rw[tE]at ha';cases ha'
   have key:o6=0/\¬Zp kb a5 b6:=by
    rcases hf with hf|⟨ho,mW,iP⟩
    ·have hf:a3=some ⟨b6,o6,none⟩:=hf.trans tE
     rcases oU with⟨_,h⟩|⟨b2,h1,h2,_⟩
     ·rw[h]at hf;cases hf
     ·rw[h1]at hf;cases hf;exact⟨rfl,h2⟩
    ·obtain⟨g1,g2⟩:=Zg0 (by simp) mW
     refine⟨ho,λhz=>?_⟩
     rcases hz with rfl|hz
     ·have iP:m4.k b6=none:=iP
      rw[sA]at iP;cases iP
     ·rcases sy with⟨_,h⟩|⟨b2,h,hc,cL⟩
      ·rw[h]at hz;cases hz
      ·rw[h]at hz;cases hz
       generalize (P++List.replicate (kE t+ZdJ (t.subs.take j)) noP++List.replicate x.ngr noP)=PP at hc cL
       cases PP with
       | nil=>exact cL rfl
       | cons p l=>
        have:=(hc 0 p rfl).1
        rw[g2 _]at this;cases this
   obtain⟨rfl,yo⟩:=key
   exact .inr ⟨b6,tE,yo,λq v hq=>vg q v (by simpa using hq),by simp⟩
  ·intro y hy
   have qH:(m4.off (Zp kb a5)).le (m5.off (Zp kb a5)):=ZeR (mLt mB eT)
   rcases List.mem_append.1 hy with hy|hy
   ·exact NRep.mono (mLt qG qH) _ (kO y hy)
   ·obtain rfl:y=n:=by simpa using hy
    exact NRep.mono qH _ pJ
  ·refine ZoY wF ?_
   rw[q6];exact tD
  ·refine ZoZ fR ?_
   rw[q6];exact rr
  ·rw[ZgM hx,<-Nat.add_assoc]
   have:=sy.mono (mLt mB eT)
   rwa [List.append_assoc,List.replicate_append_replicate]at this
  ·exact mA.trans oT kB ⟨es,dJ⟩
  ·exact mLt kB (mLt qG (ZeR (mLt mB eT)))
  ·exact(mLt mB eT).k _ _ sA
 ·have:j=t.subs.length:=by have:=of_decide_eq_false cP;omega
  subst this
  rw[List.take_length]at jM q6 tg sW ⊢
  refine⟨rfl,λaW mT=>?_⟩
  have nU:=Mem.le_add aW [.int .u8 t.k,.int .u64 t.s0,.int .u64 t.s1,.int .u64 t.s2,.int .u64 t.s3,.int .i64 t.mn,.int .i64 t.mx,.slice t.a t.subs.length t.c,.int .i64 (k0:Nat),.int .i64 ((if t.k=6 then P.length else 0:Nat):Int),.slice a3 t.subs.length c3]
  have ua:¬Zp kb a4 nb:=λhz=>by
   rcases hz with rfl|hz
   ·rw[dJ]at mT;cases mT
   ·rcases jM with⟨_,h⟩|⟨b2,h,hc,cL⟩
    ·rw[h]at hz;cases hz
    ·rw[h]at hz;cases hz
     generalize (P++List.replicate (kE t+ZdJ t.subs) noP)=PP at hc cL
     cases PP with
     | nil=>exact cL rfl
     | cons p l=>
      have:=(hc 0 p rfl).1
      rw[aW _]at this;cases this
  have sB:=ZeR nU (Z:=Zp kb a4)
  have sC:=ss.next sB
  have Aw:(if t.k=6 then P.length else 0)<=P.length:=by split <;> omega
  refine⟨.mk nb k0 (if t.k=6 then P.length else 0) t a3 c3 L,a4,c4,rfl,rfl,?_,?_,?_,?_,?_,?_,mA,nU.k _ _ dJ⟩
  ·rw[Zc5]
   refine⟨λq v hq=>?_,⟨Rep.mono (mLt kB sB) t cS,q6⟩,⟨?_,?_⟩,sC.rep λx hx=>NRep.mono sB _ (kO x hx)⟩
   ·show Mem.off (Mem.add m3 nb _) (Zp kb a4) nb (0+q)=some v
    rw[Mem.off_at ua]
    rw[Nat.zero_add,Mem.add_same]
    have e:(Nd.mk nb k0 (if t.k=6 then P.length else 0) t a3 c3 L).cs=[.int .u8 t.k,.int .u64 t.s0,.int .u64 t.s1,.int .u64 t.s2,.int .u64 t.s3,.int .i64 t.mn,.int .i64 t.mx,.slice t.a t.subs.length t.c,.int .i64 (k0:Nat),.int .i64 ((if t.k=6 then P.length else 0:Nat):Int),.slice a3 t.subs.length c3]:=by
     show t.cs++[_,_,.slice a3 L.length c3]=_
     rw[qF];rfl
    rw[<-e]
    exact hq
   ·show k0 < _;omega
   ·show(if t.k=6 then P.length else 0) < _;omega
  ·rw[Zs5]
   exact⟨λh=>by have h:t.k=6:=h;show(if t.k=6 then P.length else 0)=_;rw[if_pos h],wF⟩
  ·rw[Zun];exact⟨rfl,fR⟩
  ·rw[lY,nR,<-Nat.add_assoc P.length,show k0+((Zaj t.subs).length+1)=k0+1+(Zaj t.subs).length by omega]
  ·rw[nR,<-Nat.add_assoc P.length]
  ·rw[nR];exact jM.mono nU
theorem Zoh(fb kb:Nat)(es:List (Value×Value)):∀(N:Nat)(t:T),SizeOf.sizeOf t < N->Zv9 fb kb es t:=by
 intro N
 induction N with
 | zero=>intro t h;omega
 | succ N ihN=>
  intro t hN
  refine Zwr fb kb es t λx hx=>ihN x ?_
  cases t with
  | node k s0 s1 s2 s3 mn mx a c l=>
   have h':x∈l:=hx
   have:=List.sizeOf_lt_of_mem h'
   simp only[T.node.sizeOf_spec]at hN
   omega
end Go.Proofs.Ytgclajkldphoaaa
set_option linter.unusedVariables false
namespace Go.Proofs.Ytgclajkldphoaaa
open Go Go.Eng Go.Proofs Go.RowKit
open Go.Value (int slice agg bool string tuple func)
open Go.IntKind (u8 u64 i64)
set_option maxRecDepth 100000
noncomputable def Zdi:Env:={ EB with
 tokOf:=(λi=>bif Nat.beq i 2 then 7 else bif Nat.beq i 7 then 7 else 0)
 tokC:=(λi=>bif Nat.beq i 5 then some (7,1)else none)
 thaw:=true }
def ZbU(p0a:Option Addr)(p0n p0c:Nat)(m:Mem)(R:RT):Prop:=
 br (Option.isNone p0a) (slice none 0 0=slice none 0 0/\R (slice none 0 0) m []) (((0:Int)=(0:Int)/\(0:Int)<=(0:Int)/\(0:Int)*(↑(8:Nat):Int)<=(281474976710656:Int)/\(0:Int) <=
 (9223372036854775807:Int))/\∀(b:Nat),Mem.free m b->(Tok.mk (slice (some (Addr.mk b 0 none)) 0 (Int.toNat (0:Int))) 1=Tok.mk (slice (some (Addr.mk b 0 none)) 0 (Int.toNat (0:Int))) 1\/slice (some (Addr.mk
 b 0 none)) 0 (Int.toNat (0:Int))=slice none 0 0\/Int.toNat (0:Int) < 0+p0n)/\∃(xs:List Value),∃(ys:List Value),List.length xs=0*1/\List.length ys=p0n*1/\rowRd m (some (Addr.mk b 0 none)) xs/\
 rowRd m p0a ys/\(∀(u:Value),u∈ys->Value.oneCell' u=true)/\(0+p0n)*8<=140737488355328/\0+p0n<=9223372036854775807/\∀(a':Option Addr)(c':Nat)(m':Mem),Mem.le m m'->rowRd m' a' (List.append
 xs ys)->TokFact m (some (Addr.mk b 0 none)) a' (0+p0n) c'->some (Tok.mk (slice a' (0+p0n) c') 1)=some (Tok.mk (slice a' (0+p0n) c') 1)/\R (slice a' (0+p0n) c') m' [])
theorem ZcY(p0a:Option Addr)(p0n p0c:Nat)(m:Mem)(R:RT)(h:ZbU p0a p0n p0c m R):CXT Try.prog 43 #[.slice p0a p0n p0c] m 1 R:=
 Zkf (E:=Zdi) ZaR mix Try.func43 [.v (.slice p0a p0n p0c)] (by kernel_rfl) (Eq.mp (by kernel_rfl) h)
noncomputable def Zbq:Env:={ EB with
 loops:=(λi=>bif Nat.beq i 4 then⟨[(13,.int .i64)],[],[],false⟩ else⟨[],[],[],false⟩)
 dr:=(λi=>bif Nat.beq i 6 then[⟨0,[],[],none,[],[]⟩,⟨1,[],[],none,[],[]⟩,⟨2,[],[],none,[0,1],[]⟩,⟨3,[],[],none,[0,1,2],[]⟩,⟨4,[],[],none,[],[]⟩,⟨5,[],[],none,[],[]⟩,⟨6,[],[],none,[4,5],[]⟩,⟨7,[],[],none,[4,5,6],[]⟩,⟨8,[],[],none,[0,1,2,3,4,5,6,7],[]⟩]else[]) }
def ZaP(p0a:Option Addr)(p0n p0c:Nat)(p1a:Option Addr)(p1n p1c:Nat)(m:Mem)(R:RT):Prop:=
 br (!(↑p0n:Int) == (↑p1n:Int)) (∃(m'':Mem),Mem.le m m''/\Mem.le m'' m/\R (bool false) m'' []) (∃(I:IT),(∃(n:Nat),I [int i64 0] [] [] m n)/\∀(n:Int)(m':Mem)(n_1:Nat),Mem.le m m'->I [int i64
 n] [] [] m' n_1->br (decide (n < (↑p0n:Int))) (∃(b:Nat),∃(o:Nat),p0a=some (Addr.mk b o none)/\Zag n p0n/\∃(v:Value),∃(v_1:Value),Mem.reads m' b (o+Int.toNat n*2) [v,v_1]/\∃(b:Nat),∃
 (o:Nat),p1a=some (Addr.mk b o none)/\Zag n p1n/\∃(v_2:Value),∃(v_3:Value),Mem.reads m' b (o+Int.toNat n*2) [v_2,v_3]/\∃(b:Bool),EqIs Try.prog 56 (agg (Array.mk [v,v_1])) (agg (Array.mk
 [v_2,v_3])) b/\br (!b) (∃(m'':Mem),Mem.le m m''/\Mem.le m'' m'/\R (bool false) m'' []) (∃(n':Nat),n' < n_1/\I [int i64 (IntKind.wrap i64 (n+(1:Int)))] [] [] m' n')) (∃(m'':Mem),Mem.le m m''/\Mem.le
 m'' m'/\R (bool true) m'' []))
theorem Zbo(p0a:Option Addr)(p0n p0c:Nat)(p1a:Option Addr)(p1n p1c:Nat)(m:Mem)(R:RT)(h:ZaP p0a p0n p0c p1a p1n p1c m R):CX Try.prog 22 #[.slice p0a p0n p0c,.slice p1a p1n p1c] m [] R:=
 Zak (E:=Zbq) ZaR mix Try.func22 [.v (.slice p0a p0n p0c),.v (.slice p1a p1n p1c)] [] (by kernel_rfl) (Eq.mp (by kernel_rfl) h)
noncomputable def ZhU:Env:=EB
def Zex(p0:Int)(m:Mem)(R:RT):Prop:=
 ∀(b b:Nat),(64:Int)≠(0:Int)/\(64:Int)≠(0:Int)/\(0:Int)<=Int.tmod p0 (64:Int)/\Zag (IntKind.wrap u8 (Int.tdiv p0 (64:Int))) 4/\chk (Nat.ble (0+Int.toNat (IntKind.wrap u8 (Int.tdiv p0 (64
 : Int)))*1) (nat_lit 3)) (chk (Nat.beq (List.length (Zah [int u64 0,int u64 0,int u64 0,int u64 0] (0+Int.toNat (IntKind.wrap u8 (Int.tdiv p0 (64:Int)))*1) [int u64 (IntKind.wrap u64 ((1:Int)*(2:Int)
 ^ min (Int.toNat (Int.tmod p0 (64:Int))) 64))])) 4&&true) (chk (Nat.beq (List.length (List.append (Zah [int u64 0,int u64 0,int u64 0,int u64 0] (0+Int.toNat (IntKind.wrap u8 (Int.tdiv p0 (64:Int)))*1)
 [int u64 (IntKind.wrap u64 ((1:Int)*(2:Int) ^ min (Int.toNat (Int.tmod p0 (64:Int))) 64))]) (List.drop (1+List.length (Zah [int u64 0,int u64 0,int u64 0,int u64 0] (0+Int.toNat (IntKind.wrap u8
 (Int.tdiv p0 (64:Int)))*1) [int u64 (IntKind.wrap u64 ((1:Int)*(2:Int) ^ min (Int.toNat (Int.tmod p0 (64:Int))) 64))])) [int u8 2,int u64 0,int u64 0,int u64 0,int u64 0,int i64 0,int i64 0,slice none
 0 0]))) (nat_lit 7)&&Zgl (List.append (Zah [int u64 0,int u64 0,int u64 0,int u64 0] (0+Int.toNat (IntKind.wrap u8 (Int.tdiv p0 (64:Int)))*1) [int u64 (IntKind.wrap u64 ((1:Int)*(2:Int) ^ min
 (Int.toNat (Int.tmod p0 (64:Int))) 64))]) (List.drop (1+List.length (Zah [int u64 0,int u64 0,int u64 0,int u64 0] (0+Int.toNat (IntKind.wrap u8 (Int.tdiv p0 (64:Int)))*1) [int u64 (IntKind.wrap u64 ((1
 : Int)*(2:Int) ^ min (Int.toNat (Int.tmod p0 (64:Int))) 64))])) [int u8 2,int u64 0,int u64 0,int u64 0,int u64 0,int i64 0,int i64 0,slice none 0 0]))) (∃(m'':Mem),Mem.le m m''/\Mem.le m'' m/\R (agg
 (Array.mk (Zah [int u8 2,int u64 0,int u64 0,int u64 0,int u64 0,int i64 0,int i64 0,slice none 0 0] 1 (Zah [int u64 0,int u64 0,int u64 0,int u64 0] (0+Int.toNat (IntKind.wrap u8 (Int.tdiv p0 (64:
 Int)))*1) [int u64 (IntKind.wrap u64 ((1:Int)*(2:Int) ^ min (Int.toNat (Int.tmod p0 (64:Int))) 64))])))) m'' [])))
theorem Zg3(p0:Int)(m:Mem)(R:RT)(h:Zex p0 m R):CX Try.prog 11 #[.int .u8 p0] m [] R:=
 Zak (E:=ZhU) ZaR mix Try.func11 [.v (.int .u8 p0)] [] (by kernel_rfl) (Eq.mp (by kernel_rfl) h)
noncomputable def ZjA:Env:={ EB with
 frzNew:=[1] }
def Zfd(aE aJ aH aI aK aD aG:Int)(aB:Option Addr)(aA aC:Nat)(m:Mem)(R:RT):Prop:=
 ∀(b:Nat)(m':Mem),Mem.le m m'->Mem.reads m' b 0 [int u8 aE,int u64 aJ,int u64 aH,int u64 aI,int u64 aK,int i64 aD,int i64 aG,slice aB aA aC]->∀(b b:Nat),Mem.free m' b->∃(m'':
 Mem),Mem.le m m''/\Mem.le m'' (Mem.add m' b [int u8 aE,int u64 aJ,int u64 aH,int u64 aI,int u64 aK,int i64 aD,int i64 aG,slice aB aA aC])/\R (agg (Array.mk [int u8 6,int u64 0,int u64
 0,int u64 0,int u64 0,int i64 0,int i64 0,slice (some (Addr.mk b 0 none)) 1 1])) m'' []
theorem ZhV(aE aJ aH aI aK aD aG:Int)(aB:Option Addr)(aA aC:Nat)(m:Mem)(R:RT)(h:Zfd aE aJ aH aI aK aD aG aB aA aC m R):CX Try.prog 10 #[.agg #[.int .u8 aE,.int .u64 aJ,.int .u64 aH,.int .u64 aI,.int .u64 aK,.int .i64 aD,.int .i64 aG,.slice aB aA aC]] m [] R:=
 Zak (E:=ZjA) ZaR mix Try.func10 [.v (.agg #[.int .u8 aE,.int .u64 aJ,.int .u64 aH,.int .u64 aI,.int .u64 aK,.int .i64 aD,.int .i64 aG,.slice aB aA aC])] [] (by kernel_rfl) (Eq.mp (by kernel_rfl) h)
noncomputable def Zm8:Env:=EB
def Zg4(p0a:Option Addr)(p0n p0c:Nat)(m:Mem)(R:RT):Prop:=
 ∀(b:Nat),∃(m'':Mem),Mem.le m m''/\Mem.le m'' m/\R (agg (Array.mk [int u8 3,int u64 0,int u64 0,int u64 0,int u64 0,int i64 0,int i64 0,slice p0a p0n p0c])) m'' []
theorem Zlb(p0a:Option Addr)(p0n p0c:Nat)(m:Mem)(R:RT)(h:Zg4 p0a p0n p0c m R):CX Try.prog 12 #[.slice p0a p0n p0c] m [] R:=
 Zak (E:=Zm8) ZaR mix Try.func12 [.v (.slice p0a p0n p0c)] [] (by kernel_rfl) (Eq.mp (by kernel_rfl) h)
noncomputable def Zm9:Env:={ EB with
 frzNew:=[3] }
def Zg5(aE aJ aH aI aK aD aG:Int)(aB:Option Addr)(aA aC:Nat)(p1 p2:Int)(m:Mem)(R:RT):Prop:=
 ∀(b:Nat)(m':Mem),Mem.le m m'->Mem.reads m' b 0 [int u8 aE,int u64 aJ,int u64 aH,int u64 aI,int u64 aK,int i64 aD,int i64 aG,slice aB aA aC]->∀(b b:Nat),Mem.free m' b->∃(m'':
 Mem),Mem.le m m''/\Mem.le m'' (Mem.add m' b [int u8 aE,int u64 aJ,int u64 aH,int u64 aI,int u64 aK,int i64 aD,int i64 aG,slice aB aA aC])/\R (agg (Array.mk [int u8 5,int u64 0,int u64
 0,int u64 0,int u64 0,int i64 p1,int i64 p2,slice (some (Addr.mk b 0 none)) 1 1])) m'' []
theorem Zlc(aE aJ aH aI aK aD aG:Int)(aB:Option Addr)(aA aC:Nat)(p1 p2:Int)(m:Mem)(R:RT)(h:Zg5 aE aJ aH aI aK aD aG aB aA aC p1 p2 m R):CX Try.prog 13 #[.agg #[.int .u8 aE,.int .u64 aJ,.int .u64 aH,.int .u64 aI,.int .u64 aK,.int .i64 aD,.int .i64 aG,.slice aB aA aC],.int .i64 p1,.int .i64 p2] m [] R:=
 Zak (E:=Zm9) ZaR mix Try.func13 [.v (.agg #[.int .u8 aE,.int .u64 aJ,.int .u64 aH,.int .u64 aI,.int .u64 aK,.int .i64 aD,.int .i64 aG,.slice aB aA aC]),.v (.int .i64 p1),.v (.int .i64 p2)] [] (by kernel_rfl) (Eq.mp (by kernel_rfl) h)
noncomputable def Zna:Env:=EB
def Zg6(p0a:Option Addr)(p0n p0c:Nat)(m:Mem)(R:RT):Prop:=
 ∀(b:Nat),∃(m'':Mem),Mem.le m m''/\Mem.le m'' m/\R (agg (Array.mk [int u8 4,int u64 0,int u64 0,int u64 0,int u64 0,int i64 0,int i64 0,slice p0a p0n p0c])) m'' []
theorem Zld(p0a:Option Addr)(p0n p0c:Nat)(m:Mem)(R:RT)(h:Zg6 p0a p0n p0c m R):CX Try.prog 24 #[.slice p0a p0n p0c] m [] R:=
 Zak (E:=Zna) ZaR mix Try.func24 [.v (.slice p0a p0n p0c)] [] (by kernel_rfl) (Eq.mp (by kernel_rfl) h)
end Go.Proofs.Ytgclajkldphoaaa
set_option linter.unusedVariables false
set_option linter.unusedSimpArgs false
namespace Go.Proofs.Ytgclajkldphoaaa
open Go Go.Eng Go.Rx Go.Proofs Go.RowKit
set_option maxRecDepth 100000
theorem Zu1{m M:Mem}{kb:Nat}{pa:Option Addr}(hm:m.le M)(h1:m.free kb/\m.k kb=none)(h2:∀b,pa=some ⟨b,0,none⟩->m.free b/\m.k b=none):m.le (M.off (Zp kb pa)):=by
 have key:∀b,Zp kb pa b->m.free b/\m.k b=none:=λb hb=>by
  rcases hb with rfl|hb
  ·exact h1
  ·exact h2 b hb
 refine⟨λb o v hv=>?_,λb e he=>?_⟩
 ·rw[Mem.off_at (λhb=>by have:=(key b hb).1 o;rw[hv]at this;cases this)]
  exact hm.c _ _ _ hv
 ·rw[Mem.off_k (λhb=>by have:=(key b hb).2;rw[he]at this;cases this)]
  exact hm.k _ _ he
theorem Zt8{m M:Mem}{b:Nat}(hm:m.le M)(h:M.k b=none):m.k b=none:=by
 cases he:m.k b with
 | none=>rfl
 | some e=>rw[hm.k _ _ he]at h;cases h
structure Made14 (m m':Mem)(fb kb:Nat)(n:Nd)(t:T)(sa:Option Addr)(s:List Nat)(sc:Nat)(pa:Option Addr)(pc:Nat):Prop where
 tr:n.t=t
 num:n.num 0
 st:Byt m sa s->St fb kb n sa s sc pa pc t.ngr m' (List.replicate t.ngr noP)
 kf:m.free kb/\m.k kb=none
 pf:∀b,pa=some ⟨b,0,none⟩->m.free b/\m.k b=none
def Zsh(m:Mem)(t:T)(sa:Option Addr)(s:List Nat)(sc:Nat):RT:=λv m' _=>
 (Zbg t s.length≠0/\v=.tuple #[.pointer none,.pointer none,.int .i64 (Zbg t s.length)])\/
 (Zbg t s.length=0/\∃(fb kb:Nat)(n:Nd)(pa:Option Addr)(pc:Nat),v=.tuple #[.pointer (some ⟨fb,0,none⟩),.pointer (some ⟨n.b,0,none⟩),.int .i64 0]/\Made14 m m' fb kb n t sa s sc pa pc)
theorem ZhA{m:Mem}{t:T}{sa:Option Addr}{s:List Nat}{sc:Nat}:∀(v:Value)(m':Mem) (css:List (List Value)),Zsh m t sa s sc v m' css->Shape.fits (Shape.tup [Shape.any,Shape.any,Shape.int .i64]) v=true:=λv m' css h=>by
 rcases h with⟨_,h⟩|⟨_,fb,kb,n,pa,pc,h,_⟩ <;> (rw[h];rfl)
theorem Zo9(t:T)(sa:Option Addr)(s:List Nat)(sc:Nat)(m:Mem)(hr:Rep m t):CX Try.prog 42 #[t.v,.slice sa s.length sc] m [] (Zsh m t sa s sc):=by
 unfold T.v
 apply Zk5
 unfold ZgV
 intro b m1 aU cO jX _ gC
 refine⟨_,trivial,Zo4 false false t m1 (hr.mono aU),λv m' css h=>by unfold Ret at h;rw[h];rfl,?_⟩
 rintro e m2 bC he
 obtain rfl:e=t.check:=by simpa[Ret]using he
 have eZ:=mLt aU bC
 refine Zab (λhq=>⟨m2,eZ,Mem.le_refl _,.inl ?_⟩) (λhq=>Zab (λjG=>⟨m2,eZ,Mem.le_refl _,.inl ?_⟩) (λjG=>?_))
 ·have:t.check≠0:=by simpa using hq
  have:Zbg t s.length=140:=by unfold Zbg;rw[if_pos this]
  rw[this];exact⟨by decide,rfl⟩
 ·have h1:t.check=0:=by simpa using hq
  have h2:512 < s.length:=by have:=of_decide_eq_true jG;omega
  have:Zbg t s.length=3:=by unfold Zbg;rw[if_neg (by simp[h1]),if_pos h2]
  rw[this];exact⟨by decide,rfl⟩
 have hc:t.check=0:=by simpa using hq
 have hl:s.length<=512:=by have:=of_decide_eq_false jG;omega
 have hw:Zbg t s.length=0:=by unfold Zbg;rw[if_neg (by simp[hc]),if_neg (by omega)]
 obtain⟨kA,lY⟩:=Zhv hc
 intro kb yp dF fb
 have tF:=Mem.le_updK (Mem.le_refl m2) dF []
 have nR:t.ngr<=t.nodes.length:=by rw[Zjh];exact List.countP_le_length
 have lJ:m.free kb/\m.k kb=none:=⟨Zm1 eZ yp,Zt8 eZ dF⟩
 have sD:Rep ((m2.updK kb []).off (Zp kb none)) t:=hr.mono (Zu1 (mLt eZ tF) lJ (λb hb=>by cases hb))
 have nQ:=Zoh fb kb [] _ t (Nat.lt_succ_self _) 0 none 0 [] (.slice sa s.length sc) (.map (some kb)) (m2.updK kb []) sD (Mem.updK_same _ _ _) (λb hb=>by cases hb) (.inl ⟨rfl,rfl⟩) (by omega) (by simp;omega)
 refine⟨_,_,nQ,?_,?_,?_,?_⟩
 ·intro tk dC b' hb'
  obtain rfl:tk=_:=by simpa using dC
  cases hb'
 ·intro b' hb'
  cases hb'
 ·rintro v m' css tvs ⟨n,_,_,h,_⟩;rw[h];rfl
 rintro nb no m3 cJ _ cs a d c ⟨n,pa,pc,hv,mZ,pJ,tD,rr,cR,fI,gR,bM,dN⟩ wG wH
 obtain⟨rfl,rfl⟩:nb=n.b/\no=0:=by simpa using hv
 have cR:=List.singleton_inj.1 cR
 subst cR
 clear fI hv
 have q7:(m2.updK kb []).le m3:=by
  refine mLt ⟨λb o v hv=>?_,λb e he=>?_⟩ cJ
  ·rw[Mem.off_at (λh=>by cases h)];exact hv
  ·rw[Mem.off_k (λh=>by cases h)];exact he
 have mO:=mLt eZ (mLt tF q7)
 have nU:=Mem.le_add wG [.slice sa s.length sc,.int .i64 ((0+t.nodes.length:Nat):Int),.slice pa (([]:PL).length+t.ngr) pc,.map (some kb)]
 have qI:∀b,pa=some ⟨b,0,none⟩->(m2.updK kb []).free b/\(m2.updK kb []).k b=none:=λb hb=>by
  rcases bM b hb with h|h
  ·rw[hb]at h;cases h
  ·exact h
 have wI:∀b,pa=some ⟨b,0,none⟩->m.free b/\m.k b=none:=λb hb=>⟨Zm1 (mLt eZ tF) (qI b hb).1,Zt8 (mLt eZ tF) (qI b hb).2⟩
 have hC:¬Zp kb pa fb:=λhz=>by
  rcases hz with rfl|hz
  ·rw[dN]at wH;cases wH
  ·rcases gR with⟨_,h⟩|⟨b2,h,wJ,cL⟩
   ·rw[h]at hz;cases hz
   ·rw[h]at hz;cases hz
    generalize (([]:PL)++List.replicate t.ngr noP)=PP at wJ cL
    cases PP with
    | nil=>exact cL rfl
    | cons p l=>
     have:=(wJ 0 p rfl).1
     rw[wG _]at this;cases this
 have sB:=ZeR nU (Z:=Zp kb pa)
 rw[List.nil_append]at gR
 have sE:=gR.mono nU
 refine⟨_,mLt mO nU,Mem.le_refl _,.inr ⟨hw,fb,kb,n,pa,pc,rfl,mZ,tD,λhb=>⟨⟨⟨?_,?_,?_,hl,NRep.mono sB _ pJ,ZqP n 0 (Zs7 pJ) rr,λx hx=>?_⟩,⟨[],nU.k _ _ dN,λe he=>by cases he⟩,ZrW sE⟩,sE,by simp,?_,λb hb e=>?_⟩,lJ,wI⟩⟩
 ·rw[Mem.off_at hC,Mem.add_same];rfl
 ·rw[Mem.off_at hC,Mem.add_same];rfl
 ·exact hb.mono (Zu1 (mLt mO nU) lJ wI)
 ·have:=ZmD n (Zs7 pJ) x hx
  rw[mZ]at this
  unfold T.good at kA
  exact List.all_eq_true.1 kA _ this
 ·rw[Mem.off_at hC,Mem.add_same]
  simp
 ·subst e
  have:=(qI b hb).2
  rw[Mem.updK_same]at this;cases this
end Go.Proofs.Ytgclajkldphoaaa
set_option linter.unusedVariables false
set_option linter.unusedSimpArgs false
namespace Go.Proofs.Ytgclajkldphoaaa
open Go Go.Eng Go.Rx Go.Proofs Go.RowKit
set_option maxRecDepth 100000
theorem Zsi{P:Program}{g:FuncId}{args:Array Value}{m m0:Mem}{Y:Nat->Prop}{R0:RTY}{sh:Shape}{E:Nat->Prop}{Kf:(Nat->Prop)->RTY->Prop}(h:CXY P g args m Y [] [] R0)(hY:∀b,Y b->(m0.free b/\m0.k b=none)/\((∃(o:Nat),∃(v:Value),m b o=some v)\/∃(e:List (Value×Value)),Mem.k m b=some e)/\E b)(hf:∀(v:Value)(m':Mem) (css:List (List Value)) (tvs:List Value),R0 v m' css tvs->Shape.fits sh v=true)(k:Kf Y R0):
  ∃(Y:Nat->Prop),∃(R:Value->Mem->List (List Value)->List Value->Prop),CXY P g args m Y [] [] R/\(∀(t:Tok),t∈[]->∀(b:Nat),t.blk=some b->Y b)/\
   (∀(b:Nat),Y b->(∃(t:Tok),t∈[]/\t.blk=some b)\/(Mem.free m0 b/\Mem.k m0 b=none)/\((∃(o:Nat),∃(v:Value),m b o=some v)\/∃(e:List (Value×Value)),Mem.k m b=some e)/\E b)/\
   (∀(v:Value)(m':Mem) (css:List (List Value)) (tvs:List Value),R v m' css tvs->Shape.fits sh v=true)/\Kf Y R:=
 ⟨Y,R0,h,by simp,λb hb=>.inr (hY b hb),hf,k⟩
theorem Znb{m:Mem}{vs:List Value}(h:rowRd m none vs):vs=[]:=by
 rcases h with h|⟨b,o,h,_⟩
 ·exact h
 ·cases h
theorem Zoi(l:List Nat)(a:Option Addr)(c:Nat)(m:Mem)(h:rowRd m a (nsL l))(hl:l.length<=1000000):CX Try.prog 43 #[.slice a l.length c] m [] (λv m' _=>∃a c,v=.slice a l.length c/\rowRd m' a (nsL l)):=by
 have key:CXT Try.prog 43 #[.slice a l.length c] m 1 (λv m' _=>∃a c,v=.slice a l.length c/\rowRd m' a (nsL l)):=by
  apply ZcY
  unfold ZbU
  refine Zab (λhn=>?_) (λhn=>⟨⟨rfl,Int.le_refl _,by decide,by decide⟩,λb hb=>⟨.inl rfl,[],nsL l,rfl,by simp[nsL],.inl rfl,h,λu hu=>Ztv u hu,by omega,by omega,λa' c' m' hm' hr wl=>⟨rfl,a',c',by rw[Nat.zero_add],hr⟩⟩⟩)
  have:a=none:=by simpa using hn
  subst this
  have:=Znb h
  obtain rfl:l=[]:=by simpa[nsL]using this
  exact⟨rfl,none,0,rfl,.inl rfl⟩
 exact key.toCX
theorem Made14.here{m m':Mem}{fb kb:Nat}{n:Nd}{t:T}{sa:Option Addr}{s:List Nat}{sc:Nat}{pa:Option Addr}{pc:Nat}(h:Made14 m m' fb kb n t sa s sc pa pc)(fL:Byt m sa s):∀b,Zp kb pa b->(m.free b/\m.k b=none)/\((∃(o:Nat),∃(v:Value),m' b o=some v)\/∃(e:List (Value×Value)),Mem.k m' b=some e):=λb hb=>
 ⟨by rcases hb with rfl|hb;exact h.kf;exact h.pf b hb,((h.st fL).zin b hb).2.1⟩
theorem Zey{m m1 m2:Mem}{fb kb:Nat}{n:Nd}{t:T}{sa:Option Addr}{s:List Nat}{sc:Nat}{pa:Option Addr}{pc:Nat}{b:Nat}{v:Value}(h:Made14 m1 m2 fb kb n t sa s sc pa pc)(fL:Byt m1 sa s)(hm:m.le m1)(hb:m1 b 0=some v):∀x,Zp kb pa x->(m.free x/\m.k x=none)/\((∃(o:Nat),∃(v:Value),m2 x o=some v)\/∃(e:List (Value×Value)),Mem.k m2 x=some e)/\(b≠x/\True):=λx hx=>by
 obtain⟨⟨h1,h2⟩,h3⟩:=h.here fL x hx
 refine⟨⟨Zm1 hm h1,Zt8 hm h2⟩,h3,λe=>?_,trivial⟩
 subst e
 rw[h1 0]at hb;cases hb
theorem Zkt{m m' M:Mem}{Y:Nat->Prop}(hm:m.le m')(hn:∀b,Y b->m.free b/\m.k b=none)(hM:(m'.off Y).le M):m.le M:=⟨λb o v hv=>by
 refine hM.c _ _ _ ?_
 rw[Mem.off_at (λhb=>by have:=(hn b hb).1 o;rw[hv]at this;cases this)]
 exact hm.c _ _ _ hv,λb e he=>by
 refine hM.k _ _ ?_
 rw[Mem.off_k (λhb=>by have:=(hn b hb).2;rw[he]at this;cases this)]
 exact hm.k _ _ he⟩
def Zwa(t:T)(s:List Nat)(i:Int):RT:=λv m' _=>∃a c,v=.tuple #[.slice a (Zp3 t s i).1.length c,.int .i64 (Zp3 t s i).2]/\rowRd m' a (nsL (Zp3 t s i).1)
theorem Zlz(t:T)(sa:Option Addr)(s:List Nat)(sc:Nat)(i:Int)(m:Mem)(hr:Rep m t)(hb:Zbg t s.length=0->0<=i/\i<=s.length->Byt m sa s):CX Try.prog 14 #[t.v,.slice sa s.length sc,.int .i64 i] m [] (Zwa t s i):=by
 unfold T.v
 apply Zjr
 unfold Zf6
 intro b m1 aU cO jX _
 refine⟨_,trivial,Zo9 t sa s sc m1 (hr.mono aU),ZhA,?_⟩
 rintro v v1 e m2 bC hR
 have eZ:=mLt aU bC
 unfold Zsh at hR
 rcases hR with⟨hw,hv⟩|⟨hw,fb,kb,n,pa,pc,hv,hM⟩
 ·simp only[Value.tuple.injEq,Array.mk.injEq,List.cons.injEq,Value.int.injEq,true_and,and_true]at hv
  obtain⟨rfl,rfl,rfl⟩:=hv
  refine Zh0 (by simpa using hw) ⟨m2,eZ,Mem.le_refl _,none,0,?_,?_⟩ <;> (unfold Zp3;rw[if_pos hw])
  ·rfl
  ·exact .inl rfl
 simp only[Value.tuple.injEq,Array.mk.injEq,List.cons.injEq,Value.int.injEq,true_and,and_true]at hv
 obtain⟨rfl,rfl,rfl⟩:=hv
 refine Zha (by simp) ⟨decide (i < 0)||decide (i > (s.length:Int)),Zab (λh=>⟨rfl,by rw[h];rfl⟩) (λh=>⟨rfl,by rw[h];rfl⟩),Zab (λhq=>⟨m2,eZ,Mem.le_refl _,none,0,?_,?_⟩) (λhq=>?_)⟩
 ·have hq:i < 0\/i > (s.length:Int):=by simpa using hq
  unfold Zp3;rw[if_neg (by simp[hw]),if_pos hq];rfl
 ·have hq:i < 0\/i > (s.length:Int):=by simpa using hq
  unfold Zp3;rw[if_neg (by simp[hw]),if_pos hq];exact .inl rfl
 have hq:¬(i < 0\/i > (s.length:Int)):=by simpa using hq
 obtain⟨j,rfl⟩:∃j:Nat,i=j:=⟨i.toNat,by omega⟩
 have hj:j<=s.length:=by omega
 have fL:=(hb hw ⟨by omega,by omega⟩).mono aU
 have cQ:=hM.st fL
 have hX:Zp3 t s j=(t.e0 s j,0):=by unfold Zp3;rw[if_neg (by simp[hw]),if_neg hq];simp
 have gQ:=ZbT (d:=0) (cQ.wk.fin.good n (ZcF n)) cQ.wk.fin.len hj
 rw[Za1,hM.tr]at gQ
 refine Zsi (Zhz fb kb (Zp kb pa) n sa s sc n (ZcF n) 0 j (by omega) hj (λ_=>Nat.zero_le _) m2 cQ.wk) (λx hx=>Zey hM fL aU (cO 0 _ rfl) x (.inl hx)) Za3 ?_
 rintro a nn c m3 cJ _ ⟨a',c',hv,aM,cY⟩
 rw[Za1,hM.tr]at hv aM
 obtain⟨rfl,rfl,rfl⟩:a=a'/\nn=(t.e0 s j).length/\c=c':=by simpa using hv
 have mO:m.le m3:=Zkt eZ (λx hx=>(Zey hM fL aU (cO 0 _ rfl) x (.inl hx)).1) cJ
 refine⟨_,trivial,Zoi _ a c m3 (aM.mono (Mem.off_le _ _)) (by omega),λv m' css ⟨_,_,h,_⟩=>by rw[h];rfl,?_⟩
 rintro a2 n2 c2 m4 cI ⟨a3,c3,hv,bP⟩
 obtain⟨rfl,rfl,rfl⟩:a2=a3/\n2=(t.e0 s j).length/\c2=c3:=by simpa using hv
 refine⟨m4,mLt mO cI,Mem.le_refl _,a2,c2,?_,?_⟩ <;> rw[hX]
 exact bP
def Zwb(t:T)(s:List Nat):RT:=λv m' _=>∃a c,v=.tuple #[.slice a (Zgj t s).1.length c,.int .i64 (Zgj t s).2]/\PtAt m' a (Zgj t s).1
theorem ZlA(t:T)(sa:Option Addr)(s:List Nat)(sc:Nat)(m:Mem)(hr:Rep m t)(hb:Zbg t s.length=0->Byt m sa s):CX Try.prog 15 #[t.v,.slice sa s.length sc] m [] (Zwb t s):=by
 unfold T.v
 apply Zjs
 unfold Zf7
 intro b m1 aU cO jX _
 refine⟨_,trivial,Zo9 t sa s sc m1 (hr.mono aU),ZhA,?_⟩
 rintro v v1 e m2 bC hR
 have eZ:=mLt aU bC
 unfold Zsh at hR
 rcases hR with⟨hw,hv⟩|⟨hw,fb,kb,n,pa,pc,hv,hM⟩
 ·simp only[Value.tuple.injEq,Array.mk.injEq,List.cons.injEq,Value.int.injEq,true_and,and_true]at hv
  obtain⟨rfl,rfl,rfl⟩:=hv
  refine Zh0 (by simpa using hw) ⟨m2,eZ,Mem.le_refl _,none,0,?_,?_⟩ <;> (unfold Zgj;rw[if_pos hw])
  ·rfl
  ·exact .inl ⟨rfl,rfl⟩
 simp only[Value.tuple.injEq,Array.mk.injEq,List.cons.injEq,Value.int.injEq,true_and,and_true]at hv
 obtain⟨rfl,rfl,rfl⟩:=hv
 have fL:=(hb hw).mono aU
 have cQ:=hM.st fL
 have gQ:=ZbT (d:=0) (i:=0) (cQ.wk.fin.good n (ZcF n)) cQ.wk.fin.len (by omega)
 rw[Za1,hM.tr]at gQ
 refine Zha (by simp) (Zsi (Zhz fb kb (Zp kb pa) n sa s sc n (ZcF n) 0 0 (by omega) (by omega) (λ_=>Nat.zero_le _) m2 cQ.wk) (λx hx=>Zey hM fL aU (cO 0 _ rfl) x (.inl hx)) Za3 ?_)
 rintro a nn c m3 cJ _ ⟨a',c',hv,aM,cY⟩
 rw[Za1,hM.tr]at hv aM
 obtain⟨rfl,rfl,rfl⟩:a=a'/\nn=(t.e0 s 0).length/\c=c':=by simpa using hv
 have mO:m.le m3:=Zkt eZ (λx hx=>(Zey hM fL aU (cO 0 _ rfl) x (.inl hx)).1) cJ
 have dH:=cQ.step cJ cY
 refine⟨_,trivial,Zdv _ a c s.length m3 (aM.mono (Mem.off_le _ _)) (by omega),λv m' css h=>by unfold Ret at h;rw[h];rfl,?_⟩
 rintro bb m4 cI hR
 obtain rfl:bb=decide (s.length∈t.e0 s 0):=by simpa[Ret]using hR
 have dR:=dH.le cI
 have sF:=mLt mO cI
 refine Zab (λhq=>⟨m4,sF,Mem.le_refl _,none,0,?_,?_⟩) (λhq=>?_)
 ·have hq:s.length ∉ t.e0 s 0:=by simpa using hq
  unfold Zgj;rw[if_neg (by simp[hw]),if_neg hq];rfl
 ·have hq:s.length ∉ t.e0 s 0:=by simpa using hq
  unfold Zgj;rw[if_neg (by simp[hw]),if_neg hq];exact .inl ⟨rfl,rfl⟩
 have hq:s.length∈t.e0 s 0:=by simpa using hq
 have hX:Zgj t s=((Zsp t s).1,0):=by unfold Zgj;rw[if_neg (by simp[hw]),if_pos hq]
 have sG:=Zo8 fb kb n sa s sc pa pc t.ngr _ n (Nat.lt_succ_self _) (ZcF n) 0 hM.num (by rw[hM.tr];omega) 0 s.length (by omega) (by rw[hM.tr];exact hq) m4 _ dR
 rw[hM.tr]at sG
 refine Zsi sG (λx hx=>?_) Zdx ?_
 ·obtain⟨q1,_,q3⟩:=Zey hM fL aU (cO 0 _ rfl) x hx
  exact⟨q1,(dR.zin x hx).2.1,q3⟩
 rintro z m5 eT _ ⟨_,hh,gR⟩
 have vh:m.le m5:=Zkt sF (λx hx=>(Zey hM fL aU (cO 0 _ rfl) x hx).1) eT
 refine Zaa rfl (Zaa rfl ⟨_,eT.c _ _ _ dR.parts,m5,vh,Mem.le_refl _,pa,pc,?_,?_⟩) <;> rw[hX]
 ·rw[Zo1]
 ·exact gR
theorem ZjB(t:T)(sa:Option Addr)(s:List Nat)(sc:Nat)(m:Mem)(hr:Rep m t)(hb:Zbg t s.length=0->t.k=5->Byt m sa s):CX Try.prog 17 #[t.v,.slice sa s.length sc] m [] (Ret (.tuple #[.int .i64 ((Znk t s).1:Nat),.int .i64 (Znk t s).2])):=by
 unfold T.v
 apply ZhT
 unfold Zfb
 intro b m1 aU cO jX _
 refine⟨_,trivial,Zo9 t sa s sc m1 (hr.mono aU),ZhA,?_⟩
 rintro v v1 e m2 bC hR
 have eZ:=mLt aU bC
 unfold Zsh at hR
 rcases hR with⟨hw,hv⟩|⟨hw,fb,kb,n,pa,pc,hv,hM⟩
 ·simp only[Value.tuple.injEq,Array.mk.injEq,List.cons.injEq,Value.int.injEq,true_and,and_true]at hv
  obtain⟨rfl,rfl,rfl⟩:=hv
  refine Zh0 (by simpa using hw) ⟨m2,eZ,Mem.le_refl _,?_⟩
  unfold Ret Znk;rw[if_pos hw];rfl
 simp only[Value.tuple.injEq,Array.mk.injEq,List.cons.injEq,Value.int.injEq,true_and,and_true]at hv
 obtain⟨rfl,rfl,rfl⟩:=hv
 refine Zha (by simp) (Zab (λhk=>⟨m2,eZ,Mem.le_refl _,?_⟩) (λhk=>?_))
 ·have hk:t.k≠5:=by simpa using hk
  unfold Ret Znk;rw[if_neg (by simp[hw]),if_pos hk];rfl
 have hk:t.k=5:=by simpa using hk
 have fL:=(hb hw hk).mono aU
 have cQ:=hM.st fL
 have gQ:=ZbT (d:=0) (i:=0) (cQ.wk.fin.good n (ZcF n)) cQ.wk.fin.len (by omega)
 rw[Za1,hM.tr]at gQ
 refine Zsi (Zhz fb kb (Zp kb pa) n sa s sc n (ZcF n) 0 0 (by omega) (by omega) (λ_=>Nat.zero_le _) m2 cQ.wk) (λx hx=>Zey hM fL aU (cO 0 _ rfl) x (.inl hx)) Za3 ?_
 rintro a nn c m3 cJ _ ⟨a',c',hv,aM,cY⟩
 rw[Za1,hM.tr]at hv aM
 obtain⟨rfl,rfl,rfl⟩:a=a'/\nn=(t.e0 s 0).length/\c=c':=by simpa using hv
 have mO:m.le m3:=Zkt eZ (λx hx=>(Zey hM fL aU (cO 0 _ rfl) x (.inl hx)).1) cJ
 have dH:=cQ.step cJ cY
 refine⟨_,trivial,Zdv _ a c s.length m3 (aM.mono (Mem.off_le _ _)) (by omega),λv m' css h=>by unfold Ret at h;rw[h];rfl,?_⟩
 rintro bb m4 cI hR
 obtain rfl:bb=decide (s.length∈t.e0 s 0):=by simpa[Ret]using hR
 have dR:=dH.le cI
 have sF:=mLt mO cI
 refine Zab (λhq=>⟨m4,sF,Mem.le_refl _,?_⟩) (λhq=>?_)
 ·have hq:s.length ∉ t.e0 s 0:=by simpa using hq
  unfold Ret Znk;rw[if_neg (by simp[hw]),if_neg (by simp[hk]),if_neg hq];rfl
 have hq:s.length∈t.e0 s 0:=by simpa using hq
 have sG:=Zo8 fb kb n sa s sc pa pc t.ngr _ n (Nat.lt_succ_self _) (ZcF n) 0 hM.num (by rw[hM.tr];omega) 0 s.length (by omega) (by rw[hM.tr];exact hq) m4 _ dR
 rw[hM.tr]at sG
 refine Zsi sG (λx hx=>?_) Zdx ?_
 ·obtain⟨q1,_,q3⟩:=Zey hM fL aU (cO 0 _ rfl) x hx
  exact⟨q1,(dR.zin x hx).2.1,q3⟩
 rintro z m5 eT _ ⟨hz,hh,gR⟩
 have vh:m.le m5:=Zkt sF (λx hx=>(Zey hM fL aU (cO 0 _ rfl) x hx).1) eT
 obtain rfl:z=((Zsp t s).2:Nat):=by simpa[Zsp,noP]using hz
 refine⟨m5,vh,Mem.le_refl _,?_⟩
 unfold Ret Znk;rw[if_neg (by simp[hw]),if_neg (by simp[hk]),if_pos hq]
end Go.Proofs.Ytgclajkldphoaaa
set_option linter.unusedVariables false
set_option linter.unusedSimpArgs false
namespace Go.Proofs.Ytgclajkldphoaaa
open Go Go.Eng Go.Rx Go.Proofs Go.RowKit
set_option maxRecDepth 100000
def mkS(l:List Nat):ByteArray:=⟨(l.map UInt8.ofNat).toArray⟩
theorem Zoj{l:List Nat}(h:∀c∈l,c < 256):ZbI (mkS l)=l:=by
 unfold ZbI mkS
 simp only[List.map_map]
 conv=>rhs;rw[<-List.map_id l]
 refine List.map_congr_left λc hc=>?_
 simp only[Function.comp,id]
 rw[UInt8.toNat_ofNat']
 exact Nat.mod_eq_of_lt (h c hc)
theorem Zpa(l:List Nat):(mkS l).size=l.length:=by
 unfold mkS ByteArray.size
 simp
theorem Zpb{m:Mem}{a:Option Addr}{l:List Nat}(h:Byt m a l):rowRd m a (Zaz (mkS l)):=by
 rw[Ziw,Zoj h.2]
 rcases h.1 with h|⟨b,o,h1,h2⟩
 ·subst h;exact .inl rfl
 ·exact .inr ⟨b,o,h1,h2⟩
theorem ZtB{m:Mem}{a:Option Addr}{s:List Nat}(h:Byt m a s)(i n c:Nat)(hc:s.length<=c)(hn:n<=s.length)(hi:i<=n):Byt m (Zbk a i c 1) ((s.take n).drop i):=by
 refine⟨?_,λx hx=>h.2 x (List.mem_of_mem_take (List.mem_of_mem_drop hx))⟩
 by_cases e:i=n
 ·left
  rw[List.drop_eq_nil_of_le (by rw[List.length_take];omega)]
 rcases h.1 with hs|⟨b,o,rfl,hr⟩
 ·subst hs;left;simp
 ·refine .inr ⟨b,o+i,?_,λj v hj=>?_⟩
  ·unfold Zbk
   cases i with
   | zero=>rfl
   | succ i=>
    have e1:Nat.beq (i+1) 0=false:=rfl
    have e2:Nat.beq c (i+1)=false:=by
     cases hb:Nat.beq c (i+1)with
     | false=>rfl
     | true=>have:=Nat.eq_of_beq_eq_true hb;omega
    rw[e1,e2]
    show some (Addr.add _ ((i+1)*1))=_
    rw[ZbN,Nat.mul_one]
  ·have aN:=(List.getElem?_eq_some_iff.1 hj).1
   simp only[List.length_map,List.length_drop,List.length_take]at aN
   rw[List.getElem?_map,List.getElem?_drop,List.getElem?_take_of_lt (by omega),<-List.getElem?_map]at hj
   rw[Nat.add_assoc];exact hr _ _ hj
theorem Zwj(x:Int):(if(0:Int) > x then 0 else x)=((x.toNat:Nat):Int):=by split <;> omega
def Zsj(l:List Nat):Value:=.string (mkS l)
def Zvs(t:T)(s:List Nat):RT:=λv m' _=>∃a c,v=.tuple #[.slice a (ZrF t s).1.length c,.int .i64 (ZrF t s).2]/\rowRd m' a ((ZrF t s).1.map Zsj)
theorem Zix(t:T)(sa:Option Addr)(s:List Nat)(sc:Nat)(m:Mem)(hr:Rep m t)(hb:Zbg t s.length=0->Byt m sa s)(sH:s.length<=sc):CX Try.prog 16 #[t.v,.slice sa s.length sc] m [] (Zvs t s):=by
 unfold T.v
 apply Zgh
 unfold ZdR
 intro b m1 aU cO
 refine⟨_,trivial,ZlA t sa s sc m1 (hr.mono aU) (λh=>(hb h).mono aU),λv m' css ⟨_,_,h,_⟩=>by rw[h];rfl,?_⟩
 rintro a n c e m2 bC ⟨a',c',hv,gR⟩
 simp only[Value.tuple.injEq,Array.mk.injEq,List.cons.injEq,Value.int.injEq,Value.slice.injEq,true_and,and_true]at hv
 obtain⟨⟨rfl,rfl,rfl⟩,rfl⟩:=hv
 have eZ:=mLt aU bC
 refine Zab (λhq=>⟨m2,eZ,Mem.le_refl _,none,0,?_,?_⟩) (λhq=>?_)
 ·have hq:(Zgj t s).2≠0:=by simpa using hq
  unfold ZrF;rw[if_pos hq];rfl
 ·have hq:(Zgj t s).2≠0:=by simpa using hq
  unfold ZrF;rw[if_pos hq];exact .inl rfl
 have hq:(Zgj t s).2=0:=by simpa using hq
 have hX:ZrF t s=(s::(Zgj t s).1.map (Zsq s),0):=by unfold ZrF;rw[if_neg (by simp[hq])]
 obtain⟨P,vj⟩:∃P,P=(Zgj t s).1:=⟨_,rfl⟩
 have vn:∀p∈P,ZdV s.length p:=vj ▸ Ztb
 have Ax:P.length<=1000:=by
  rw[vj];unfold Zgj
  split
  ·simp
  ·rename_i hw
   split
   ·simp only;rw[Zo1]
    have hc:=(ZrE (Classical.not_not.1 hw)).1
    have:=(Zhv hc).2
    have:t.ngr<=t.nodes.length:=by rw[Zjh];exact List.countP_le_length
    omega
   ·simp
 rw[<-vj]at gR hX ⊢
 have yq:Zbg t s.length=0:=by
  unfold Zgj at hq
  by_cases hw:Zbg t s.length=0
  ·exact hw
  ·rw[if_pos hw]at hq;exact hq
 have dW:=(hb yq).mono eZ
 refine⟨mkS s,Zpa s,Zpb dW,λb1 mW=>⟨λxs css tvs m' q=>∃(j:Nat)(a4:Option Addr)(c4:Nat)(a5:Option Addr)(n5 c5:Nat),j<=P.length/\xs=[.slice a4 (j+1) c4,.int .i64 (j:Nat)]/\tvs=[.slice a5 n5 c5]/\((a5=a4/\n5=j+1/\c5=c4)\/c4 < j+2)/\rowRd m' a4 ((s::(P.take j).map (Zsq s)).map Zsj)/\q=P.length - j,⟨_,0,_,1,none,0,0,by omega,rfl,rfl,.inr (by omega),.inr ⟨b1,0,rfl,λj v hj=>by rw[Nat.zero_add,Mem.add_same];exact hj⟩,rfl⟩,?_⟩⟩
 rintro a4' n4' c4' y a5' n5' c5' m3 q cJ ⟨j,a4,c4,a5,n5,c5,hj,cH,fI,cT,aM,rfl⟩
 simp only[List.cons.injEq,Value.int.injEq,Value.slice.injEq,true_and,and_true]at cH fI
 obtain⟨⟨rfl,rfl,rfl⟩,rfl⟩:=cH
 obtain⟨rfl,rfl,rfl⟩:=fI
 have q7:m2.le m3:=mLt (Mem.le_add mW _) cJ
 have jC:=dW.mono q7
 have jM:=gR.mono q7
 refine Zab (λaN=>?_) (λcP=>?_)
 ·have aT:j < P.length:=by have:=of_decide_eq_true aN;omega
  obtain⟨p,hp⟩:∃p,P[j]?=some p:=⟨_,List.getElem?_eq_getElem aT⟩
  have sI:=vn p (List.mem_of_getElem? hp)
  rcases jM with⟨h,_⟩|⟨pb,h1,h2,_⟩
  ·rw[h]at aT;simp at aT
  obtain⟨h3,h4⟩:=h2 j p hp
  have lU:p.2.toNat<=s.length:=by rcases sI with h|h;rw[h];exact Nat.zero_le _;omega
  have yr:p.1.toNat<=p.2.toNat:=by rcases sI with h|h;rw[h];exact Nat.le_refl _;omega
  refine⟨pb,0,h1,⟨by omega,by omega⟩,.int .i64 p.1,.int .i64 p.2,?_,λb3=>Zaa rfl (Zaa rfl (Zaa rfl ?_))⟩
  ·intro i v hi
   have aN:i < 2:=(List.getElem?_eq_some_iff.1 hi).1
   rw[Nat.zero_add,Int.toNat_natCast]
   have:i=0\/i=1:=by omega
   rcases this with rfl|rfl <;> (cases hi;assumption)
  ·have e1:(if(0:Int) > RowKit.intOf (.int .i64 p.1)then 0 else RowKit.intOf (.int .i64 p.1))=((p.1.toNat:Nat):Int):=Zwj p.1
   have e2:(if(0:Int) > RowKit.intOf (.int .i64 p.2)then 0 else RowKit.intOf (.int .i64 p.2))=((p.2.toNat:Nat):Int):=Zwj p.2
   rw[e1,e2]
   refine⟨⟨by omega,by omega⟩,⟨by omega,by rw[Int.toNat_natCast];omega⟩,mkS (Zsq s p),?_,by rw[Int.toNat_natCast];exact Zpb (ZtB jC _ _ sc sH lU yr),λb4 yt=>⟨?_,(s::(P.take j).map (Zsq s)).map Zsj,[Zsj (Zsq s p)],?_,rfl,aM.mono (Mem.le_add yt _),.inr ⟨b4,0,rfl,λj v hj=>by rw[Nat.zero_add,Mem.add_same];exact hj⟩,?_,by omega,by omega,λa6 c6 m6 sk sJ=>⟨rfl,_,?_,j+1,a6,c6,a6,j+1+1,c6,by omega,by rw[wr1 (show j<=1000000000000000 by omega)],rfl,.inl ⟨rfl,rfl,rfl⟩,?_,rfl⟩⟩⟩
   ·rw[Zpa,Int.toNat_natCast,Int.toNat_natCast];unfold Zsq;rw[List.length_drop,List.length_take];omega
   ·rcases cT with⟨rfl,rfl,rfl⟩|h
    ·exact .inl rfl
    ·exact .inr (.inr (by omega))
   ·simp;omega
   ·intro u hu
    obtain rfl:u=Zsj (Zsq s p):=by simpa using hu
    rfl
   ·omega
   ·have e:(s::(P.take (j+1)).map (Zsq s)).map Zsj=(s::(P.take j).map (Zsq s)).map Zsj++[Zsj (Zsq s p)]:=by
     rw[Zck hp];simp
    rw[e];exact sJ
 ·have:j=P.length:=by have:=of_decide_eq_false cP;omega
  subst this
  rw[List.take_length]at aM
  refine⟨m3,mLt eZ q7,Mem.le_refl _,a4',c4',?_,?_⟩ <;> rw[hX]
  ·simp
  ·exact aM
end Go.Proofs.Ytgclajkldphoaaa
set_option linter.unusedVariables false
set_option linter.unusedSimpArgs false
set_option linter.unusedSectionVars false
namespace Go.Proofs.Ytgclajkldphoaaa
open Go Go.Eng Go.Rx Go.Proofs Go.RowKit
set_option maxRecDepth 100000
def IsE(E:T):Value->Mem->List (List Value)->Prop:=Zi9 λt=>t.er=E
theorem Zas{E:T}:∀(v:Value)(m':Mem) (css:List (List Value)),IsE E v m' css->Shape.fits (.agg [.int .u8,.int .u64,.int .u64,.int .u64,.int .u64,.int .i64,.int .i64,.slice]) v=true:=ZcD
theorem ZeC{E:T}{m:Mem}{K:TRK}(k:∀(t:T)(m':Mem),m.le m'->Rep m' t->t.er=E->K t.k t.s0 t.s1 t.s2 t.s3 t.mn t.mx t.a t.subs.length t.c m'):
  ∀(n0 n1 n2 n3 n4 n5 n6:Int)(a:Option Addr)(n c:Nat)(m':Mem),m.le m'->IsE E (.agg #[.int .u8 n0,.int .u64 n1,.int .u64 n2,.int .u64 n3,.int .u64 n4,.int .i64 n5,.int .i64 n6,.slice a n c]) m' []->K n0 n1 n2 n3 n4 n5 n6 a n c m':=
 ZhN λt m' hm hr h=>k t m' hm hr h
theorem Zez(c:Nat)(hc:c < 256)(m:Mem):CX Try.prog 11 #[.int .u8 c] m [] (IsE (Zcl c)):=by
 apply Zg3
 unfold Zex
 intro b b1
 have hq:IntKind.u8.wrap (Int.tdiv (c:Int) 64)=((c / 64:Nat):Int):=by rw[ZuW];exact ZuX (by omega) (by omega)
 have hr:IntKind.u64.wrap (1*2 ^ min (Int.toNat (Int.tmod (c:Int) 64)) 64)=((2 ^ (c % 64):Nat):Int):=by
  rw[Zto,Int.toNat_natCast,Nat.min_eq_left (by omega),Int.one_mul]
  have:=ZsX (2 ^ (c % 64)) (by
   have:2 ^ (c % 64) < 2 ^ 64:=Nat.pow_lt_pow_right (by omega) (by omega)
   exact this)
  rw[<-this];push_cast;rfl
 simp only[hq,hr,Int.toNat_natCast,Nat.zero_add,Nat.mul_one]
 have hL:(Value.agg #[.int .u8 2,.int .u64 (Zkh c 0),.int .u64 (Zkh c 1),.int .u64 (Zkh c 2),.int .u64 (Zkh c 3),.int .i64 0,.int .i64 0,.slice none 0 0])=(Zcl c).v:=rfl
 refine⟨by omega,by omega,by rw[Zto];omega,⟨by omega,by omega⟩,Zaa (by rw[Nat.ble_eq];omega) ?_⟩
 have:c / 64=0\/c / 64=1\/c / 64=2\/c / 64=3:=by omega
 rcases this with e|e|e|e <;>
 ·rw[e]
  refine Zaa rfl (Zaa rfl (Zai (Mem.le_refl _) ⟨Zcl c,?_,Zn4 c m,rfl⟩))
  rw[<-hL]
  unfold Zkh
  rw[e]
  rfl
theorem ZhB{k mn mx:Int}{a:Option Addr}{c:Nat}{l:List T}{E:List T}(h:l.map T.er=E):(ZaE k mn mx a c l).er=ZaE k mn mx none 0 E:=by
 unfold ZaE;simp only[T.er];rw[ZmE,h]
theorem Zd6(a:Option Addr)(c:Nat)(l E:List T)(m:Mem)(hl:RepL m a l)(hE:l.map T.er=E):CX Try.prog 12 #[.slice a l.length c] m [] (IsE (ZaE 3 0 0 none 0 E)):=by
 apply Zlb
 unfold Zg4
 intro b
 exact Zai (Mem.le_refl _) ⟨ZaE 3 0 0 a c l,rfl,Zba hl (by omega) (by omega) (by omega),ZhB hE⟩
theorem Zdc(a:Option Addr)(c:Nat)(l E:List T)(m:Mem)(hl:RepL m a l)(hE:l.map T.er=E):CX Try.prog 24 #[.slice a l.length c] m [] (IsE (ZaE 4 0 0 none 0 E)):=by
 apply Zld
 unfold Zg6
 intro b
 exact Zai (Mem.le_refl _) ⟨ZaE 4 0 0 a c l,rfl,Zba hl (by omega) (by omega) (by omega),ZhB hE⟩
theorem ZaY(t E:T)(m:Mem)(hr:Rep m t)(hE:t.er=E):CX Try.prog 10 #[t.v] m [] (IsE (ZaE 6 0 0 none 0 [E])):=by
 apply ZhV
 unfold Zfd
 intro b m1 aU _ b1 b2 hf
 have bO:=Mem.le_add hf t.cs
 refine ZfV (mLt aU bO) ⟨ZaE 6 0 0 (some ⟨b2,0,none⟩) 1 [t],rfl,Zba (Zhu ?_ (hr.mono (mLt aU bO))) (by omega) (by omega) (by omega),ZhB (by rw[<-hE];rfl)⟩
 intro j v hj
 rw[Nat.zero_add,Mem.add_same];exact hj
theorem Zd7(t E:T)(mn mx:Int)(h1 : -9223372036854775808<=mn/\mn<=9223372036854775807)(h2 : -9223372036854775808<=mx/\mx<=9223372036854775807)(m:Mem)(hr:Rep m t)(hE:t.er=E):CX Try.prog 13 #[t.v,.int .i64 mn,.int .i64 mx] m [] (IsE (ZaE 5 mn mx none 0 [E])):=by
 apply Zlc
 unfold Zg5
 intro b m1 aU _ b1 b2 hf
 have bO:=Mem.le_add hf t.cs
 refine ZfV (mLt aU bO) ⟨ZaE 5 mn mx (some ⟨b2,0,none⟩) 1 [t],rfl,Zba (Zhu ?_ (hr.mono (mLt aU bO))) (by omega) h1 h2,ZhB (by rw[<-hE];rfl)⟩
 intro j v hj
 rw[Nat.zero_add,Mem.add_same];exact hj
def plV(P:PL):List Value:=P.flatMap λp=>[.int .i64 p.1,.int .i64 p.2]
theorem Zq7(a b a' b':Int):EqIs Try.prog 56 (.agg #[.int .i64 a,.int .i64 b]) (.agg #[.int .i64 a',.int .i64 b']) (a == a'&&b == b'):=by
 refine⟨λw=>?_,λop ox oy w=>ZeS (by kernel_rfl) op ox oy _ _ w⟩
 have u3:=Try.underlying3
 have a3:=Try.isAgg3
 have z3:=Try.sizeOf3
 rw[Op.equal,Op.maxDepth,show(10000:Nat)=9999+1 from rfl]
 rw[run_equalIn_agg _ _ _ _ _ (by kernel_rfl) (by kernel_rfl)]
 have hf:(Try.prog.fieldsOf 56).toList=[⟨ "From",3,0,false, "", "",0⟩,⟨ "To",3,1,false, "", "",8⟩]:=by kernel_rfl
 rw[hf]
 go_simp
 by_cases h1:a=a' <;> by_cases h2:b=b' <;> simp[h1,h2]
theorem Zux:∀(P:PL)(q:Nat)(p:Int×Int),P[q]?=some p->(plV P)[q*2]?=some (.int .i64 p.1)/\(plV P)[q*2+1]?=some (.int .i64 p.2):=λP=>by
 induction P with
 | nil=>intro q p hq;simp at hq
 | cons p0 P ih=>
  intro q p hq
  cases q with
  | zero=>simp at hq;subst hq;exact⟨rfl,rfl⟩
  | succ q=>
   have:=ih q p (by simpa using hq)
   rw[show(q+1)*2=q*2+2 by omega]
   exact this
theorem ZjC(P Q:PL)(a b:Option Addr)(c d:Nat)(m:Mem)(hp:rowRd m a (plV P))(hq:rowRd m b (plV Q))(hl:P.length<=1000000):CX Try.prog 22 #[.slice a P.length c,.slice b Q.length d] m [] (Ret (.bool (P == Q))):=by
 apply Zbo
 unfold ZaP
 refine Zab (λcL=>Zai (Mem.le_refl _) ?_) (λheq=>?_)
 ·have:P≠Q:=λe=>by subst e;simp at cL
  unfold Ret;rw[beq_eq_false_iff_ne.2 this]
 have aX:P.length=Q.length:=by
  have:(P.length:Int)=(Q.length:Int):=by simpa using heq
  omega
 refine⟨λxs css tvs m' q=>∃j:Nat,j<=P.length/\xs=[.int .i64 (j:Nat)]/\P.take j=Q.take j/\q=P.length - j,⟨_,0,by omega,rfl,rfl,rfl⟩,?_⟩
 rintro y m1 q aU ⟨j,hj,cH,iK,rfl⟩
 obtain rfl:y=j:=by simpa using cH
 have two:∀(P:PL)(a:Option Addr)(p:Int×Int),rowRd m a (plV P)->P[j]?=some p->∃b o,a=some ⟨b,o,none⟩/\m1.reads b (o+j*2) [.int .i64 p.1,.int .i64 p.2]:=λP a p h hj=>by
  obtain⟨g1,g2⟩:=Zux P j p hj
  rcases h with h|⟨b,o,h1,h2⟩
  ·rw[h]at g1;simp at g1
  ·refine⟨b,o,h1,λi v hi=>?_⟩
   have h3:=h2 _ _ g1
   have h4:=h2 _ _ g2
   have aN:i < 2:=(List.getElem?_eq_some_iff.1 hi).1
   have:i=0\/i=1:=by omega
   rcases this with rfl|rfl
   ·cases hi;exact aU.c _ _ _ h3
   ·cases hi;rw[Nat.add_assoc];exact aU.c _ _ _ h4
 refine Zab (λaN=>?_) (λcP=>Zai aU ?_)
 ·have aT:j < P.length:=by have:=of_decide_eq_true aN;omega
  obtain⟨p,ti⟩:∃p,P[j]?=some p:=⟨_,List.getElem?_eq_getElem aT⟩
  obtain⟨r,fZ⟩:∃p,Q[j]?=some p:=⟨_,List.getElem?_eq_getElem (by omega)⟩
  obtain⟨b1,o1,e1,r1⟩:=two P a p hp ti
  obtain⟨b2,o2,e2,r2⟩:=two Q b r hq fZ
  rw[wr1 (by omega)]
  refine⟨b1,o1,e1,⟨by omega,by omega⟩,.int .i64 p.1,.int .i64 p.2,by rw[Int.toNat_natCast];exact r1,b2,o2,e2,⟨by omega,by omega⟩,.int .i64 r.1,.int .i64 r.2,by rw[Int.toNat_natCast];exact r2,_,Zq7 _ _ _ _,Zab (λhc=>Zai aU ?_) (λhc=>⟨P.length - (j+1),by omega,j+1,by omega,rfl,?_,rfl⟩)⟩
  ·unfold Ret
   rw[beq_eq_false_iff_ne.2 λe=>?_]
   subst e
   rw[ti]at fZ;cases fZ
   simp at hc
  ·rw[Zck ti,Zck fZ,iK]
   have:p=r:=by
    have h2:p.1=r.1/\p.2=r.2:=by simpa using hc
    exact Prod.ext h2.1 h2.2
   rw[this]
 ·have:j=P.length:=by have:=of_decide_eq_false cP;omega
  subst this
  rw[List.take_length,aX,List.take_length]at iK
  unfold Ret
  rw[iK];simp
def aL:T:=Zcl 97
def eN(k mn mx:Int)(l:List T):T:=ZaE k mn mx none 0 l
end Go.Proofs.Ytgclajkldphoaaa
