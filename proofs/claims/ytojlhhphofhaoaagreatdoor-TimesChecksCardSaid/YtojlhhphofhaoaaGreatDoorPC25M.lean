/- Part of the proof: functions of the program. No condition. -/
import Derived.Test.YtojlhhphofhaoaaGreatDoorPC25K
set_option linter.unusedVariables false
set_option linter.unusedSimpArgs false
set_option linter.unusedSectionVars false
namespace Go.Proofs.YtojlhhphofhaoaaGreatDoor
open Go Go.Eng Go.Rx Go.Proofs Go.RowKit
set_option maxRecDepth 100000
theorem ZqL(L:List Pl):(L.map Pl.cs).flatten.length=L.length*5:=by
 induction L with
 | nil=>rfl
 | cons x l ih=>rw[List.map_cons,List.flatten_cons,List.length_append,ih,List.length_cons,Nat.succ_mul];show 5+_=_;omega
def PI(L:List Pl)(v t:Value)(m:Mem):Prop:=∃a c a1 n1 c1,v=.slice a L.length c/\t=.slice a1 n1 c1/\((a1=a/\n1=L.length/\c1=c)\/c < L.length+1)/\rowRd m a (L.map Pl.cs).flatten
theorem PI.mono{L:List Pl}{v t:Value}{m m':Mem}(h:PI L v t m)(hm:m.le m'):PI L v t m':=by
 obtain⟨a,c,a1,n1,c1,h1,h2,h3,h4⟩:=h
 exact⟨a,c,a1,n1,c1,h1,h2,h3,h4.mono hm⟩
theorem PI.app{L:List Pl}{a a1:Option Addr}{n c n1 c1:Nat}{m:Mem}{b:Nat}{Q:Option Addr->Nat->Mem->Prop}(z:Pl)(h:PI L (.slice a n c) (.slice a1 n1 c1) m)(hb:L.length<=30000)(hf:m.free b)
  (k:∀(a':Option Addr)(c':Nat)(m':Mem),m.le m'->PI (L++[z]) (.slice a' (n+1) c') (.slice a' (n+1) c') m'->Q a' c' m'):
  (Tok.mk (.slice a1 n1 c1) 5=Tok.mk (.slice a n c) 5\/Value.slice a n c=.slice none 0 0\/c < n+1)/\∃xs ys:List Value,xs.length=n*5/\ys.length=1*5/\rowRd (m.add b z.cs) a xs/\rowRd (m.add b z.cs) (some ⟨b,0,none⟩) ys/\(∀u∈ys,u.oneCell'=true)/\
   (n+1)*40<=140737488355328/\n+1<=9223372036854775807/\∀(a':Option Addr)(c':Nat)(m':Mem),(m.add b z.cs).le m'->rowRd m' a' (List.append xs ys)->Q a' c' m':=by
 obtain⟨a0,c0,a10,n10,c10,h1,h2,h3,h4⟩:=h
 simp only[Value.slice.injEq]at h1 h2
 obtain⟨rfl,rfl,rfl⟩:=h1
 obtain⟨rfl,rfl,rfl⟩:=h2
 have cJ:m.le (m.add b z.cs):=Mem.le_add hf _
 refine⟨?_,(L.map Pl.cs).flatten,z.cs,ZqL L,rfl,h4.mono cJ,.inr ⟨b,0,rfl,Zb3 m b _⟩,?_,by omega,by omega,λa' c' m' hm' hr'=>k a' c' m' (mLt cJ hm') ⟨a',c',a',L.length+1,c',?_,rfl,.inl ⟨rfl,?_,rfl⟩,?_⟩⟩
 ·rcases h3 with⟨e1,e2,e3⟩|h3
  ·rw[e1,e2,e3];exact .inl rfl
  ·exact .inr (.inr h3)
 ·intro u hu
  simp only[Pl.cs,List.mem_cons,List.not_mem_nil,or_false]at hu
  rcases hu with rfl|rfl|rfl|rfl|rfl <;> rfl
 ·rw[List.length_append];rfl
 ·rw[List.length_append];rfl
 ·rw[List.map_append,List.flatten_append]
  have:(List.map Pl.cs [z]).flatten=z.cs:=by simp
  rw[this];exact hr'
def Zua(s:Sc):Value->Mem->List (List Value)->Prop:=λv m _=>∃a c,v=.slice a s.places.length c/\rowRd m a (s.places.map Pl.cs).flatten
theorem Zpg{s}:∀(v:Value)(m':Mem) (css:List (List Value)),Zua s v m' css->Shape.fits .slice v=true:=λv _ _ ⟨_,_,e,_⟩=>by rw[e];rfl
set_option maxHeartbeats 4000000 in
theorem Ztl(s:Sc)(m:Mem)(hr:RepC m s):CX Tryz.prog 118 #[s.v] m [] (Zua s):=by
 apply Zky
 intro b m1 aV _
 have fR:=hr.vlen
 have fT:=hr.len
 unfold few at fR fT
 refine Zag (ZkT s m1 (hr.mono aV)) λm2 bA=>Zab (λhl=>?_) (λhl b2 u6=>?_)
 ·have hl:s.light=false:=by simpa using hl
  have he:s.places=[]:=by unfold Sc.places;rw[hl];rfl
  exact Zac (mLt aV bA) ⟨none,0,by rw[he];rfl,by rw[he];exact .inl rfl⟩
 have hl:s.light=true:=by simpa using hl
 have km:m2.le (m2.add b2 (Pl.cs top)):=Mem.le_add u6 _
 have eW:=mLt aV (mLt bA km)
 have kU:=ZlZ s
 have nC:=Zkl hl
 rw[nC,List.length_cons,List.length_append,show(ZdE s.vars.length Vf).length=s.vars.length from Zga _ _]at kU
 have hw:∀k:Nat,k<=100000->IntKind.i64.wrap ((k:Int)+1)=((k+1:Nat):Int):=λk hk=>by rw[Zal (by omega) (by omega)];rfl
 have start:PI [top] (.slice (some ⟨b2,0,none⟩) 1 1) (.slice none 0 0) (m2.add b2 (Pl.cs top)):=⟨_,1,_,_,_,rfl,rfl,.inr (by decide),.inr ⟨b2,0,rfl,by simpa using Zb3 m2 b2 (Pl.cs top)⟩⟩
 refine⟨λxs _ tks m' q=>∃(i:Nat)(v t:Value),i<=s.vars.length/\xs=[v,.int .i64 i]/\tks=[t]/\PI (top::ZdE i Vf) v t m'/\q=s.vars.length - i,⟨s.vars.length,0,_,_,by omega,rfl,rfl,start,rfl⟩,?_⟩
 rintro a n c i' a1 n2 c1 m3 q bS ⟨i,v,t,hi,hx,ht,hP,rfl⟩
 simp only[List.cons.injEq,Value.int.injEq,and_true,true_and]at hx ht
 obtain⟨rfl,rfl⟩:=hx
 subst ht
 have eX:=mLt eW bS
 have tz:(ZdE i Vf).length=i:=Zga _ _
 refine Zau (λbB b3 jd=>?_) (λdF=>?_)
 ·have bB:(i:Int) < (s.vars.length:Int):=bB
  refine PI.app ⟨i,-1,-1,-1,-1⟩ hP (by rw[List.length_cons,tz];omega) jd λa' c' m' hm' hP'=>⟨rfl,s.vars.length - (i+1),by omega,i+1,_,_,by omega,by rw[hw i (by omega)],rfl,?_,rfl⟩
  rw[Zb1];exact hP'
 have dF:¬(i:Int) < (s.vars.length:Int):=dF
 obtain rfl:i=s.vars.length:=by omega
 generalize hB:top::ZdE s.vars.length Vf=B at hP
 have wt:B.length=s.vars.length+1:=by rw[<-hB,List.length_cons,tz]
 refine⟨λxs _ tks m' q=>∃(i:Nat)(v t:Value),i<=s.states.length/\xs=[v,.int .i64 i]/\tks=[t]/\PI (B++ZdE i (Ff s)) v t m'/\q=s.states.length - i,⟨s.states.length,0,_,_,by omega,rfl,rfl,by simpa[ZdE]using hP,rfl⟩,?_⟩
 rintro a n c i' a1 n2 c1 m4 q cR ⟨i,v,t,hi,hx,ht,hP,rfl⟩
 simp only[List.cons.injEq,Value.int.injEq,and_true,true_and]at hx ht
 obtain⟨rfl,rfl⟩:=hx
 subst ht
 have jG:=mLt eX cR
 refine Zau (λbB=>?_) (λdF=>?_)
 ·have bB:(i:Int) < (s.states.length:Int):=bB
  obtain⟨x,hx⟩:=Zdb (show i < s.states.length by omega)
  have eA:=hr.all x (List.mem_of_getElem? hx)
  have jC:=eA.len
  unfold few at jC
  have hF:Ff s i=plS i x:=by unfold Ff;rw[hx]
  have dG:(ZdE i (Ff s)).length+(plS i x).length<=(ZdE s.states.length (Ff s)).length:=by
   have:=Zro (show i+1<=s.states.length by omega) (Ff s)
   rw[Zb1,List.length_append,hF]at this;exact this
  rw[ZsP,List.length_cons]at dG
  obtain⟨b3,o3,f4,kG⟩:=Zam Sta.len (hr.row.mono jG) hx (by omega)
  refine⟨b3,o3,f4,⟨by omega,bB⟩,_,_,kG,λb4=>Zaa rfl λb5 iE=>?_⟩
  refine PI.app ⟨-1,i,-1,-1,-1⟩ hP (by rw[List.length_append];omega) iE λa' c' m5 dX hP=>Zaa rfl ?_
  have nI:=mLt jG dX
  generalize tA:B++ZdE i (Ff s)=L1 at hP
  have kj:L1.length=B.length+(ZdE i (Ff s)).length:=by rw[<-tA,List.length_append]
  refine⟨λxs _ tks m' q=>∃(k:Nat)(v t:Value),k<=x.rules.length/\xs=[v,.int .i64 k]/\tks=[t]/\PI (L1++(⟨-1,i,-1,-1,-1⟩::ZdE k (Gf i x))) v t m'/\q=x.rules.length - k,⟨x.rules.length,0,_,_,by omega,rfl,rfl,by simpa[ZdE]using hP,rfl⟩,?_⟩
  rintro a n c k' a1 n2 c1 m6 q gX ⟨k,v,t,hk,hy,ht,hP,rfl⟩
  simp only[List.cons.injEq,Value.int.injEq,and_true,true_and]at hy ht
  obtain⟨rfl,rfl⟩:=hy
  subst ht
  have jD:=mLt nI gX
  refine Zau (λeL=>?_) (λfM=>?_)
  ·have eL:(k:Int) < (x.rules.length:Int):=eL
   obtain⟨r,ig⟩:=Zdb (show k < x.rules.length by omega)
   have gi:=eA.all r (List.mem_of_getElem? ig)
   have pg:=gi.len
   unfold few at pg
   have hG:Gf i x k=plR i k r:=by unfold Gf;rw[ig]
   have fD:(ZdE k (Gf i x)).length+(plR i k r).length<=(ZdE x.rules.length (Gf i x)).length:=by
    have:=Zro (show k+1<=x.rules.length by omega) (Gf i x)
    rw[Zb1,List.length_append,hG]at this;exact this
   rw[ZsO,List.length_cons]at fD
   obtain⟨b6,o6,jc,mT⟩:=Zam Ru.len (eA.row.mono jD) ig (by omega)
   refine Zaa rfl ⟨b6,o6,jc,⟨by omega,eL⟩,_,_,_,_,_,_,_,_,_,_,_,_,_,_,_,_,mT,λb7=>Zaa rfl λb8 r6=>?_⟩
   refine PI.app ⟨-1,i,k,-1,-1⟩ hP (by rw[List.length_append,List.length_cons];omega) r6 λa' c' m7 iY hP=>Zaa rfl ?_
   have po:=mLt jD iY
   generalize tB:L1++(⟨-1,i,-1,-1,-1⟩::ZdE k (Gf i x))=L2 at hP
   have kT:L2.length=L1.length+1+(ZdE k (Gf i x)).length:=by rw[<-tB,List.length_append,List.length_cons];omega
   refine⟨λxs _ tks m' q=>∃(j:Nat)(v t:Value),j<=r.acts.length/\xs=[v,.int .i64 j]/\tks=[t]/\PI (L2++(⟨-1,i,k,-1,-1⟩::ZdE j (Hf i k r))) v t m'/\q=r.acts.length - j,⟨r.acts.length,0,_,_,by omega,rfl,rfl,by simpa[ZdE]using hP,rfl⟩,?_⟩
   rintro a n c j' a1 n2 c1 m8 q ge ⟨j,v,t,hj,hy,ht,hP,rfl⟩
   simp only[List.cons.injEq,Value.int.injEq,and_true,true_and]at hy ht
   obtain⟨rfl,rfl⟩:=hy
   subst ht
   have nJ:=mLt po ge
   refine Zau (λkH=>?_) (λjE=>?_)
   ·have kH:(j:Int) < (r.acts.length:Int):=kH
    obtain⟨y,jF⟩:=Zdb (show j < r.acts.length by omega)
    have kI:=gi.all y (List.mem_of_getElem? jF)
    have r7:=kI.n
    unfold few at r7
    have hH:Hf i k r j=plA i k j y:=by unfold Hf;rw[jF]
    have fA:(ZdE j (Hf i k r)).length+(plA i k j y).length<=(ZdE r.acts.length (Hf i k r)).length:=by
     have:=Zro (show j+1<=r.acts.length by omega) (Hf i k r)
     rw[Zb1,List.length_append,hH]at this;exact this
    rw[ZsN,List.length_cons,show(ZdE y.parts.length (Pf i k j)).length=y.parts.length from Zga _ _]at fA
    obtain⟨b9,o9,u9,vb⟩:=Zam Ac.len (gi.row.mono nJ) jF (by omega)
    refine Zaa rfl ⟨b9,o9,u9,⟨by omega,kH⟩,_,_,_,_,_,_,_,_,vb,λb10=>Zaa rfl λb11 mX=>?_⟩
    refine PI.app ⟨-1,i,k,j,-1⟩ hP (by rw[List.length_append,List.length_cons];omega) mX λa' c' m9 kJ hP=>Zaa rfl ?_
    generalize qy:L2++(⟨-1,i,k,-1,-1⟩::ZdE j (Hf i k r))=L3 at hP
    have ow:L3.length=L2.length+1+(ZdE j (Hf i k r)).length:=by rw[<-qy,List.length_append,List.length_cons];omega
    refine⟨λxs _ tks m' q=>∃(w:Nat)(v t:Value),w<=y.parts.length/\xs=[v,.int .i64 w]/\tks=[t]/\PI (L3++(⟨-1,i,k,j,-1⟩::ZdE w (Pf i k j))) v t m'/\q=y.parts.length - w,⟨y.parts.length,0,_,_,by omega,rfl,rfl,by simpa[ZdE]using hP,rfl⟩,?_⟩
    rintro a n c w' a1 n2 c1 m10 q mY ⟨w,v,t,wu,hy,ht,hP,rfl⟩
    simp only[List.cons.injEq,Value.int.injEq,and_true,true_and]at hy ht
    obtain⟨rfl,rfl⟩:=hy
    subst ht
    have ve:(ZdE w (Pf i k j)).length=w:=Zga _ _
    refine Zau (λlq b12 mZ=>?_) (λlr=>?_)
    ·have lq:(w:Int) < (y.parts.length:Int):=lq
     refine PI.app ⟨-1,i,k,j,w⟩ hP (by rw[List.length_append,List.length_cons,ve];omega) mZ λa' c' m' hm' hP'=>⟨rfl,rfl,y.parts.length - (w+1),by omega,w+1,_,_,by omega,by rw[hw w (by omega)],rfl,?_,rfl⟩
     rw[Zb1]
     simpa[Pf]using hP'
    ·have lr:¬(w:Int) < (y.parts.length:Int):=lr
     obtain rfl:w=y.parts.length:=by omega
     refine⟨rfl,rfl,r.acts.length - (j+1),by omega,j+1,_,_,by omega,by rw[hw j (by omega)],rfl,?_,rfl⟩
     rw[Zb1,hH,ZsN]
     rw[<-qy]at hP
     simpa using hP
   ·have jE:¬(j:Int) < (r.acts.length:Int):=jE
    obtain rfl:j=r.acts.length:=by omega
    refine⟨rfl,rfl,x.rules.length - (k+1),by omega,k+1,_,_,by omega,by rw[hw k (by omega)],rfl,?_,rfl⟩
    rw[Zb1,hG,ZsO]
    rw[<-tB]at hP
    simpa using hP
  ·have fM:¬(k:Int) < (x.rules.length:Int):=fM
   obtain rfl:k=x.rules.length:=by omega
   refine⟨rfl,rfl,s.states.length - (i+1),by omega,i+1,_,_,by omega,by rw[hw i (by omega)],rfl,?_,rfl⟩
   rw[Zb1,hF,ZsP]
   rw[<-tA]at hP
   simpa using hP
 ·have dF:¬(i:Int) < (s.states.length:Int):=dF
  obtain rfl:i=s.states.length:=by omega
  obtain⟨a0,c0,a10,n10,c10,h1,h2,h3,h4⟩:=hP
  have he:B++ZdE s.states.length (Ff s)=s.places:=by rw[nC,<-hB];rfl
  rw[he]at h1 h4
  rw[h1]
  exact⟨m4,jG,Mem.le_refl _,a0,c0,rfl,h4⟩
def Zph(s:Sc)(l:List Pl):List (Pl×Int):=l.filterMap λp=>if atS s p=0 then none else some (p,atS s p)
theorem ZjD(s:Sc):s.problems=Zph s s.places:=rfl
def Zub(z:Pl×Int):Value:=.agg #[.int .i64 z.1.v,.int .i64 z.1.s,.int .i64 z.1.r,.int .i64 z.1.a,.int .i64 z.1.p,.int .i64 z.2]
theorem Zpi(s:Sc)(m:Mem):CX Tryz.prog 88 #[s.v] m [] (λv m' _=>∃b,v=.func (.func 116) #[] #[.pointer (some ⟨b,0,none⟩)]/\m'.reads b 0 s.cs):=by
 apply Zfy
 intro b m' hm hb
 exact⟨m',hm,Mem.le_refl _,b,rfl,hb⟩
theorem Zna(s:Sc)(m:Mem)(c0b:Nat)(hr:RepC m s)(hb:m.reads c0b 0 s.cs):IX Tryz.prog 116 [] [.pointer (some ⟨c0b,0,none⟩)] m (s.problems.map λz=>[Zub z]):=by
 apply Zew 0 [] [] c0b 0
 intro l
 refine⟨_,_,_,hb,Zaj (Ztk s m hr) Zve ?_⟩
 rintro a n c m1 aV ⟨a',c',vs,hv,hT⟩
 simp only[Value.slice.injEq]at hv
 obtain⟨rfl,rfl,rfl⟩:=hv
 refine⟨_,_,_,hb.mono aV,Zaj (Ztl s m1 (hr.mono aV)) Zpg ?_⟩
 rintro a3 n1 c1 m2 bA ⟨a',c',hv,bF⟩
 simp only[Value.slice.injEq]at hv
 obtain⟨rfl,rfl,rfl⟩:=hv
 have kU:=ZlZ s
 have eW:=mLt aV bA
 refine⟨λxs _ _ m' q=>∃i:Nat,i<=s.places.length/\xs=[.int .i64 ((Zph s (s.places.take i)).length:Nat),.int .i64 i]/\q=s.places.length - i,⟨s.places.length,0,by omega,rfl,rfl⟩,?_⟩
 rintro y n2 m3 q bS ⟨i,hi,hx,rfl⟩
 simp only[List.cons.injEq,Value.int.injEq,and_true,true_and]at hx
 obtain⟨rfl,rfl⟩:=hx
 have eX:=mLt eW bS
 have hw:i<=20001->IntKind.i64.wrap ((i:Int)+1)=((i+1:Nat):Int):=λhi=>by rw[Zal (by omega) (by omega)];rfl
 have hw:=hw (by omega)
 refine Zau (λbB=>?_) (λdF=>?_)
 ·have bB:(i:Int) < (s.places.length:Int):=bB
  obtain⟨p,hp⟩:=Zdb (show i < s.places.length by omega)
  have fJ:Zph s (s.places.take (i+1))=Zph s (s.places.take i)++(if atS s p=0 then[]else[(p,atS s p)]):=by
   unfold Zph
   rw[List.take_add_one,hp,List.filterMap_append]
   congr 1
   by_cases h:atS s p=0
   ·simp[h]
   ·simp[h]
  obtain⟨b1,o1,ha,eI⟩:=Zam (cs:=Pl.cs) (n:=5) (λ_=>rfl) (bF.mono bS) hp (by omega)
  refine⟨b1,o1,ha,⟨by omega,bB⟩,_,_,_,_,_,eI,λb2=>Zaa rfl ⟨_,_,_,hb.mono eX,?_⟩⟩
  refine Zav (Zzb s a c vs p m3 (hr.mono eX) (hT.mono (mLt bA bS)) (ZoE s p (List.mem_of_getElem? hp))) λm4 cR=>Zab (λh=>?_) (λh=>?_)
  ·have h:¬atS s p=0:=by
    intro e;rw[e]at h;simp at h
   rw[if_neg h]at fJ
   refine⟨⟨rfl,Int.natCast_nonneg _,?_⟩,⟨s.places.length - (i+1),by omega,i+1,by omega,?_,rfl⟩,.inr rfl⟩
   ·rw[Int.toNat_natCast]
    show(List.map (λz=>[Zub z]) s.problems)[(Zph s (s.places.take i)).length]?=some [Zub (p,atS s p)]
    rw[List.getElem?_map]
    have:s.problems[(Zph s (s.places.take i)).length]?=some (p,atS s p):=by
     have e:s.problems=Zph s (s.places.take (i+1))++Zph s (s.places.drop (i+1)):=by
      rw[ZjD];unfold Zph;rw[<-List.filterMap_append,List.take_append_drop]
     rw[e,fJ,List.append_assoc,List.getElem?_append_right (Nat.le_refl _)]
     simp
    rw[this];rfl
   ·rw[hw,fJ,List.length_append];rfl
  ·have h:atS s p=0:=by simpa using h
   rw[if_pos h,List.append_nil]at fJ
   exact⟨s.places.length - (i+1),by omega,i+1,by omega,by rw[hw,fJ],rfl⟩
 ·have dF:¬(i:Int) < (s.places.length:Int):=dF
  obtain rfl:i=s.places.length:=by omega
  left
  rw[List.take_length,<-ZjD,List.length_map]
def Zpj(z:Pl×Int):Value:=.tuple #[.agg z.1.cs.toArray,.int .i64 z.2]
theorem Ztm(s:Sc)(m:Mem)(hr:RepC m s):CX Tryz.prog 51 #[s.v] m [] (Ret (Zpj s.check)):=by
 apply ZiL
 intro b m1 aV _ b1 b2 b3
 refine Zag (ZkT s m1 (hr.mono aV)) λm2 bA=>Zab (λhl=>Zac (mLt aV bA) ?_) (λhl=>?_)
 ·have hl:s.light=false:=by simpa using hl
  show _=Zpj s.check
  unfold Sc.check;rw[hl];rfl
 have hl:s.light=true:=by simpa using hl
 refine Zaj (Zpi s m2) (λv m' css h=>by obtain⟨_,rfl,_⟩:=h;rfl) ?_
 rintro g fi ca m3 bS ⟨b4,hv,qw⟩
 obtain⟨rfl,rfl,rfl⟩:=Zcp hv
 have cJ:=mLt aV (mLt bA bS)
 refine⟨_,Zna s m3 b4 (hr.mono cJ) qw,λy hy=>?_,λ_ _ _ m' q=>q=0,rfl,?_,?_⟩
 ·obtain⟨z,_,rfl⟩:=List.mem_map.1 hy;rfl
 ·rintro n n1 n2 n3 n4 n5 cs cs1 m4 q cR hq rfl b5
  have hq:(List.map (λz=>[Zub z]) s.problems)[0]?=some [Value.agg #[.int .i64 n,.int .i64 n1,.int .i64 n2,.int .i64 n3,.int .i64 n4,.int .i64 n5]]:=hq
  rw[List.getElem?_map]at hq
  obtain⟨z,hz,iX⟩:=Option.map_eq_some_iff.1 hq
  refine⟨rfl,Zac (mLt cJ cR) ?_⟩
  have hz':s.check=z:=by
   unfold Sc.check;rw[hl,if_pos rfl]
   cases hs:s.problems with
   | nil=>rw[hs]at hz;simp at hz
   | cons x l=>rw[hs]at hz;simpa using hz
  show _=Zpj s.check
  rw[hz']
  simp only[Zub,List.cons.injEq,Value.agg.injEq,Array.mk.injEq,Value.int.injEq,true_and,and_true]at iX
  obtain⟨rfl,rfl,rfl,rfl,rfl,rfl⟩:=iX
  rfl
 ·rintro cs cs1 m4 cR hq
  refine Zac (mLt cJ cR) ?_
  have hs:s.problems=[]:=by
   have hq:(List.map (λz=>[Zub z]) s.problems).length=0:=hq
   rw[List.length_map]at hq
   exact List.eq_nil_of_length_eq_zero hq
  show _=Zpj s.check
  unfold Sc.check;rw[hl,if_pos rfl,hs];rfl
theorem Zpk(s:Sc)(m:Mem)(hr:RepC m s):CX Tryz.prog 22 #[s.v] m [] (Ret (.bool (s.check.2 == 0))):=by
 apply ZiM
 intro b m1 aV _
 refine Zaj (Ztm s m1 (hr.mono aV)) (λv _ _ e=>by rw[show v=_ from e];rfl) ?_
 intro n n1 n2 n3 n4 n5 m2 bA hv
 have hv:Value.tuple #[.agg #[.int .i64 n,.int .i64 n1,.int .i64 n2,.int .i64 n3,.int .i64 n4],.int .i64 n5]=Zpj s.check:=hv
 simp only[Zpj,Value.tuple.injEq,Array.mk.injEq,List.cons.injEq,Value.int.injEq,true_and,and_true]at hv
 intro b2
 refine Zac (mLt aV bA) ?_
 show Value.bool _=Value.bool _
 rw[hv.2]
end Go.Proofs.YtojlhhphofhaoaaGreatDoor