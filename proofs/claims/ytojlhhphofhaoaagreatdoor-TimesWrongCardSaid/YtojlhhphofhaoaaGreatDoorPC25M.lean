/- Part of the proof: functions of the program. No condition. -/
import Derived.Test.YtojlhhphofhaoaaGreatDoorPC25K
set_option linter.unusedVariables false
set_option linter.unusedSimpArgs false
set_option linter.unusedSectionVars false
namespace Go.Proofs.YtojlhhphofhaoaaGreatDoor
open Go Go.Eng Go.Rx Go.Proofs Go.RowKit
set_option maxRecDepth 100000
theorem Zqz(L:List Pl):(L.map Pl.cs).flatten.length=L.length*5:=by
 induction L with
 | nil=>rfl
 | cons x l ih=>rw[List.map_cons,List.flatten_cons,List.length_append,ih,List.length_cons,Nat.succ_mul];show 5+_=_;omega
def PI(L:List Pl)(v t:Value)(m:Mem):Prop:=∃a c a1 n1 c1,v=.slice a L.length c/\t=.slice a1 n1 c1/\((a1=a/\n1=L.length/\c1=c)\/c < L.length+1)/\rowRd m a (L.map Pl.cs).flatten
theorem PI.mono{L:List Pl}{v t:Value}{m m':Mem}(h:PI L v t m)(hm:m.le m'):PI L v t m':=by
 obtain⟨a,c,a1,n1,c1,h1,h2,h3,h4⟩:=h
 exact⟨a,c,a1,n1,c1,h1,h2,h3,h4.mono hm⟩
theorem PI.app{L:List Pl}{a a1:Option Addr}{n c n1 c1:Nat}{m:Mem}{b:Nat}{Q:Option Addr->Nat->Mem->Prop}(z:Pl)(h:PI L (.slice a n c) (.slice a1 n1 c1) m)(hb:L.length<=30000)(hf:m.free b)
  (k:∀(a':Option Addr)(c':Nat)(m':Mem),m.le m'->PI (L++[z]) (.slice a' (n+1) c') (.slice a' (n+1) c') m'->Q a' c' m'):
  (Tok.mk (.slice a1 n1 c1) 5=Tok.mk (.slice a n c) 5\/Value.slice a n c=.slice none 0 0\/c < n+1)/\∃xs ys:List Value,xs.length=n*5/\ys.length=1*5/\rowRd (m.add b z.cs) a xs/\rowRd (m.add b z.cs) (some ⟨b,0,none⟩) ys/\(∀u∈ys,u.oneCell'=true)/\
   (n+1)*40<=140737488355328/\n+1<=9223372036854775807/\∀(a':Option Addr)(c':Nat)(m':Mem),(m.add b z.cs).le m'->rowRd m' a' (List.append xs ys)->Q a' c' m':=by
 obtain⟨a0,c0,a10,n10,c10,h1,h2,h3,h4⟩:=h
 simp only[Value.slice.injEq]at h1 h2
 obtain⟨rfl,rfl,rfl⟩:=h1
 obtain⟨rfl,rfl,rfl⟩:=h2
 have cJ:m.le (m.add b z.cs):=Mem.le_add hf _
 refine⟨?_,(L.map Pl.cs).flatten,z.cs,Zqz L,rfl,h4.mono cJ,.inr ⟨b,0,rfl,Zb1 m b _⟩,?_,by omega,by omega,λa' c' m' hm' hr'=>k a' c' m' (mLt cJ hm') ⟨a',c',a',L.length+1,c',?_,rfl,.inl ⟨rfl,?_,rfl⟩,?_⟩⟩
 ·rcases h3 with⟨e1,e2,e3⟩|h3
  ·rw[e1,e2,e3];exact .inl rfl
  ·exact .inr (.inr h3)
 ·intro u hu
  simp only[Pl.cs,List.mem_cons,List.not_mem_nil,or_false]at hu
  rcases hu with rfl|rfl|rfl|rfl|rfl <;> rfl
 ·rw[List.length_append];rfl
 ·rw[List.length_append];rfl
 ·rw[List.map_append,List.flatten_append]
  have:(List.map Pl.cs [z]).flatten=z.cs:=by simp
  rw[this];exact hr'
def Zt3(s:Sc):Value->Mem->List (List Value)->Prop:=λv m _=>∃a c,v=.slice a s.places.length c/\rowRd m a (s.places.map Pl.cs).flatten
theorem Zo9{s}:∀(v:Value)(m':Mem) (css:List (List Value)),Zt3 s v m' css->Shape.fits .slice v=true:=λv _ _ ⟨_,_,e,_⟩=>by rw[e];rfl
set_option maxHeartbeats 4000000 in
theorem Ztc(s:Sc)(m:Mem)(hr:RepC m s):CX Tryz.prog 118 #[s.v] m [] (Zt3 s):=by
 apply Zkn
 intro b m1 aV _
 have fS:=hr.vlen
 have fP:=hr.len
 unfold few at fS fP
 refine Zag (ZkI s m1 (hr.mono aV)) λm2 bA=>Zab (λhl=>?_) (λhl b2 vg=>?_)
 ·have hl:s.light=false:=by simpa using hl
  have he:s.places=[]:=by unfold Sc.places;rw[hl];rfl
  exact Zac (mLt aV bA) ⟨none,0,by rw[he];rfl,by rw[he];exact .inl rfl⟩
 have hl:s.light=true:=by simpa using hl
 have j7:m2.le (m2.add b2 (Pl.cs top)):=Mem.le_add vg _
 have eI:=mLt aV (mLt bA j7)
 have kS:=ZlR s
 have nA:=Zg1 hl
 rw[nA,List.length_cons,List.length_append,show(Zdz s.vars.length Vf).length=s.vars.length from Zf2 _ _]at kS
 have hw:∀k:Nat,k<=100000->IntKind.i64.wrap ((k:Int)+1)=((k+1:Nat):Int):=λk hk=>by rw[Zal (by omega) (by omega)];rfl
 have start:PI [top] (.slice (some ⟨b2,0,none⟩) 1 1) (.slice none 0 0) (m2.add b2 (Pl.cs top)):=⟨_,1,_,_,_,rfl,rfl,.inr (by decide),.inr ⟨b2,0,rfl,by simpa using Zb1 m2 b2 (Pl.cs top)⟩⟩
 refine⟨λxs _ tks m' q=>∃(i:Nat)(v t:Value),i<=s.vars.length/\xs=[v,.int .i64 i]/\tks=[t]/\PI (top::Zdz i Vf) v t m'/\q=s.vars.length - i,⟨s.vars.length,0,_,_,by omega,rfl,rfl,start,rfl⟩,?_⟩
 rintro a n c i' a1 n2 c1 m3 q bR ⟨i,v,t,hi,hx,ht,hP,rfl⟩
 simp only[List.cons.injEq,Value.int.injEq,and_true,true_and]at hx ht
 obtain⟨rfl,rfl⟩:=hx
 subst ht
 have eG:=mLt eI bR
 have tH:(Zdz i Vf).length=i:=Zf2 _ _
 refine Zaw (λbB b3 iT=>?_) (λdB=>?_)
 ·have bB:(i:Int) < (s.vars.length:Int):=bB
  refine PI.app ⟨i,-1,-1,-1,-1⟩ hP (by rw[List.length_cons,tH];omega) iT λa' c' m' hm' hP'=>⟨rfl,s.vars.length - (i+1),by omega,i+1,_,_,by omega,by rw[hw i (by omega)],rfl,?_,rfl⟩
  rw[ZbZ];exact hP'
 have dB:¬(i:Int) < (s.vars.length:Int):=dB
 obtain rfl:i=s.vars.length:=by omega
 generalize hB:top::Zdz s.vars.length Vf=B at hP
 have ww:B.length=s.vars.length+1:=by rw[<-hB,List.length_cons,tH]
 refine⟨λxs _ tks m' q=>∃(i:Nat)(v t:Value),i<=s.states.length/\xs=[v,.int .i64 i]/\tks=[t]/\PI (B++Zdz i (Ff s)) v t m'/\q=s.states.length - i,⟨s.states.length,0,_,_,by omega,rfl,rfl,by simpa[Zdz]using hP,rfl⟩,?_⟩
 rintro a n c i' a1 n2 c1 m4 q cO ⟨i,v,t,hi,hx,ht,hP,rfl⟩
 simp only[List.cons.injEq,Value.int.injEq,and_true,true_and]at hx ht
 obtain⟨rfl,rfl⟩:=hx
 subst ht
 have kG:=mLt eG cO
 refine Zaw (λbB=>?_) (λdB=>?_)
 ·have bB:(i:Int) < (s.states.length:Int):=bB
  obtain⟨x,hx⟩:=Zc9 (show i < s.states.length by omega)
  have dZ:=hr.all x (List.mem_of_getElem? hx)
  have jC:=dZ.len
  unfold few at jC
  have hF:Ff s i=plS i x:=by unfold Ff;rw[hx]
  have dF:(Zdz i (Ff s)).length+(plS i x).length<=(Zdz s.states.length (Ff s)).length:=by
   have:=Zrf (show i+1<=s.states.length by omega) (Ff s)
   rw[ZbZ,List.length_append,hF]at this;exact this
  rw[ZsG,List.length_cons]at dF
  obtain⟨b3,o3,f5,kB⟩:=Zam Sta.len (hr.row.mono kG) hx (by omega)
  refine⟨b3,o3,f5,⟨by omega,bB⟩,_,_,kB,λb4=>Zaa rfl λb5 jd=>?_⟩
  refine PI.app ⟨-1,i,-1,-1,-1⟩ hP (by rw[List.length_append];omega) jd λa' c' m5 dY hP=>Zaa rfl ?_
  have rV:=mLt kG dY
  generalize tI:B++Zdz i (Ff s)=L1 at hP
  have j6:L1.length=B.length+(Zdz i (Ff s)).length:=by rw[<-tI,List.length_append]
  refine⟨λxs _ tks m' q=>∃(k:Nat)(v t:Value),k<=x.rules.length/\xs=[v,.int .i64 k]/\tks=[t]/\PI (L1++(⟨-1,i,-1,-1,-1⟩::Zdz k (Gf i x))) v t m'/\q=x.rules.length - k,⟨x.rules.length,0,_,_,by omega,rfl,rfl,by simpa[Zdz]using hP,rfl⟩,?_⟩
  rintro a n c k' a1 n2 c1 m6 q gZ ⟨k,v,t,hk,hy,ht,hP,rfl⟩
  simp only[List.cons.injEq,Value.int.injEq,and_true,true_and]at hy ht
  obtain⟨rfl,rfl⟩:=hy
  subst ht
  have kC:=mLt rV gZ
  refine Zaw (λfF=>?_) (λfM=>?_)
  ·have fF:(k:Int) < (x.rules.length:Int):=fF
   obtain⟨r,ii⟩:=Zc9 (show k < x.rules.length by omega)
   have fU:=dZ.all r (List.mem_of_getElem? ii)
   have oZ:=fU.len
   unfold few at oZ
   have hG:Gf i x k=plR i k r:=by unfold Gf;rw[ii]
   have fD:(Zdz k (Gf i x)).length+(plR i k r).length<=(Zdz x.rules.length (Gf i x)).length:=by
    have:=Zrf (show k+1<=x.rules.length by omega) (Gf i x)
    rw[ZbZ,List.length_append,hG]at this;exact this
   rw[ZsF,List.length_cons]at fD
   obtain⟨b6,o6,iu,mV⟩:=Zam Ru.len (dZ.row.mono kC) ii (by omega)
   refine Zaa rfl ⟨b6,o6,iu,⟨by omega,fF⟩,_,_,_,_,_,_,_,_,_,_,_,_,_,_,_,_,mV,λb7=>Zaa rfl λb8 vh=>?_⟩
   refine PI.app ⟨-1,i,k,-1,-1⟩ hP (by rw[List.length_append,List.length_cons];omega) vh λa' c' m7 iS hP=>Zaa rfl ?_
   have r9:=mLt kC iS
   generalize tJ:L1++(⟨-1,i,-1,-1,-1⟩::Zdz k (Gf i x))=L2 at hP
   have kR:L2.length=L1.length+1+(Zdz k (Gf i x)).length:=by rw[<-tJ,List.length_append,List.length_cons];omega
   refine⟨λxs _ tks m' q=>∃(j:Nat)(v t:Value),j<=r.acts.length/\xs=[v,.int .i64 j]/\tks=[t]/\PI (L2++(⟨-1,i,k,-1,-1⟩::Zdz j (Hf i k r))) v t m'/\q=r.acts.length - j,⟨r.acts.length,0,_,_,by omega,rfl,rfl,by simpa[Zdz]using hP,rfl⟩,?_⟩
   rintro a n c j' a1 n2 c1 m8 q gu ⟨j,v,t,hj,hy,ht,hP,rfl⟩
   simp only[List.cons.injEq,Value.int.injEq,and_true,true_and]at hy ht
   obtain⟨rfl,rfl⟩:=hy
   subst ht
   have qs:=mLt r9 gu
   refine Zaw (λkD=>?_) (λln=>?_)
   ·have kD:(j:Int) < (r.acts.length:Int):=kD
    obtain⟨y,jD⟩:=Zc9 (show j < r.acts.length by omega)
    have kE:=fU.all y (List.mem_of_getElem? jD)
    have sb:=kE.n
    unfold few at sb
    have hH:Hf i k r j=plA i k j y:=by unfold Hf;rw[jD]
    have fB:(Zdz j (Hf i k r)).length+(plA i k j y).length<=(Zdz r.acts.length (Hf i k r)).length:=by
     have:=Zrf (show j+1<=r.acts.length by omega) (Hf i k r)
     rw[ZbZ,List.length_append,hH]at this;exact this
    rw[ZsE,List.length_cons,show(Zdz y.parts.length (Pf i k j)).length=y.parts.length from Zf2 _ _]at fB
    obtain⟨b9,o9,vj,vn⟩:=Zam Ac.len (fU.row.mono qs) jD (by omega)
    refine Zaa rfl ⟨b9,o9,vj,⟨by omega,kD⟩,_,_,_,_,_,_,_,_,vn,λb10=>Zaa rfl λb11 se=>?_⟩
    refine PI.app ⟨-1,i,k,j,-1⟩ hP (by rw[List.length_append,List.length_cons];omega) se λa' c' m9 lT hP=>Zaa rfl ?_
    generalize qv:L2++(⟨-1,i,k,-1,-1⟩::Zdz j (Hf i k r))=L3 at hP
    have om:L3.length=L2.length+1+(Zdz j (Hf i k r)).length:=by rw[<-qv,List.length_append,List.length_cons];omega
    refine⟨λxs _ tks m' q=>∃(w:Nat)(v t:Value),w<=y.parts.length/\xs=[v,.int .i64 w]/\tks=[t]/\PI (L3++(⟨-1,i,k,j,-1⟩::Zdz w (Pf i k j))) v t m'/\q=y.parts.length - w,⟨y.parts.length,0,_,_,by omega,rfl,rfl,by simpa[Zdz]using hP,rfl⟩,?_⟩
    rintro a n c w' a1 n2 c1 m10 q lr ⟨w,v,t,tK,hy,ht,hP,rfl⟩
    simp only[List.cons.injEq,Value.int.injEq,and_true,true_and]at hy ht
    obtain⟨rfl,rfl⟩:=hy
    subst ht
    have vo:(Zdz w (Pf i k j)).length=w:=Zf2 _ _
    refine Zaw (λlp b12 mZ=>?_) (λlq=>?_)
    ·have lp:(w:Int) < (y.parts.length:Int):=lp
     refine PI.app ⟨-1,i,k,j,w⟩ hP (by rw[List.length_append,List.length_cons,vo];omega) mZ λa' c' m' hm' hP'=>⟨rfl,rfl,y.parts.length - (w+1),by omega,w+1,_,_,by omega,by rw[hw w (by omega)],rfl,?_,rfl⟩
     rw[ZbZ]
     simpa[Pf]using hP'
    ·have lq:¬(w:Int) < (y.parts.length:Int):=lq
     obtain rfl:w=y.parts.length:=by omega
     refine⟨rfl,rfl,r.acts.length - (j+1),by omega,j+1,_,_,by omega,by rw[hw j (by omega)],rfl,?_,rfl⟩
     rw[ZbZ,hH,ZsE]
     rw[<-qv]at hP
     simpa using hP
   ·have ln:¬(j:Int) < (r.acts.length:Int):=ln
    obtain rfl:j=r.acts.length:=by omega
    refine⟨rfl,rfl,x.rules.length - (k+1),by omega,k+1,_,_,by omega,by rw[hw k (by omega)],rfl,?_,rfl⟩
    rw[ZbZ,hG,ZsF]
    rw[<-tJ]at hP
    simpa using hP
  ·have fM:¬(k:Int) < (x.rules.length:Int):=fM
   obtain rfl:k=x.rules.length:=by omega
   refine⟨rfl,rfl,s.states.length - (i+1),by omega,i+1,_,_,by omega,by rw[hw i (by omega)],rfl,?_,rfl⟩
   rw[ZbZ,hF,ZsG]
   rw[<-tI]at hP
   simpa using hP
 ·have dB:¬(i:Int) < (s.states.length:Int):=dB
  obtain rfl:i=s.states.length:=by omega
  obtain⟨a0,c0,a10,n10,c10,h1,h2,h3,h4⟩:=hP
  have he:B++Zdz s.states.length (Ff s)=s.places:=by rw[nA,<-hB];rfl
  rw[he]at h1 h4
  rw[h1]
  exact⟨m4,kG,Mem.le_refl _,a0,c0,rfl,h4⟩
def Zpa(s:Sc)(l:List Pl):List (Pl×Int):=l.filterMap λp=>if atS s p=0 then none else some (p,atS s p)
theorem Zjt(s:Sc):s.problems=Zpa s s.places:=rfl
def Zt4(z:Pl×Int):Value:=.agg #[.int .i64 z.1.v,.int .i64 z.1.s,.int .i64 z.1.r,.int .i64 z.1.a,.int .i64 z.1.p,.int .i64 z.2]
theorem Zpb(s:Sc)(m:Mem):CX Tryz.prog 88 #[s.v] m [] (λv m' _=>∃b,v=.func (.func 116) #[] #[.pointer (some ⟨b,0,none⟩)]/\m'.reads b 0 s.cs):=by
 apply Zfq
 intro b m' hm hb
 exact⟨m',hm,Mem.le_refl _,b,rfl,hb⟩
theorem Zm3(s:Sc)(m:Mem)(c0b:Nat)(hr:RepC m s)(hb:m.reads c0b 0 s.cs):IX Tryz.prog 116 [] [.pointer (some ⟨c0b,0,none⟩)] m (s.problems.map λz=>[Zt4 z]):=by
 apply Zen 0 [] [] c0b 0
 intro l
 refine⟨_,_,_,hb,Zai (Ztb s m hr) Zu7 ?_⟩
 rintro a n c m1 aV ⟨a',c',vs,hv,hT⟩
 simp only[Value.slice.injEq]at hv
 obtain⟨rfl,rfl,rfl⟩:=hv
 refine⟨_,_,_,hb.mono aV,Zai (Ztc s m1 (hr.mono aV)) Zo9 ?_⟩
 rintro a3 n1 c1 m2 bA ⟨a',c',hv,bF⟩
 simp only[Value.slice.injEq]at hv
 obtain⟨rfl,rfl,rfl⟩:=hv
 have kS:=ZlR s
 have eI:=mLt aV bA
 refine⟨λxs _ _ m' q=>∃i:Nat,i<=s.places.length/\xs=[.int .i64 ((Zpa s (s.places.take i)).length:Nat),.int .i64 i]/\q=s.places.length - i,⟨s.places.length,0,by omega,rfl,rfl⟩,?_⟩
 rintro y n2 m3 q bR ⟨i,hi,hx,rfl⟩
 simp only[List.cons.injEq,Value.int.injEq,and_true,true_and]at hx
 obtain⟨rfl,rfl⟩:=hx
 have eG:=mLt eI bR
 have hw:i<=20001->IntKind.i64.wrap ((i:Int)+1)=((i+1:Nat):Int):=λhi=>by rw[Zal (by omega) (by omega)];rfl
 have hw:=hw (by omega)
 refine Zaw (λbB=>?_) (λdB=>?_)
 ·have bB:(i:Int) < (s.places.length:Int):=bB
  obtain⟨p,hp⟩:=Zc9 (show i < s.places.length by omega)
  have fK:Zpa s (s.places.take (i+1))=Zpa s (s.places.take i)++(if atS s p=0 then[]else[(p,atS s p)]):=by
   unfold Zpa
   rw[List.take_add_one,hp,List.filterMap_append]
   congr 1
   by_cases h:atS s p=0
   ·simp[h]
   ·simp[h]
  obtain⟨b1,o1,ha,eW⟩:=Zam (cs:=Pl.cs) (n:=5) (λ_=>rfl) (bF.mono bR) hp (by omega)
  refine⟨b1,o1,ha,⟨by omega,bB⟩,_,_,_,_,_,eW,λb2=>Zaa rfl ⟨_,_,_,hb.mono eG,?_⟩⟩
  refine Zax (Zy4 s a c vs p m3 (hr.mono eG) (hT.mono (mLt bA bR)) (Zov s p (List.mem_of_getElem? hp))) λm4 cO=>Zab (λh=>?_) (λh=>?_)
  ·have h:¬atS s p=0:=by
    intro e;rw[e]at h;simp at h
   rw[if_neg h]at fK
   refine⟨⟨rfl,Int.natCast_nonneg _,?_⟩,⟨s.places.length - (i+1),by omega,i+1,by omega,?_,rfl⟩,.inr rfl⟩
   ·rw[Int.toNat_natCast]
    show(List.map (λz=>[Zt4 z]) s.problems)[(Zpa s (s.places.take i)).length]?=some [Zt4 (p,atS s p)]
    rw[List.getElem?_map]
    have:s.problems[(Zpa s (s.places.take i)).length]?=some (p,atS s p):=by
     have e:s.problems=Zpa s (s.places.take (i+1))++Zpa s (s.places.drop (i+1)):=by
      rw[Zjt];unfold Zpa;rw[<-List.filterMap_append,List.take_append_drop]
     rw[e,fK,List.append_assoc,List.getElem?_append_right (Nat.le_refl _)]
     simp
    rw[this];rfl
   ·rw[hw,fK,List.length_append];rfl
  ·have h:atS s p=0:=by simpa using h
   rw[if_pos h,List.append_nil]at fK
   exact⟨s.places.length - (i+1),by omega,i+1,by omega,by rw[hw,fK],rfl⟩
 ·have dB:¬(i:Int) < (s.places.length:Int):=dB
  obtain rfl:i=s.places.length:=by omega
  left
  rw[List.take_length,<-Zjt,List.length_map]
def Zpc(z:Pl×Int):Value:=.tuple #[.agg z.1.cs.toArray,.int .i64 z.2]
theorem Ztd(s:Sc)(m:Mem)(hr:RepC m s):CX Tryz.prog 51 #[s.v] m [] (Ret (Zpc s.check)):=by
 apply ZiE
 intro b m1 aV _ b1 b2 b3
 refine Zag (ZkI s m1 (hr.mono aV)) λm2 bA=>Zab (λhl=>Zac (mLt aV bA) ?_) (λhl=>?_)
 ·have hl:s.light=false:=by simpa using hl
  show _=Zpc s.check
  unfold Sc.check;rw[hl];rfl
 have hl:s.light=true:=by simpa using hl
 refine Zai (Zpb s m2) (λv m' css h=>by obtain⟨_,rfl,_⟩:=h;rfl) ?_
 rintro g fi ca m3 bR ⟨b4,hv,qt⟩
 obtain⟨rfl,rfl,rfl⟩:=Zcp hv
 have cJ:=mLt aV (mLt bA bR)
 refine⟨_,Zm3 s m3 b4 (hr.mono cJ) qt,λy hy=>?_,λ_ _ _ m' q=>q=0,rfl,?_,?_⟩
 ·obtain⟨z,_,rfl⟩:=List.mem_map.1 hy;rfl
 ·rintro n n1 n2 n3 n4 n5 cs cs1 m4 q cO hq rfl b5
  have hq:(List.map (λz=>[Zt4 z]) s.problems)[0]?=some [Value.agg #[.int .i64 n,.int .i64 n1,.int .i64 n2,.int .i64 n3,.int .i64 n4,.int .i64 n5]]:=hq
  rw[List.getElem?_map]at hq
  obtain⟨z,hz,iZ⟩:=Option.map_eq_some_iff.1 hq
  refine⟨rfl,Zac (mLt cJ cO) ?_⟩
  have hz':s.check=z:=by
   unfold Sc.check;rw[hl,if_pos rfl]
   cases hs:s.problems with
   | nil=>rw[hs]at hz;simp at hz
   | cons x l=>rw[hs]at hz;simpa using hz
  show _=Zpc s.check
  rw[hz']
  simp only[Zt4,List.cons.injEq,Value.agg.injEq,Array.mk.injEq,Value.int.injEq,true_and,and_true]at iZ
  obtain⟨rfl,rfl,rfl,rfl,rfl,rfl⟩:=iZ
  rfl
 ·rintro cs cs1 m4 cO hq
  refine Zac (mLt cJ cO) ?_
  have hs:s.problems=[]:=by
   have hq:(List.map (λz=>[Zt4 z]) s.problems).length=0:=hq
   rw[List.length_map]at hq
   exact List.eq_nil_of_length_eq_zero hq
  show _=Zpc s.check
  unfold Sc.check;rw[hl,if_pos rfl,hs];rfl
theorem ZkL(s:Sc)(m:Mem)(hr:RepC m s):CX Tryz.prog 22 #[s.v] m [] (Ret (.bool (s.check.2 == 0))):=by
 apply ZiF
 intro b m1 aV _
 refine Zai (Ztd s m1 (hr.mono aV)) (λv _ _ e=>by rw[show v=_ from e];rfl) ?_
 intro n n1 n2 n3 n4 n5 m2 bA hv
 have hv:Value.tuple #[.agg #[.int .i64 n,.int .i64 n1,.int .i64 n2,.int .i64 n3,.int .i64 n4],.int .i64 n5]=Zpc s.check:=hv
 simp only[Zpc,Value.tuple.injEq,Array.mk.injEq,List.cons.injEq,Value.int.injEq,true_and,and_true]at hv
 intro b2
 refine Zac (mLt aV bA) ?_
 show Value.bool _=Value.bool _
 rw[hv.2]
end Go.Proofs.YtojlhhphofhaoaaGreatDoor