/- Part of the proof: conditions and contracts of functions of this program. No condition of its own. -/
import Derived.Test.YtiadlgdcbpnmkaaGreatDoorPC25K
import Derived.Test.YtiadlgdcbpnmkaaGreatDoorMr
set_option linter.unusedVariables false
set_option linter.unusedSimpArgs false
set_option linter.unusedSectionVars false
namespace Go.Proofs.YtiadlgdcbpnmkaaGreatDoor
open Go Go.Eng Go.Rx Go.Proofs Go.RowKit
set_option maxRecDepth 100000
theorem Zqv(L:List Pl):(L.map Pl.cs).flatten.length=L.length*5:=by
 induction L with
 | nil=>rfl
 | cons x l ih=>rw[List.map_cons,List.flatten_cons,List.length_append,ih,List.length_cons,Nat.succ_mul];show 5+_=_;omega
def PI(L:List Pl)(v t:Value)(m:Mem):Prop:=∃a c a1 n1 c1,v=.slice a L.length c/\t=.slice a1 n1 c1/\((a1=a/\n1=L.length/\c1=c)\/c < L.length+1)/\rowRd m a (L.map Pl.cs).flatten
theorem PI.mono{L:List Pl}{v t:Value}{m m':Mem}(h:PI L v t m)(hm:m.le m'):PI L v t m':=by
 obtain⟨a,c,a1,n1,c1,h1,h2,h3,h4⟩:=h
 exact⟨a,c,a1,n1,c1,h1,h2,h3,h4.mono hm⟩
theorem PI.app{L:List Pl}{a a1:Option Addr}{n c n1 c1:Nat}{m:Mem}{b:Nat}{Q:Option Addr->Nat->Mem->Prop}(z:Pl)(h:PI L (.slice a n c) (.slice a1 n1 c1) m)(hb:L.length<=30000)(hf:m.free b)
  (k:∀(a':Option Addr)(c':Nat)(m':Mem),m.le m'->PI (L++[z]) (.slice a' (n+1) c') (.slice a' (n+1) c') m'->Q a' c' m'):
  (Tok.mk (.slice a1 n1 c1) 5=Tok.mk (.slice a n c) 5\/Value.slice a n c=.slice none 0 0\/c < n+1)/\∃xs ys:List Value,xs.length=n*5/\ys.length=1*5/\rowRd (m.add b z.cs) a xs/\rowRd (m.add b z.cs) (some ⟨b,0,none⟩) ys/\(∀u∈ys,u.oneCell'=true)/\
   (n+1)*40<=140737488355328/\n+1<=9223372036854775807/\∀(a':Option Addr)(c':Nat)(m':Mem),(m.add b z.cs).le m'->rowRd m' a' (List.append xs ys)->Q a' c' m':=by
 obtain⟨a0,c0,a10,n10,c10,h1,h2,h3,h4⟩:=h
 simp only[Value.slice.injEq]at h1 h2
 obtain⟨rfl,rfl,rfl⟩:=h1
 obtain⟨rfl,rfl,rfl⟩:=h2
 have cA:m.le (m.add b z.cs):=Mem.le_add hf _
 refine⟨?_,(L.map Pl.cs).flatten,z.cs,Zqv L,rfl,h4.mono cA,.inr ⟨b,0,rfl,Zat m b _⟩,?_,by omega,by omega,λa' c' m' hm' hr'=>k a' c' m' (mLt cA hm') ⟨a',c',a',L.length+1,c',?_,rfl,.inl ⟨rfl,?_,rfl⟩,?_⟩⟩
 ·rcases h3 with⟨e1,e2,e3⟩|h3
  ·rw[e1,e2,e3];exact .inl rfl
  ·exact .inr (.inr h3)
 ·intro u hu
  simp only[Pl.cs,List.mem_cons,List.not_mem_nil,or_false]at hu
  rcases hu with rfl|rfl|rfl|rfl|rfl <;> rfl
 ·rw[List.length_append];rfl
 ·rw[List.length_append];rfl
 ·rw[List.map_append,List.flatten_append]
  have:(List.map Pl.cs [z]).flatten=z.cs:=by simp
  rw[this];exact hr'
def Zrl(s:Sc):Value->Mem->List (List Value)->Prop:=λv m _=>∃a c,v=.slice a s.places.length c/\rowRd m a (s.places.map Pl.cs).flatten
theorem ZgX{s}:∀(v:Value)(m':Mem) (css:List (List Value)),Zrl s v m' css->Shape.fits .slice v=true:=λv _ _ ⟨_,_,e,_⟩=>by rw[e];rfl
set_option maxHeartbeats 4000000 in
theorem Zlv(s:Sc)(m:Mem)(hr:RepC m s):CX Tryz.prog 9 #[s.v] m [] (Zrl s):=by
 apply Zk5
 unfold ZgF
 intro b m1 aU _
 have eU:=hr.vlen
 have fV:=hr.len
 unfold few at eU fV
 refine Zae (Ziz s m1 (hr.mono aU)) λm2 bG=>Zac (λhl=>?_) (λhl b2 jT=>?_)
 ·have hl:s.light=false:=by simpa using hl
  have he:s.places=[]:=by unfold Sc.places;rw[hl];rfl
  exact Zaa (mLt aU bG) ⟨none,0,by rw[he];rfl,by rw[he];exact .inl rfl⟩
 have hl:s.light=true:=by simpa using hl
 have lE:m2.le (m2.add b2 (Pl.cs top)):=Mem.le_add jT _
 have hO:=mLt aU (mLt bG lE)
 have iE:=Zef s
 have ml:=ZhP hl
 rw[ml,List.length_cons,List.length_append,show(ZdC s.vars.length Vf).length=s.vars.length from ZgB _ _]at iE
 have hw:∀k:Nat,k<=100000->IntKind.i64.wrap ((k:Int)+1)=((k+1:Nat):Int):=λk hk=>by rw[Zan (by omega) (by omega)];rfl
 have start:PI [top] (.slice (some ⟨b2,0,none⟩) 1 1) (.slice none 0 0) (m2.add b2 (Pl.cs top)):=⟨_,1,_,_,_,rfl,rfl,.inr (by decide),.inr ⟨b2,0,rfl,by simpa using Zat m2 b2 (Pl.cs top)⟩⟩
 refine⟨λxs _ tks m' q=>∃(i:Nat)(v t:Value),i<=s.vars.length/\xs=[v,.int .i64 i]/\tks=[t]/\PI (top::ZdC i Vf) v t m'/\q=s.vars.length - i,⟨s.vars.length,0,_,_,by omega,rfl,rfl,start,rfl⟩,?_⟩
 rintro a n c i' a1 n2 c1 m3 q bX ⟨i,v,t,hi,hx,ht,hP,rfl⟩
 simp only[List.cons.injEq,Value.int.injEq,and_true,true_and]at hx ht
 obtain⟨rfl,rfl⟩:=hx
 subst ht
 have dY:=mLt hO bX
 have rF:(ZdC i Vf).length=i:=ZgB _ _
 refine ZaF (λbF b3 nL=>?_) (λdC=>?_)
 ·have bF:(i:Int) < (s.vars.length:Int):=bF
  refine PI.app ⟨i,-1,-1,-1,-1⟩ hP (by rw[List.length_cons,rF];omega) nL λa' c' m' hm' hP'=>⟨rfl,s.vars.length - (i+1),by omega,i+1,_,_,by omega,by rw[hw i (by omega)],rfl,?_,rfl⟩
  rw[ZbT];exact hP'
 have dC:¬(i:Int) < (s.vars.length:Int):=dC
 obtain rfl:i=s.vars.length:=by omega
 generalize hB:top::ZdC s.vars.length Vf=B at hP
 have uu:B.length=s.vars.length+1:=by rw[<-hB,List.length_cons,rF]
 refine⟨λxs _ tks m' q=>∃(i:Nat)(v t:Value),i<=s.states.length/\xs=[v,.int .i64 i]/\tks=[t]/\PI (B++ZdC i (Ff s)) v t m'/\q=s.states.length - i,⟨s.states.length,0,_,_,by omega,rfl,rfl,by simpa[ZdC]using hP,rfl⟩,?_⟩
 rintro a n c i' a1 n2 c1 m4 q cM ⟨i,v,t,hi,hx,ht,hP,rfl⟩
 simp only[List.cons.injEq,Value.int.injEq,and_true,true_and]at hx ht
 obtain⟨rfl,rfl⟩:=hx
 subst ht
 have jS:=mLt dY cM
 refine ZaF (λbF=>?_) (λdC=>?_)
 ·have bF:(i:Int) < (s.states.length:Int):=bF
  obtain⟨x,hx⟩:=Zb8 (show i < s.states.length by omega)
  have dX:=hr.all x (List.mem_of_getElem? hx)
  have kp:=dX.len
  unfold few at kp
  have hF:Ff s i=plS i x:=by unfold Ff;rw[hx]
  have cP:(ZdC i (Ff s)).length+(plS i x).length<=(ZdC s.states.length (Ff s)).length:=by
   have:=Zra (show i+1<=s.states.length by omega) (Ff s)
   rw[ZbT,List.length_append,hF]at this;exact this
  rw[ZoD,List.length_cons]at cP
  obtain⟨b3,o3,jQ,iW⟩:=Zav Sta.len (hr.row.mono jS) hx (by omega)
  refine⟨b3,o3,jQ,⟨by omega,bF⟩,_,_,iW,λb4=>Zab rfl λb5 tE=>?_⟩
  refine PI.app ⟨-1,i,-1,-1,-1⟩ hP (by rw[List.length_append];omega) tE λa' c' m5 eJ hP=>Zab rfl ?_
  have kr:=mLt jS eJ
  generalize rG:B++ZdC i (Ff s)=L1 at hP
  have j1:L1.length=B.length+(ZdC i (Ff s)).length:=by rw[<-rG,List.length_append]
  refine⟨λxs _ tks m' q=>∃(k:Nat)(v t:Value),k<=x.rules.length/\xs=[v,.int .i64 k]/\tks=[t]/\PI (L1++(⟨-1,i,-1,-1,-1⟩::ZdC k (Gf i x))) v t m'/\q=x.rules.length - k,⟨x.rules.length,0,_,_,by omega,rfl,rfl,by simpa[ZdC]using hP,rfl⟩,?_⟩
  rintro a n c k' a1 n2 c1 m6 q iv ⟨k,v,t,hk,hy,ht,hP,rfl⟩
  simp only[List.cons.injEq,Value.int.injEq,and_true,true_and]at hy ht
  obtain⟨rfl,rfl⟩:=hy
  subst ht
  have lV:=mLt kr iv
  refine ZaF (λeB=>?_) (λeY=>?_)
  ·have eB:(k:Int) < (x.rules.length:Int):=eB
   obtain⟨r,gJ⟩:=Zb8 (show k < x.rules.length by omega)
   have gA:=dX.all r (List.mem_of_getElem? gJ)
   have lU:=gA.len
   unfold few at lU
   have hG:Gf i x k=plR i k r:=by unfold Gf;rw[gJ]
   have fJ:(ZdC k (Gf i x)).length+(plR i k r).length<=(ZdC x.rules.length (Gf i x)).length:=by
    have:=Zra (show k+1<=x.rules.length by omega) (Gf i x)
    rw[ZbT,List.length_append,hG]at this;exact this
   rw[ZoC,List.length_cons]at fJ
   obtain⟨b6,o6,qn,oM⟩:=Zav Ru.len (dX.row.mono lV) gJ (by omega)
   refine Zab rfl ⟨b6,o6,qn,⟨by omega,eB⟩,_,_,_,_,_,_,_,_,_,_,_,_,_,_,_,_,oM,λb7=>Zab rfl λb8 tF=>?_⟩
   refine PI.app ⟨-1,i,k,-1,-1⟩ hP (by rw[List.length_append,List.length_cons];omega) tF λa' c' m7 mt hP=>Zab rfl ?_
   have oP:=mLt lV mt
   generalize rH:L1++(⟨-1,i,-1,-1,-1⟩::ZdC k (Gf i x))=L2 at hP
   have je:L2.length=L1.length+1+(ZdC k (Gf i x)).length:=by rw[<-rH,List.length_append,List.length_cons];omega
   refine⟨λxs _ tks m' q=>∃(j:Nat)(v t:Value),j<=r.acts.length/\xs=[v,.int .i64 j]/\tks=[t]/\PI (L2++(⟨-1,i,k,-1,-1⟩::ZdC j (Hf i k r))) v t m'/\q=r.acts.length - j,⟨r.acts.length,0,_,_,by omega,rfl,rfl,by simpa[ZdC]using hP,rfl⟩,?_⟩
   rintro a n c j' a1 n2 c1 m8 q iX ⟨j,v,t,hj,hy,ht,hP,rfl⟩
   simp only[List.cons.injEq,Value.int.injEq,and_true,true_and]at hy ht
   obtain⟨rfl,rfl⟩:=hy
   subst ht
   have kX:=mLt oP iX
   refine ZaF (λjR=>?_) (λiN=>?_)
   ·have jR:(j:Int) < (r.acts.length:Int):=jR
    obtain⟨y,hU⟩:=Zb8 (show j < r.acts.length by omega)
    have iw:=gA.all y (List.mem_of_getElem? hU)
    have qp:=iw.n
    unfold few at qp
    have hH:Hf i k r j=plA i k j y:=by unfold Hf;rw[hU]
    have eX:(ZdC j (Hf i k r)).length+(plA i k j y).length<=(ZdC r.acts.length (Hf i k r)).length:=by
     have:=Zra (show j+1<=r.acts.length by omega) (Hf i k r)
     rw[ZbT,List.length_append,hH]at this;exact this
    rw[ZoB,List.length_cons,show(ZdC y.parts.length (Pf i k j)).length=y.parts.length from ZgB _ _]at eX
    obtain⟨b9,o9,tG,tH⟩:=Zav Ac.len (gA.row.mono kX) hU (by omega)
    refine Zab rfl ⟨b9,o9,tG,⟨by omega,jR⟩,_,_,_,_,_,_,_,_,tH,λb10=>Zab rfl λb11 qq=>?_⟩
    refine PI.app ⟨-1,i,k,j,-1⟩ hP (by rw[List.length_append,List.length_cons];omega) qq λa' c' m9 qk hP=>Zab rfl ?_
    generalize rI:L2++(⟨-1,i,k,-1,-1⟩::ZdC j (Hf i k r))=L3 at hP
    have mU:L3.length=L2.length+1+(ZdC j (Hf i k r)).length:=by rw[<-rI,List.length_append,List.length_cons];omega
    refine⟨λxs _ tks m' q=>∃(w:Nat)(v t:Value),w<=y.parts.length/\xs=[v,.int .i64 w]/\tks=[t]/\PI (L3++(⟨-1,i,k,j,-1⟩::ZdC w (Pf i k j))) v t m'/\q=y.parts.length - w,⟨y.parts.length,0,_,_,by omega,rfl,rfl,by simpa[ZdC]using hP,rfl⟩,?_⟩
    rintro a n c w' a1 n2 c1 m10 q tI ⟨w,v,t,uv,hy,ht,hP,rfl⟩
    simp only[List.cons.injEq,Value.int.injEq,and_true,true_and]at hy ht
    obtain⟨rfl,rfl⟩:=hy
    subst ht
    have tJ:(ZdC w (Pf i k j)).length=w:=ZgB _ _
    refine ZaF (λkt b12 qr=>?_) (λku=>?_)
    ·have kt:(w:Int) < (y.parts.length:Int):=kt
     refine PI.app ⟨-1,i,k,j,w⟩ hP (by rw[List.length_append,List.length_cons,tJ];omega) qr λa' c' m' hm' hP'=>⟨rfl,rfl,y.parts.length - (w+1),by omega,w+1,_,_,by omega,by rw[hw w (by omega)],rfl,?_,rfl⟩
     rw[ZbT]
     simpa[Pf]using hP'
    ·have ku:¬(w:Int) < (y.parts.length:Int):=ku
     obtain rfl:w=y.parts.length:=by omega
     refine⟨rfl,rfl,r.acts.length - (j+1),by omega,j+1,_,_,by omega,by rw[hw j (by omega)],rfl,?_,rfl⟩
     rw[ZbT,hH,ZoB]
     rw[<-rI]at hP
     simpa using hP
   ·have iN:¬(j:Int) < (r.acts.length:Int):=iN
    obtain rfl:j=r.acts.length:=by omega
    refine⟨rfl,rfl,x.rules.length - (k+1),by omega,k+1,_,_,by omega,by rw[hw k (by omega)],rfl,?_,rfl⟩
    rw[ZbT,hG,ZoC]
    rw[<-rH]at hP
    simpa using hP
  ·have eY:¬(k:Int) < (x.rules.length:Int):=eY
   obtain rfl:k=x.rules.length:=by omega
   refine⟨rfl,rfl,s.states.length - (i+1),by omega,i+1,_,_,by omega,by rw[hw i (by omega)],rfl,?_,rfl⟩
   rw[ZbT,hF,ZoD]
   rw[<-rG]at hP
   simpa using hP
 ·have dC:¬(i:Int) < (s.states.length:Int):=dC
  obtain rfl:i=s.states.length:=by omega
  obtain⟨a0,c0,a10,n10,c10,h1,h2,h3,h4⟩:=hP
  have he:B++ZdC s.states.length (Ff s)=s.places:=by rw[ml,<-hB];rfl
  rw[he]at h1 h4
  rw[h1]
  exact⟨m4,jS,Mem.le_refl _,a0,c0,rfl,h4⟩
def ZbX(s:Sc)(l:List Pl):List (Pl×Int):=l.filterMap λp=>if atS s p=0 then none else some (p,atS s p)
theorem Zb4(s:Sc):s.problems=ZbX s s.places:=rfl
def Zns(z:Pl×Int):Value:=.agg #[.int .i64 z.1.v,.int .i64 z.1.s,.int .i64 z.1.r,.int .i64 z.1.a,.int .i64 z.1.p,.int .i64 z.2]
theorem Zkf(s:Sc)(m:Mem):CX Tryz.prog 23 #[s.v] m [] (λv m' _=>∃b,v=.func (.func 36) #[] #[.pointer (some ⟨b,0,none⟩)]/\m'.reads b 0 s.cs):=by
 apply ZfY
 unfold Zdy
 intro b m' hm hb
 exact⟨m',hm,Mem.le_refl _,b,rfl,hb⟩
theorem ZiA(s:Sc)(m:Mem)(c0b:Nat)(hr:RepC m s)(hb:m.reads c0b 0 s.cs):IX Tryz.prog 36 [] [.pointer (some ⟨c0b,0,none⟩)] m (s.problems.map λz=>[Zns z]):=by
 apply ZeL 0 [] [] c0b 0
 unfold ZcN
 intro l
 refine⟨_,_,_,hb,Zao (Zpf s m hr) Zrk ?_⟩
 rintro a n c m1 aU ⟨a',c',vs,hv,hT⟩
 simp only[Value.slice.injEq]at hv
 obtain⟨rfl,rfl,rfl⟩:=hv
 refine⟨_,_,_,hb.mono aU,Zao (Zlv s m1 (hr.mono aU)) ZgX ?_⟩
 rintro a3 n1 c1 m2 bG ⟨a',c',hv,dA⟩
 simp only[Value.slice.injEq]at hv
 obtain⟨rfl,rfl,rfl⟩:=hv
 have iE:=Zef s
 have hO:=mLt aU bG
 refine⟨λxs _ _ m' q=>∃i:Nat,i<=s.places.length/\xs=[.int .i64 ((ZbX s (s.places.take i)).length:Nat),.int .i64 i]/\q=s.places.length - i,⟨s.places.length,0,by omega,rfl,rfl⟩,?_⟩
 rintro y n2 m3 q bX ⟨i,hi,hx,rfl⟩
 simp only[List.cons.injEq,Value.int.injEq,and_true,true_and]at hx
 obtain⟨rfl,rfl⟩:=hx
 have dY:=mLt hO bX
 have hw:i<=20001->IntKind.i64.wrap ((i:Int)+1)=((i+1:Nat):Int):=λhi=>by rw[Zan (by omega) (by omega)];rfl
 have hw:=hw (by omega)
 refine ZaF (λbF=>?_) (λdC=>?_)
 ·have bF:(i:Int) < (s.places.length:Int):=bF
  obtain⟨p,hp⟩:=Zb8 (show i < s.places.length by omega)
  have eS:ZbX s (s.places.take (i+1))=ZbX s (s.places.take i)++(if atS s p=0 then[]else[(p,atS s p)]):=by
   unfold ZbX
   rw[List.take_add_one,hp,List.filterMap_append]
   congr 1
   by_cases h:atS s p=0
   ·simp[h]
   ·simp[h]
  obtain⟨b1,o1,ha,dO⟩:=Zav (cs:=Pl.cs) (n:=5) (λ_=>rfl) (dA.mono bX) hp (by omega)
  refine⟨b1,o1,ha,⟨by omega,bF⟩,_,_,_,_,_,dO,λb2=>Zab rfl ⟨_,_,_,hb.mono dY,?_⟩⟩
  refine ZaD (Zxi s a c vs p m3 (hr.mono dY) (hT.mono (mLt bG bX)) (ZoE s p (List.mem_of_getElem? hp))) λm4 cM=>Zac (λh=>?_) (λh=>?_)
  ·have h:¬atS s p=0:=by
    intro e;rw[e]at h;simp at h
   rw[if_neg h]at eS
   refine⟨⟨rfl,Int.natCast_nonneg _,?_⟩,⟨s.places.length - (i+1),by omega,i+1,by omega,?_,rfl⟩,.inr rfl⟩
   ·rw[Int.toNat_natCast]
    show(List.map (λz=>[Zns z]) s.problems)[(ZbX s (s.places.take i)).length]?=some [Zns (p,atS s p)]
    rw[List.getElem?_map]
    have:s.problems[(ZbX s (s.places.take i)).length]?=some (p,atS s p):=by
     have e:s.problems=ZbX s (s.places.take (i+1))++ZbX s (s.places.drop (i+1)):=by
      rw[Zb4];unfold ZbX;rw[<-List.filterMap_append,List.take_append_drop]
     rw[e,eS,List.append_assoc,List.getElem?_append_right (Nat.le_refl _)]
     simp
    rw[this];rfl
   ·rw[hw,eS,List.length_append];rfl
  ·have h:atS s p=0:=by simpa using h
   rw[if_pos h,List.append_nil]at eS
   exact⟨s.places.length - (i+1),by omega,i+1,by omega,by rw[hw,eS],rfl⟩
 ·have dC:¬(i:Int) < (s.places.length:Int):=dC
  obtain rfl:i=s.places.length:=by omega
  left
  rw[List.take_length,<-Zb4,List.length_map]
def Zlw(z:Pl×Int):Value:=.tuple #[.agg z.1.cs.toArray,.int .i64 z.2]
theorem Zlx(s:Sc)(m:Mem)(hr:RepC m s):CX Tryz.prog 13 #[s.v] m [] (Ret (Zlw s.check)):=by
 apply Zjv
 unfold Zfx
 intro b m1 aU _ b1 b2 b3
 refine Zae (Ziz s m1 (hr.mono aU)) λm2 bG=>Zac (λhl=>Zaa (mLt aU bG) ?_) (λhl=>?_)
 ·have hl:s.light=false:=by simpa using hl
  show _=Zlw s.check
  unfold Sc.check;rw[hl];rfl
 have hl:s.light=true:=by simpa using hl
 refine Zao (Zkf s m2) (λv m' css h=>by obtain⟨_,rfl,_⟩:=h;rfl) ?_
 rintro g fi ca m3 bX ⟨b4,hv,oN⟩
 obtain⟨rfl,rfl,rfl⟩:=Zcv hv
 have cA:=mLt aU (mLt bG bX)
 refine⟨_,ZiA s m3 b4 (hr.mono cA) oN,λy hy=>?_,λ_ _ _ m' q=>q=0,rfl,?_,?_⟩
 ·obtain⟨z,_,rfl⟩:=List.mem_map.1 hy;rfl
 ·rintro n n1 n2 n3 n4 n5 cs cs1 m4 q cM hq rfl b5
  have hq:(List.map (λz=>[Zns z]) s.problems)[0]?=some [Value.agg #[.int .i64 n,.int .i64 n1,.int .i64 n2,.int .i64 n3,.int .i64 n4,.int .i64 n5]]:=hq
  rw[List.getElem?_map]at hq
  obtain⟨z,hz,gT⟩:=Option.map_eq_some_iff.1 hq
  refine⟨rfl,Zaa (mLt cA cM) ?_⟩
  have hz':s.check=z:=by
   unfold Sc.check;rw[hl,if_pos rfl]
   cases hs:s.problems with
   | nil=>rw[hs]at hz;simp at hz
   | cons x l=>rw[hs]at hz;simpa using hz
  show _=Zlw s.check
  rw[hz']
  simp only[Zns,List.cons.injEq,Value.agg.injEq,Array.mk.injEq,Value.int.injEq,true_and,and_true]at gT
  obtain⟨rfl,rfl,rfl,rfl,rfl,rfl⟩:=gT
  rfl
 ·rintro cs cs1 m4 cM hq
  refine Zaa (mLt cA cM) ?_
  have hs:s.problems=[]:=by
   have hq:(List.map (λz=>[Zns z]) s.problems).length=0:=hq
   rw[List.length_map]at hq
   exact List.eq_nil_of_length_eq_zero hq
  show _=Zlw s.check
  unfold Sc.check;rw[hl,if_pos rfl,hs];rfl
theorem Zpg(s:Sc)(m:Mem)(hr:RepC m s):CX Tryz.prog 14 #[s.v] m [] (Ret (.bool (s.check.2 == 0))):=by
 apply Zjw
 unfold Zfy
 intro b m1 aU _
 refine Zao (Zlx s m1 (hr.mono aU)) (λv _ _ e=>by rw[show v=_ from e];rfl) ?_
 intro n n1 n2 n3 n4 n5 m2 bG hv
 have hv:Value.tuple #[.agg #[.int .i64 n,.int .i64 n1,.int .i64 n2,.int .i64 n3,.int .i64 n4],.int .i64 n5]=Zlw s.check:=hv
 simp only[Zlw,Value.tuple.injEq,Array.mk.injEq,List.cons.injEq,Value.int.injEq,true_and,and_true]at hv
 intro b2
 refine Zaa (mLt aU bG) ?_
 show Value.bool _=Value.bool _
 rw[hv.2]
def Zph:List ByteArray:=[⟨#[98,117,102,102,101,114]⟩,⟨#[118,97,114,105,97,98,108,101]⟩,⟨#[115,116,97,116,101,115]⟩,⟨#[115,116,97,116,101]⟩,⟨#[114,117,108,101]⟩,⟨#[114,101,103,101,120]⟩,⟨#[101,110,100]⟩,⟨#[97,99,116,105,111,110]⟩,⟨#[110,97,109,101]⟩,⟨#[99,97,112,116,117,114,101]⟩]
def Zty(e:Int):ByteArray:=if e=5 then⟨#[108,111,110,103]⟩ else if e ≥ 300/\e<=309 then Zph.getD (e - 300).toNat ⟨#[]⟩ else⟨#[]⟩
theorem ZvO(e:Int)(m:Mem):CX Tryz.prog 15 #[.int .i64 e] m [] (Ret (.string (Zty e))):=by
 apply Zlg
 unfold ZgL
 intro b hf
 have cA:=Mem.le_add hf (Zph.map Value.string)
 refine Zac (λh=>Zaa cA ?_) (λh=>?_)
 ·have h:e=5:=by simpa using h
  show Value.string _=Value.string _
  unfold Zty;rw[if_pos h]
 have h:¬e=5:=by simpa using h
 by_cases h1:e ≥ 300
 ·by_cases h2:e<=309
  ·refine⟨true,ZnB (decide_eq_true h1) ⟨by trivial,Zag (decide_eq_true h2)⟩,ZnB rfl ?_⟩
   have hw:IntKind.i64.wrap (e - 300)=e - 300:=Zan (by omega) (by omega)
   rw[hw]
   obtain⟨w,hw'⟩:=Zb8 (show(e - 300).toNat < Zph.length by show(e - 300).toNat < 10;omega)
   refine⟨⟨by omega,by omega⟩,ZaK (v:=.string w) ?_ (Zaa cA ?_)⟩
   ·show(Zph.map Value.string)[(e - 300).toNat*1]?=_
    rw[Nat.mul_one,List.getElem?_map,hw'];rfl
   ·show Value.string _=Value.string _
    unfold Zty;rw[if_neg h,if_pos ⟨h1,h2⟩,List.getD_eq_getElem?_getD,hw'];rfl
  ·refine⟨false,ZnB (decide_eq_true h1) ⟨by trivial,Zag (decide_eq_false h2)⟩,ZfC rfl (Zaa cA ?_)⟩
   show Value.string _=Value.string _
   unfold Zty;rw[if_neg h,if_neg (by omega)]
 ·refine⟨false,ZfC (decide_eq_false h1) ⟨by trivial,rfl⟩,ZfC rfl (Zaa cA ?_)⟩
  show Value.string _=Value.string _
  unfold Zty;rw[if_neg h,if_neg (by omega)]
theorem Zuu(m:Mem):Rep m ZuR:=by simp only[ZuR,Rep];exact⟨by simp,.inl trivial,by constructor <;> decide⟩
theorem Zuv(m:Mem):Rep m Zv5:=by simp only[Zv5,Rep];exact⟨by simp,.inl trivial,by constructor <;> decide⟩
theorem ZvP(m:Mem):CX Tryz.prog 29 #[.int .u8 120] m [] (Ret ZuR.v):=by
 apply Zfn
 unfold ZdD
 intro b b1
 exact⟨by decide,by decide,by decide,⟨by decide,by decide⟩,Zab (by kernel_rfl) (Zab (by kernel_rfl) (Zaa (Mem.le_refl m) (by show _=ZuR.v;kernel_rfl)))⟩
theorem ZvQ(m:Mem):CX Tryz.prog 29 #[.int .u8 121] m [] (Ret Zv5.v):=by
 apply Zfn
 unfold ZdD
 intro b b1
 exact⟨by decide,by decide,by decide,⟨by decide,by decide⟩,Zab (by kernel_rfl) (Zab (by kernel_rfl) (Zaa (Mem.le_refl m) (by show _=Zv5.v;kernel_rfl)))⟩
def Zqw:Value->Mem->List (List Value)->Prop:=λv m' _=>∃a1 a2,v=ZxL false false (rxT a1 a2)/\Rep m' (rxT a1 a2)
theorem Zmj:∀(v:Value)(m':Mem) (css:List (List Value)),Zqw v m' css->Shape.fits (.agg [.bool,.bool,.int .u8,.int .u64,.int .u64,.int .u64,.int .u64,.int .i64,.int .i64,.slice]) v=true:=λv _ _ ⟨_,_,e,_⟩=>by rw[e];rfl
theorem Zrm(m:Mem):CX Tryz.prog 18 #[] m [] Zqw:=by
 apply Zjc
 unfold Zfo
 intro b
 refine Zao (ZvP m) (λv _ _ e=>by rw[show v=_ from e];rfl) ?_
 intro n n1 n2 n3 n4 n5 n6 a n7 c m1 aU hv
 simp only[Ret,ZuR,T.v,T.k,T.s0,T.s1,T.s2,T.s3,T.mn,T.mx,T.a,T.c,T.subs,Value.agg.injEq,Array.mk.injEq,List.cons.injEq,Value.int.injEq,Value.slice.injEq,true_and,and_true,List.length_nil]at hv
 obtain⟨rfl,rfl,rfl,rfl,rfl,rfl,rfl,rfl,rfl,rfl⟩:=hv
 intro b1 md
 have j1:m1.le (m1.add b1 ZuR.cs):=Mem.le_add md _
 refine Zao (ZvQ _) (λv _ _ e=>by rw[show v=_ from e];rfl) ?_
 intro n n1 n2 n3 n4 n5 n6 a n7 c m2 bG hv
 simp only[Ret,Zv5,T.v,T.k,T.s0,T.s1,T.s2,T.s3,T.mn,T.mx,T.a,T.c,T.subs,Value.agg.injEq,Array.mk.injEq,List.cons.injEq,Value.int.injEq,Value.slice.injEq,true_and,and_true,List.length_nil]at hv
 obtain⟨rfl,rfl,rfl,rfl,rfl,rfl,rfl,rfl,rfl,rfl⟩:=hv
 intro b2 jT
 have hg:Rep m2 (Ztm 6 0 0 (some ⟨b1,0,none⟩) 1 [ZuR]):=Zj2 (Zt0 ((Zat m1 b1 ZuR.cs).mono bG) (Zuu m2)) (by omega) (by omega) (by omega)
 have je:=Mem.le_add jT ((Ztm 6 0 0 (some ⟨b1,0,none⟩) 1 [ZuR]).cs++Zv5.cs)
 refine⟨_,mLt aU (mLt j1 (mLt bG je)),Mem.le_refl _,some ⟨b1,0,none⟩,some ⟨b2,0,none⟩,rfl,?_⟩
 have hR:=Zat m2 b2 ((Ztm 6 0 0 (some ⟨b1,0,none⟩) 1 [ZuR]).cs++Zv5.cs)
 refine Zj2 (k:=3) (l:=[Ztm 6 0 0 (some ⟨b1,0,none⟩) 1 [ZuR],Zv5]) ⟨by simp,.inr ⟨b2,0,rfl,?_⟩⟩ (by omega) (by omega) (by omega)
 simp only[RepAt]
 exact⟨Zba hR 0 8,hg.mono je,Zba hR 8 8,Zuv _,trivial⟩
def Zv7(P:Ru->Prop):Value->Mem->List (List Value)->Prop:=λv m' _=>∃va sa ra r,P r/\v=(ZhQ va sa ra r).v/\RepC m' (ZhQ va sa ra r)
theorem Zd9{P}:∀(v:Value)(m':Mem) (css:List (List Value)),Zv7 P v m' css->Shape.fits (.agg [.int .i64,.slice,.slice]) v=true:=λv _ _ ⟨_,_,_,_,_,e,_⟩=>by rw[e];rfl
theorem Zly{P:Ru->Prop}(r:Ru)(hP:P r)(m:Mem)(hr:RepR m r):CX Tryz.prog 17 #[.agg r.cs.toArray] m [] (Zv7 P):=by
 apply ZmM
 unfold ZhR
 intro b m1 aU _ b0 b1 md b2 jT b3 nL
 have l1:m1.le _:=Mem.le_add md (Zi4.map Va.cs).flatten
 have l2:=Mem.le_add jT r.cs
 have l3:=Mem.le_add nL [.string ⟨#[97]⟩,.slice (some ⟨b2,0,none⟩) 1 1]
 have r1:=Zat m1 b1 (Zi4.map Va.cs).flatten
 have r2:=Zat (m1.add b1 (Zi4.map Va.cs).flatten) b2 r.cs
 have r3:=Zat ((m1.add b1 (Zi4.map Va.cs).flatten).add b2 r.cs) b3 [.string ⟨#[97]⟩,.slice (some ⟨b2,0,none⟩) 1 1]
 refine⟨_,mLt aU (mLt l1 (mLt l2 l3)),Mem.le_refl _,some ⟨b1,0,none⟩,some ⟨b3,0,none⟩,some ⟨b2,0,none⟩,r,hP,rfl,?_⟩
 refine⟨by show(-9223372036854775808:Int)<=9/\(9:Int)<=9223372036854775807;decide,by show 2<=few;decide,.inr ⟨b1,0,rfl,r1.mono (mLt l2 l3)⟩,λv hv=>?_,by show 1<=few;decide,.inr ⟨b3,0,rfl,r3⟩,λx hx=>?_,Nat.le_refl 2,Nat.le_refl 1⟩
 ·simp only[ZhQ,Zi4,List.mem_cons,List.not_mem_nil,or_false]at hv
  rcases hv with rfl|rfl <;> exact⟨by decide,by decide⟩
 ·simp only[ZhQ,List.mem_cons,List.not_mem_nil,or_false]at hx
  subst hx
  refine⟨by show ByteArray.size ⟨#[97]⟩<=_;decide,by show 1<=few;decide,.inr ⟨b2,0,rfl,?_⟩,λz hz=>?_⟩
  ·have:(List.map Ru.cs [r]).flatten=r.cs:=by simp
   rw[this];exact r2.mono l3
  ·simp only[List.mem_cons,List.not_mem_nil,or_false]at hz
   subst hz
   exact hr.mono (mLt aU (mLt l1 (mLt l2 l3)))
def Ztz(l:List Int):Value->Mem->List (List Value)->Prop:=λv m' _=>∃pa pc b,v=.slice (some ⟨b,0,none⟩) 1 1/\m'.reads b 0 (Znr pa pc l).cs/\RepA m' (Znr pa pc l)
theorem ZiB{l}:∀(v:Value)(m':Mem) (css:List (List Value)),Ztz l v m' css->Shape.fits .slice v=true:=λv _ _ ⟨_,_,_,e,_⟩=>by rw[e];rfl
theorem Zuw(n:Int)(hn:I64 n)(m:Mem):RepP m (Ztt n):=⟨by show(0:Int)<=3/\(3:Int) < 256;decide,by show ByteArray.size ⟨#[]⟩<=_;decide,hn,Ztn m⟩
theorem Zpi(l:List Int)(a:Option Addr)(c:Nat)(m:Mem)(hl:l.length<=2)(hn:∀n∈l,I64 n)(dA:rowRd m a (l.map (Value.int .i64))):CX Tryz.prog 19 #[.slice a l.length c] m [] (Ztz l):=by
 apply Zk2
 unfold ZgD
 intro b
 refine⟨λxs css tks m' q=>∃(i:Nat)(pa:Option Addr)(pc:Nat),i<=l.length/\xs=[.int .i64 i]/\css=[[.int .u8 1,.string ⟨#[]⟩,.slice pa i pc,.int .u8 0,.float .f64 0,.string ⟨#[]⟩,.int .i64 0,.slice none 0 0]]/\tks=[.slice pa i pc]/\rowRd m' pa (((l.take i).map Ztt).map Pt.cs).flatten/\q=l.length - i,
  ⟨l.length,0,none,0,by omega,rfl,rfl,rfl,.inl rfl,rfl⟩,?_⟩
 rintro n cs a1 n1 c1 m1 q aU ⟨i,pa,pc,hi,hx,dN,ht,hr,rfl⟩
 simp only[List.cons.injEq,Value.int.injEq,and_true,true_and]at hx
 subst hx
 obtain rfl:cs=_:=by simpa using dN
 obtain⟨rfl,rfl,rfl⟩:a1=pa/\n1=i/\c1=pc:=by simpa using ht
 refine ZaF (λbF=>?_) (λdC=>?_)
 ·have bF:(n1:Int) < (l.length:Int):=bF
  obtain⟨n,mL⟩:=Zb8 (show n1 < l.length by omega)
  obtain⟨b2,o2,ha,hc⟩:=Zxt (dA.mono aU) (show(l.map (Value.int .i64))[n1]?=some (.int .i64 n) by rw[List.getElem?_map,mL];rfl)
  refine⟨b2,o2,ha,⟨by omega,bF⟩,_,hc,ZaK (v:=.slice a1 n1 c1) rfl (Zab rfl (Zab rfl λb3 nL=>Zab rfl ?_))⟩
  have cA:m1.le (m1.add b3 (Ztt n).cs):=Mem.le_add nL _
  have bL:(((l.take n1).map Ztt).map Pt.cs).flatten.length=n1*8:=by
   have:∀L:List Int,((L.map Ztt).map Pt.cs).flatten.length=L.length*8:=λL=>by
    induction L with
    | nil=>rfl
    | cons x L ih=>rw[List.map_cons,List.map_cons,List.flatten_cons,List.length_append,ih,List.length_cons,Nat.succ_mul];show 8+_=_;omega
   rw[this,List.length_take,Nat.min_eq_left (by omega)]
  refine⟨.inl rfl,(((l.take n1).map Ztt).map Pt.cs).flatten,(Ztt n).cs,bL,rfl,hr.mono cA,.inr ⟨b3,0,rfl,Zat m1 b3 _⟩,?_,by show(n1+1)*96<=_;omega,by show n1+1<=_;omega,λa' c' m2 bG fK=>Zab rfl ⟨rfl,l.length - (n1+1),by omega,n1+1,a',c',by omega,?_,rfl,rfl,?_,rfl⟩⟩
  ·intro u hu
   simp only[Ztt,Pt.cs,List.mem_cons,List.not_mem_nil,or_false]at hu
   rcases hu with rfl|rfl|rfl|rfl|rfl|rfl|rfl|rfl <;> rfl
  ·rw[Zan (by omega) (by omega)];rfl
  ·rw[List.take_add_one,mL,List.map_append,List.map_append,List.flatten_append]
   have:(List.map Pt.cs (List.map Ztt (some n).toList)).flatten=(Ztt n).cs:=by simp
   rw[this];exact fK
 ·have dC:¬(n1:Int) < (l.length:Int):=dC
  obtain rfl:n1=l.length:=by omega
  refine Zab rfl λb2 jT=>?_
  have cA:m1.le (m1.add b2 (Znr a1 c1 l).cs):=Mem.le_add jT _
  have l5:(l.map Ztt).length=l.length:=List.length_map _
  have dN:(Znr a1 c1 l).cs=[.int .u8 1,.string ⟨#[]⟩,.slice a1 l.length c1,.int .u8 0,.float .f64 0,.string ⟨#[]⟩,.int .i64 0,.slice none 0 0]:=by
   show[Value.int .u8 1,.string ⟨#[]⟩,.slice a1 (l.map Ztt).length c1,.int .u8 0,.float .f64 0,.string .empty,.int .i64 0,.slice none 0 0]=_
   rw[l5];rfl
  rw[dN]at cA
  refine⟨_,mLt aU cA,Mem.le_refl _,a1,c1,b2,rfl,?_,?_⟩
  ·rw[dN];exact Zat m1 b2 _
  ·rw[List.take_length]at hr
   refine⟨by show(0:Int)<=1/\(1:Int) < 256;decide,by show ByteArray.size ⟨#[]⟩<=_;decide,?_,hr.mono cA,λp hp=>?_,Ztn _⟩
   ·show(l.map Ztt).length<=few
    rw[l5];unfold few;omega
   ·obtain⟨n,hn',rfl⟩:=List.mem_map.1 hp
    exact Zuw n (hn n hn') _
theorem Zdg(p0 p1 p2 p3:Int)(m:Mem):CX Tryz.prog 16 #[.int .i64 p0,.int .i64 p1,.int .i64 p2,.int .i64 p3] m [] (Ret (.agg #[.int .i64 (-1),.int .i64 p0,.int .i64 p1,.int .i64 p2,.int .i64 p3])):=by
 apply Zg1
 unfold ZdS
 exact λb=>Zaa (Mem.le_refl m) rfl
theorem Zrn(a b c d e a' b' c' d' e':Int):EqIs Tryz.prog 34 (.agg #[.int .i64 a,.int .i64 b,.int .i64 c,.int .i64 d,.int .i64 e]) (.agg #[.int .i64 a',.int .i64 b',.int .i64 c',.int .i64 d',.int .i64 e']) (a == a'&&b == b'&&c == c'&&d == d'&&e == e'):=by
 refine⟨λw=>?_,λop ox oy w=>Ziu (by kernel_rfl) op ox oy _ _ w⟩
 have u3:=Tryz.underlying3
 have a3:=Tryz.isAgg3
 have z3:=Tryz.sizeOf3
 rw[Op.equal,Op.maxDepth,show(10000:Nat)=9999+1 from rfl]
 rw[run_equalIn_agg _ _ _ _ _ (by kernel_rfl) (by kernel_rfl)]
 have hf:(Tryz.prog.fieldsOf 34).toList=[⟨ "Var",3,0,false, "", "",0⟩,⟨ "State",3,1,false, "", "",8⟩,⟨ "Rule",3,2,false, "", "",16⟩,⟨ "Action",3,3,false, "", "",24⟩,⟨ "Part",3,4,false, "", "",32⟩]:=by kernel_rfl
 rw[hf]
 go_simp
 by_cases h1:a=a' <;> by_cases h2:b=b' <;> by_cases h3:c=c' <;> by_cases h4:d=d' <;> by_cases h5:e=e' <;> simp[h1,h2,h3,h4,h5]
theorem ZxO(p:Pl):EqIs Tryz.prog 34 (.agg p.cs.toArray) (.agg p.cs.toArray) true:=by
 have h:=Zrn p.v p.s p.r p.a p.p p.v p.s p.r p.a p.p
 simp only[beq_self_eq_true,Bool.and_self]at h
 exact h
structure Item where
 s:Sc
 p:Pl
 e:Int
def Item.cs(it:Item):List Value:=it.s.cs++(it.p.cs++[.int .i64 it.e])
structure ItemOk (m:Mem)(it:Item):Prop where
 rep:RepC m it.s
 eq:it.s.check=(it.p,it.e)
theorem Zux{l:List Item}{i:Nat}{it:Item}(h:l[i]?=some it):List.take 9 (List.drop (i*9) (l.map Item.cs).flatten)=it.cs:=by
 induction l generalizing i with
 | nil=>simp at h
 | cons x l ih=>
  cases i with
  | zero=>
   obtain rfl:x=it:=by simpa using h
   simp only[Nat.zero_mul,List.drop_zero,List.map_cons,List.flatten_cons]
   exact List.take_left' rfl
  | succ i=>
   have h:l[i]?=some it:=by simpa using h
   rw[<-ih h,List.map_cons,List.flatten_cons,show(i+1)*9=x.cs.length+i*9 by show _=9+i*9;omega,<-List.drop_drop]
   rw[List.drop_left]
theorem ZvR{α:Type}{x y:α}(h:x∈[y]):x=y:=by simpa using h
theorem Zxj{cs:List Value}{m:Mem}{b:Nat}(h:m.reads b 0 cs):rowRd m (some ⟨b,0,none⟩) ([cs]).flatten:=.inr ⟨b,0,rfl,by simpa using h⟩
theorem Zcp{n:Int}(h:0<=n/\n<=1000):I64 n:=by unfold I64;omega
theorem Zkg{m:Mem}{k:Int}{t:T}{s go:ByteArray}{code:Int}{b:Nat}{a:Ac}(hk:0<=k/\k < 256)(ht:Rep m t)(hs:s.size<=1000000000000000)(hb:m.reads b 0 a.cs)(ha:RepA m a)(hg:go.size<=1000000000000000)(hc:0<=code/\code<=1000):RepR m ⟨k,false,false,t,s,0,some ⟨b,0,none⟩,1,[a],go,code⟩:=
 ⟨hk,ht,hs,Zcp (n:=0) (by decide),by show 1<=few;decide,Zxj hb,λx hx=>by rw[ZvR hx];exact ha,hg,Zcp hc⟩
theorem ZvS(k:Int)(hk:0<=k/\k < 256)(m:Mem):RepR m (ru0 k):=⟨hk,Zot m,by show ByteArray.size ⟨#[]⟩<=_;decide,Zcp (n:=0) (by decide),by show 0<=few;decide,.inl rfl,λx hx=>by simp[ru0]at hx,by show ByteArray.size ⟨#[]⟩<=_;decide,Zcp (n:=0) (by decide)⟩
def ZuP(l:List Int)(r:Ru):Prop:=∃a1 a2 aa pa pc,r=Zv6 a1 a2 aa pa 1 pc l
def Zx5(r:Ru):Prop:=∃aa pa pc,r=Zxr aa pa 1 pc [0]
def Zx6(r:Ru):Prop:=r=ru0 4
def Zxk(r:Ru):Prop:=∃aa,r=Zs2 aa 1 Zqb
def Zxl(r:Ru):Prop:=∃aa pa,r=Zs2 aa 1 (ZuU pa)
def Zx7(r:Ru):Prop:=∃aa pa pc,r=Zs2 aa 1 (Znr pa pc [0])
def ZcE(a b c d:Int):Value->Mem->List (List Value)->Prop:=Ret (.agg #[.int .i64 (-1),.int .i64 a,.int .i64 b,.int .i64 c,.int .i64 d])
def awF:Fx:=λi _ _=>match i with
 | 0=>Zqw
 | 2=>Ztz [1,2]
 | 4=>Zv7 (ZuP [1,2])
 | 6=>ZcE 0 0 0 1
 | 8=>Zqw
 | 10=>Ztz [1,0]
 | 12=>Zv7 (ZuP [1,0])
 | 14=>ZcE (-1) (-1) (-1) (-1)
 | 17=>Ztz [0]
 | 19=>Zv7 Zx5
 | 21=>ZcE 0 0 (-1) (-1)
 | 24=>Zv7 Zx6
 | 26=>ZcE 0 0 (-1) (-1)
 | 30=>Zv7 Zxk
 | 32=>ZcE 0 0 0 (-1)
 | 36=>Zv7 Zxl
 | 38=>ZcE 0 0 0 (-1)
 | 42=>ZcE 1 (-1) (-1) (-1)
 | 46=>ZcE (-1) (-1) (-1) (-1)
 | 50=>ZcE (-1) (-1) (-1) (-1)
 | 53=>Ztz [0]
 | 55=>Zv7 Zx7
 | 57=>ZcE 0 0 0 0
 | _=>Zqw
def Zv8:Pt:=⟨1,⟨#[120]⟩,0,E0⟩
set_option maxHeartbeats 6400000 in
theorem Zuy(m:Mem):CX Tryz.prog 6 #[] m [] (Ret (.bool true)):=by
 apply Zjg
 unfold Zft
 intro b0 tK b1 md b2 jT
 have l0:m.le (m.add b0 Zqb.cs):=Mem.le_add tK _
 have l1:(m.add b0 Zqb.cs).le ((m.add b0 Zqb.cs).add b1 Zv8.cs):=Mem.le_add md _
 have l2:((m.add b0 Zqb.cs).add b1 Zv8.cs).le (((m.add b0 Zqb.cs).add b1 Zv8.cs).add b2 (ZuU (some ⟨b1,0,none⟩)).cs):=Mem.le_add jT _
 have x0:(((m.add b0 Zqb.cs).add b1 Zv8.cs).add b2 (ZuU (some ⟨b1,0,none⟩)).cs).reads b0 0 Zqb.cs:=(Zat m b0 _).mono (mLt l1 l2)
 have x1:(((m.add b0 Zqb.cs).add b1 Zv8.cs).add b2 (ZuU (some ⟨b1,0,none⟩)).cs).reads b1 0 Zv8.cs:=(Zat (m.add b0 Zqb.cs) b1 _).mono l2
 have x2:=Zat ((m.add b0 Zqb.cs).add b1 Zv8.cs) b2 (ZuU (some ⟨b1,0,none⟩)).cs
 have bX:=mLt l0 (mLt l1 l2)
 refine Zao (Zly (P:=λr=>r=ru0 3) (ru0 3) rfl (((m.add b0 Zqb.cs).add b1 Zv8.cs).add b2 (ZuU (some ⟨b1,0,none⟩)).cs) (ZvS 3 (by decide) _)) Zd9 ?_
 rintro n a n1 c a1 n2 c1 m1 aU ⟨va,sa,ra,r,rfl,hv,hC⟩
 simp only[ZhQ,Sc.v,Zi4,Value.agg.injEq,Array.mk.injEq,List.cons.injEq,Value.int.injEq,Value.slice.injEq,true_and,and_true,List.length_cons,List.length_nil]at hv
 obtain⟨rfl,⟨rfl,rfl,rfl⟩,rfl,rfl,rfl⟩:=hv
 intro b3 b4 tL
 have l4:m1.le (m1.add b4 (Sta.cs ⟨⟨#[97]⟩,none,0,[]⟩)):=Mem.le_add tL _
 refine⟨.inr (by decide),(List.map Sta.cs [⟨⟨#[97]⟩,ra,1,[ru0 3]⟩]).flatten,Sta.cs ⟨⟨#[97]⟩,none,0,[]⟩,rfl,rfl,hC.row.mono l4,.inr ⟨b4,0,rfl,Zat m1 b4 _⟩,?_,by decide,by decide,λa' c' m2 bG fK fX=>?_⟩
 ·intro u hu
  simp only[Sta.cs,List.mem_cons,List.not_mem_nil,or_false]at hu
  rcases hu with rfl|rfl <;> rfl
 have l12:=mLt l4 bG
 have kq:=hC.mono l12
 have h7:RepC m2 (Zxs a a' ra c'):=⟨kq.n,kq.vlen,kq.vrow,kq.vall,by show 2<=few;decide,fK,λx hx=>by
  simp only[Zxs,List.mem_cons,List.not_mem_nil,or_false]at hx
  rcases hx with rfl|rfl
  ·exact kq.all _ (by simp[ZhQ])
  ·exact⟨by show ByteArray.size ⟨#[97]⟩<=_;decide,by show 0<=few;decide,.inl rfl,λz hz=>by simp at hz⟩,kq.vcap,fX⟩
 have qs:=mLt bX (mLt aU l12)
 have l32:=mLt aU l12
 have y0:=x0.mono l32
 have y1:=x1.mono l32
 have y2:=x2.mono l32
 have rA0:∀M,RepA M Zqb:=λM=>⟨by show(0:Int)<=3/\(3:Int) < 256;decide,by show ByteArray.size ⟨#[110]⟩<=_;decide,by show 0<=few;decide,.inl rfl,λp hp=>by simp[Zqb]at hp,by simp only[Zqb,RepE];exact⟨by simp,.inl trivial,by constructor <;> decide⟩⟩
 have rA2:∀M,m2.le M->RepA M (ZuU (some ⟨b1,0,none⟩)):=λM hM=>⟨by show(0:Int)<=2/\(2:Int) < 256;decide,by show ByteArray.size ⟨#[110]⟩<=_;decide,by show 1<=few;decide,Zxj (y1.mono hM),λp hp=>by
  obtain rfl:p=Zv8:=ZvR hp
  exact⟨by show(0:Int)<=1/\(1:Int) < 256;decide,by show ByteArray.size ⟨#[120]⟩<=_;decide,Zcp (n:=0) (by decide),Ztn M⟩,Ztn M⟩
 refine⟨awF,?_⟩
 have g0:m2.le m2:=Mem.le_refl _
 refine⟨_,rfl,Zrm m2,Zmj,?_⟩
 rintro z0_0 z0_1 z0_2 z0_3 z0_4 z0_5 z0_6 z0_7 z0_8 z0_9 z0_10 z0_11 k0 pH ⟨a1k0,a2k0,hv,rrk0⟩
 simp only[ZxL,rxT,T.k,T.s0,T.s1,T.s2,T.s3,T.mn,T.mx,T.a,T.c,T.subs,Value.agg.injEq,Array.mk.injEq,List.cons.injEq,Value.bool.injEq,Value.int.injEq,Value.slice.injEq,true_and,and_true,List.length_cons,List.length_nil]at hv
 obtain⟨rfl,rfl,rfl,rfl,rfl,rfl,rfl,rfl,rfl,rfl,rfl,rfl⟩:=hv
 have gk0:m2.le k0:=mLt g0 pH
 intro bk2 fk2 Vk2 uk2 vk2 wk2
 have gV2:m2.le Vk2:=uk2
 refine⟨_,rfl,Zpi [(1:Int),(2:Int)] _ _ _ (by decide) (λn hn=>Zcp (by simp only[List.mem_cons,List.not_mem_nil,or_false]at hn;omega)) (.inr ⟨_,0,rfl,(Zat m2 _ _).mono wk2⟩),ZiB,?_⟩
 rintro z2_0 z2_1 z2_2 k2 fE ⟨pak2,pck2,sbk2,hv,srk2,rrk2⟩
 simp only[Value.slice.injEq]at hv
 obtain⟨rfl,rfl,rfl⟩:=hv
 have gk2:m2.le k2:=mLt gV2 fE
 refine⟨_,rfl,Zly (P:=ZuP [1,2]) (Zv6 a1k0 z0_9 (some ⟨sbk2,0,none⟩) pak2 1 pck2 [1,2]) ⟨_,_,_,_,_,rfl⟩ k2 (Zkg (by decide) (rrk0.mono (mLt vk2 fE)) (by decide) srk2 rrk2 (by decide) (by decide)),Zd9,?_⟩
 rintro z4_0 z4_1 z4_2 z4_3 z4_4 z4_5 z4_6 k4 pj ⟨vak4,sak4,rak4,ruk4,qt,hv,rck4⟩
 simp only[ZhQ,Sc.v,Zi4,Value.agg.injEq,Array.mk.injEq,List.cons.injEq,Value.int.injEq,Value.slice.injEq,true_and,and_true,List.length_cons,List.length_nil]at hv
 obtain⟨rfl,⟨rfl,rfl,rfl⟩,rfl,rfl,rfl⟩:=hv
 have gk4:m2.le k4:=mLt gk2 pj
 refine⟨_,rfl,Zdg _ _ _ _ k4,(λv _ _ e=>by rw[show v=_ from e];rfl),?_⟩
 rintro z6_0 z6_1 z6_2 z6_3 z6_4 k6 tM hv
 simp only[awF,ZcE,Ret,Value.agg.injEq,Array.mk.injEq,List.cons.injEq,Value.int.injEq,and_true,true_and]at hv
 obtain⟨rfl,rfl,rfl,rfl,rfl⟩:=hv
 have gk6:m2.le k6:=mLt gk4 tM
 refine⟨_,rfl,Zrm k6,Zmj,?_⟩
 rintro z8_0 z8_1 z8_2 z8_3 z8_4 z8_5 z8_6 z8_7 z8_8 z8_9 z8_10 z8_11 k8 tN ⟨a1k8,a2k8,hv,rrk8⟩
 simp only[ZxL,rxT,T.k,T.s0,T.s1,T.s2,T.s3,T.mn,T.mx,T.a,T.c,T.subs,Value.agg.injEq,Array.mk.injEq,List.cons.injEq,Value.bool.injEq,Value.int.injEq,Value.slice.injEq,true_and,and_true,List.length_cons,List.length_nil]at hv
 obtain⟨rfl,rfl,rfl,rfl,rfl,rfl,rfl,rfl,rfl,rfl,rfl,rfl⟩:=hv
 have gk8:m2.le k8:=mLt gk6 tN
 intro bk10 fk10 Vk10 uk10 vk10 wk10
 have gV10:m2.le Vk10:=uk10
 refine⟨_,rfl,Zpi [(1:Int),(0:Int)] _ _ _ (by decide) (λn hn=>Zcp (by simp only[List.mem_cons,List.not_mem_nil,or_false]at hn;omega)) (.inr ⟨_,0,rfl,(Zat m2 _ _).mono wk10⟩),ZiB,?_⟩
 rintro z10_0 z10_1 z10_2 k10 nM ⟨pak10,pck10,sbk10,hv,srk10,rrk10⟩
 simp only[Value.slice.injEq]at hv
 obtain⟨rfl,rfl,rfl⟩:=hv
 have gk10:m2.le k10:=mLt gV10 nM
 refine⟨_,rfl,Zly (P:=ZuP [1,0]) (Zv6 a1k8 z8_9 (some ⟨sbk10,0,none⟩) pak10 1 pck10 [1,0]) ⟨_,_,_,_,_,rfl⟩ k10 (Zkg (by decide) (rrk8.mono (mLt vk10 nM)) (by decide) srk10 rrk10 (by decide) (by decide)),Zd9,?_⟩
 rintro z12_0 z12_1 z12_2 z12_3 z12_4 z12_5 z12_6 k12 qu ⟨vak12,sak12,rak12,ruk12,nN,hv,rck12⟩
 simp only[ZhQ,Sc.v,Zi4,Value.agg.injEq,Array.mk.injEq,List.cons.injEq,Value.int.injEq,Value.slice.injEq,true_and,and_true,List.length_cons,List.length_nil]at hv
 obtain⟨rfl,⟨rfl,rfl,rfl⟩,rfl,rfl,rfl⟩:=hv
 have gk12:m2.le k12:=mLt gk10 qu
 refine⟨_,rfl,Zdg _ _ _ _ k12,(λv _ _ e=>by rw[show v=_ from e];rfl),?_⟩
 rintro z14_0 z14_1 z14_2 z14_3 z14_4 k14 qv hv
 simp only[awF,ZcE,Ret,Value.agg.injEq,Array.mk.injEq,List.cons.injEq,Value.int.injEq,and_true,true_and]at hv
 obtain⟨rfl,rfl,rfl,rfl,rfl⟩:=hv
 have gk14:m2.le k14:=mLt gk12 qv
 intro bk17 fk17 Vk17 uk17 vk17 wk17
 have gV17:m2.le Vk17:=uk17
 refine⟨_,rfl,Zpi [(0:Int)] _ _ _ (by decide) (λn hn=>Zcp (by simp only[List.mem_cons,List.not_mem_nil,or_false]at hn;omega)) (.inr ⟨_,0,rfl,(Zat m2 _ _).mono wk17⟩),ZiB,?_⟩
 rintro z17_0 z17_1 z17_2 k17 qw ⟨pak17,pck17,sbk17,hv,srk17,rrk17⟩
 simp only[Value.slice.injEq]at hv
 obtain⟨rfl,rfl,rfl⟩:=hv
 have gk17:m2.le k17:=mLt gV17 qw
 refine⟨_,rfl,Zly (P:=Zx5) (Zxr (some ⟨sbk17,0,none⟩) pak17 1 pck17 [0]) ⟨_,_,_,rfl⟩ k17 (Zkg (by decide) (Zot _) (by decide) srk17 rrk17 (by decide) (by decide)),Zd9,?_⟩
 rintro z19_0 z19_1 z19_2 z19_3 z19_4 z19_5 z19_6 k19 qx ⟨vak19,sak19,rak19,ruk19,nO,hv,rck19⟩
 simp only[ZhQ,Sc.v,Zi4,Value.agg.injEq,Array.mk.injEq,List.cons.injEq,Value.int.injEq,Value.slice.injEq,true_and,and_true,List.length_cons,List.length_nil]at hv
 obtain⟨rfl,⟨rfl,rfl,rfl⟩,rfl,rfl,rfl⟩:=hv
 have gk19:m2.le k19:=mLt gk17 qx
 refine⟨_,rfl,Zdg _ _ _ _ k19,(λv _ _ e=>by rw[show v=_ from e];rfl),?_⟩
 rintro z21_0 z21_1 z21_2 z21_3 z21_4 k21 qy hv
 simp only[awF,ZcE,Ret,Value.agg.injEq,Array.mk.injEq,List.cons.injEq,Value.int.injEq,and_true,true_and]at hv
 obtain⟨rfl,rfl,rfl,rfl,rfl⟩:=hv
 have gk21:m2.le k21:=mLt gk19 qy
 refine⟨_,rfl,Zly (P:=Zx6) (ru0 4) rfl k21 (ZvS 4 (by decide) _),Zd9,?_⟩
 rintro z24_0 z24_1 z24_2 z24_3 z24_4 z24_5 z24_6 k24 qz ⟨vak24,sak24,rak24,ruk24,nP,hv,rck24⟩
 simp only[ZhQ,Sc.v,Zi4,Value.agg.injEq,Array.mk.injEq,List.cons.injEq,Value.int.injEq,Value.slice.injEq,true_and,and_true,List.length_cons,List.length_nil]at hv
 obtain⟨rfl,⟨rfl,rfl,rfl⟩,rfl,rfl,rfl⟩:=hv
 have gk24:m2.le k24:=mLt gk21 qz
 refine⟨_,rfl,Zdg _ _ _ _ k24,(λv _ _ e=>by rw[show v=_ from e];rfl),?_⟩
 rintro z26_0 z26_1 z26_2 z26_3 z26_4 k26 qA hv
 simp only[awF,ZcE,Ret,Value.agg.injEq,Array.mk.injEq,List.cons.injEq,Value.int.injEq,and_true,true_and]at hv
 obtain⟨rfl,rfl,rfl,rfl,rfl⟩:=hv
 have gk26:m2.le k26:=mLt gk24 qA
 refine⟨_,rfl,Zly (P:=Zxk) (Zs2 (some ⟨b0,0,none⟩) 1 Zqb) ⟨_,rfl⟩ k26 (Zkg (by decide) (Zot _) (by decide) (y0.mono gk26) (rA0 _) (by decide) (by decide)),Zd9,?_⟩
 rintro z30_0 z30_1 z30_2 z30_3 z30_4 z30_5 z30_6 k30 qB ⟨vak30,sak30,rak30,ruk30,nQ,hv,rck30⟩
 simp only[ZhQ,Sc.v,Zi4,Value.agg.injEq,Array.mk.injEq,List.cons.injEq,Value.int.injEq,Value.slice.injEq,true_and,and_true,List.length_cons,List.length_nil]at hv
 obtain⟨rfl,⟨rfl,rfl,rfl⟩,rfl,rfl,rfl⟩:=hv
 have gk30:m2.le k30:=mLt gk26 qB
 refine⟨_,rfl,Zdg _ _ _ _ k30,(λv _ _ e=>by rw[show v=_ from e];rfl),?_⟩
 rintro z32_0 z32_1 z32_2 z32_3 z32_4 k32 qC hv
 simp only[awF,ZcE,Ret,Value.agg.injEq,Array.mk.injEq,List.cons.injEq,Value.int.injEq,and_true,true_and]at hv
 obtain⟨rfl,rfl,rfl,rfl,rfl⟩:=hv
 have gk32:m2.le k32:=mLt gk30 qC
 refine⟨_,rfl,Zly (P:=Zxl) (Zs2 (some ⟨b2,0,none⟩) 1 (ZuU (some ⟨b1,0,none⟩))) ⟨_,_,rfl⟩ k32 (Zkg (by decide) (Zot _) (by decide) (y2.mono gk32) (rA2 _ gk32) (by decide) (by decide)),Zd9,?_⟩
 rintro z36_0 z36_1 z36_2 z36_3 z36_4 z36_5 z36_6 k36 qD ⟨vak36,sak36,rak36,ruk36,nR,hv,rck36⟩
 simp only[ZhQ,Sc.v,Zi4,Value.agg.injEq,Array.mk.injEq,List.cons.injEq,Value.int.injEq,Value.slice.injEq,true_and,and_true,List.length_cons,List.length_nil]at hv
 obtain⟨rfl,⟨rfl,rfl,rfl⟩,rfl,rfl,rfl⟩:=hv
 have gk36:m2.le k36:=mLt gk32 qD
 refine⟨_,rfl,Zdg _ _ _ _ k36,(λv _ _ e=>by rw[show v=_ from e];rfl),?_⟩
 rintro z38_0 z38_1 z38_2 z38_3 z38_4 k38 qE hv
 simp only[awF,ZcE,Ret,Value.agg.injEq,Array.mk.injEq,List.cons.injEq,Value.int.injEq,and_true,true_and]at hv
 obtain⟨rfl,rfl,rfl,rfl,rfl⟩:=hv
 have gk38:m2.le k38:=mLt gk36 qE
 refine⟨_,rfl,Zdg _ _ _ _ k38,(λv _ _ e=>by rw[show v=_ from e];rfl),?_⟩
 rintro z42_0 z42_1 z42_2 z42_3 z42_4 k42 qF hv
 simp only[awF,ZcE,Ret,Value.agg.injEq,Array.mk.injEq,List.cons.injEq,Value.int.injEq,and_true,true_and]at hv
 obtain⟨rfl,rfl,rfl,rfl,rfl⟩:=hv
 have gk42:m2.le k42:=mLt gk38 qF
 refine⟨_,rfl,Zdg _ _ _ _ k42,(λv _ _ e=>by rw[show v=_ from e];rfl),?_⟩
 rintro z46_0 z46_1 z46_2 z46_3 z46_4 k46 qG hv
 simp only[awF,ZcE,Ret,Value.agg.injEq,Array.mk.injEq,List.cons.injEq,Value.int.injEq,and_true,true_and]at hv
 obtain⟨rfl,rfl,rfl,rfl,rfl⟩:=hv
 have gk46:m2.le k46:=mLt gk42 qG
 refine⟨_,rfl,Zdg _ _ _ _ k46,(λv _ _ e=>by rw[show v=_ from e];rfl),?_⟩
 rintro z50_0 z50_1 z50_2 z50_3 z50_4 k50 qH hv
 simp only[awF,ZcE,Ret,Value.agg.injEq,Array.mk.injEq,List.cons.injEq,Value.int.injEq,and_true,true_and]at hv
 obtain⟨rfl,rfl,rfl,rfl,rfl⟩:=hv
 have gk50:m2.le k50:=mLt gk46 qH
 intro bk53 fk53 Vk53 uk53 vk53 wk53
 have gV53:m2.le Vk53:=uk53
 refine⟨_,rfl,Zpi [(0:Int)] _ _ _ (by decide) (λn hn=>Zcp (by simp only[List.mem_cons,List.not_mem_nil,or_false]at hn;omega)) (.inr ⟨_,0,rfl,(Zat m2 _ _).mono wk53⟩),ZiB,?_⟩
 rintro z53_0 z53_1 z53_2 k53 qI ⟨pak53,pck53,sbk53,hv,srk53,rrk53⟩
 simp only[Value.slice.injEq]at hv
 obtain⟨rfl,rfl,rfl⟩:=hv
 have gk53:m2.le k53:=mLt gV53 qI
 refine⟨_,rfl,Zly (P:=Zx7) (Zs2 (some ⟨sbk53,0,none⟩) 1 (Znr pak53 pck53 [0])) ⟨_,_,_,rfl⟩ k53 (Zkg (by decide) (Zot _) (by decide) srk53 rrk53 (by decide) (by decide)),Zd9,?_⟩
 rintro z55_0 z55_1 z55_2 z55_3 z55_4 z55_5 z55_6 k55 qJ ⟨vak55,sak55,rak55,ruk55,nS,hv,rck55⟩
 simp only[ZhQ,Sc.v,Zi4,Value.agg.injEq,Array.mk.injEq,List.cons.injEq,Value.int.injEq,Value.slice.injEq,true_and,and_true,List.length_cons,List.length_nil]at hv
 obtain⟨rfl,⟨rfl,rfl,rfl⟩,rfl,rfl,rfl⟩:=hv
 have gk55:m2.le k55:=mLt gk53 qJ
 refine⟨_,rfl,Zdg _ _ _ _ k55,(λv _ _ e=>by rw[show v=_ from e];rfl),?_⟩
 rintro z57_0 z57_1 z57_2 z57_3 z57_4 k57 qK hv
 simp only[awF,ZcE,Ret,Value.agg.injEq,Array.mk.injEq,List.cons.injEq,Value.int.injEq,and_true,true_and]at hv
 obtain⟨rfl,rfl,rfl,rfl,rfl⟩:=hv
 have gk57:m2.le k57:=mLt gk55 qK
 intro bT fT M
 intro e0 e1 e2 e3 e4 e5 e6 e7 e8 e9 e10 e11 e12 e13 e14 e15 e16 e17 e18 e19 e20 e21 e22 e23 e24 e25 e26 e27 e28
 have hM:m.le M:=mLt qs (mLt gk57 (by assumption))
 have gM:m2.le M:=mLt gk57 (by assumption)
 have q4:=rck4.mono (show Mem.le k4 M by assumption)
 have q12:=rck12.mono (show Mem.le k12 M by assumption)
 have q19:=rck19.mono (show Mem.le k19 M by assumption)
 have q24:=rck24.mono (show Mem.le k24 M by assumption)
 have q30:=rck30.mono (show Mem.le k30 M by assumption)
 have q36:=rck36.mono (show Mem.le k36 M by assumption)
 have q55:=rck55.mono (show Mem.le k55 M by assumption)
 obtain⟨a1_4,a2_4,aa_4,pa_4,pc_4,rfl⟩:=qt
 obtain⟨b1x_12,b2x_12,bb_12,pb_12,pd_12,rfl⟩:=nN
 obtain⟨ac_19,pe_19,pf_19,rfl⟩:=nO
 obtain rfl:=nP
 obtain⟨ad_30,rfl⟩:=nQ
 obtain⟨ae_36,pg_36,rfl⟩:=nR
 obtain⟨af_55,ph_55,pi_55,rfl⟩:=nS
 have ZxI:∀n:Int,0<=n/\n<=1000->RepC M (Zpx n):=λn hn=>⟨Zcp hn,by show 0<=few;decide,.inl rfl,λv hv=>by simp[Zpx]at hv,by show 0<=few;decide,.inl rfl,λv hv=>by simp[Zpx]at hv,Nat.le_refl 0,Nat.le_refl 0⟩
 have i0:ItemOk M ⟨ZhQ z4_1 z4_4 rak4 (Zv6 a1_4 a2_4 aa_4 pa_4 1 pc_4 [1,2]),⟨-1,0,0,0,1⟩,309⟩:=⟨q4,ex1 _ _ _ _ _ _ _ _ _⟩
 have i1:ItemOk M ⟨ZhQ z12_1 z12_4 rak12 (Zv6 b1x_12 b2x_12 bb_12 pb_12 1 pd_12 [1,0]),⟨-1,-1,-1,-1,-1⟩,0⟩:=⟨q12,ex2 _ _ _ _ _ _ _ _ _⟩
 have i2:ItemOk M ⟨ZhQ z19_1 z19_4 rak19 (Zxr ac_19 pe_19 1 pf_19 [0]),⟨-1,0,0,-1,-1⟩,306⟩:=⟨q19,ex3 _ _ _ _ _ _ _⟩
 have i3:ItemOk M ⟨ZhQ z24_1 z24_4 rak24 (ru0 4),⟨-1,0,0,-1,-1⟩,304⟩:=⟨q24,ex4 _ _ _⟩
 have i4:ItemOk M ⟨ZhQ z30_1 z30_4 rak30 (Zs2 ad_30 1 Zqb),⟨-1,0,0,0,-1⟩,308⟩:=⟨q30,ex5 _ _ _ _ _⟩
 have i5:ItemOk M ⟨ZhQ z36_1 z36_4 rak36 (Zs2 ae_36 1 (ZuU pg_36)),⟨-1,0,0,0,-1⟩,308⟩:=⟨q36,ex6 _ _ _ _ _ _⟩
 have i6:ItemOk M ⟨Zxs a a' ra c',⟨-1,1,-1,-1,-1⟩,303⟩:=⟨h7.mono gM,ex7 _ _ _ _⟩
 have i7:ItemOk M ⟨Zpx 9,⟨-1,-1,-1,-1,-1⟩,302⟩:=⟨ZxI 9 (by decide),ex8⟩
 have i8:ItemOk M ⟨Zpx 1,⟨-1,-1,-1,-1,-1⟩,300⟩:=⟨ZxI 1 (by decide),ex9⟩
 have i9:ItemOk M ⟨ZhQ z55_1 z55_4 rak55 (Zs2 af_55 1 (Znr ph_55 pi_55 [0])),⟨-1,0,0,0,0⟩,309⟩:=⟨q55,Zyd _ _ _ _ _ _ _⟩
 obtain⟨L,hL⟩:∃L:List Item,L=[⟨ZhQ z4_1 z4_4 rak4 (Zv6 a1_4 a2_4 aa_4 pa_4 1 pc_4 [1,2]),⟨-1,0,0,0,1⟩,309⟩,⟨ZhQ z12_1 z12_4 rak12 (Zv6 b1x_12 b2x_12 bb_12 pb_12 1 pd_12 [1,0]),⟨-1,-1,-1,-1,-1⟩,0⟩,⟨ZhQ z19_1 z19_4 rak19 (Zxr ac_19 pe_19 1 pf_19 [0]),⟨-1,0,0,-1,-1⟩,306⟩,⟨ZhQ z24_1 z24_4 rak24 (ru0 4),⟨-1,0,0,-1,-1⟩,304⟩,⟨ZhQ z30_1 z30_4 rak30 (Zs2 ad_30 1 Zqb),⟨-1,0,0,0,-1⟩,308⟩,⟨ZhQ z36_1 z36_4 rak36 (Zs2 ae_36 1 (ZuU pg_36)),⟨-1,0,0,0,-1⟩,308⟩,⟨Zxs a a' ra c',⟨-1,1,-1,-1,-1⟩,303⟩,⟨Zpx 9,⟨-1,-1,-1,-1,-1⟩,302⟩,⟨Zpx 1,⟨-1,-1,-1,-1,-1⟩,300⟩,⟨ZhQ z55_1 z55_4 rak55 (Zs2 af_55 1 (Znr ph_55 pi_55 [0])),⟨-1,0,0,0,0⟩,309⟩]:=⟨_,rfl⟩
 have uw:L.length=10:=by rw[hL];rfl
 have cB:∀it∈L,ItemOk M it:=λit mu=>by
  rw[hL]at mu
  simp only[List.mem_cons,List.not_mem_nil,or_false]at mu
  rcases mu with rfl|rfl|rfl|rfl|rfl|rfl|rfl|rfl|rfl|rfl
  ·exact i0
  ·exact i1
  ·exact i2
  ·exact i3
  ·exact i4
  ·exact i5
  ·exact i6
  ·exact i7
  ·exact i8
  ·exact i9
 generalize rJ:ZaA _ _ _ _ _ _ _ _ _ _ _ _ _ _ _ _ _ _ _ _ _ _ _ _ _ _ _ _ _ _ _ _ _ _ _ _ _ _ _ _ _ _ _ _ _ _ _ _ _ _ _ _ _ _ _ _ _ _ _ _ _ _ _ _ _ _ _ _ _ _ _ _ _ _ _ _ _ _ _ _ _ _ _ _ _ _ _ _ _ _ _ _ _ _ _ _ _ _ _ _ _ _ _ _ _ _=TB
 have tO:TB=(L.map Item.cs).flatten:=by rw[<-rJ,hL];rfl
 clear rJ
 have dA:∀(i:Nat)(it:Item),L[i]?=some it->List.take 9 (List.drop (Int.toNat (i:Int)*9) TB)=it.cs:=λi it h=>by rw[tO,Int.toNat_natCast];exact Zux h
 refine⟨λxs _ _ _ q=>∃i:Nat,i<=10/\xs=[.int .i64 i]/\q=10 - i,⟨10,0,by omega,rfl,rfl⟩,?_⟩
 rintro y m' q hm' ⟨i,hi,hx,rfl⟩
 simp only[List.cons.injEq,Value.int.injEq,and_true,true_and]at hx
 subst hx
 have gC:=mLt hM hm'
 refine ZaF (λbF=>?_) (λdC=>?_)
 ·have bF:(i:Int) < (10:Nat):=bF
  obtain⟨it,mu⟩:=Zb8 (show i < L.length by omega)
  have cN:=cB it (List.mem_of_getElem? mu)
  rw[dA i it mu]
  refine⟨⟨by omega,by omega⟩,Zab (by rw[Nat.ble_eq];rw[Int.toNat_natCast];show i*9<=81;omega) λb14=>Zab (by rfl) (Zab (by rfl) ?_)⟩
  refine Zao (Zlx it.s m' (cN.rep.mono hm')) (λv _ _ e=>by rw[show v=_ from e];rfl) ?_
  rintro n96 n97 n98 n99 n100 n101 m3 bX hv
  rw[cN.eq]at hv
  have hv:Value.tuple #[.agg #[.int .i64 n96,.int .i64 n97,.int .i64 n98,.int .i64 n99,.int .i64 n100],.int .i64 n101]=Value.tuple #[.agg it.p.cs.toArray,.int .i64 it.e]:=hv
  simp only[Pl.cs,Value.tuple.injEq,Value.agg.injEq,Array.mk.injEq,List.cons.injEq,Value.int.injEq,and_true,true_and]at hv
  obtain⟨⟨rfl,rfl,rfl,rfl,rfl⟩,rfl⟩:=hv
  intro b15
  refine⟨false,Zab (by rfl) ⟨true,ZxO it.p,ZfC rfl (ZaK (v:=.int .i64 it.e) rfl (Zab rfl (ZfC (by show(!(it.e == it.e))=false;simp) (Zab (by rfl) (Zae (Zpg it.s m3 (cN.rep.mono (mLt hm' bX))) λm4 cM=>⟨by trivial,rfl,Zag ?_⟩)))))⟩,ZfC rfl ⟨by trivial,rfl,10 - (i+1),by omega,i+1,by omega,?_,rfl⟩⟩
  ·rw[cN.eq]
   show(!((it.e == 0) == (it.e == 0)))=false
   simp
  ·rw[Zan (by omega) (by omega)];rfl
 ·refine Zao (ZvO 306 m') (λv _ _ e=>by rw[show v=_ from e];rfl) ?_
  rintro s m3 bX hs
  obtain rfl:s=Zty 306:=by simpa[Ret]using hs
  exact Zaa (mLt gC bX) (by show Value.bool _=Value.bool true;kernel_rfl)
theorem ZsR(p q:Pl):EqIs Tryz.prog 34 (.agg p.cs.toArray) (.agg q.cs.toArray) (decide (p=q)):=by
 have h:=Zrn p.v p.s p.r p.a p.p q.v q.s q.r q.a q.p
 have e:(p.v == q.v&&p.s == q.s&&p.r == q.r&&p.a == q.a&&p.p == q.p)=decide (p=q):=by
  by_cases jp:p=q
  ·subst jp;simp
  ·rw[decide_eq_false jp,Bool.eq_false_iff]
   intro h
   simp only[Bool.and_eq_true,beq_iff_eq]at h
   obtain⟨⟨⟨⟨h1,h2⟩,h3⟩,h4⟩,h5⟩:=h
   apply jp
   cases p;cases q
   simp only at h1 h2 h3 h4 h5
   subst h1 h2 h3 h4 h5;rfl
 rw[e]at h;exact h
def Zs3(p:Pl)(l:List Pl):Bool:=l.any λq=>decide (p=q)
theorem ZiX{p:Pl}{l:List Pl}:Zs3 p l=true↔p∈l:=by
 unfold Zs3;rw[List.any_eq_true]
 exact⟨λ⟨q,h1,h2⟩=>by rw[of_decide_eq_true h2];exact h1,λh=>⟨p,h,decide_eq_true rfl⟩⟩
theorem Zqx(l:List Pl)(a:Option Addr)(c:Nat)(p:Pl)(m:Mem)(hl:l.length<=1000000000000000)(hr:rowRd m a (l.map Pl.cs).flatten):
  CX Tryz.prog 24 #[.slice a l.length c,.agg p.cs.toArray] m [] (Ret (.int .i64 (if Zs3 p l then(l.findIdx (λq=>decide (p=q)):Nat)else(-1:Int)))):=by
 apply Zbu a l.length c
 unfold ZaW
 intro b m1 aU _
 refine⟨λxs _ _ m'' q=>∃i:Nat,i<=l.length/\xs=[.int .i64 i]/\(∀x∈l.take i,¬p=x)/\q=l.length - i,⟨l.length,0,by omega,rfl,by simp,by omega⟩,?_⟩
 rintro n m2 q bG ⟨i,hi,hn,fC,hq⟩
 obtain rfl:n=i:=by simpa using hn
 have hm:=mLt aU bG
 refine Zac (λbF=>?_) (λdC=>?_)
 ·have bQ:i < l.length:=by simpa using bF
  obtain⟨x,hx⟩:=Zb8 bQ
  have cE:x∈l:=List.mem_of_getElem? hx
  obtain⟨b1,o1,ha,dO⟩:=Zav (cs:=Pl.cs) (n:=5) (λ_=>rfl) (hr.mono hm) hx (by omega)
  refine⟨b1,o1,ha,⟨by omega,by omega⟩,_,_,_,_,_,dO,decide (p=x),ZsR p x,ZaF (λeI=>?_) (λeI=>?_)⟩
  ·refine Zaa hm ?_
   have dV:Zs3 p l=true:=ZiX.2 (eI ▸ cE)
   have eR:l.findIdx (λq=>decide (p=q))=i:=by
    rw[List.findIdx_eq bQ]
    refine⟨by rw[(List.getElem?_eq_some_iff.1 hx).2];exact decide_eq_true eI,λj hj=>?_⟩
    exact decide_eq_false (fC _ (List.mem_of_getElem? (i:=j) (by rw[List.getElem?_take_of_lt hj];exact List.getElem?_eq_getElem (by omega))))
   simp[Ret,dV,eR]
  ·refine⟨rfl,l.length - (i+1),by omega,i+1,by omega,by rw[Zan (by omega) (by omega)];rfl,?_,rfl⟩
   intro y hy
   rw[List.take_add_one,hx]at hy
   rcases List.mem_append.1 hy with hy|hy
   ·exact fC y hy
   ·simp at hy;rw[hy];exact eI
 ·have hi':i=l.length:=by
   have:¬((i:Int) < (l.length:Int)):=by simpa using dC
   omega
  subst hi'
  refine Zaa hm ?_
  rw[List.take_length]at fC
  have dV:Zs3 p l=false:=by
   rw[Bool.eq_false_iff];intro h;exact fC p (ZiX.1 h) rfl
  simp[Ret,dV]
theorem Zpj(l:List Pl)(a:Option Addr)(c:Nat)(p:Pl)(m:Mem)(hl:l.length<=1000000000000000)(hr:rowRd m a (l.map Pl.cs).flatten):
  CX Tryz.prog 10 #[.slice a l.length c,.agg p.cs.toArray] m [] (Ret (.bool (Zs3 p l))):=by
 apply Zbf a l.length c
 unfold ZaM
 intro b m1 aU _
 refine ZaD (Zqx l a c p m1 hl (hr.mono aU)) λm' hm=>Zaa (mLt aU hm) ?_
 cases h:Zs3 p l <;> simp[Ret]
def ZxP(p:Pl):Value->Mem->List (List Value)->Prop:=λv m' _=>∃a,v=.slice a 5 5/\rowRd m' a ((Zvv p).map (Value.int .i64))
theorem Zro{p}:∀(v:Value)(m':Mem) (css:List (List Value)),ZxP p v m' css->Shape.fits .slice v=true:=λv _ _ ⟨_,e,_⟩=>by rw[e];rfl
theorem ZvT(p:Pl)(m:Mem):CX Tryz.prog 26 #[.agg p.cs.toArray] m [] (ZxP p):=by
 apply Zqg
 unfold Zmd
 intro b m1 aU _ b2 hf
 exact⟨_,mLt aU (Mem.le_add hf _),Mem.le_refl _,some ⟨b2,0,none⟩,rfl,.inr ⟨b2,0,rfl,Zat m1 b2 _⟩⟩
theorem Zrp(x:Int)(m:Mem):CX Tryz.prog 47 #[.int .i64 x] m [] (Ret (.bool false)):=by
 apply Zhd
 unfold ZdX
 exact Zaa (Mem.le_refl m) (by show Value.bool _=Value.bool false;simp)
theorem ZwP(x y:Int)(m:Mem):CX Tryz.prog 37 #[.int .i64 x,.int .i64 y] m [] (Ret (.int .i64 (ZoF [x] [y]))):=by
 apply Zfe
 unfold Zdd
 refine Zae (Zrp x m) λm1 aU=>Zae (Zrp y m1) λm2 bG=>ZfC rfl (ZfC rfl (ZaF (λh=>Zaa (mLt aU bG) ?_) (λh=>ZaF (λh2=>Zaa (mLt aU bG) ?_) (λh2=>Zaa (mLt aU bG) ?_))))
 ·show Value.int _ _=Value.int _ _
  unfold ZoF;rw[if_pos h]
 ·show Value.int _ _=Value.int _ _
  unfold ZoF;rw[if_neg h,if_pos h2]
 ·show Value.int _ _=Value.int _ _
  unfold ZoF;rw[if_neg h,if_neg h2];rfl
theorem ZvU(l r:List Int)(a a':Option Addr)(c c':Nat)(m:Mem)(hl:l.length<=1000000)(h1:rowRd m a (l.map (Value.int .i64)))(h2:rowRd m a' (r.map (Value.int .i64))):
  CX Tryz.prog 25 #[.slice a l.length c,.slice a' r.length c'] m [] (Ret (.int .i64 (ZoF l r))):=by
 apply ZcB
 unfold ZbI
 refine⟨λxs _ _ m'' q=>∃i:Nat,i<=l.length/\i<=r.length/\xs=[.int .i64 i]/\ZoF l r=ZoF (l.drop i) (r.drop i)/\q=l.length - i,⟨l.length,0,by omega,by omega,rfl,rfl,by omega⟩,?_⟩
 rintro n m1 q aU ⟨i,hi,ie,hn,he,hq⟩
 obtain rfl:n=i:=by simpa using hn
 refine ZaF (λbF=>?_) (λdC=>?_)
 ·have bF:(i:Int) < (l.length:Int):=bF
  obtain⟨x,hx⟩:=Zb8 (show i < l.length by omega)
  have hd:l.drop i=x::l.drop (i+1):=by
   rw[List.drop_eq_getElem_cons (by omega),(List.getElem?_eq_some_iff.1 hx).2]
  obtain⟨b1,o1,ha,oC⟩:=Zxt (h1.mono aU) (show(l.map (Value.int .i64))[i]?=some (.int .i64 x) by rw[List.getElem?_map,hx];rfl)
  refine⟨b1,o1,ha,⟨by omega,bF⟩,_,oC,ZaF (λhg=>Zaa aU ?_) (λhg=>?_)⟩
  ·have hg:(i:Int) ≥ (r.length:Int):=hg
   have h3:r.drop i=[]:=List.drop_of_length_le (by omega)
   show Value.int _ _=Value.int _ _
   rw[he,hd,h3];rfl
  ·have hg:¬(i:Int) ≥ (r.length:Int):=hg
   obtain⟨y,hy⟩:=Zb8 (show i < r.length by omega)
   have jd:r.drop i=y::r.drop (i+1):=by
    rw[List.drop_eq_getElem_cons (by omega),(List.getElem?_eq_some_iff.1 hy).2]
   obtain⟨b2,o2,qm,tP⟩:=Zxt (h2.mono aU) (show(r.map (Value.int .i64))[i]?=some (.int .i64 y) by rw[List.getElem?_map,hy];rfl)
   refine⟨b2,o2,qm,⟨by omega,by show(i:Int) < (r.length:Int);omega⟩,_,tP,ZaD (ZwP x y m1) λm2 bG=>?_⟩
   have oI:ZoF (l.drop i) (r.drop i)=if ZoF [x] [y]=0 then ZoF (l.drop (i+1)) (r.drop (i+1))else ZoF [x] [y]:=by
    rw[hd,jd]
    simp only[ZoF]
    by_cases g1:x < y
    ·simp[g1]
    ·by_cases g2:x > y
     ·simp[g1,g2]
     ·simp[g1,g2]
   refine Zac (λh=>Zaa (mLt aU bG) ?_) (λh=>?_)
   ·have h:¬ZoF [x] [y]=0:=by simpa using h
    show Value.int _ _=Value.int _ _
    rw[he,oI,if_neg h]
   ·have h:ZoF [x] [y]=0:=by simpa using h
    refine⟨l.length - (i+1),by omega,i+1,by omega,by omega,by rw[Zan (by omega) (by omega)];rfl,by rw[he,oI,if_pos h],rfl⟩
 ·have dC:¬(i:Int) < (l.length:Int):=dC
  obtain rfl:i=l.length:=by omega
  rw[List.drop_length]at he
  refine ZaF (λh=>Zaa aU ?_) (λh=>Zaa aU ?_)
  ·have h:(l.length:Int) < (r.length:Int):=h
   obtain⟨y,hy⟩:=Zb8 (show l.length < r.length by omega)
   show Value.int _ _=Value.int _ _
   rw[he,List.drop_eq_getElem_cons (by omega)];rfl
  ·have h:¬(l.length:Int) < (r.length:Int):=h
   show Value.int _ _=Value.int _ _
   rw[he,List.drop_of_length_le (by omega)];rfl
theorem ZsS(p q:Pl)(m:Mem):CX Tryz.prog 11 #[.agg p.cs.toArray,.agg q.cs.toArray] m [] (Ret (.bool (ZcK p q))):=by
 apply Zlh
 unfold ZgM
 intro b m1 aU _ b1 m2 bG _
 have hm:=mLt aU bG
 refine⟨λi _ _=>match i with
  | 1=>ZxP p
  | 3=>ZxP q
  | _=>Ret (.int .i64 (ZoF (Zvv p) (Zvv q))),_,rfl,ZvT p m2,Zro,?_⟩
 rintro a n c m3 bX ⟨a',hv,hr⟩
 simp only[Value.slice.injEq]at hv
 obtain⟨rfl,rfl,rfl⟩:=hv
 refine⟨_,rfl,ZvT q m3,Zro,?_⟩
 rintro a3 n1 c1 m4 cM ⟨a',hv,fK⟩
 simp only[Value.slice.injEq]at hv
 obtain⟨rfl,rfl,rfl⟩:=hv
 refine⟨_,rfl,ZvU (Zvv p) (Zvv q) a a3 5 5 m4 (by show 5<=1000000;decide) (hr.mono cM) fK,λv _ _ e=>by rw[show v=_ from e];rfl,λn m5 eJ hn M hM _ _ _=>Zaa (mLt hm hM) ?_⟩
 obtain rfl:n=ZoF (Zvv p) (Zvv q):=by cases hn;rfl
 rfl
def Zkh(z:Pl×Int):List Value:=[.int .i64 z.1.v,.int .i64 z.1.s,.int .i64 z.1.r,.int .i64 z.1.a,.int .i64 z.1.p,.int .i64 z.2]
theorem ZsT(L:List (Pl×Int)):(L.map Zkh).flatten.length=L.length*6:=by
 induction L with
 | nil=>rfl
 | cons x l ih=>rw[List.map_cons,List.flatten_cons,List.length_append,ih,List.length_cons,Nat.succ_mul];show 6+_=_;omega
theorem Zpk(s:Sc):s.problems.length<=20001:=by
 have h1:=Zef s
 have h2:s.problems.length<=s.places.length:=List.length_filterMap_le _ _
 omega
def PrR(L:List (Pl×Int)):Value->Mem->List (List Value)->Prop:=λv m' _=>∃a c,v=.slice a L.length c/\rowRd m' a (L.map Zkh).flatten
theorem Zrq{L}:∀(v:Value)(m':Mem) (css:List (List Value)),PrR L v m' css->Shape.fits .slice v=true:=λv _ _ ⟨_,_,e,_⟩=>by rw[e];rfl
theorem Zpl(L:List (Pl×Int))(g:Nat)(fi ca:List Value)(m:Mem)(hL:L.length<=20001)(hI:IX Tryz.prog g fi ca m (L.map λz=>[Zns z])):
  CX Tryz.prog 35 #[.slice none 0 0,.func (.func g) fi.toArray ca.toArray] m [] (PrR L):=by
 apply ZaS
 unfold Zau
 intro b
 refine⟨_,hI,λy hy=>?_,λ_ css tks m' q=>q<=L.length/\∃a c,css=[[.slice a q c]]/\tks=[.slice a q c]/\rowRd m' a ((L.take q).map Zkh).flatten,⟨by omega,none,0,rfl,rfl,.inl rfl⟩,?_,?_⟩
 ·obtain⟨z,_,rfl⟩:=List.mem_map.1 hy;rfl
 ·rintro n n1 n2 n3 n4 n5 cs a n6 c m1 q aU hq ⟨oK,a',c',dN,ht,hr⟩ b1
  obtain rfl:cs=[.slice a' q c']:=by simpa using dN
  simp only[List.cons.injEq,Value.slice.injEq,and_true]at ht
  obtain⟨e1,e2,e3⟩:=ht
  subst a n6 c
  have hq:(L.map λz=>[Zns z])[(q:Nat)]?=some [Value.agg #[.int .i64 n,.int .i64 n1,.int .i64 n2,.int .i64 n3,.int .i64 n4,.int .i64 n5]]:=hq
  rw[List.getElem?_map]at hq
  obtain⟨z,hz,gT⟩:=Option.map_eq_some_iff.1 hq
  simp only[Zns,List.cons.injEq,Value.agg.injEq,Array.mk.injEq,Value.int.injEq,true_and,and_true]at gT
  obtain⟨rfl,rfl,rfl,rfl,rfl,rfl⟩:=gT
  have bF:=(List.getElem?_eq_some_iff.1 hz).1
  refine ZaK (v:=.slice a' q c') rfl λb2 jT=>Zab rfl ?_
  have cA:m1.le (m1.add b2 (Zkh z)):=Mem.le_add jT _
  refine⟨.inl rfl,((L.take q).map Zkh).flatten,Zkh z,?_,rfl,hr.mono cA,.inr ⟨b2,0,rfl,Zat m1 b2 _⟩,λu hu=>?_,by show(q+1)*48<=_;omega,by show q+1<=_;omega,λa2 c2 m2 bG fK=>⟨rfl,by omega,a2,c2,rfl,rfl,?_⟩⟩
  ·rw[ZsT,List.length_take,Nat.min_eq_left oK];rfl
  ·simp only[Zkh,List.mem_cons,List.not_mem_nil,or_false]at hu
   rcases hu with rfl|rfl|rfl|rfl|rfl|rfl <;> rfl
  ·rw[List.take_add_one,hz,List.map_append,List.flatten_append]
   have:(List.map Zkh (some z).toList).flatten=Zkh z:=by simp
   rw[this];exact fK
 ·rintro cs a n c m1 aU ⟨oK,a',c',dN,ht,hr⟩
  obtain rfl:cs=[.slice a' (L.map λz=>[Zns z]).length c']:=by simpa using dN
  rw[List.length_map]at hr ⊢
  rw[List.take_length]at hr
  exact ZaK (v:=.slice a' L.length c') rfl (Zop aU ⟨a',c',rfl,hr⟩)
theorem Znk(L:List (Pl×Int))(g:Nat)(fi ca:List Value)(m:Mem)(hL:L.length<=20001)(hI:IX Tryz.prog g fi ca m (L.map λz=>[Zns z])):
  CX Tryz.prog 22 #[.func (.func g) fi.toArray ca.toArray] m [] (PrR L):=by
 apply ZbU
 unfold Za8
 refine Zao (Zpl L g fi ca m hL hI) Zrq ?_
 rintro a n c m1 aU ⟨a',c',hv,hr⟩
 exact Zop aU ⟨a',c',hv,hr⟩
theorem Zpm(s:Sc)(m:Mem)(hr:RepC m s):CX Tryz.prog 8 #[s.v] m [] (PrR s.problems):=by
 apply Zf0
 unfold Zdz
 intro b m1 aU _
 refine Zae (Ziz s m1 (hr.mono aU)) λm2 bG=>Zac (λhl=>Zaa (mLt aU bG) ?_) (λhl=>?_)
 ·have hl:s.light=false:=by simpa using hl
  have he:s.problems=[]:=by rw[Zb4];unfold Sc.places;rw[hl];rfl
  rw[he];exact⟨none,0,rfl,.inl rfl⟩
 have hO:=mLt aU bG
 refine Zao (Zkf s m2) (λv m' css h=>by obtain⟨_,rfl,_⟩:=h;rfl) ?_
 rintro g fi ca m3 bX ⟨b4,hv,oN⟩
 obtain⟨rfl,rfl,rfl⟩:=Zcv hv
 have dY:=mLt hO bX
 refine Zao (Znk s.problems _ _ _ m3 (Zpk s) (ZiA s m3 b4 (hr.mono dY) oN)) Zrq ?_
 rintro a n c m4 cM ⟨a',c',hv,jE⟩
 exact Zop (mLt dY cM) ⟨a',c',hv,jE⟩
def atV(s:Sc)(p:Pl):Value:=.tuple #[.int .i64 (if Zs3 p s.places then atS s p else 0),.bool (Zs3 p s.places)]
theorem ZxQ(s:Sc)(p:Pl)(m:Mem)(hr:RepC m s):CX Tryz.prog 12 #[s.v,.agg p.cs.toArray] m [] (Ret (atV s p)):=by
 apply ZoL
 unfold Zj7
 intro b m1 aU _ b1 m2 bG _
 have hm:=mLt aU bG
 have iE:=Zef s
 refine⟨λi _ _=>match i with
  | 1=>Zrl s
  | _=>Ret (.bool (Zs3 p s.places)),_,rfl,Zlv s m2 (hr.mono hm),ZgX,?_⟩
 rintro a n c m3 bX ⟨a',c',hv,dA⟩
 simp only[Value.slice.injEq]at hv
 obtain⟨rfl,rfl,rfl⟩:=hv
 refine⟨_,rfl,Zpj s.places a c p m3 (by omega) dA,λv _ _ e=>by rw[show v=_ from e];rfl,?_⟩
 rintro x m4 cM hx M jn _ _
 obtain rfl:x=Zs3 p s.places:=by cases hx;rfl
 have hM:=mLt hm jn
 refine Zac (λh=>Zaa hM ?_) (λh=>?_)
 ·have h:Zs3 p s.places=false:=by simpa using h
  show _=atV s p
  unfold atV;rw[h];rfl
 have h:Zs3 p s.places=true:=by simpa using h
 refine⟨λi _ _=>match i with
  | 2=>ZxZ s
  | _=>Ret (.int .i64 (atS s p)),_,rfl,Zpf s M (hr.mono hM),Zrk,?_⟩
 rintro a2 n2 c2 m5 eJ ⟨a',c',vs,hv,hT⟩
 simp only[Value.slice.injEq]at hv
 obtain⟨rfl,rfl,rfl⟩:=hv
 refine⟨_,rfl,Zxi s a2 c2 vs p m5 (hr.mono (mLt hM eJ)) hT (ZoE s p (ZiX.1 h)),λv _ _ e=>by rw[show v=_ from e];rfl,λn m6 iv hn M1 qL _ _=>Zaa (mLt hM qL) ?_⟩
 obtain rfl:n=atS s p:=by cases hn;rfl
 show _=atV s p
 unfold atV;rw[h];rfl
end Go.Proofs.YtiadlgdcbpnmkaaGreatDoor