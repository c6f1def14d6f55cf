/- Part of the proof: functions of the program. No condition. -/
import Derived.Test.YtpjepnkiiojgfaaGreatPC25AU
import Derived.Test.YtpjepnkiiojgfaaGreatPEnv
import Derived.Test.YtpjepnkiiojgfaaGreatMr
import Derived.Test.YtpjepnkiiojgfaaGreatPC25AW
set_option linter.unusedVariables false
set_option linter.unusedSimpArgs false
set_option linter.unusedSectionVars false
noncomputable section
namespace Go.Proofs.YtpjepnkiiojgfaaGreat
open Go Go.Eng Go.Rx Go.Proofs Go.RowKit
set_option maxRecDepth 100000
theorem ZnV(L:List Pl):(L.map Pl.cs).flatten.length=L.length*5:=by
 induction L with
 | nil=>rfl
 | cons x l ih=>rw[List.map_cons,List.flatten_cons,zA1,ih,List.length_cons,Nat.succ_mul];show 5+_=_;omega
def PI(L:List Pl)(v t:Value)(m:Mem):Prop:=∃a c a1 n1 c1,v=.slice a L.length c/\t=.slice a1 n1 c1/\((a1=a/\n1=L.length/\c1=c)\/c < L.length+1)/\rowRd m a (L.map Pl.cs).flatten
theorem PI.mono{L:List Pl}{v t:Value}{m m':Mem}(h:PI L v t m)(hm:m.le m'):PI L v t m':=by
 obtain⟨a,c,a1,n1,c1,h1,h2,h3,h4⟩:=h
 exact⟨a,c,a1,n1,c1,h1,h2,h3,h4.mono hm⟩
theorem PI.app{L:List Pl}{a a1:Option Addr}{n c n1 c1:Nat}{m:Mem}{b:Nat}{Q:Option Addr->Nat->Mem->Prop}(z:Pl)(h:PI L (.slice a n c) (.slice a1 n1 c1) m)(hb:L.length<=30000)(hf:m.free b)
  (k:∀(a':Option Addr)(c':Nat)(m':Mem),m.le m'->PI (L++[z]) (.slice a' (n+1) c') (.slice a' (n+1) c') m'->Q a' c' m'):
  (Tok.mk (.slice a1 n1 c1) 5=Tok.mk (.slice a n c) 5\/Value.slice a n c=.slice none 0 0\/c < n+1)/\∃xs ys:List Value,xs.length=n*5/\ys.length=1*5/\rowRd (m.add b z.cs) a xs/\rowRd (m.add b z.cs) (some ⟨b,0,none⟩) ys/\(∀u∈ys,u.oneCell'=true)/\
   (n+1)*40<=140737488355328/\n+1<=9223372036854775807/\∀(a':Option Addr)(c':Nat)(m':Mem),(m.add b z.cs).le m'->rowRd m' a' (List.append xs ys)->Q a' c' m':=by
 obtain⟨a0,c0,a10,n10,c10,h1,h2,h3,h4⟩:=h
 simp only[Value.slice.injEq]at h1 h2
 obtain⟨rfl,rfl,rfl⟩:=h1
 obtain⟨rfl,rfl,rfl⟩:=h2
 have bM:m.le (m.add b z.cs):=Mem.le_add hf _
 refine⟨?_,(L.map Pl.cs).flatten,z.cs,ZnV L,rfl,h4.mono bM,.inr ⟨b,0,rfl,ZcR m b _⟩,?_,by omega,by omega,λa' c' m' hm' hr'=>k a' c' m' (mLt bM hm') ⟨a',c',a',L.length+1,c',?_,rfl,.inl ⟨rfl,?_,rfl⟩,?_⟩⟩
 ·rcases h3 with⟨e1,e2,e3⟩|h3
  ·rw[e1,e2,e3];exact .inl rfl
  ·exact .inr (.inr h3)
 ·intro u hu
  simp only[Pl.cs,List.mem_cons,List.not_mem_nil,or_false]at hu
  rcases hu with rfl|rfl|rfl|rfl|rfl <;> rfl
 ·rw[zA1];rfl
 ·rw[zA1];rfl
 ·rw[List.map_append,List.flatten_append]
  have:(List.map Pl.cs [z]).flatten=z.cs:=by simp
  rw[this];exact hr'
def Zrx(s:Sc):Value->Mem->List (List Value)->Prop:=λv m _=>∃a c,v=.slice a s.places.length c/\rowRd m a (s.places.map Pl.cs).flatten
theorem Zhv{s}:∀(v:Value)(m':Mem) (css:List (List Value)),Zrx s v m' css->Shape.fits .slice v=true:=λv _ _ ⟨_,_,e,_⟩=>by rw[e];rfl
set_option maxHeartbeats 4000000 in
theorem ZmR(s:Sc)(m:Mem)(hr:RepC m s):CX Tryz.prog 11 #[s.v] m [] (Zrx s):=by
 apply Ziz
 intro b m1 aH _
 have gq:=hr.vlen
 have dS:=hr.len
 unfold few at gq dS
 refine Zar (ZcS s m1 (hr.mono aH)) λm2 aK=>Zab (λhl=>?_) (λhl b2 ni=>?_)
 ·have hl:s.light=false:=by simpa using hl
  have he:s.places=[]:=by unfold Sc.places;rw[hl];rfl
  exact Zaj (mLt aH aK) ⟨none,0,by rw[he];rfl,by rw[he];exact .inl rfl⟩
 have hl:s.light=true:=by simpa using hl
 have iF:m2.le (m2.add b2 (Pl.cs top)):=Mem.le_add ni _
 have dq:=mLt aH (mLt aK iF)
 have gL:=Zgx s
 have oP:=ZdA hl
 rw[oP,List.length_cons,zA1,show(Zcs s.vars.length Vf).length=s.vars.length from Zc7 _ _]at gL
 have hw:∀k:Nat,k<=100000->IntKind.i64.wrap ((k:Int)+1)=((k+1:Nat):Int):=λk hk=>by rw[Zai (by omega) (by omega)];rfl
 have start:PI [top] (.slice (some ⟨b2,0,none⟩) 1 1) (.slice none 0 0) (m2.add b2 (Pl.cs top)):=⟨_,1,_,_,_,rfl,rfl,.inr (by decide),.inr ⟨b2,0,rfl,by simpa using ZcR m2 b2 (Pl.cs top)⟩⟩
 refine⟨λxs _ tks m' q=>∃(i:Nat)(v t:Value),i<=s.vars.length/\xs=[v,.int .i64 i]/\tks=[t]/\PI (top::Zcs i Vf) v t m'/\q=s.vars.length - i,⟨s.vars.length,0,_,_,by omega,rfl,rfl,start,rfl⟩,?_⟩
 rintro a n c i' a1 n2 c1 m3 q aR ⟨i,v,t,hi,hx,ht,hP,rfl⟩
 simp only[List.cons.injEq,Value.int.injEq,and_true,true_and]at hx ht
 obtain⟨rfl,rfl⟩:=hx
 subst ht
 have dh:=mLt dq aR
 have td:(Zcs i Vf).length=i:=Zc7 _ _
 refine Zat (λaC b3 fj=>?_) (λbF=>?_)
 ·have aC:(i:Int) < (s.vars.length:Int):=aC
  refine PI.app ⟨i,-1,-1,-1,-1⟩ hP (by rw[List.length_cons,td];omega) fj λa' c' m' hm' hP'=>⟨rfl,s.vars.length - (i+1),by omega,i+1,_,_,by omega,by rw[hw i (by omega)],rfl,?_,rfl⟩
  rw[Za8];exact hP'
 have bF:¬(i:Int) < (s.vars.length:Int):=bF
 obtain rfl:i=s.vars.length:=by omega
 generalize hB:top::Zcs s.vars.length Vf=B at hP
 have wz:B.length=s.vars.length+1:=by rw[<-hB,List.length_cons,td]
 refine⟨λxs _ tks m' q=>∃(i:Nat)(v t:Value),i<=s.states.length/\xs=[v,.int .i64 i]/\tks=[t]/\PI (B++Zcs i (Ff s)) v t m'/\q=s.states.length - i,⟨s.states.length,0,_,_,by omega,rfl,rfl,by simpa[Zcs]using hP,rfl⟩,?_⟩
 rintro a n c i' a1 n2 c1 m4 q bU ⟨i,v,t,hi,hx,ht,hP,rfl⟩
 simp only[List.cons.injEq,Value.int.injEq,and_true,true_and]at hx ht
 obtain⟨rfl,rfl⟩:=hx
 subst ht
 have fx:=mLt dh bU
 refine Zat (λaC=>?_) (λbF=>?_)
 ·have aC:(i:Int) < (s.states.length:Int):=aC
  obtain⟨x,hx⟩:=Zcz (show i < s.states.length by omega)
  have cQ:=hr.all x (zA2 hx)
  have jy:=cQ.len
  unfold few at jy
  have hF:Ff s i=plS i x:=by unfold Ff;rw[hx]
  have dm:(Zcs i (Ff s)).length+(plS i x).length<=(Zcs s.states.length (Ff s)).length:=by
   have:=Zor (show i+1<=s.states.length by omega) (Ff s)
   rw[Za8,zA1,hF]at this;exact this
  rw[Zj1,List.length_cons]at dm
  obtain⟨b3,o3,eu,jB⟩:=Zal Sta.len (hr.row.mono fx) hx (by omega)
  refine⟨b3,o3,eu,⟨by omega,aC⟩,_,_,jB,λb4=>Zaa rfl λb5 ib=>?_⟩
  refine PI.app ⟨-1,i,-1,-1,-1⟩ hP (by rw[zA1];omega) ib λa' c' m5 cE hP=>Zaa rfl ?_
  have ii:=mLt fx cE
  generalize te:B++Zcs i (Ff s)=L1 at hP
  have ia:L1.length=B.length+(Zcs i (Ff s)).length:=by rw[<-te,zA1]
  refine⟨λxs _ tks m' q=>∃(k:Nat)(v t:Value),k<=x.rules.length/\xs=[v,.int .i64 k]/\tks=[t]/\PI (L1++(⟨-1,i,-1,-1,-1⟩::Zcs k (Gf i x))) v t m'/\q=x.rules.length - k,⟨x.rules.length,0,_,_,by omega,rfl,rfl,by simpa[Zcs]using hP,rfl⟩,?_⟩
  rintro a n c k' a1 n2 c1 m6 q eA ⟨k,v,t,hk,hy,ht,hP,rfl⟩
  simp only[List.cons.injEq,Value.int.injEq,and_true,true_and]at hy ht
  obtain⟨rfl,rfl⟩:=hy
  subst ht
  have eW:=mLt ii eA
  refine Zat (λcY=>?_) (λdg=>?_)
  ·have cY:(k:Int) < (x.rules.length:Int):=cY
   obtain⟨r,gw⟩:=Zcz (show k < x.rules.length by omega)
   have eK:=cQ.all r (zA2 gw)
   have mh:=eK.len
   unfold few at mh
   have hG:Gf i x k=plR i k r:=by unfold Gf;rw[gw]
   have eX:(Zcs k (Gf i x)).length+(plR i k r).length<=(Zcs x.rules.length (Gf i x)).length:=by
    have:=Zor (show k+1<=x.rules.length by omega) (Gf i x)
    rw[Za8,zA1,hG]at this;exact this
   rw[Zj0,List.length_cons]at eX
   obtain⟨b6,o6,gB,lz⟩:=Zal Ru.len (cQ.row.mono eW) gw (by omega)
   refine Zaa rfl ⟨b6,o6,gB,⟨by omega,cY⟩,_,_,_,_,_,_,_,_,_,_,_,_,_,_,_,_,lz,λb7=>Zaa rfl λb8 lJ=>?_⟩
   refine PI.app ⟨-1,i,k,-1,-1⟩ hP (by rw[zA1,List.length_cons];omega) lJ λa' c' m7 ew hP=>Zaa rfl ?_
   have rC:=mLt eW ew
   generalize tf:L1++(⟨-1,i,-1,-1,-1⟩::Zcs k (Gf i x))=L2 at hP
   have jY:L2.length=L1.length+1+(Zcs k (Gf i x)).length:=by rw[<-tf,zA1,List.length_cons];omega
   refine⟨λxs _ tks m' q=>∃(j:Nat)(v t:Value),j<=r.acts.length/\xs=[v,.int .i64 j]/\tks=[t]/\PI (L2++(⟨-1,i,k,-1,-1⟩::Zcs j (Hf i k r))) v t m'/\q=r.acts.length - j,⟨r.acts.length,0,_,_,by omega,rfl,rfl,by simpa[Zcs]using hP,rfl⟩,?_⟩
   rintro a n c j' a1 n2 c1 m8 q dG ⟨j,v,t,hj,hy,ht,hP,rfl⟩
   simp only[List.cons.injEq,Value.int.injEq,and_true,true_and]at hy ht
   obtain⟨rfl,rfl⟩:=hy
   subst ht
   have pp:=mLt rC dG
   refine Zat (λeB=>?_) (λfl=>?_)
   ·have eB:(j:Int) < (r.acts.length:Int):=eB
    obtain⟨y,lB⟩:=Zcz (show j < r.acts.length by omega)
    have gD:=eK.all y (zA2 lB)
    have rD:=gD.n
    unfold few at rD
    have hH:Hf i k r j=plA i k j y:=by unfold Hf;rw[lB]
    have eZ:(Zcs j (Hf i k r)).length+(plA i k j y).length<=(Zcs r.acts.length (Hf i k r)).length:=by
     have:=Zor (show j+1<=r.acts.length by omega) (Hf i k r)
     rw[Za8,zA1,hH]at this;exact this
    rw[ZjZ,List.length_cons,show(Zcs y.parts.length (Pf i k j)).length=y.parts.length from Zc7 _ _]at eZ
    obtain⟨b9,o9,rE,vu⟩:=Zal Ac.len (eK.row.mono pp) lB (by omega)
    refine Zaa rfl ⟨b9,o9,rE,⟨by omega,eB⟩,_,_,_,_,_,_,_,_,vu,λb10=>Zaa rfl λb11 rF=>?_⟩
    refine PI.app ⟨-1,i,k,j,-1⟩ hP (by rw[zA1,List.length_cons];omega) rF λa' c' m9 fI hP=>Zaa rfl ?_
    generalize pj:L2++(⟨-1,i,k,-1,-1⟩::Zcs j (Hf i k r))=L3 at hP
    have ql:L3.length=L2.length+1+(Zcs j (Hf i k r)).length:=by rw[<-pj,zA1,List.length_cons];omega
    refine⟨λxs _ tks m' q=>∃(w:Nat)(v t:Value),w<=y.parts.length/\xs=[v,.int .i64 w]/\tks=[t]/\PI (L3++(⟨-1,i,k,j,-1⟩::Zcs w (Pf i k j))) v t m'/\q=y.parts.length - w,⟨y.parts.length,0,_,_,by omega,rfl,rfl,by simpa[Zcs]using hP,rfl⟩,?_⟩
    rintro a n c w' a1 n2 c1 m10 q fm ⟨w,v,t,wB,hy,ht,hP,rfl⟩
    simp only[List.cons.injEq,Value.int.injEq,and_true,true_and]at hy ht
    obtain⟨rfl,rfl⟩:=hy
    subst ht
    have pv:(Zcs w (Pf i k j)).length=w:=Zc7 _ _
    refine Zat (λjF b12 rG=>?_) (λjG=>?_)
    ·have jF:(w:Int) < (y.parts.length:Int):=jF
     refine PI.app ⟨-1,i,k,j,w⟩ hP (by rw[zA1,List.length_cons,pv];omega) rG λa' c' m' hm' hP'=>⟨rfl,rfl,y.parts.length - (w+1),by omega,w+1,_,_,by omega,by rw[hw w (by omega)],rfl,?_,rfl⟩
     rw[Za8]
     simpa[Pf]using hP'
    ·have jG:¬(w:Int) < (y.parts.length:Int):=jG
     obtain rfl:w=y.parts.length:=by omega
     refine⟨rfl,rfl,r.acts.length - (j+1),by omega,j+1,_,_,by omega,by rw[hw j (by omega)],rfl,?_,rfl⟩
     rw[Za8,hH,ZjZ]
     rw[<-pj]at hP
     simpa using hP
   ·have fl:¬(j:Int) < (r.acts.length:Int):=fl
    obtain rfl:j=r.acts.length:=by omega
    refine⟨rfl,rfl,x.rules.length - (k+1),by omega,k+1,_,_,by omega,by rw[hw k (by omega)],rfl,?_,rfl⟩
    rw[Za8,hG,Zj0]
    rw[<-tf]at hP
    simpa using hP
  ·have dg:¬(k:Int) < (x.rules.length:Int):=dg
   obtain rfl:k=x.rules.length:=by omega
   refine⟨rfl,rfl,s.states.length - (i+1),by omega,i+1,_,_,by omega,by rw[hw i (by omega)],rfl,?_,rfl⟩
   rw[Za8,hF,Zj1]
   rw[<-te]at hP
   simpa using hP
 ·have bF:¬(i:Int) < (s.states.length:Int):=bF
  obtain rfl:i=s.states.length:=by omega
  obtain⟨a0,c0,a10,n10,c10,h1,h2,h3,h4⟩:=hP
  have he:B++Zcs s.states.length (Ff s)=s.places:=by rw[oP,<-hB];rfl
  rw[he]at h1 h4
  rw[h1]
  exact⟨m4,fx,Mem.le_refl _,a0,c0,rfl,h4⟩
end Go.Proofs.YtpjepnkiiojgfaaGreat
namespace Go.Proofs.YtpjepnkiiojgfaaGreat
open Go Go.Eng Go.Proofs Go.RowKit
open Go.Value (int slice agg bool string tuple func)
open Go.IntKind (u8 u64 i64)
set_option maxRecDepth 100000
def ZmS:Env:={ EB with
 joins:=(λi=>bif Nat.beq i 1 then some [(6,.bool)]else none)
 frzNew:=[3] }
theorem Zky(aB:Int)(bA:Option Addr)(aX bD:Nat)(aW:Option Addr)(aO aY:Nat)(p1 p2:Int)(m:Mem)(R:RT)(h:
 lV [int i64 aB,slice bA aX bD,slice aW aO aY] λxL=>fzM m xL λb m'=>∃(b_1:Bool),lV [bool b_1] λxL_1=>lE [some (Box.mk b xL 32 3 true true)] λxL_2=>(kB Tryz.prog 19 [agg
 (Array.mk xL)] m' λb m'=>br b (br (decide (p1 ≥ (0:Int))) (br (decide (p1 < (↑aO:Int))) (br (decide (p2 ≥ (0:Int))) (atA aW λb o=>Zad p1 aO/\∃(v:Value),m' b (o+Int.toNat p1*2+1) =
 some v/\chk (Zbr v) (Zac xL_2/\[bool (decide (p2 < (↑(slN v):Int)))]=xL_1)) (Zac xL_2/\[bool false]=xL_1)) (Zac xL_2/\[bool false]=xL_1)) (Zac xL_2/\[bool false]=xL_1)) (Zac xL_2/\[bool
 false]=xL_1))/\rtM m m' R (bool b_1)):CX Tryz.prog 47 #[.agg #[.int .i64 aB,.slice bA aX bD,.slice aW aO aY],.int .i64 p1,.int .i64 p2] m [] R:=
 Zae (E:=ZmS) Zav mix Tryz.func47 (by kernel_rfl) (Eq.mp (by kernel_rfl) h)
def ZnW:Env:={ EB with
 dr:=(λi=>bif Nat.beq i 4 then[⟨0,[8],[],none,[],[]⟩,⟨1,[8],[],none,[0],[]⟩,⟨2,[],[],none,[],[]⟩,⟨3,[8],[],none,[],[]⟩,⟨4,[8],[],none,[3],[]⟩,⟨5,[],[],none,[],[]⟩,⟨6,[],[],none,[3,4,5],[]⟩,⟨7,[],[],none,[3,4,5,6],[]⟩,⟨8,[],[],none,[3,4,5,6,7],[]⟩,⟨9,[],[],none,[],[]⟩,⟨10,[],[],none,[],[]⟩,⟨11,[],[],none,[10],[]⟩,⟨12,[200],[200],none,[3,4,5,6,7,8,9,10,11],[]⟩]else[])
 borrow:=(λi=>bif Nat.beq i 29 then[200]else[])
 frzNew:=[3]
 acqB:=(λi=>bif Nat.beq i 4 then some 200 else none)
 thaw:=true
 stAt:=(λi=>bif Nat.beq i 31 then some 999 else none)
 last:=(λi=>bif Nat.beq i 4 then true else false)
 lastK:=(λi=>bif Nat.beq i 4 then 3 else 1)
 frz:=[200]
 kF:=true }
theorem ZmT(aB:Int)(bA:Option Addr)(aX bD:Nat)(aW:Option Addr)(aO aY:Nat)(p1 p2:Int)(m:Mem)(R:RT)(h:
 lV [int i64 p2,int i64 (i64.wrap (p2+(1:Int)))] λxL=>lE (Int.toNat p1*2) λyL=>lV [int i64 aB,slice bA aX bD,slice aW aO aY] λxL_1=>fzM m xL_1 λb m'=>m.free b
 -> (∀(b' o:Nat)(u:Value),m' b' o=some u->m b' o=some u\/b'=b)->Mem.k m b=none->∀(b_1:Nat),kB Tryz.prog 47 [agg (Array.mk xL_1),int i64 p1,int i64 p2] m' λb_2 m'=>br (!b_2) (rtM m m' R (tuple
 (Array.mk [agg (Array.mk [int i64 0,slice none 0 0,slice none 0 0]),int i64 250]))) (∃(R_1:RT),True/\CX Tryz.prog 18 (Array.mk [agg (Array.mk xL_1)]) m' [] R_1/\ZbD (Shape.agg [Shape.int i64,Shape.slice,
 Shape.slice]) R_1/\∀(n:Int)(a:Option Addr)(n_1 c:Nat)(a_1:Option Addr)(n_2 c_1:Nat)(m'_1:Mem),lX (agg (Array.mk [int i64 n,slice a n_1 c,slice a_1 n_2 c_1])) λyL_1=>m'.le m'_1->R_1 yL_1
 m'_1 []->∀(b_3:Nat),∃(b_4:Nat),∃(cs:List Value),lM (Mem.off m'_1 λk=>k=b_4) λmL=>cs≠[]/\m'_1.reads b_4 0 cs/\m.free b_4/\(b≠b_4/\True)/\∀(T:TypeId)(cap:Nat),∃(f:Fx),
 atA a_1 λb_5 o=>Zad p1 n_2/\∃(v:Value),mL b_5 (o+yL+1)=some v/\∃(R_2:RT),R_2=f 12 (v::xL) mL/\CX Tryz.prog 48 (Array.mk (v::xL)) mL [Box.mk b_4 cs T cap false false] R_2/\ZbD
 Shape.slice R_2/\∀(a:Option Addr)(n c:Nat)(m':Mem),lX (slice a n c) λyL_2=>mL.le m'->∀(cs:List Value),R_2 yL_2 m' [cs]->∀(M:Mem),mL.le M->m'.le M->atA a_1 λb_6 o=>lM (Mem.upd
 M b_6 (o+yL+1) [yL_2]) λmL=>Zad p1 n_2/\(∃(vs:List Value),vs.length=1/\M.reads b_6 (o+yL+1) vs)/\m.free b_6/\true=true/\b≠b_6/\(mL.free b_4->Mem.k mL b_4=none->rtM m
 (mL.add b_4 cs) R (tuple (Array.mk [yL_1,int i64 0]))))):CX Tryz.prog 13 #[.agg #[.int .i64 aB,.slice bA aX bD,.slice aW aO aY],.int .i64 p1,.int .i64 p2] m [] R:=
 Zae (E:=ZnW) Zav mix Tryz.func13 (by kernel_rfl) (Eq.mp (by kernel_rfl) h)
end Go.Proofs.YtpjepnkiiojgfaaGreat
namespace Go.Proofs.YtpjepnkiiojgfaaGreat
open Go Go.Eng Go.Rx Go.Proofs Go.RowKit Go.Shelf
set_option maxRecDepth 100000
def zRu:Value:=.agg #[.int .u8 0,.bool false,.bool false,.int .u8 0,.int .u64 0,.int .u64 0,.int .u64 0,.int .u64 0,.int .i64 0,.int .i64 0,.slice none 0 0,.string .empty,.int .i64 0,.slice none 0 0,.string .empty,.int .i64 0]
def Zwf:Ren:=⟨fun|45=>48|n=>n,fun|0=>0|3=>3|4=>4|22=>34|23=>47|n=>n,λn=>n⟩
theorem ZuD:DelLay Tryz.prog Zwf 16 zRu:=
 {mixed:=mix,f45:=⟨Tryz.f48.name,by kernel_rfl,by kernel_rfl⟩
  t0:=by kernel_rfl,a0:=Tryz.isAgg0,z0:=Tryz.sizeOf0,v0:=Tryz.zeroValue0
  t3:=Tryz.underlying3,a3:=Tryz.isAgg3,z3:=Tryz.sizeOf3,v3:=Tryz.zeroValue3
  t4:=Tryz.underlying4,a4:=Tryz.isAgg4,z4:=Tryz.sizeOf4,v4:=Tryz.zeroValue4
  t22:=Tryz.underlying34,a22:=Tryz.isAgg34,z22:=Tryz.sizeOf34,v22:=Tryz.zeroValue34
  z23:=Tryz.sizeOf47,v23:=Tryz.zeroValue47 }
theorem ZuE(m:Nat):∀u∈(Builtin.zeroCells zRu.cells m).toList,u.oneCell'=true:=by
 have jD:∀i,i < 16->(zRu.cells[i]!).oneCell'=true:=by decide
 intro u hu
 simp only[Builtin.zeroCells,Array.toList_map,List.mem_map]at hu
 obtain⟨i,_,rfl⟩:=hu
 exact jD _ (Nat.mod_lt _ (by decide))
theorem ZuF(l:List Ru)(b c i:Nat)(T:TypeId)(cap:Nat)(m:Mem)(hi:i < l.length)(hc:l.length<=c)(hm:l.length<=9223372036854775807):
  CX Tryz.prog 48 #[.slice (some ⟨b,0,none⟩) l.length c,.int .i64 i,.int .i64 (i+1:Nat)] m [⟨b,(l.map Ru.cs).flatten,T,cap,false,false⟩] (λv m' css=>v=.slice (some ⟨b,0,none⟩) (l.length - 1) c/\css=[((l.eraseIdx i).map Ru.cs).flatten++zRu.cells.toList]):=by
 obtain⟨i0,h1,h2⟩:∃i0,Tryz.prog.info? 47=some i0/\i0.size=16:=by
  obtain⟨x,h1,h2,_⟩:=(Zav 47 _ rfl).info
  exact⟨x,h1,h2⟩
 exact Zp9 ZuD i0 h1 h2 rfl (Go.Eng.Zfu Tryz.func48 (by kernel_rfl) (by kernel_rfl)) (by decide) (by kernel_rfl) ZuE Ru.len Ru.one l b c i T cap m hi hc hm
end Go.Proofs.YtpjepnkiiojgfaaGreat
namespace Go.Proofs.YtpjepnkiiojgfaaGreat
open Go Go.Eng Go.Rx Go.Proofs Go.RowKit
set_option maxRecDepth 100000
theorem ZsO(s:Sc)(i k:Int)(m:Mem)(hr:RepC m s):CX Tryz.prog 47 #[s.v,.int .i64 i,.int .i64 k] m [] (Ret (.bool (ZgM s i k))):=by
 apply Zky
 intro b m1 aH _
 refine⟨ZgM s i k,Zar (ZcS s m1 (hr.mono aH)) λm2 aK=>?_,Zaj aH rfl⟩
 refine Zab (λh1=>Zab (λh2=>Zab (λh3=>Zab (λh4=>?_) (λh4=>⟨rfl,?_⟩)) (λh3=>⟨rfl,?_⟩)) (λh2=>⟨rfl,?_⟩)) (λh1=>⟨rfl,?_⟩)
 ·have h2':0<=i:=zA6 h2
  have h3':i < s.states.length:=zA6 h3
  obtain⟨x,hx⟩:=Zaw (l:=s.states) (k:=i.toNat) (by omega)
  obtain⟨bs,o,ha,bT⟩:=Zal Sta.len (hr.mono (mLt aH aK)).row hx (by omega)
  refine⟨bs,o,ha,⟨h2',h3'⟩,_,bT 1 _ rfl,Zaa rfl ⟨rfl,?_⟩⟩
  simp only[ZgM,h1,h2,h3,h4,hx,Bool.true_and]
  rfl
 ·simp only[ZgM,h1,h2,h3,h4,Bool.true_and,Bool.false_and]
 ·simp only[ZgM,h1,h2,h3,Bool.true_and,Bool.false_and]
 ·simp only[ZgM,h1,h2,Bool.true_and,Bool.false_and]
 ·simp only[ZgM,h1,Bool.false_and]
def ZwS(s:Sc)(i k:Nat):Value->Mem->List (List Value)->Prop:=λv m' _=>∃s':Sc,v=.tuple #[s'.v,.int .i64 0]/\s'.er=(Zs3 s i k).er/\RepC m' s'
theorem Zqu{s:Sc}{i k:Nat}:∀(v:Value)(m':Mem) (css:List (List Value)),ZwS s i k v m' css->Shape.fits (.tup [.agg [.int .i64,.slice,.slice],.int .i64]) v=true:=λv _ _ ⟨t,e,_⟩=>by rw[e];rfl
theorem ZuG{s:Sc}{n:Int}{a a1:Option Addr}{p c p1 c1:Nat}(h:Value.agg #[.int .i64 n,.slice a p c,.slice a1 p1 c1]=s.v):n=s.n/\a=s.va/\p=s.vars.length/\c=s.vc/\a1=s.sa/\p1=s.states.length/\c1=s.sc:=by
 simpa[Sc.v,and_assoc]using h
theorem ZuH(s:Sc)(i k:Nat)(m:Mem)(hr:RepC m s)(hl:s.light=true){x:Sta}(hx:s.states[i]?=some x)(hk:k < x.rules.length):CX Tryz.prog 13 #[s.v,.int .i64 i,.int .i64 k] m [] (ZwS s i k):=by
 have hi:=(zA0 hx).1
 have dS:s.states.length<=100000:=hr.len
 have gX:x.rules.length<=100000:=(hr.all x (zA2 hx)).len
 have fe:ZgM s i k=true:=by
  simp only[ZgM,hl,zA8,hx,Bool.true_and,zA7,decide_eq_true_eq]
  omega
 apply ZmT
 intro b m1 aH lF e7 vn eh b1
 have hc:=ZsO s i k m1 (hr.mono aH)
 rw[fe]at hc
 refine Zar hc λm2 aK=>Zmm rfl ?_
 have dq:=mLt aH aK
 refine Zam (ZuA s m2 (hr.mono dq) hl) ZsG ?_
 rintro n a p c a1 p1 c1 m3 aR ⟨s',hv,rH,dd,dz⟩ b3
 obtain⟨rfl,rfl,rfl,rfl,rfl,rfl,rfl⟩:=ZuG hv
 obtain⟨x',hx',qX⟩:=Zxg rH hx
 obtain⟨bQ,cQ,sK⟩:=ZoC qX
 have hk':k < x'.rules.length:=by omega
 have hi':=(zA0 hx').1
 rcases dz with h0|⟨bS,μ,dz⟩
 ·rw[h0]at hi';simp at hi'
 obtain⟨nj,⟨vv,mo⟩,bM,oY⟩:=dz.all i x' hx'
 rcases mo with h0|⟨bR,mf,rI,vA,lp⟩
 ·rw[h0]at hk';simp at hk'
 have aA:(μ i).reads bR 0 (x'.rules.map Ru.cs).flatten:=by
  rcases nj.row with h|⟨b',o',ha,h⟩
  ·have:=congrArg List.length h
   rw[ZaO Ru.len]at this;simp at this;omega
  ·rw[mf]at ha;cases ha;exact h
 have kz:(x'.rules.map Ru.cs).flatten.length=x'.rules.length*16:=ZaO Ru.len _
 have jh:¬(μ i).free bR:=λhf=>by
  have:=aA 0 _ (zA3 (by omega))
  rw[hf]at this;cases this
 have qG:bS≠bR:=λe=>jh (e ▸ oY)
 have eX:¬m2.free b:=λhf=>by
  have:=aK _ _ _ (lF 0 _ rfl)
  rw[hf]at this;cases this
 have eV:=mLt bM (ZkF m2 m3)
 obtain⟨bs0,o0,lx,bO⟩:=Zal Sta.len dd.row hx' (by omega)
 rw[dz.sa]at lx
 simp only[Option.some.injEq,Addr.mk.injEq,and_true]at lx
 obtain⟨rfl,rfl⟩:=lx
 have bL:∀M:Mem,(m3.off λq=>q=bR).le M->M bS (0+i*2+1)=some (.slice x'.ra x'.rules.length x'.rc):=λM hM=>hM _ _ _ (by
  rw[Mem.off_at (Y:=λq=>q=bR) qG];exact(ZkF m2 m3) _ _ _ (bO 1 _ rfl))
 have oW:m.le (m3.off λq=>q=bR):=Zl7 (mLt dq aR) λq e=>⟨e ▸ Zbx dq rI,e ▸ ZfR dq vA⟩
 have hw:IntKind.i64.wrap ((k:Int)+1)=((k+1:Nat):Int):=by rw[Zai (by omega) (by omega)];rfl
 refine⟨bR,(x'.rules.map Ru.cs).flatten,λe=>?_,aA.mono eV,Zbx dq rI,⟨λe=>eX (e ▸ rI),trivial⟩,λT cap=>?_⟩
 ·rw[e]at kz;simp at kz;omega
 rw[hw]
 have hd:=ZuF x'.rules bR x'.rc k T cap (m3.off λq=>q=bR) hk' vv (by omega)
 rw[<-mf]at hd
 refine⟨λ_ _ _=>_,bS,0,dz.sa,⟨by omega,by omega⟩,_,bL _ (Mem.le_refl _),_,rfl,hd,(λv _ _ h=>by rw[h.1];rfl),?_⟩
 rintro a4 n4 c4 m4 bU cs4 ⟨tg,rj⟩ M hM gi
 simp only[Value.slice.injEq]at tg
 obtain⟨rfl,rfl,rfl⟩:=tg
 simp only[List.cons.injEq,and_true]at rj
 subst rj
 refine⟨bS,0,dz.sa,⟨by omega,by omega⟩,⟨[.slice x'.ra x'.rules.length x'.rc],rfl,λj v hj=>?_⟩,Zbx dq dz.free.1,rfl,λe=>eX (e ▸ dz.free.1),λti _=>⟨_,mLt (Mem.le_upd (mLt oW hM) (Zbx dq dz.free.1) _ _) (Mem.le_add ti _),Mem.le_refl _,⟨s'.n,s'.va,s'.vc,s'.vars,s'.sa,s'.sc,s'.states.set i (ZkG x' k)⟩,?_,?_,Zsa dd dz hx' mf hk' lp hM ti⟩⟩
 ·cases j with
  | zero=>simp at hj;subst hj;exact bL M hM
  | succ j=>simp at hj
 ·simp only[Sc.v,List.length_set]
 ·have h1:=ZtX rH
  have h2:Zs3 s i k=⟨s.n,s.va,s.vc,s.vars,s.sa,s.sc,s.states.set i (ZkG x k)⟩:=by unfold Zs3;rw[hx]
  rw[h2]
  exact Zr7 h1.1 h1.2 (by rw[List.map_set,List.map_set,Zl9 rH,Zr8 qX])
end Go.Proofs.YtpjepnkiiojgfaaGreat
namespace Go.Proofs.YtpjepnkiiojgfaaGreat
open Go Go.Eng Go.Proofs Go.RowKit
open Go.Value (int slice agg bool string tuple func)
open Go.IntKind (u8 u64 i64)
set_option maxRecDepth 100000
def ZiG:Env:=EB
theorem Zee(p0:Int)(m:Mem)(R:RT)(h:
 ∀(b b:Nat),lE (u8.wrap (Int.tdiv p0 (64:Int))) λyL=>lE (1+Int.toNat yL*1) λyL_1=>lV (Zay [int u8 2,int u64 0,int u64 0,int u64 0,int u64 0,int i64 0,int i64 0,slice none 0 0] yL_1
 [int u64 (u64.wrap ((1:Int)*(2:Int) ^ min (Int.toNat (Int.tmod p0 (64:Int))) 64))]) λxL=>(64:Int)≠(0:Int)/\(64:Int)≠(0:Int)/\(0:Int)<=Int.tmod p0 (64:Int)/\Zad yL 4/\chk
 (Nat.ble yL_1 (nat_lit 7)) (chk (Nat.beq (xL.length) 8&&Zd3 xL) (rtM m m R (agg (Array.mk xL))))):CX Tryz.prog 83 #[.int .u8 p0] m [] R:=
 Zae (E:=ZiG) Zav mix Tryz.func83 (by kernel_rfl) (Eq.mp (by kernel_rfl) h)
def Zgg:Env:=EB
theorem Zfq  (m:Mem)(R:RT)(h:
 ∀(b b:Nat),∃(R_1:RT),True/\CX Tryz.prog 83 (Array.mk [int u8 120]) m [] R_1/\ZbD (shT) R_1/\∀(n am an ao ap aq ar:Int)(a:Option Addr)(au c:Nat)(m':Mem),lV [int u8 n,int u64 am,int u64 an,int
 u64 ao,int u64 ap,int i64 aq,int i64 ar,slice a au c] λxL=>m.le m'->R_1 (agg (Array.mk xL)) m' []->∀(b:Nat),lM (m'.add b xL) λmL=>lV [int u8 6,int u64 0,int u64 0,int u64 0,int u64 0,int
 i64 0,int i64 0,slice (some (Addr.mk b 0 none)) 1 1] λxL=>m'.free b->∀(b:Nat),lX (slice (some (Addr.mk b 0 none)) 1 1) λyL=>mL.free b->∃(R_2:RT),True/\CX Tryz.prog 83 (Array.mk [int u8
 121]) (mL.add b xL) [] R_2/\ZbD (shT) R_2/\∀(n av aw ax ay az a0:Int)(a:Option Addr)(a1 c:Nat)(m':Mem),lV [int u8 n,int u64 av,int u64 aw,int u64 ax,int u64 ay,int i64 az,int i64 a0,slice a a1
 c] λah=>lV (int u8 5::int u64 0::int u64 0::int u64 0::int u64 0::int i64 1::int i64 (-1:Int)::yL::ah) λa2=>Mem.le (mL.add b xL) m'->R_2 (agg (Array.mk ah)) m' []->∀(b:Nat),lX
 (slice (some (Addr.mk b 0 none)) 2 2) λyL=>lM (m'.add b a2) λmL=>m'.free b->∀(b b:Nat),lM (mL.add b [string (ByteArray.mk (Array.mk [110])),bool true,string bE0,Value.float .f64 0]) λai=>mL.free b->∀(aa:Nat),lX (slice (some (Addr.mk aa 0 none)) 2 2) λa3=>lM (ai.add aa [int u8 9,Value.float .f64 0,string (ByteArray.mk (Array.mk
 [110])),int i64 0,slice none 0 0,int u8 8,Value.float .f64 4607182418800017408,string bE0,int i64 0,slice none 0 0]) λmL=>ai.free aa->∀(ab:Nat),lM
 (mL.add ab [int u8 9,Value.float .f64 0,string (ByteArray.mk (Array.mk [110])),int i64 0,slice none 0 0,int u8 8,Value.float .f64 4611686018427387904,string bE0,int i64 0,slice none 0 0]) λaj=>lV [int u8 3,string bE0,int i64 1,int u8 0,Value.float .f64 0,string bE0,int i64 0,slice none 0 0,int u8 4,
 string bE0,int i64 0,int u8 4,Value.float .f64 0,string bE0,int i64 0,slice (some (Addr.mk ab 0 none)) 2 2] λxL=>mL.free ab->∀(ac:Nat),lM
 (aj.add ac xL) λmL=>lV [int u8 3,string (ByteArray.mk (Array.mk [110])),slice none 0 0,int u8 2,Value.float .f64 0,string bE0,int i64 0,a3,int u8 1,string
 bE0,slice (some (Addr.mk ac 0 none)) 2 2,int u8 0,Value.float .f64 0,string bE0,int i64 0,slice none 0 0] λxL=>aj.free ac->∀(ad:Nat),lM
 (mL.add ad xL) λak=>lV [int u8 1,bool false,bool false,int u8 3,int u64 0,int u64 0,int u64 0,int u64 0,int i64 0,int i64 0,yL,string bE0,int i64 0,slice (some (Addr.mk ad
 0 none)) 2 2,string (ByteArray.mk (Array.mk [98])),int i64 0,int u8 4,bool false,bool false,int u8 0,int u64 0,int u64 0,int u64 0,int u64 0,int i64 0,int i64 0,slice none 0 0,string
 bE0,int i64 5,slice none 0 0,string bE0,int i64 1] λxL=>mL.free ad->∀(ae:Nat),lM (ak.add ae xL) λmL=>ak.free ae->∀(af:Nat),lM
 (mL.add af [int u8 3,bool false,bool false,int u8 0,int u64 0,int u64 0,int u64 0,int u64 0,int i64 0,int i64 0,slice none 0 0,string bE0,int i64 0,slice none 0 0,string
 bE0,int i64 0]) λal=>mL.free af->∀(ag:Nat),al.free ag->rtM m (al.add ag [string (ByteArray.mk (Array.mk [97])),slice (some (Addr.mk ae 0 none)) 2 2,string
 (ByteArray.mk (Array.mk [98])),slice (some (Addr.mk af 0 none)) 1 1]) R (agg (Array.mk [int i64 9,slice (some (Addr.mk b 0 none)) 1 1,slice (some (Addr.mk ag 0 none)) 2 2]))):CX Tryz.prog 41 #[] m [] R:=
 Zae (E:=Zgg) Zav mix Tryz.func41 (by kernel_rfl) (Eq.mp (by kernel_rfl) h)
def ZiH:Env:={ EB with
 joins:=(λi=>bif Nat.beq i 6 then some [(35,.bool)]else none) }
theorem Zg5  (m:Mem)(R:RT)(h:
 ∃(R_1:RT),True/\CX Tryz.prog 41 (Array.mk []) m [] R_1/\ZbD (Shape.agg [Shape.int i64,Shape.slice,Shape.slice]) R_1/\∀(n:Int)(a:Option Addr)(a6 c:Nat)(ah:Option Addr)(ai a7:Nat)(m':Mem),lV
 [int i64 n,slice a a6 c,slice ah ai a7] λxL=>lX (agg (Array.mk xL)) λyL=>m.le m'->R_1 yL m' []->∀(b:Nat),lE [some (Box.mk b xL 32 3 false true)] λxL=>atA ah λb o=>Zad (0:Int) ai/\∃
 (v:Value),m' b (o+0+1)=some v/\chk (Zbr v) (atA (slA v) λb o=>Zad (0:Int) (slN v)/\∃v aj ak al am an ao ap aq ar au av aw ax ay az:Value,lV [v,aj,ak,al,am,an,ao,ap,aq,ar,au,av,aw,ax,ay,az] λab=>
 lV [agg (Array.mk ab)] λac=>m'.reads b (o+0) ab/\∀(b:Nat),lE (some (Box.mk b ab 47 16 false true)::xL) λxL=>chk (v.oneCell'&&(aj.oneCell'&&(ak.oneCell'&&(al.oneCell'
 && (am.oneCell'&&(an.oneCell'&&(ao.oneCell'&&(ap.oneCell'&&(aq.oneCell'&&(ar.oneCell'&&(au.oneCell'&&(av.oneCell'&&(aw.oneCell'&&(ax.oneCell'
 && (ay.oneCell'&&(az.oneCell'&&true)))))))))))))))) (kS Tryz.prog 11 [yL] m' λa n c m'=>∃(R_2:RT),True/\CX Tryz.prog 13 (Array.mk [yL,int i64 0,int i64 0]) m' [] R_2/\ZbD (Shape.tup
 [Shape.agg [Shape.int i64,Shape.slice,Shape.slice],Shape.int i64]) R_2/\∀(a8:Int)(a9:Option Addr)(ba c:Nat)(bb:Option Addr)(bc bd:Nat)(a0:Int)(ad:Mem),lV [int i64 a8,slice a9 ba c,slice bb bc
 bd] λae=>m'.le ad->R_2 (tuple (Array.mk [agg (Array.mk ae),int i64 a0])) ad []->∀(b:Nat),lE (some (Box.mk b ae 32 3 false true)::xL) λxL=>kS Tryz.prog 32 [yL] ad λa1 af c m'=>∃(b:Bool),br
 (!a0 == (0:Int)) (Zac xL/\[bool true]=[bool b]) (br (!(↑n:Int) == (11:Int)) (Zac xL/\[bool true]=[bool b]) (Zac xL/\[bool !(↑af:Int) == (2:Int)]=[bool b]))/\br b (rtM m m' R (bool false)) (∃
 (R_3:RT),True/\CX Tryz.prog 21 (Array.mk [yL]) m' [] R_3/\ZbD (Shape.agg [Shape.int i64,Shape.int i64,Shape.int i64,Shape.int i64,Shape.int i64,Shape.int i64]) R_3/\∀(be bf bg bh bi bj:Int)(aa:Mem),lX
 (agg (Array.mk [int i64 be,int i64 bf,int i64 bg,int i64 bh,int i64 bi,int i64 bj])) λyL=>m'.le aa->R_3 yL aa []->∃(b:Bool),EqIs Tryz.prog 75 yL (agg (Array.mk [int i64 2,int i64 3,int i64 5,int
 i64 2,int i64 2,int i64 2])) b/\br b (atA a1 λb o=>Zad (0:Int) af/\∃(v:Value),aa b (o+0)=some v/\∀(b:Nat),aa.free b->kB Tryz.prog 38 [v,slice (some (Addr.mk b 0 none)) 1 1] (aa.add  b [int i64 1]) λb m'=>br b (atA a1 λb o=>Zad (1:Int) af/\∃(v:Value),m' b (o+1)=some v/\chk (Zbr v) (br ((↑(slN v):Int) == (0:Int)) (kS Tryz.prog 27 ac m' λbk bl c m'=>∀(b:Nat),
 m'.free b->kB Tryz.prog 42 [slice bk bl c,slice (some (Addr.mk b 0 none)) 1 1] (m'.add b [string (ByteArray.mk (Array.mk [110]))]) λb m'=>br b (kS Tryz.prog 28 ac m' λbm bn c m'=>∀(b:
 Nat),m'.free b->kB Tryz.prog 42 [slice bm bn c,slice (some (Addr.mk b 0 none)) 1 1] (m'.add b [string (ByteArray.mk (Array.mk [110]))]) λb m'=>br b (kI Tryz.prog 30 ac m' λbo m'=>br (bo ==
 (1:Int)) (atA a λb o=>Zad (5:Int) n/\∃v a2 a3 a4 a5:Value,m'.reads b (o+25) [v,a2,a3,a4,a5]/\∃(b:Bool),EqIs Tryz.prog 27 (agg
 (Array.mk [v,a2,a3,a4,a5])) (agg (Array.mk [int i64 (-1:Int),int i64 0,int i64 0,int i64 1,int i64 (-1:Int)])) b/\br b (∃(R_4:RT),True/\CX Tryz.prog 21 (Array.mk [agg (Array.mk ae)]) m' [] R_4/\ZbD
 (Shape.agg [Shape.int i64,Shape.int i64,Shape.int i64,Shape.int i64,Shape.int i64,Shape.int i64]) R_4/\∀(n bp bq bs bt bu:Int)(ag:Mem),lX (agg (Array.mk [int i64 n,int i64 bp,int i64 bq,int i64 bs,int
 i64 bt,int i64 bu])) λyL=>m'.le ag->R_4 yL ag []->∃(b:Bool),EqIs Tryz.prog 75 yL (agg (Array.mk [int i64 2,int i64 2,int i64 0,int i64 0,int i64 0,int i64 0])) b/\rtM m ag R (bool b)) (rtM m m' R
 (bool false))) (rtM m m' R (bool false))) (rtM m m' R (bool false))) (rtM m m' R (bool false))) (rtM m m' R (bool false)))) (rtM m m' R (bool false))) (rtM m aa R (bool false)))))):CX Tryz.prog 9 #[] m [] R:=
 Zae (E:=ZiH) Zav mix Tryz.func9 (by kernel_rfl) (Eq.mp (by kernel_rfl) h)
end Go.Proofs.YtpjepnkiiojgfaaGreat
namespace Go.Proofs.YtpjepnkiiojgfaaGreat
open Go Go.Eng Go.Rx Go.Proofs Go.RowKit
set_option maxRecDepth 100000
theorem ZwT(a b c d e f a' b' c' d' e' f':Int):EqIs Tryz.prog 75 (.agg (msV a b c d e f).toArray) (.agg (msV a' b' c' d' e' f').toArray) (decide ([a,b,c,d,e,f]=[a',b',c',d',e',f'])):=by
 refine⟨λw=>?_,λop ox oy w=>ZfY (by kernel_rfl) op ox oy _ _ w⟩
 have u3:=Tryz.underlying3
 have a3:=Tryz.isAgg3
 have z3:=Tryz.sizeOf3
 unfold msV
 rw[Op.equal,Op.maxDepth,show(10000:Nat)=9999+1 from rfl]
 rw[run_equalIn_agg _ _ _ _ _ (by kernel_rfl) (by kernel_rfl)]
 have hf:(Tryz.prog.fieldsOf 75).toList=[⟨ "States",3,0,false, "", "",0⟩,⟨ "Rules",3,1,false, "", "",8⟩,⟨ "Regex",3,2,false, "", "",16⟩,⟨ "Parts",3,3,false, "", "",24⟩,⟨ "Operators",3,4,false, "", "",32⟩,⟨ "Vars",3,5,false, "", "",40⟩]:=by kernel_rfl
 rw[hf]
 go_simp
 by_cases h1:a=a' <;> by_cases h2:b=b' <;> by_cases h3:c=c' <;> by_cases h4:d=d' <;> by_cases h5:e=e' <;> by_cases h6:f=f' <;> simp[h1,h2,h3,h4,h5,h6]
theorem Zxu(a b c d e a' b' c' d' e':Int):EqIs Tryz.prog 27 (.agg #[.int .i64 a,.int .i64 b,.int .i64 c,.int .i64 d,.int .i64 e]) (.agg #[.int .i64 a',.int .i64 b',.int .i64 c',.int .i64 d',.int .i64 e']) (a == a'&&b == b'&&c == c'&&d == d'&&e == e'):=by
 refine⟨λw=>?_,λop ox oy w=>ZfY (by kernel_rfl) op ox oy _ _ w⟩
 have u3:=Tryz.underlying3
 have a3:=Tryz.isAgg3
 have z3:=Tryz.sizeOf3
 rw[Op.equal,Op.maxDepth,show(10000:Nat)=9999+1 from rfl]
 rw[run_equalIn_agg _ _ _ _ _ (by kernel_rfl) (by kernel_rfl)]
 have hf:(Tryz.prog.fieldsOf 27).toList=[⟨ "Var",3,0,false, "", "",0⟩,⟨ "State",3,1,false, "", "",8⟩,⟨ "Rule",3,2,false, "", "",16⟩,⟨ "Action",3,3,false, "", "",24⟩,⟨ "Part",3,4,false, "", "",32⟩]:=by kernel_rfl
 rw[hf]
 go_simp
 by_cases h1:a=a' <;> by_cases h2:b=b' <;> by_cases h3:c=c' <;> by_cases h4:d=d' <;> by_cases h5:e=e' <;> simp[h1,h2,h3,h4,h5]
theorem ZuI(p q:Pl):EqIs Tryz.prog 27 (.agg p.cs.toArray) (.agg q.cs.toArray) (decide (p=q)):=by
 have h:=Zxu p.v p.s p.r p.a p.p q.v q.s q.r q.a q.p
 have e:(p.v == q.v&&p.s == q.s&&p.r == q.r&&p.a == q.a&&p.p == q.p)=decide (p=q):=by
  by_cases jg:p=q
  ·subst jg;simp
  ·rw[decide_eq_false jg,Bool.eq_false_iff]
   intro h
   simp only[zA7,beq_iff_eq]at h
   obtain⟨⟨⟨⟨h1,h2⟩,h3⟩,h4⟩,h5⟩:=h
   apply jg
   cases p;cases q
   simp only at h1 h2 h3 h4 h5
   subst h1 h2 h3 h4 h5;rfl
 rw[e]at h;exact h
theorem Zqv(l r:List Int)(a a':Option Addr)(c c':Nat)(m:Mem)(hl:l.length<=1000000000000000)(h1:rowRd m a (Ze8 l))(h2:rowRd m a' (Ze8 r)):
  CX Tryz.prog 38 #[.slice a l.length c,.slice a' r.length c'] m [] (Ret (.bool (decide (l=r)))):=by
 apply ZcA
 refine Zab (λh=>Zaj (Mem.le_refl _) ?_) (λh=>?_)
 ·have cG:¬(l.length:Int)=r.length:=by simpa using h
  show Value.bool false=Value.bool _
  rw[decide_eq_false (λe=>cG (by rw[e]))]
 have aE:l.length=r.length:=by
  have:(l.length:Int)=r.length:=by simpa using h
  omega
 refine⟨λxs _ _ m' q=>∃i:Nat,i<=l.length/\xs=[.int .i64 i]/\l.take i=r.take i/\q=l.length - i,⟨l.length,0,by omega,rfl,rfl,rfl⟩,?_⟩
 rintro n m1 q aH ⟨i,hi,hx,heq,rfl⟩
 obtain rfl:n=i:=by simpa using hx
 refine Zat (λaC=>?_) (λbF=>Zaj aH ?_)
 ·obtain⟨x,hx⟩:=Zcz (show i < l.length by omega)
  obtain⟨y,hy⟩:=Zcz (show i < r.length by omega)
  obtain⟨b1,o1,gu,cQ⟩:=Zwc (h1.mono aH) (show(Ze8 l)[i]?=some (.int .i64 x) by unfold Ze8;rw[List.getElem?_map,hx];rfl)
  obtain⟨b2,o2,fK,iq⟩:=Zwc (h2.mono aH) (show(Ze8 r)[i]?=some (.int .i64 y) by unfold Ze8;rw[List.getElem?_map,hy];rfl)
  refine⟨b1,o1,gu,⟨by omega,aC⟩,_,cQ,b2,o2,fK,⟨by omega,by omega⟩,_,iq,Zaa rfl (Zab (λh=>Zaj aH ?_) (λh=>?_))⟩
  ·have cG:¬x=y:=by
    intro e
    subst e
    have h:(!(x == x))=true:=h
    simp at h
   show Value.bool false=Value.bool _
   rw[decide_eq_false (λe=>cG (by subst e;rw[hx]at hy;exact Option.some.inj hy))]
  ·have e:x=y:=by
    have h:(!(x == y))=false:=h
    simpa using h
   subst e
   exact⟨l.length - (i+1),by omega,i+1,by omega,by rw[Zai (by omega) (by omega)];rfl,by rw[List.take_add_one,List.take_add_one,hx,hy,heq],rfl⟩
 ·have hi:i=l.length:=by omega
  subst hi
  show Value.bool true=Value.bool _
  rw[List.take_length,aE,List.take_length]at heq
  rw[decide_eq_true heq]
theorem Zjv(l r:List ByteArray)(a a':Option Addr)(c c':Nat)(m:Mem)(hl:l.length<=1000000000000000)(h1:rowRd m a (ZbV l))(h2:rowRd m a' (ZbV r)):
  CX Tryz.prog 42 #[.slice a l.length c,.slice a' r.length c'] m [] (Ret (.bool (decide (l=r)))):=by
 apply ZbH
 refine Zab (λh=>Zaj (Mem.le_refl _) ?_) (λh=>?_)
 ·have cG:¬(l.length:Int)=r.length:=by simpa using h
  show Value.bool false=Value.bool _
  rw[decide_eq_false (λe=>cG (by rw[e]))]
 have aE:l.length=r.length:=by
  have:(l.length:Int)=r.length:=by simpa using h
  omega
 refine⟨λxs _ _ m' q=>∃i:Nat,i<=l.length/\xs=[.int .i64 i]/\l.take i=r.take i/\q=l.length - i,⟨l.length,0,by omega,rfl,rfl,rfl⟩,?_⟩
 rintro n m1 q aH ⟨i,hi,hx,heq,rfl⟩
 obtain rfl:n=i:=by simpa using hx
 refine Zat (λaC=>?_) (λbF=>Zaj aH ?_)
 ·obtain⟨x,hx⟩:=Zcz (show i < l.length by omega)
  obtain⟨y,hy⟩:=Zcz (show i < r.length by omega)
  obtain⟨b1,o1,gu,cQ⟩:=Zwc (h1.mono aH) (show(ZbV l)[i]?=some (.string x) by unfold ZbV;rw[List.getElem?_map,hx];rfl)
  obtain⟨b2,o2,fK,iq⟩:=Zwc (h2.mono aH) (show(ZbV r)[i]?=some (.string y) by unfold ZbV;rw[List.getElem?_map,hy];rfl)
  refine⟨b1,o1,gu,⟨by omega,aC⟩,_,cQ,b2,o2,fK,⟨by omega,by omega⟩,_,iq,Zaa rfl (Zab (λh=>Zaj aH ?_) (λh=>?_))⟩
  ·have cG:¬x=y:=by
    intro e
    subst e
    have h:(!(x.toList == x.toList))=true:=h
    simp at h
   show Value.bool false=Value.bool _
   rw[decide_eq_false (λe=>cG (by subst e;rw[hx]at hy;exact Option.some.inj hy))]
  ·have e:x=y:=by
    have h:(!(x.toList == y.toList))=false:=h
    have h:x.toList=y.toList:=by simpa using h
    rw[baL,baL]at h
    have:x.data=y.data:=Array.toList_inj.1 h
    cases x;cases y;exact congrArg _ this
   subst e
   exact⟨l.length - (i+1),by omega,i+1,by omega,by rw[Zai (by omega) (by omega)];rfl,by rw[List.take_add_one,List.take_add_one,hx,hy,heq],rfl⟩
 ·have hi:i=l.length:=by omega
  subst hi
  show Value.bool true=Value.bool _
  rw[List.take_length,aE,List.take_length]at heq
  rw[decide_eq_true heq]
theorem Zqw(m:Mem):CX Tryz.prog 83 #[.int .u8 120] m [] (Ret aeX.v):=by
 apply Zee
 exact λb b'=>⟨by decide,by decide,by decide,⟨by decide,by decide⟩,Zaa rfl (Zaa rfl (Zaj (Mem.le_refl _) rfl))⟩
theorem Zqx(m:Mem):CX Tryz.prog 83 #[.int .u8 121] m [] (Ret aeY.v):=by
 apply Zee
 exact λb b'=>⟨by decide,by decide,by decide,⟨by decide,by decide⟩,Zaa rfl (Zaa rfl (Zaj (Mem.le_refl _) rfl))⟩
theorem Zo3{t:T}:∀(v:Value)(m':Mem) (css:List (List Value)),Ret t.v v m' css->Shape.fits (.agg [.int .u8,.int .u64,.int .u64,.int .u64,.int .u64,.int .i64,.int .i64,.slice]) v=true:=λv _ _ h=>by rw[show v=_ from h];rfl
def ExR:Value->Mem->List (List Value)->Prop:=λv m' _=>∃g r c w l s p a r1 r2 S:Option Addr,v=(aeS g r c w l s p a r1 r2 S).v/\RepC m' (aeS g r c w l s p a r1 r2 S)
theorem ZuJ:∀(v:Value)(m':Mem) (css:List (List Value)),ExR v m' css->Shape.fits (.agg [.int .i64,.slice,.slice]) v=true:=λv _ _ ⟨_,_,_,_,_,_,_,_,_,_,_,h,_⟩=>by rw[h];rfl
theorem Zx2{m:Mem}{cs:List Value}{f:Nat->Value}{K:Nat->Value->Mem->Prop}(k:∀b M,(m.free b->m.le M)->rowRd M (some ⟨b,0,none⟩) cs->K b (f b) M):∀b:Nat,lX (f b) (λy=>lM (m.add b cs) (λM=>K b y M)):=λb=>k b _ (λhf=>Mem.le_add hf _) Za1
theorem Zwg{m:Mem}{cs:List Value}{K:Nat->Mem->Prop}(k:∀b M,(m.free b->m.le M)->rowRd M (some ⟨b,0,none⟩) cs->K b M):∀b:Nat,lM (m.add b cs) (λM=>K b M):=λb=>k b _ (λhf=>Mem.le_add hf _) Za1
theorem ZuK{M:Mem}{k:Int}{b x:Nat}(hk:0<=k/\k < 256)(h:rowRd M (some ⟨b,0,none⟩) (aeN.cs++(aeC x).cs)):RepE M (aeO k (some ⟨b,0,none⟩) x):=by
 rcases h with h|⟨b',o',ha,h⟩
 ·cases h
 cases ha
 unfold aeO
 simp only[RepE,RepEAt]
 refine⟨by show(2:Nat)<=1000000000000000;decide,.inr ⟨b,0,rfl,λj v hj=>h j v ?_,?_,λj v hj=>?_,?_,trivial⟩,⟨hk,by decide,by omega⟩⟩
 ·rw[zA5 (zA0 hj).1];exact hj
 ·simp only[aeN,RepE];exact⟨by decide,.inl trivial,⟨by decide,by decide,by decide⟩⟩
 ·rw[Nat.zero_add,Nat.add_comm,<-Nat.zero_add (j+5)]
  exact h (j+5) v (by rw[zA4 (by show 5<=j+5;omega)];exact hj)
 ·simp only[aeC,RepE];exact⟨by decide,.inl trivial,⟨by decide,by decide,by decide⟩⟩
theorem ZuL(M:Mem):RepE M aeE:=by simp only[aeE,RepE];exact⟨by decide,.inl trivial,⟨by decide,by decide,by decide⟩⟩
theorem ZuM(M:Mem):Rep M ZxH:=ZjW (by decide) (.inl rfl) (by constructor <;> decide)
theorem Zwh(M:Mem):Rep M aeX:=ZjW (by decide) (.inl rfl) (by constructor <;> decide)
theorem Zwi(M:Mem):Rep M aeY:=ZjW (by decide) (.inl rfl) (by constructor <;> decide)
theorem Zk4{M:Mem}{b:Nat}{cs:List Value}(h:rowRd M (some ⟨b,0,none⟩) cs):M.reads b 0 cs:=by
 rcases h with h|⟨b',o',ha,h⟩
 ·subst h;exact λj v hj=>by simp at hj
 ·cases ha;exact h
theorem Zwj{M:Mem}{g:Nat}(h:rowRd M (some ⟨g,0,none⟩) aeX.cs):Rep M (aeG (some ⟨g,0,none⟩)):=by
 refine ZjW (by show(1:Nat)<=1000000000000000;decide) (.inr ⟨g,0,rfl,?_⟩) (show OkN 6 0 0 0 0 0 0 by constructor <;> decide)
 show RepAt M g 0 [aeX]
 simp only[RepAt]
 exact⟨Zk4 h,Zwh M,trivial⟩
theorem Zwk{M:Mem}{g:Option Addr}{r:Nat}(hg:Rep M (aeG g))(h:rowRd M (some ⟨r,0,none⟩) (aeG g).cs):Rep M (aeR g (some ⟨r,0,none⟩)):=by
 refine ZjW (by show(1:Nat)<=1000000000000000;decide) (.inr ⟨r,0,rfl,?_⟩) (show OkN 5 0 0 0 0 1 (-1) by constructor <;> decide)
 show RepAt M r 0 [aeG g]
 simp only[RepAt]
 exact⟨Zk4 h,hg,trivial⟩
theorem Zwl{M:Mem}{g r:Option Addr}{c:Nat}(hr:Rep M (aeR g r))(h:rowRd M (some ⟨c,0,none⟩) ((aeR g r).cs++aeY.cs)):Rep M (aeT g r (some ⟨c,0,none⟩)):=by
 have h:=Zk4 h
 refine ZjW (by show(2:Nat)<=1000000000000000;decide) (.inr ⟨c,0,rfl,?_⟩) (show OkN 3 0 0 0 0 0 0 by constructor <;> decide)
 show RepAt M c 0 [aeR g r,aeY]
 simp only[RepAt]
 refine⟨λj v hj=>h j v ?_,hr,λj v hj=>?_,Zwi M,trivial⟩
 ·rw[zA5 (zA0 hj).1];exact hj
 ·rw[Nat.zero_add,Nat.add_comm,<-Nat.zero_add (j+8)]
  exact h (j+8) v (by rw[zA4 (by show 8<=j+8;omega)];exact hj)
theorem ZuN:I64 5/\I64 1/\I64 0:=by unfold I64;omega
theorem ZnX(m:Mem):CX Tryz.prog 41 #[] m [] ExR:=by
 apply Zfq
 intro b b'
 refine⟨_,trivial,Zqw m,Zo3,?_⟩
 rintro n n1 n2 n3 n4 n5 n6 a n7 c m1 aH hv
 have hv:Value.agg _=Value.agg _:=hv
 simp only[aeX,T.k,T.s0,T.s1,T.s2,T.s3,T.mn,T.mx,T.a,T.subs,T.c,List.length_nil,Value.agg.injEq,Array.mk.injEq,List.cons.injEq,Value.int.injEq,Value.slice.injEq,true_and,and_true]at hv
 obtain⟨rfl,rfl,rfl,rfl,rfl,rfl,rfl,rfl,rfl,rfl⟩:=hv
 refine Zwg λbg M1 l1 r1=>?_
 intro f1
 have l1:=l1 f1
 intro br f2
 have r2:=Za1 (m:=M1) (b:=br) (cs:=(aeG (some ⟨bg,0,none⟩)).cs)
 have l2:=Mem.le_add f2 (aeG (some ⟨bg,0,none⟩)).cs
 obtain⟨M2,eD⟩:∃M,M=M1.add br (aeG (some ⟨bg,0,none⟩)).cs:=⟨_,rfl⟩
 rw[<-eD]at r2 l2
 refine⟨_,trivial,Zqx _,Zo3,?_⟩
 rintro n n1 n2 n3 n4 n5 n6 a n7 c m3 aR hv
 have hv:Value.agg _=Value.agg _:=hv
 simp only[aeY,T.k,T.s0,T.s1,T.s2,T.s3,T.mn,T.mx,T.a,T.subs,T.c,List.length_nil,Value.agg.injEq,Array.mk.injEq,List.cons.injEq,Value.int.injEq,Value.slice.injEq,true_and,and_true]at hv
 obtain⟨rfl,rfl,rfl,rfl,rfl,rfl,rfl,rfl,rfl,rfl⟩:=hv
 have aR:M2.le m3:=by rw[eD];exact aR
 refine Zx2 λbc M4 l4 r4=>?_
 intro f4 b2
 have l4:=l4 f4
 refine Zwg λbv M5 l5 r5=>?_
 intro f5
 have l5:=l5 f5
 refine Zx2 λbl M6 l6 r6=>?_
 intro f6
 have l6:=l6 f6
 refine Zwg λbs M7 l7 r7=>?_
 intro f7
 have l7:=l7 f7
 refine Zwg λbp M8 l8 r8=>?_
 intro f8
 have l8:=l8 f8
 refine Zwg λba M9 l9 r9=>?_
 intro f9
 have l9:=l9 f9
 refine Zwg λbx M10 l10 r10=>?_
 intro f10
 have l10:=l10 f10
 refine Zwg λby' M11 l11 r11=>?_
 intro f11 bS f12
 have l11:=l11 f11
 have r12:=Za1 (m:=M11) (b:=bS) (cs:=([(⟨⟨#[97]⟩,some ⟨bx,0,none⟩,2,[ZoJ (some ⟨bg,0,none⟩) (some ⟨br,0,none⟩) (some ⟨bc,0,none⟩) (some ⟨bl,0,none⟩) (some ⟨bs,0,none⟩) (some ⟨bp,0,none⟩) (some ⟨ba,0,none⟩),Zs9]⟩:Sta),⟨⟨#[98]⟩,some ⟨by',0,none⟩,1,[Zt8]⟩].map Sta.cs).flatten)
 have l12:=Mem.le_add f12 ([(⟨⟨#[97]⟩,some ⟨bx,0,none⟩,2,[ZoJ (some ⟨bg,0,none⟩) (some ⟨br,0,none⟩) (some ⟨bc,0,none⟩) (some ⟨bl,0,none⟩) (some ⟨bs,0,none⟩) (some ⟨bp,0,none⟩) (some ⟨ba,0,none⟩),Zs9]⟩:Sta),⟨⟨#[98]⟩,some ⟨by',0,none⟩,1,[Zt8]⟩].map Sta.cs).flatten
 obtain⟨M12,nY⟩:∃M,M=M11.add bS ([(⟨⟨#[97]⟩,some ⟨bx,0,none⟩,2,[ZoJ (some ⟨bg,0,none⟩) (some ⟨br,0,none⟩) (some ⟨bc,0,none⟩) (some ⟨bl,0,none⟩) (some ⟨bs,0,none⟩) (some ⟨bp,0,none⟩) (some ⟨ba,0,none⟩),Zs9]⟩:Sta),⟨⟨#[98]⟩,some ⟨by',0,none⟩,1,[Zt8]⟩].map Sta.cs).flatten:=⟨_,rfl⟩
 rw[<-nY]at r12 l12
 suffices hS:rtM m M12 ExR (aeS (some ⟨bg,0,none⟩) (some ⟨br,0,none⟩) (some ⟨bc,0,none⟩) (some ⟨bv,0,none⟩) (some ⟨bl,0,none⟩) (some ⟨bs,0,none⟩) (some ⟨bp,0,none⟩) (some ⟨ba,0,none⟩) (some ⟨bx,0,none⟩) (some ⟨by',0,none⟩) (some ⟨bS,0,none⟩)).v by
  rw[nY]at hS;exact hS
 have k11:=l12
 have k10:=mLt l11 k11
 have k9:=mLt l10 k10
 have k8:=mLt l9 k9
 have k7:=mLt l8 k8
 have k6:=mLt l7 k7
 have k5:=mLt l6 k6
 have k4:=mLt l5 k5
 have k3:=mLt l4 k4
 have k2:=mLt aR k3
 have k1:=mLt l2 k2
 have k0:=mLt aH (mLt l1 k1)
 have hG:=Zwj (r1.mono k1)
 have hR:=Zwk hG (r2.mono k2)
 have hT:=Zwl hR (r4.mono k4)
 refine ZaA k0 ⟨some ⟨bg,0,none⟩,some ⟨br,0,none⟩,some ⟨bc,0,none⟩,some ⟨bv,0,none⟩,some ⟨bl,0,none⟩,some ⟨bs,0,none⟩,some ⟨bp,0,none⟩,some ⟨ba,0,none⟩,some ⟨bx,0,none⟩,some ⟨by',0,none⟩,some ⟨bS,0,none⟩,rfl,?_⟩
 have vB:RepA M12 (ZxF (some ⟨bl,0,none⟩)):=⟨by show(0:Int)<=3/\(3:Int) < 256;decide,by show(ByteArray.mk #[110]).size<=_;decide,by show 0<=few;decide,.inl rfl,(λp hp=>by cases hp),ZuK (by decide) (r6.mono k6)⟩
 have vC:RepA M12 (ZxG (some ⟨bs,0,none⟩) (some ⟨bp,0,none⟩)):=by
  refine⟨by show(0:Int)<=1/\(1:Int) < 256;decide,by show(ByteArray.mk #[]).size<=_;decide,by show 2<=few;decide,r8.mono k8,λp hp=>?_,ZuL _⟩
  have hp:p∈[Zx0,Zx1 (some ⟨bs,0,none⟩)]:=hp
  simp only[List.mem_cons,List.not_mem_nil,or_false]at hp
  rcases hp with rfl|rfl
  ·exact⟨by decide,by decide,by show I64 1;unfold I64;omega,ZuL _⟩
  ·exact⟨by show(0:Int)<=4/\(4:Int) < 256;decide,by show(ByteArray.mk #[]).size<=_;decide,by show I64 0;unfold I64;omega,ZuK (by decide) (r7.mono k7)⟩
 refine⟨by show I64 9;unfold I64;omega,by show 1<=few;decide,r5.mono k5,?_,by show 2<=few;decide,r12,?_,Nat.le_refl _,Nat.le_refl _⟩
 ·intro v hv
  have hv:v∈[(⟨⟨#[110]⟩,true,⟨#[]⟩,0⟩:Va)]:=hv
  rw[List.mem_singleton]at hv;subst hv
  exact⟨by decide,by decide⟩
 ·intro x hx
  have hx:x∈[(⟨⟨#[97]⟩,some ⟨bx,0,none⟩,2,[ZoJ _ _ _ _ _ _ _,Zs9]⟩:Sta),⟨⟨#[98]⟩,some ⟨by',0,none⟩,1,[Zt8]⟩]:=hx
  simp only[List.mem_cons,List.not_mem_nil,or_false]at hx
  rcases hx with rfl|rfl
  ·refine⟨by show(ByteArray.mk #[97]).size<=_;decide,by show 2<=few;decide,r10.mono k10,λr hr=>?_⟩
   simp only[List.mem_cons,List.not_mem_nil,or_false]at hr
   rcases hr with rfl|rfl
   ·refine⟨by show(0:Int)<=1/\(1:Int) < 256;decide,hT,by show(ByteArray.mk #[]).size<=_;decide,by show I64 0;unfold I64;omega,by show 2<=few;decide,r9.mono k9,λp hp=>?_,by show(ByteArray.mk #[98]).size<=_;decide,by show I64 0;unfold I64;omega⟩
    have hp:p∈[ZxF (some ⟨bl,0,none⟩),ZxG (some ⟨bs,0,none⟩) (some ⟨bp,0,none⟩)]:=hp
    simp only[List.mem_cons,List.not_mem_nil,or_false]at hp
    rcases hp with rfl|rfl
    ·exact vB
    ·exact vC
   ·exact⟨by decide,ZuM _,by decide,ZuN.1,by decide,.inl rfl,(λp hp=>by cases hp),by decide,ZuN.2.1⟩
  ·refine⟨by show(ByteArray.mk #[98]).size<=_;decide,by show 1<=few;decide,r11.mono k11,λr hr=>?_⟩
   simp only[List.mem_cons,List.not_mem_nil,or_false]at hr
   subst hr
   exact⟨by decide,ZuM _,by decide,ZuN.2.2,by decide,.inl rfl,(λp hp=>by cases hp),by decide,ZuN.2.2⟩
theorem Zjw{a b c d e f:Int}:∀(v:Value)(m':Mem) (css:List (List Value)),Ret (.agg (msV a b c d e f).toArray) v m' css->Shape.fits (.agg [.int .i64,.int .i64,.int .i64,.int .i64,.int .i64,.int .i64]) v=true:=λv _ _ h=>by rw[show v=_ from h];rfl
set_option maxHeartbeats 1000000 in
theorem ZnY(m:Mem):CX Tryz.prog 9 #[] m [] (Ret (.bool true)):=by
 apply Zg5
 refine⟨_,trivial,ZnX m,ZuJ,?_⟩
 rintro n a n1 c a1 n2 c1 m1 aH ⟨g,r,cc,w,l,s,p,a0,r1,r2,S,hv,hr⟩ b1
 obtain⟨sc,iY⟩:∃sc,sc=aeS g r cc w l s p a0 r1 r2 S:=⟨_,rfl⟩
 rw[<-iY]at hv hr
 have hl:sc.light=true:=by rw[iY];exact Zsh g r cc w l s p a0 r1 r2 S
 have gL:sc.places.length=11:=by rw[iY];exact Zqa g r cc w l s p a0 r1 r2 S
 have vD:sc.places[5]?=some ⟨-1,0,0,1,-1⟩:=by rw[iY];exact Zqb g r cc w l s p a0 r1 r2 S
 have aZ:Zjk sc=msV 2 3 5 2 2 2:=by rw[iY];exact Zt9 g r cc w l s p a0 r1 r2 S
 have sR:Zjk (Zs3 sc 0 0)=msV 2 2 0 0 0 0:=by rw[iY];exact Zsi g r cc w l s p a0 r1 r2 S
 have i6:sc.states[0]?=some ⟨⟨#[97]⟩,r1,2,[ZoJ g r cc l s p a0,Zs9]⟩:=by rw[iY];rfl
 have dx:sc.states[1]?=some ⟨⟨#[98]⟩,r2,1,[Zt8]⟩:=by rw[iY];rfl
 have iB:sc.states.length=2:=by rw[iY];rfl
 have vE:ZuZ sc.states ⟨⟨#[97]⟩,r1,2,[ZoJ g r cc l s p a0,Zs9]⟩=[1]:=by rw[iY];exact Zub g r cc w l s p a0 r1 r2 S
 have vF:ZuZ sc.states ⟨⟨#[98]⟩,r2,1,[Zt8]⟩=[]:=by rw[iY];exact Zuc g r cc w l s p a0 r1 r2 S
 obtain⟨rfl,rfl,rfl,rfl,rfl,rfl,rfl⟩:=ZuG hv
 obtain⟨b2,o2,fK,iU⟩:=Zal Sta.len hr.row i6 (by decide)
 have bQ:=hr.all _ (zA2 i6)
 have eK:(⟨⟨#[97]⟩,r1,2,[ZoJ g r cc l s p a0,Zs9]⟩:Sta).rules[0]?=some (ZoJ g r cc l s p a0):=rfl
 obtain⟨b3,o3,eu,iQ⟩:=Zal Ru.len bQ.row eK (by decide)
 have lp:=bQ.all _ (zA2 eK)
 refine⟨b2,o2,fK,⟨by omega,by omega⟩,_,iU 1 _ rfl,Zaa rfl ⟨b3,o3,eu,⟨by show(0:Int)<=0;omega,by show(0:Int) < ((2:Nat):Int);omega⟩,_,_,_,_,_,_,_,_,_,_,_,_,_,_,_,_,iQ,λb4=>Zaa rfl ?_⟩⟩
 refine Zam (ZmR sc m1 hr) Zhv ?_
 rintro pa pn pc m2 aK ⟨pa',pc',mj,fy⟩
 simp only[Value.slice.injEq]at mj
 obtain⟨rfl,rfl,rfl⟩:=mj
 rw[gL]
 refine⟨_,trivial,ZuH sc 0 0 m2 (hr.mono aK) hl i6 (Nat.zero_lt_two),Zqu,?_⟩
 rintro n3 a3 n4 c3 a4 n5 c4 n6 m3 aR ⟨sd,tj,vG,qw⟩ b5
 have rJ:(Value.agg #[.int .i64 n3,.slice a3 n4 c3,.slice a4 n5 c4]=sd.v)/\n6=0:=by
  simp only[Value.tuple.injEq,Array.mk.injEq,List.cons.injEq,Value.int.injEq,true_and,and_true]at tj
  exact tj
 obtain⟨vH,rfl⟩:=rJ
 have mg:=mLt aK aR
 refine Zam (ZnS sc m3 (hr.mono mg)) ZsK ?_
 rintro ta tn tc m4 bU ⟨ta',tc',L',bY,fQ,kA,nZ⟩
 simp only[Value.slice.injEq]at bY
 obtain⟨rfl,rfl,rfl⟩:=bY
 rw[hl,if_pos rfl]at fQ
 have vI:L'.length=2:=by
  have:=congrArg List.length fQ
  rw[List.length_map,List.length_map,iB]at this;exact this
 obtain⟨y0,mu⟩:=Zcz (show 0 < L'.length by omega)
 obtain⟨y1,tl⟩:=Zcz (show 1 < L'.length by omega)
 have e0:y0.l=[1]:=by
  have:=congrArg (λl=>l[0]?) fQ
  simp only[List.getElem?_map,mu,i6,Option.map_some,Option.some.injEq]at this
  rw[this,vE]
 have e1:y1.l=[]:=by
  have:=congrArg (λl=>l[1]?) fQ
  simp only[List.getElem?_map,tl,dx,Option.map_some,Option.some.injEq]at this
  rw[this,vF]
 have gx:=mLt mg bU
 have hz:=Zo1 sc m4 (hr.mono gx)
 rw[aZ]at hz
 refine⟨false,Zmm rfl (Zmm rfl ⟨rfl,by rw[vI];rfl⟩),Zmm rfl ⟨_,trivial,hz,Zjw,?_⟩⟩
 rintro z1 z2 z3 z4 z5 z6 m5 cE fT
 have fT:Value.agg _=Value.agg _:=fT
 simp only[msV,Value.agg.injEq,Array.mk.injEq,List.cons.injEq,Value.int.injEq,true_and,and_true]at fT
 obtain⟨rfl,rfl,rfl,rfl,rfl,rfl⟩:=fT
 have nJ:=mLt gx cE
 obtain⟨b6,o6,gB,rK⟩:=Zal Il.len kA mu (by omega)
 obtain⟨b7,o7,nR,lK⟩:=Zal Il.len kA tl (by omega)
 refine⟨_,ZwT 2 3 5 2 2 2 2 3 5 2 2 2,Zs5 rfl ⟨b6,o6,gB,⟨by omega,by omega⟩,_,(rK.mono cE) 0 _ rfl,λb8 lJ=>?_⟩⟩
 have hE:=Zqv y0.l [1] y0.a (some ⟨b8,0,none⟩) y0.c 1 (m5.add b8 [.int .i64 1]) (by rw[e0];decide) ((nZ y0 (zA2 mu)).mono (mLt cE (Mem.le_add lJ _))) Za1
 rw[decide_eq_true e0]at hE
 refine Zar hE λm6 eA=>Zs5 rfl ⟨b7,o7,nR,⟨by omega,by omega⟩,_,(lK.mono (mLt cE (mLt (Mem.le_add lJ _) eA))) 0 _ rfl,Zaa rfl (Zs5 (by show(((y1.l.length:Nat):Int) == 0)=true;rw[e1];rfl) ?_)⟩
 have jD:=mLt nJ (mLt (Mem.le_add lJ _) eA)
 have tq:=ZsN (ZoJ g r cc l s p a0) m6 (lp.mono jD)
 rw[Zsj]at tq
 refine Zam tq Zgd ?_
 rintro ra rn rc m7 ew ⟨ra',rc',tu,oa⟩
 simp only[Value.slice.injEq]at tu
 obtain⟨rfl,rfl,rfl⟩:=tu
 intro b9 pw
 have tw:=Zjv [⟨#[110]⟩] [⟨#[110]⟩] ra (some ⟨b9,0,none⟩) rc 1 (m7.add b9 [.string ⟨#[110]⟩]) (by decide) (oa.mono (Mem.le_add pw _)) Za1
 rw[decide_eq_true rfl]at tw
 refine Zar tw λm8 dG=>Zs5 rfl ?_
 have pq:=mLt jD (mLt ew (mLt (Mem.le_add pw _) dG))
 have tx:=Zqt (ZoJ g r cc l s p a0) m8 (lp.mono pq)
 rw[Zqc]at tx
 refine Zam tx Zgd ?_
 rintro wa wn wc m9 fI ⟨wa',wc',pv,og⟩
 simp only[Value.slice.injEq]at pv
 obtain⟨rfl,rfl,rfl⟩:=pv
 intro b10 fJ
 have tz:=Zjv [⟨#[110]⟩] [⟨#[110]⟩] wa (some ⟨b10,0,none⟩) wc 1 (m9.add b10 [.string ⟨#[110]⟩]) (by decide) (og.mono (Mem.le_add fJ _)) Za1
 rw[decide_eq_true rfl]at tz
 refine Zar tz λm10 fm=>Zs5 rfl ?_
 have oh:=mLt pq (mLt fI (mLt (Mem.le_add fJ _) fm))
 have tA:=ZuC (ZoJ g r cc l s p a0) m10 (lp.mono oh)
 rw[Zua]at tA
 refine Zb3 tA λm11 ij=>Zs5 rfl ?_
 have rL:=mLt oh ij
 have vJ:m2.le m11:=mLt aR (mLt bU (mLt cE (mLt (Mem.le_add lJ _) (mLt eA (mLt ew (mLt (Mem.le_add pw _) (mLt dG (mLt fI (mLt (Mem.le_add fJ _) (mLt fm ij))))))))))
 obtain⟨b12,o12,rM,oi⟩:=Zal (λp:Pl=>(rfl:p.cs.length=5)) (fy.mono vJ) vD (Nat.zero_lt_succ 4)
 refine⟨b12,o12,rM,⟨by omega,by omega⟩,_,_,_,_,_,oi,_,ZuI ⟨-1,0,0,1,-1⟩ ⟨-1,0,0,1,-1⟩,Zs5 rfl ?_⟩
 have vK:m3.le m11:=mLt bU (mLt cE (mLt (Mem.le_add lJ _) (mLt eA (mLt ew (mLt (Mem.le_add pw _) (mLt dG (mLt fI (mLt (Mem.le_add fJ _) (mLt fm ij)))))))))
 have tB:=Zo1 sd m11 (qw.mono vK)
 rw[Zsl vG,sR,<-vH]at tB
 refine⟨_,trivial,tB,Zjw,?_⟩
 rintro y1 y2 y3 y4 y5 y6 m12 rN px
 have px:Value.agg _=Value.agg _:=px
 simp only[msV,Value.agg.injEq,Array.mk.injEq,List.cons.injEq,Value.int.injEq,true_and,and_true]at px
 obtain⟨rfl,rfl,rfl,rfl,rfl,rfl⟩:=px
 exact⟨_,ZwT 2 2 0 0 0 0 2 2 0 0 0 0,Zaj (mLt aH (mLt rL rN)) rfl⟩
def Zxv(p:Pl):Value->Mem->List (List Value)->Prop:=λv m' _=>∃a,v=.slice a 5 5/\rowRd m' a ((ZtZ p).map (Value.int .i64))
theorem Zo4{p}:∀(v:Value)(m':Mem) (css:List (List Value)),Zxv p v m' css->Shape.fits .slice v=true:=λv _ _ ⟨_,e,_⟩=>by rw[e];rfl
theorem ZuO(p:Pl)(m:Mem):CX Tryz.prog 46 #[.agg p.cs.toArray] m [] (Zxv p):=by
 apply ZnP
 intro b m1 aH _ b2 hf
 exact⟨_,mLt aH (Mem.le_add hf _),Mem.le_refl _,some ⟨b2,0,none⟩,rfl,.inr ⟨b2,0,rfl,ZcR m1 b2 _⟩⟩
theorem Zo5(x:Int)(m:Mem):CX Tryz.prog 121 #[.int .i64 x] m [] (Ret (.bool false)):=by
 apply Zfm
 exact Zaj (Mem.le_refl m) (by show Value.bool _=Value.bool false;simp)
theorem Zwm(x y:Int)(m:Mem):CX Tryz.prog 82 #[.int .i64 x,.int .i64 y] m [] (Ret (.int .i64 (Zmc [x] [y]))):=by
 apply Zd0
 refine Zar (Zo5 x m) λm1 aH=>Zar (Zo5 y m1) λm2 aK=>Zmm rfl (Zmm rfl (Zat (λh=>Zaj (mLt aH aK) ?_) (λh=>Zat (λh2=>Zaj (mLt aH aK) ?_) (λh2=>Zaj (mLt aH aK) ?_))))
 ·show Value.int _ _=Value.int _ _
  unfold Zmc;rw[if_pos h]
 ·show Value.int _ _=Value.int _ _
  unfold Zmc;rw[if_neg h,if_pos h2]
 ·show Value.int _ _=Value.int _ _
  unfold Zmc;rw[if_neg h,if_neg h2];rfl
theorem ZuP(l r:List Int)(a a':Option Addr)(c c':Nat)(m:Mem)(hl:l.length<=1000000)(h1:rowRd m a (l.map (Value.int .i64)))(h2:rowRd m a' (r.map (Value.int .i64))):
  CX Tryz.prog 45 #[.slice a l.length c,.slice a' r.length c'] m [] (Ret (.int .i64 (Zmc l r))):=by
 apply Zb0
 refine⟨λxs _ _ m'' q=>∃i:Nat,i<=l.length/\i<=r.length/\xs=[.int .i64 i]/\Zmc l r=Zmc (l.drop i) (r.drop i)/\q=l.length - i,⟨l.length,0,by omega,by omega,rfl,rfl,by omega⟩,?_⟩
 rintro n m1 q aH ⟨i,hi,fM,hn,he,hq⟩
 obtain rfl:n=i:=by simpa using hn
 refine Zat (λaC=>?_) (λbF=>?_)
 ·have aC:(i:Int) < (l.length:Int):=aC
  obtain⟨x,hx⟩:=Zcz (show i < l.length by omega)
  have hd:l.drop i=x::l.drop (i+1):=by
   rw[List.drop_eq_getElem_cons (by omega),(zA0 hx).2]
  obtain⟨b1,o1,ha,vL⟩:=Zwc (h1.mono aH) (show(l.map (Value.int .i64))[i]?=some (.int .i64 x) by rw[List.getElem?_map,hx];rfl)
  refine⟨b1,o1,ha,⟨by omega,aC⟩,_,vL,Zat (λhg=>Zaj aH ?_) (λhg=>?_)⟩
  ·have hg:(i:Int) ≥ (r.length:Int):=hg
   have h3:r.drop i=[]:=List.drop_of_length_le (by omega)
   show Value.int _ _=Value.int _ _
   rw[he,hd,h3];rfl
  ·have hg:¬(i:Int) ≥ (r.length:Int):=hg
   obtain⟨y,hy⟩:=Zcz (show i < r.length by omega)
   have mP:r.drop i=y::r.drop (i+1):=by
    rw[List.drop_eq_getElem_cons (by omega),(zA0 hy).2]
   obtain⟨b2,o2,fK,np⟩:=Zwc (h2.mono aH) (show(r.map (Value.int .i64))[i]?=some (.int .i64 y) by rw[List.getElem?_map,hy];rfl)
   refine⟨b2,o2,fK,⟨by omega,by show(i:Int) < (r.length:Int);omega⟩,_,np,Zb3 (Zwm x y m1) λm2 aK=>?_⟩
   have oU:Zmc (l.drop i) (r.drop i)=if Zmc [x] [y]=0 then Zmc (l.drop (i+1)) (r.drop (i+1))else Zmc [x] [y]:=by
    rw[hd,mP]
    simp only[Zmc]
    by_cases g1:x < y
    ·simp[g1]
    ·by_cases g2:x > y
     ·simp[g1,g2]
     ·simp[g1,g2]
   refine Zab (λh=>Zaj (mLt aH aK) ?_) (λh=>?_)
   ·have h:¬Zmc [x] [y]=0:=by simpa using h
    show Value.int _ _=Value.int _ _
    rw[he,oU,if_neg h]
   ·have h:Zmc [x] [y]=0:=by simpa using h
    refine⟨l.length - (i+1),by omega,i+1,by omega,by omega,by rw[Zai (by omega) (by omega)];rfl,by rw[he,oU,if_pos h],rfl⟩
 ·have bF:¬(i:Int) < (l.length:Int):=bF
  obtain rfl:i=l.length:=by omega
  rw[List.drop_length]at he
  refine Zat (λh=>Zaj aH ?_) (λh=>Zaj aH ?_)
  ·have h:(l.length:Int) < (r.length:Int):=h
   obtain⟨y,hy⟩:=Zcz (show l.length < r.length by omega)
   show Value.int _ _=Value.int _ _
   rw[he,List.drop_eq_getElem_cons (by omega)];rfl
  ·have h:¬(l.length:Int) < (r.length:Int):=h
   show Value.int _ _=Value.int _ _
   rw[he,List.drop_of_length_le (by omega)];rfl
theorem ZmU(p q:Pl)(m:Mem):CX Tryz.prog 12 #[.agg p.cs.toArray,.agg q.cs.toArray] m [] (Ret (.bool (ZbQ p q))):=by
 apply ZiA
 intro b m1 aH _ b1 m2 aK _
 have hm:=mLt aH aK
 refine⟨λi _ _=>match i with
  | 1=>Zxv p
  | 3=>Zxv q
  | _=>Ret (.int .i64 (Zmc (ZtZ p) (ZtZ q))),_,rfl,ZuO p m2,Zo4,?_⟩
 rintro a n c m3 aR ⟨a',hv,hr⟩
 simp only[Value.slice.injEq]at hv
 obtain⟨rfl,rfl,rfl⟩:=hv
 refine⟨_,rfl,ZuO q m3,Zo4,?_⟩
 rintro a3 n1 c1 m4 bU ⟨a',hv,dY⟩
 simp only[Value.slice.injEq]at hv
 obtain⟨rfl,rfl,rfl⟩:=hv
 refine⟨_,rfl,ZuP (ZtZ p) (ZtZ q) a a3 5 5 m4 (by show 5<=1000000;decide) (hr.mono bU) dY,λv _ _ e=>by rw[show v=_ from e];rfl,λn m5 cE hn M hM _ _ _=>Zaj (mLt hm hM) ?_⟩
 obtain rfl:n=Zmc (ZtZ p) (ZtZ q):=by cases hn;rfl
 rfl
end Go.Proofs.YtpjepnkiiojgfaaGreat
namespace Go.Proofs.YtpjepnkiiojgfaaGreat
open Go Go.Eng Go.Proofs Go.RowKit
open Go.Value (int slice agg bool string tuple func)
open Go.IntKind (u8 u64 i64)
set_option maxRecDepth 100000
def ZeF:Env:={ EB with
 loops:=(λi=>bif Nat.beq i 6 then⟨[(8,.int .i64),(32,.int .i64)],[],[],false⟩ else bif Nat.beq i 10 then⟨[(8,.int .i64),(44,.int .i64)],[],[],false⟩ else bif Nat.beq i 14 then⟨[(8,.int .i64),(56,.int .i64)],[],[],false⟩ else bif Nat.beq i 24 then⟨[(91,.int .i64)],[],[],false⟩ else⟨[],[],[],false⟩)
 joins:=(λi=>bif Nat.beq i 21 then some [(88,.bool)]else bif Nat.beq i 26 then some [(137,.bool)]else none)
 dr:=(λi=>bif Nat.beq i 26 then[⟨0,[],[],none,[],[]⟩,⟨1,[],[],none,[0],[]⟩,⟨2,[],[],none,[0,1],[]⟩,⟨3,[],[],none,[0,1,2],[]⟩,⟨4,[],[],none,[0,1,2],[]⟩,⟨5,[],[],none,[0,1,2,4],[]⟩,⟨6,[],[],none,[0,1,2,3,4,5],[]⟩,⟨7,[],[],none,[0,1,2,3,4,5,6],[]⟩,⟨8,[],[],none,[0,1,2],[]⟩,⟨9,[],[],none,[0,1,2],[]⟩,⟨10,[],[],none,[0,1,2,8,9],[]⟩,⟨11,[],[],none,[0,1,2,8,9,10],[]⟩,⟨12,[],[],none,rg 0 12,[]⟩,⟨13,[],[],none,rg 0 13,[]⟩,⟨14,[],[],none,rg 0 14,[]⟩,⟨15,[],[],none,rg 0 15,[]⟩,⟨16,[],[],none,rg 0 15,[]⟩,⟨17,[],[],none,rg 0 17,[]⟩,⟨18,[],[],none,rg 0 18,[12]⟩,⟨19,[],[],none,rg 0 15,[]⟩,⟨20,[],[],none,rg 0 15,[]⟩,⟨21,[],[],none,rg 0 15++[20],[]⟩,⟨22,[],[],none,rg 0 15++[19,20,21],[]⟩,⟨23,[],[],none,rg 0 15++rg 19 4,[12]⟩,⟨24,[],[],none,rg 0 24,[12]⟩,⟨25,[],[],none,rg 0 25,[]⟩,⟨26,[],[],none,rg 0 26,[]⟩,⟨27,[],[],none,rg 0 27,[]⟩,⟨28,[],[],none,rg 0 28,[]⟩,⟨29,[],[],none,rg 0 29,[]⟩,⟨30,[],[],none,rg 0 30,[]⟩,⟨31,[],[],none,rg 0 30,[]⟩,⟨32,[],[],none,rg 0 30++[31],[]⟩,⟨33,[],[],none,rg 0 33,[]⟩,⟨34,[],[],none,rg 0 34,[24]⟩,⟨35,[],[],none,rg 0 30,[]⟩,⟨36,[],[],none,rg 0 30,[]⟩,⟨37,[],[],none,rg 0 30++[35,36],[]⟩,⟨38,[],[],none,rg 0 30++[35,36,37],[24]⟩,⟨39,[],[],none,rg 0 39,[24]⟩,⟨40,[],[],none,rg 0 40,[]⟩,⟨41,[],[],none,rg 0 41,[]⟩,⟨42,[],[],none,rg 0 42,[]⟩,⟨43,[],[],none,rg 0 43,[]⟩]else[])
 frzNew:=[3,4,5]
 gb:=true }
theorem Zd1(aB:Int)(bA:Option Addr)(aX bD:Nat)(aW:Option Addr)(aO aY:Nat)(cZ de da df fF ga gc gd ge iP:Int)(m:Mem)(R:RT)(h:
 lV [int i64 cZ,int i64 de,int i64 da,int i64 df,int i64 fF] λxL=>lX (agg (Array.mk xL)) λyL=>lV [int u8 aB,slice bA aX bD,slice aW aO aY] λbb=>lV [int i64 ga,int i64
 gc,int i64 gd,int i64 ge,int i64 iP] λa0=>fzM m bb λb m'=>lE [some (Box.mk b bb 25 3 true true)] λbs=>fzM m' xL λb m'=>lE (some (Box.mk b xL 27 5 true true)::bs) λxL=>fzM m' a0 fun
 b m'=>lE (some (Box.mk b a0 27 5 true true)::xL) λxL=>kB Tryz.prog 9 [] m' λb m'=>br (!b) (rtM m m' R (bool false)) (∃(R_1:RT),True/\CX Tryz.prog 10 (Array.mk [agg (Array.mk bb)]) m' [] R_1/\ZbD
 (Shape.agg [Shape.int i64,Shape.slice,Shape.slice]) R_1/\∀(n:Int)(a:Option Addr)(bg c:Nat)(bh:Option Addr)(a1 bt:Nat)(a2:Mem),lV [int i64 n,slice a bg c,slice bh a1 bt] λbc=>m'.le a2->
 R_1 (agg (Array.mk bc)) a2 []->∀(b:Nat),∃(I:IT),lE (some (Box.mk b bc 32 3 false true)::xL) λxL=>inI I [int i64 (i64.wrap (i64.wrap ((1:Int)+(↑bg:Int))+(↑a1:Int))),int i64 0]
 [] [] a2/\∀(n ak:Int)(m':Mem)(bi:Nat),a2.le m'->I [int i64 n,int i64 ak] [] [] m' bi->br (decide (ak < (↑a1:Int))) (atA bh λb o=>Zad ak a1/\∃v ab:Value,m'.reads b (o
 + Int.toNat ak*2) [v,ab]/\∀(b:Nat),lE (some (Box.mk b [v,ab] 36 2 false true)::xL) λaf=>chk (v.oneCell'&&(ab.oneCell'&&true)) (chk (Zbr ab) (chk (Zbr ab) (∃(bd:IT),inI bd [int i64
 (i64.wrap (n+(↑(slN ab):Int))),int i64 0] [] [] m'/\∀(n ac:Int)(aa:Mem)(al:Nat),m'.le aa->bd [int i64 n,int i64 ac] [] [] aa al->br (decide (ac < (↑(slN ab):Int))) (chk (Zbr ab) (atA
 (slA ab) λb o=>Zad ac (slN ab)/\∃v ag ah ai am an ao ap a3 a4 a5 a6 aq ad ar au:Value,lV [v,ag,ah,ai,am,an,ao,ap,a3,a4,a5,a6,aq,ad,ar,au] λxL=>aa.reads b (o+Int.toNat ac*16) xL/\∀(b:Nat),chk
 (v.oneCell'&&(ag.oneCell'&&(ah.oneCell'&&(ai.oneCell'&&(am.oneCell'&&(an.oneCell'&&(ao.oneCell'&&(ap.oneCell'&&(a3.oneCell'&&(a4.oneCell' &&
 (a5.oneCell'&&(a6.oneCell'&&(aq.oneCell'&&(ad.oneCell'&&(ar.oneCell'&&(au.oneCell'&&true)))))))))))))))) (chk (Zbr ad) (chk (Zbr ad) (∃(I:IT),inI I [int i64
 (i64.wrap (n+(↑(slN ad):Int))),int i64 0] [] [] aa/\∀(n av:Int)(m':Mem)(bj:Nat),aa.le m'->I [int i64 n,int i64 av] [] [] m' bj->br (decide (av < (↑(slN ad):Int))) (chk (Zbr ad) (atA
 (slA ad) λbu o=>Zad av (slN ad)/\∃v a7 aj a8 a9 aw ax ay:Value,m'.reads bu (o+Int.toNat av*8) [v,a7,
 aj,a8,a9,aw,ax,ay]/\∀(bv:Nat),chk (v.oneCell'&&(a7.oneCell'&&(aj.oneCell'&&(a8.oneCell'&&(a9.oneCell'&&(aw.oneCell'&&(ax.oneCell'&&(ay.oneCell' &&
 true)))))))) (chk (Zbr aj) (Zac (some (Box.mk b xL 47 16 false true)::af)/\nxI bj I [int i64 (i64.wrap (n+(↑(slN aj):Int))),int i64 (i64.wrap (av+(1:Int)))] [] [] m')))) (Zac af/\nxI
 al bd [int i64 n,int i64 (i64.wrap (ac+(1:Int)))] [] [] m')))))) (Zac xL/\nxI bi I [int i64 n,int i64 (i64.wrap (ak+(1:Int)))] [] [] aa))))) (kS Tryz.prog 11 [agg (Array.mk bc)] m' λa ac
 c m'=>∃(b:Bool),lV [bool b] λaf=>br (!(↑ac:Int) == n) (Zac xL/\[bool true]=af) (kB Tryz.prog 12 [yL,agg (Array.mk a0)] m' λb m'=>br b (kB Tryz.prog 12 [agg (Array.mk a0),yL] m' λb m'=>br b
 (Zac xL/\[bool true]=af) (kB Tryz.prog 12 [yL,yL] m' λb m'=>Zac xL/\[bool b]=af)) (kB Tryz.prog 12 [yL,yL] m' λb m'=>Zac xL/\[bool b]=af))/\br b (rtM m m' R (bool false)) (∃(I:IT),inI
 I [int i64 0] [] [] m'/\∀(n:Int)(aa:Mem)(al:Nat),lE (i64.wrap (n - (2:Int))) λyL=>lE (Int.toNat n*5) λbe=>lE (i64.wrap (n - (1:Int))) λba=>m'.le aa->I [int i64 n] []
 [] aa al->br (decide (n < (↑ac:Int))) (∃(b:Bool),lV [bool b] λaz=>(∃(f:Fx),br (decide (n > (0:Int))) (atA a λb o=>Zad ba ac/\∃v ab ag ah ai:Value,lV [v,ab,ag,ah,ai] λbk=>aa.reads b (o+Int.toNat ba*5) bk/\atA a λb o=>Zad n ac/\∃v am an ao ap:Value,lV [agg (Array.mk
 bk),agg (Array.mk [v,am,an,ao,ap])] λbl=>aa.reads b (o+be) [v,am,an,ao,ap]/\∃(R:RT),R=f 12 bl aa/\CX Tryz.prog 12 (Array.mk bl) aa [] R/\ZbD Shape.bool R/\∀(b:Bool)(m':Mem),aa.le m'->R (bool b) m' []->br (!b) (∀(M:Mem),aa.le M->m'.le M->m'.le M->m'.le M->Zac xL/\[bool true]=az) (atA a λb o=>Zad n ac/\∃v a3 a4 a5 a6:Value,lV [v,a3,a4,a5,a6] λbm=>m'.reads b (o+be) bm/\atA a λb o=>Zad ba ac/\∃v aq ad ar au:Value,lV [agg
 (Array.mk bm),agg (Array.mk [v,aq,ad,ar,au])] λbn=>m'.reads b (o+Int.toNat ba*5) [v,aq,ad,ar,au]/\∃(R:RT),R=f 24 bn m'/\CX Tryz.prog 12 (Array.mk bn) m' [] R/\ZbD Shape.bool R/\∀(b:
 Bool) (ae:Mem),m'.le ae->R (bool b) ae []->br b (∀(M:Mem),aa.le M->m'.le M->ae.le M->ae.le M->Zac xL/\[bool true]=az) (br (decide (n > (1:Int))) (atA a λb o=>Zad yL ac/\
 ∃v a7 aj a8 a9:Value,lV [v,a7,aj,a8,a9] λbo=>ae.reads b (o+Int.toNat yL*5) bo/\atA a λb o=>Zad n ac/\∃v aw ax ay bp:Value,lV [agg (Array.mk bo),agg (Array.mk [v,aw,ax,ay,bp])] λbq=>ae.reads b (o+be) [v,aw,ax,ay,bp]/\∃(R:RT),R=f 39 bq ae/\CX Tryz.prog 12 (Array.mk bq)
 ae [] R/\ZbD Shape.bool R/\∀(b:Bool)(bf:Mem),ae.le bf->R (bool b) bf []->∀(M:Mem),aa.le M->m'.le M->ae.le M->bf.le M->Zac xL/\[bool !b]=az) (∀(M:Mem),aa.le M->
 m'.le M->ae.le M->ae.le M->Zac xL/\[bool false]=az)))) (∀(M:Mem),aa.le M->aa.le M->aa.le M->aa.le M->Zac xL/\[bool false]=az))/\br b (rtM m aa R (bool false)) (Zac
 xL/\nxI al I [int i64 (i64.wrap (n+(1:Int)))] [] [] aa)) (atA a λb o=>Zad (0:Int) ac/\∃v ab ag ah ai:Value,aa.reads b (o+0) [v,
 ab,ag,ah,ai]/\∃(b:Bool),EqIs Tryz.prog 27 (agg (Array.mk [v,ab,ag,ah,ai])) (agg (Array.mk [int i64 (-1:Int),int i64 (-1:Int),int i64 (-1:Int),int i64 (-1:Int),int i64 (-1:Int)])) b/\rtM m aa R
 (bool b)))))):CX Tryz.prog 3 #[.agg #[.int .u8 aB,.slice bA aX bD,.slice aW aO aY],.agg #[.int .i64 cZ,.int .i64 de,.int .i64 da,.int .i64 df,.int .i64 fF],.agg #[.int .i64 ga,.int .i64 gc,.int .i64 gd,.int .i64 ge,.int .i64 iP]] m [] R:=
 Zae (E:=ZeF) Zav mix Tryz.func3 (by kernel_rfl) (Eq.mp (by kernel_rfl) h)
end Go.Proofs.YtpjepnkiiojgfaaGreat
end
