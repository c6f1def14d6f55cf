/- Part of the proof: functions of the program. No condition. -/
import Derived.Test.YtpjepnkiiojgfaaGreatPC25AU
import Derived.Test.YtpjepnkiiojgfaaGreatPEnv
import Derived.Test.YtpjepnkiiojgfaaGreatMr
import Derived.Test.YtpjepnkiiojgfaaGreatPC25AW
import Derived.Test.YtpjepnkiiojgfaaGreatPC25MA
set_option linter.unusedVariables false
set_option linter.unusedSimpArgs false
set_option linter.unusedSectionVars false
noncomputable section
namespace Go.Proofs.YtpjepnkiiojgfaaGreat
open Go Go.Eng Go.Rx Go.Proofs Go.RowKit
set_option maxRecDepth 100000
theorem ZnV(L:List Pl):(L.map Pl.cs).flatten.length=L.length*5:=by
 induction L with
 | nil=>rfl
 | cons x l ih=>rw[List.map_cons,List.flatten_cons,zA1,ih,List.length_cons,Nat.succ_mul];show 5+_=_;omega
def PI(L:List Pl)(v t:Value)(m:Mem):Prop:=∃a c a1 n1 c1,v=.slice a L.length c/\t=.slice a1 n1 c1/\((a1=a/\n1=L.length/\c1=c)\/c < L.length+1)/\rowRd m a (L.map Pl.cs).flatten
theorem PI.mono{L:List Pl}{v t:Value}{m m':Mem}(h:PI L v t m)(hm:m.le m'):PI L v t m':=by
 obtain⟨a,c,a1,n1,c1,h1,h2,h3,h4⟩:=h
 exact⟨a,c,a1,n1,c1,h1,h2,h3,h4.mono hm⟩
theorem PI.app{L:List Pl}{a a1:Option Addr}{n c n1 c1:Nat}{m:Mem}{b:Nat}{Q:Option Addr->Nat->Mem->Prop}(z:Pl)(h:PI L (.slice a n c) (.slice a1 n1 c1) m)(hb:L.length<=30000)(hf:m.free b)
  (k:∀(a':Option Addr)(c':Nat)(m':Mem),m.le m'->PI (L++[z]) (.slice a' (n+1) c') (.slice a' (n+1) c') m'->Q a' c' m'):
  (Tok.mk (.slice a1 n1 c1) 5=Tok.mk (.slice a n c) 5\/Value.slice a n c=.slice none 0 0\/c < n+1)/\∃xs ys:List Value,xs.length=n*5/\ys.length=1*5/\rowRd (m.add b z.cs) a xs/\rowRd (m.add b z.cs) (some ⟨b,0,none⟩) ys/\(∀u∈ys,u.oneCell'=true)/\
   (n+1)*40<=140737488355328/\n+1<=9223372036854775807/\∀(a':Option Addr)(c':Nat)(m':Mem),(m.add b z.cs).le m'->rowRd m' a' (List.append xs ys)->Q a' c' m':=by
 obtain⟨a0,c0,a10,n10,c10,h1,h2,h3,h4⟩:=h
 simp only[Value.slice.injEq]at h1 h2
 obtain⟨rfl,rfl,rfl⟩:=h1
 obtain⟨rfl,rfl,rfl⟩:=h2
 have bH:m.le (m.add b z.cs):=Mem.le_add hf _
 refine⟨?_,(L.map Pl.cs).flatten,z.cs,ZnV L,rfl,h4.mono bH,.inr ⟨b,0,rfl,ZdH m b _⟩,?_,by omega,by omega,λa' c' m' hm' hr'=>k a' c' m' (mLt bH hm') ⟨a',c',a',L.length+1,c',?_,rfl,.inl ⟨rfl,?_,rfl⟩,?_⟩⟩
 ·rcases h3 with⟨e1,e2,e3⟩|h3
  ·rw[e1,e2,e3];exact .inl rfl
  ·exact .inr (.inr h3)
 ·intro u hu
  simp only[Pl.cs,List.mem_cons,List.not_mem_nil,or_false]at hu
  rcases hu with rfl|rfl|rfl|rfl|rfl <;> rfl
 ·rw[zA1];rfl
 ·rw[zA1];rfl
 ·rw[List.map_append,List.flatten_append]
  have:(List.map Pl.cs [z]).flatten=z.cs:=by simp
  rw[this];exact hr'
def ZrC(s:Sc):Value->Mem->List (List Value)->Prop:=λv m _=>∃a c,v=.slice a s.places.length c/\rowRd m a (s.places.map Pl.cs).flatten
theorem ZmL{s}:∀(v:Value)(m':Mem) (css:List (List Value)),ZrC s v m' css->Shape.fits .slice v=true:=λv _ _ ⟨_,_,e,_⟩=>by rw[e];rfl
set_option maxHeartbeats 4000000 in
theorem Zqy(s:Sc)(m:Mem)(hr:RepC m s):CX Tryz.prog 11 #[s.v] m [] (ZrC s):=by
 apply Ziy
 intro b m1 aF _
 have gx:=hr.vlen
 have dq:=hr.len
 unfold few at gx dq
 refine Zan (ZbI s m1 (hr.mono aF)) λm2 aO=>Zab (λhl=>?_) (λhl b2 nH=>?_)
 ·have hl:s.light=false:=by simpa using hl
  have he:s.places=[]:=by unfold Sc.places;rw[hl];rfl
  exact Zai (mLt aF aO) ⟨none,0,by rw[he];rfl,by rw[he];exact .inl rfl⟩
 have hl:s.light=true:=by simpa using hl
 have iK:m2.le (m2.add b2 (Pl.cs top)):=Mem.le_add nH _
 have cT:=mLt aF (mLt aO iK)
 have ip:=Znx s
 have po:=Zh0 hl
 rw[po,List.length_cons,zA1,show(ZcP s.vars.length Vf).length=s.vars.length from Ze0 _ _]at ip
 have hw:∀k:Nat,k<=100000->IntKind.i64.wrap ((k:Int)+1)=((k+1:Nat):Int):=λk hk=>by rw[Zak (by omega) (by omega)];rfl
 have start:PI [top] (.slice (some ⟨b2,0,none⟩) 1 1) (.slice none 0 0) (m2.add b2 (Pl.cs top)):=⟨_,1,_,_,_,rfl,rfl,.inr (by decide),.inr ⟨b2,0,rfl,by simpa using ZdH m2 b2 (Pl.cs top)⟩⟩
 refine⟨λxs _ tks m' q=>∃(i:Nat)(v t:Value),i<=s.vars.length/\xs=[v,.int .i64 i]/\tks=[t]/\PI (top::ZcP i Vf) v t m'/\q=s.vars.length - i,⟨s.vars.length,0,_,_,by omega,rfl,rfl,start,rfl⟩,?_⟩
 rintro a n c i' a1 n2 c1 m3 q aV ⟨i,v,t,hi,hx,ht,hP,rfl⟩
 simp only[List.cons.injEq,Value.int.injEq,and_true,true_and]at hx ht
 obtain⟨rfl,rfl⟩:=hx
 subst ht
 have cK:=mLt cT aV
 have tE:(ZcP i Vf).length=i:=Ze0 _ _
 refine Zaz (λaC b3 ft=>?_) (λbE=>?_)
 ·have aC:(i:Int) < (s.vars.length:Int):=aC
  refine PI.app ⟨i,-1,-1,-1,-1⟩ hP (by rw[List.length_cons,tE];omega) ft λa' c' m' hm' hP'=>⟨rfl,s.vars.length - (i+1),by omega,i+1,_,_,by omega,by rw[hw i (by omega)],rfl,?_,rfl⟩
  rw[ZbE];exact hP'
 have bE:¬(i:Int) < (s.vars.length:Int):=bE
 obtain rfl:i=s.vars.length:=by omega
 generalize hB:top::ZcP s.vars.length Vf=B at hP
 have wO:B.length=s.vars.length+1:=by rw[<-hB,List.length_cons,tE]
 refine⟨λxs _ tks m' q=>∃(i:Nat)(v t:Value),i<=s.states.length/\xs=[v,.int .i64 i]/\tks=[t]/\PI (B++ZcP i (Ff s)) v t m'/\q=s.states.length - i,⟨s.states.length,0,_,_,by omega,rfl,rfl,by simpa[ZcP]using hP,rfl⟩,?_⟩
 rintro a n c i' a1 n2 c1 m4 q bU ⟨i,v,t,hi,hx,ht,hP,rfl⟩
 simp only[List.cons.injEq,Value.int.injEq,and_true,true_and]at hx ht
 obtain⟨rfl,rfl⟩:=hx
 subst ht
 have gk:=mLt cK bU
 refine Zaz (λaC=>?_) (λbE=>?_)
 ·have aC:(i:Int) < (s.states.length:Int):=aC
  obtain⟨x,hx⟩:=ZcZ (show i < s.states.length by omega)
  have cL:=hr.all x (zA2 hx)
  have jT:=cL.len
  unfold few at jT
  have hF:Ff s i=plS i x:=by unfold Ff;rw[hx]
  have dd:(ZcP i (Ff s)).length+(plS i x).length<=(ZcP s.states.length (Ff s)).length:=by
   have:=Zov (show i+1<=s.states.length by omega) (Ff s)
   rw[ZbE,zA1,hF]at this;exact this
  rw[ZpZ,List.length_cons]at dd
  obtain⟨b3,o3,eE,jV⟩:=Zal Sta.len (hr.row.mono gk) hx (by omega)
  refine⟨b3,o3,eE,⟨by omega,aC⟩,_,_,jV,λb4=>Zaa rfl λb5 ie=>?_⟩
  refine PI.app ⟨-1,i,-1,-1,-1⟩ hP (by rw[zA1];omega) ie λa' c' m5 bW hP=>Zaa rfl ?_
  have ij:=mLt gk bW
  generalize kY:B++ZcP i (Ff s)=L1 at hP
  have eV:L1.length=B.length+(ZcP i (Ff s)).length:=by rw[<-kY,zA1]
  refine⟨λxs _ tks m' q=>∃(k:Nat)(v t:Value),k<=x.rules.length/\xs=[v,.int .i64 k]/\tks=[t]/\PI (L1++(⟨-1,i,-1,-1,-1⟩::ZcP k (Gf i x))) v t m'/\q=x.rules.length - k,⟨x.rules.length,0,_,_,by omega,rfl,rfl,by simpa[ZcP]using hP,rfl⟩,?_⟩
  rintro a n c k' a1 n2 c1 m6 q dt ⟨k,v,t,hk,hy,ht,hP,rfl⟩
  simp only[List.cons.injEq,Value.int.injEq,and_true,true_and]at hy ht
  obtain⟨rfl,rfl⟩:=hy
  subst ht
  have fu:=mLt ij dt
  refine Zaz (λdx=>?_) (λdF=>?_)
  ·have dx:(k:Int) < (x.rules.length:Int):=dx
   obtain⟨r,gC⟩:=ZcZ (show k < x.rules.length by omega)
   have fw:=cL.all r (zA2 gC)
   have mH:=fw.len
   unfold few at mH
   have hG:Gf i x k=plR i k r:=by unfold Gf;rw[gC]
   have e9:(ZcP k (Gf i x)).length+(plR i k r).length<=(ZcP x.rules.length (Gf i x)).length:=by
    have:=Zov (show k+1<=x.rules.length by omega) (Gf i x)
    rw[ZbE,zA1,hG]at this;exact this
   rw[ZpY,List.length_cons]at e9
   obtain⟨b6,o6,fI,mf⟩:=Zal Ru.len (cL.row.mono fu) gC (by omega)
   refine Zaa rfl ⟨b6,o6,fI,⟨by omega,dx⟩,_,_,_,_,_,_,_,_,_,_,_,_,_,_,_,_,mf,λb7=>Zaa rfl λb8 mr=>?_⟩
   refine PI.app ⟨-1,i,k,-1,-1⟩ hP (by rw[zA1,List.length_cons];omega) mr λa' c' m7 eF hP=>Zaa rfl ?_
   have vT:=mLt fu eF
   generalize tF:L1++(⟨-1,i,-1,-1,-1⟩::ZcP k (Gf i x))=L2 at hP
   have kx:L2.length=L1.length+1+(ZcP k (Gf i x)).length:=by rw[<-tF,zA1,List.length_cons];omega
   refine⟨λxs _ tks m' q=>∃(j:Nat)(v t:Value),j<=r.acts.length/\xs=[v,.int .i64 j]/\tks=[t]/\PI (L2++(⟨-1,i,k,-1,-1⟩::ZcP j (Hf i k r))) v t m'/\q=r.acts.length - j,⟨r.acts.length,0,_,_,by omega,rfl,rfl,by simpa[ZcP]using hP,rfl⟩,?_⟩
   rintro a n c j' a1 n2 c1 m8 q dX ⟨j,v,t,hj,hy,ht,hP,rfl⟩
   simp only[List.cons.injEq,Value.int.injEq,and_true,true_and]at hy ht
   obtain⟨rfl,rfl⟩:=hy
   subst ht
   have pF:=mLt vT dX
   refine Zaz (λfK=>?_) (λgH=>?_)
   ·have fK:(j:Int) < (r.acts.length:Int):=fK
    obtain⟨y,mg⟩:=ZcZ (show j < r.acts.length by omega)
    have gI:=fw.all y (zA2 mg)
    have rW:=gI.n
    unfold few at rW
    have hH:Hf i k r j=plA i k j y:=by unfold Hf;rw[mg]
    have fb:(ZcP j (Hf i k r)).length+(plA i k j y).length<=(ZcP r.acts.length (Hf i k r)).length:=by
     have:=Zov (show j+1<=r.acts.length by omega) (Hf i k r)
     rw[ZbE,zA1,hH]at this;exact this
    rw[ZpX,List.length_cons,show(ZcP y.parts.length (Pf i k j)).length=y.parts.length from Ze0 _ _]at fb
    obtain⟨b9,o9,vU,vV⟩:=Zal Ac.len (fw.row.mono pF) mg (by omega)
    refine Zaa rfl ⟨b9,o9,vU,⟨by omega,fK⟩,_,_,_,_,_,_,_,_,vV,λb10=>Zaa rfl λb11 j3=>?_⟩
    refine PI.app ⟨-1,i,k,j,-1⟩ hP (by rw[zA1,List.length_cons];omega) j3 λa' c' m9 gX hP=>Zaa rfl ?_
    generalize pC:L2++(⟨-1,i,k,-1,-1⟩::ZcP j (Hf i k r))=L3 at hP
    have qB:L3.length=L2.length+1+(ZcP j (Hf i k r)).length:=by rw[<-pC,zA1,List.length_cons];omega
    refine⟨λxs _ tks m' q=>∃(w:Nat)(v t:Value),w<=y.parts.length/\xs=[v,.int .i64 w]/\tks=[t]/\PI (L3++(⟨-1,i,k,j,-1⟩::ZcP w (Pf i k j))) v t m'/\q=y.parts.length - w,⟨y.parts.length,0,_,_,by omega,rfl,rfl,by simpa[ZcP]using hP,rfl⟩,?_⟩
    rintro a n c w' a1 n2 c1 m10 q ik ⟨w,v,t,wP,hy,ht,hP,rfl⟩
    simp only[List.cons.injEq,Value.int.injEq,and_true,true_and]at hy ht
    obtain⟨rfl,rfl⟩:=hy
    subst ht
    have pJ:(ZcP w (Pf i k j)).length=w:=Ze0 _ _
    refine Zaz (λjZ b12 jf=>?_) (λj0=>?_)
    ·have jZ:(w:Int) < (y.parts.length:Int):=jZ
     refine PI.app ⟨-1,i,k,j,w⟩ hP (by rw[zA1,List.length_cons,pJ];omega) jf λa' c' m' hm' hP'=>⟨rfl,rfl,y.parts.length - (w+1),by omega,w+1,_,_,by omega,by rw[hw w (by omega)],rfl,?_,rfl⟩
     rw[ZbE]
     simpa[Pf]using hP'
    ·have j0:¬(w:Int) < (y.parts.length:Int):=j0
     obtain rfl:w=y.parts.length:=by omega
     refine⟨rfl,rfl,r.acts.length - (j+1),by omega,j+1,_,_,by omega,by rw[hw j (by omega)],rfl,?_,rfl⟩
     rw[ZbE,hH,ZpX]
     rw[<-pC]at hP
     simpa using hP
   ·have gH:¬(j:Int) < (r.acts.length:Int):=gH
    obtain rfl:j=r.acts.length:=by omega
    refine⟨rfl,rfl,x.rules.length - (k+1),by omega,k+1,_,_,by omega,by rw[hw k (by omega)],rfl,?_,rfl⟩
    rw[ZbE,hG,ZpY]
    rw[<-tF]at hP
    simpa using hP
  ·have dF:¬(k:Int) < (x.rules.length:Int):=dF
   obtain rfl:k=x.rules.length:=by omega
   refine⟨rfl,rfl,s.states.length - (i+1),by omega,i+1,_,_,by omega,by rw[hw i (by omega)],rfl,?_,rfl⟩
   rw[ZbE,hF,ZpZ]
   rw[<-kY]at hP
   simpa using hP
 ·have bE:¬(i:Int) < (s.states.length:Int):=bE
  obtain rfl:i=s.states.length:=by omega
  obtain⟨a0,c0,a10,n10,c10,h1,h2,h3,h4⟩:=hP
  have he:B++ZcP s.states.length (Ff s)=s.places:=by rw[po,<-hB];rfl
  rw[he]at h1 h4
  rw[h1]
  exact⟨m4,gk,Mem.le_refl _,a0,c0,rfl,h4⟩
end Go.Proofs.YtpjepnkiiojgfaaGreat
namespace Go.Proofs.YtpjepnkiiojgfaaGreat
open Go Go.Eng Go.Proofs Go.RowKit
open Go.Value (int slice agg bool string tuple func)
open Go.IntKind (u8 u64 i64)
set_option maxRecDepth 100000
def ZmM:Env:={ EB with
 joins:=(λi=>bif Nat.beq i 1 then some [(6,.bool)]else none)
 frzNew:=[3] }
theorem Zkt(aA:Int)(aQ:Option Addr)(aM aT:Nat)(aK:Option Addr)(aH aS:Nat)(p1 p2:Int)(m:Mem)(R:RT)(h:
 lV [int i64 aA,slice aQ aM aT,slice aK aH aS] λxL=>fzM m xL λb m'=>∃(b_1:Bool),lV [bool b_1] λxL_1=>lE [some (Box.mk b xL 32 3 true true)] λxL_2=>(kB Tryz.prog 19 [agg
 (Array.mk xL)] m' λb m'=>br b (br (decide (p1 ≥ (0:Int))) (br (decide (p1 < (↑aH:Int))) (br (decide (p2 ≥ (0:Int))) (atA aK λb o=>Zae p1 aH/\∃(v:Value),m' b (o+Int.toNat p1*2+1) =
 some v/\chk (ZbK v) (Zac xL_2/\[bool (decide (p2 < (↑(slN v):Int)))]=xL_1)) (Zac xL_2/\[bool false]=xL_1)) (Zac xL_2/\[bool false]=xL_1)) (Zac xL_2/\[bool false]=xL_1)) (Zac xL_2/\[bool
 false]=xL_1))/\rtM m m' R (bool b_1)):CX Tryz.prog 47 #[.agg #[.int .i64 aA,.slice aQ aM aT,.slice aK aH aS],.int .i64 p1,.int .i64 p2] m [] R:=
 Zad (E:=ZmM) Zas mix Tryz.func47 (by kernel_rfl) (Eq.mp (by kernel_rfl) h)
def ZnW:Env:={ EB with
 dr:=(λi=>bif Nat.beq i 4 then[⟨0,[8],[],none,[],[]⟩,⟨1,[8],[],none,[0],[]⟩,⟨2,[],[],none,[],[]⟩,⟨3,[8],[],none,[],[]⟩,⟨4,[8],[],none,[3],[]⟩,⟨5,[],[],none,[],[]⟩,⟨6,[],[],none,[3,4,5],[]⟩,⟨7,[],[],none,[3,4,5,6],[]⟩,⟨8,[],[],none,[3,4,5,6,7],[]⟩,⟨9,[],[],none,[],[]⟩,⟨10,[],[],none,[],[]⟩,⟨11,[],[],none,[10],[]⟩,⟨12,[200],[200],none,[3,4,5,6,7,8,9,10,11],[]⟩]else[])
 borrow:=(λi=>bif Nat.beq i 29 then[200]else[])
 frzNew:=[3]
 acqB:=(λi=>bif Nat.beq i 4 then some 200 else none)
 thaw:=true
 stAt:=(λi=>bif Nat.beq i 31 then some 999 else none)
 last:=(λi=>bif Nat.beq i 4 then true else false)
 lastK:=(λi=>bif Nat.beq i 4 then 3 else 1)
 frz:=[200]
 kF:=true }
theorem Zht(aA:Int)(aQ:Option Addr)(aM aT:Nat)(aK:Option Addr)(aH aS:Nat)(p1 p2:Int)(m:Mem)(R:RT)(h:
 lV [int i64 p2,int i64 (i64.wrap (p2+(1:Int)))] λxL=>lE (Int.toNat p1*2) λyL=>lV [int i64 aA,slice aQ aM aT,slice aK aH aS] λxL_1=>fzM m xL_1 λb m'=>m.free b
 -> (∀(b' o:Nat)(u:Value),m' b' o=some u->m b' o=some u\/b'=b)->Mem.k m b=none->∀(b_1:Nat),kB Tryz.prog 47 [agg (Array.mk xL_1),int i64 p1,int i64 p2] m' λb_2 m'=>br (!b_2) (rtM m m' R (tuple
 (Array.mk [agg (Array.mk [int i64 0,slice none 0 0,slice none 0 0]),int i64 250]))) (∃(R_1:RT),True/\CX Tryz.prog 18 (Array.mk [agg (Array.mk xL_1)]) m' [] R_1/\Zbo (Shape.agg [Shape.int i64,Shape.slice,
 Shape.slice]) R_1/\∀(n:Int)(a:Option Addr)(n_1 c:Nat)(a_1:Option Addr)(n_2 c_1:Nat)(m'_1:Mem),lX (agg (Array.mk [int i64 n,slice a n_1 c,slice a_1 n_2 c_1])) λyL_1=>m'.le m'_1->R_1 yL_1
 m'_1 []->∀(b_3:Nat),∃(b_4:Nat),∃(cs:List Value),lM (Mem.off m'_1 λk=>k=b_4) λmL=>cs≠[]/\m'_1.reads b_4 0 cs/\m.free b_4/\(b≠b_4/\True)/\∀(T:TypeId)(cap:Nat),∃(f:Fx),
 atA a_1 λb_5 o=>Zae p1 n_2/\∃(v:Value),mL b_5 (o+yL+1)=some v/\∃(R_2:RT),R_2=f 12 (v::xL) mL/\CX Tryz.prog 48 (Array.mk (v::xL)) mL [Box.mk b_4 cs T cap false false] R_2/\Zbo
 Shape.slice R_2/\∀(a:Option Addr)(n c:Nat)(m':Mem),lX (slice a n c) λyL_2=>mL.le m'->∀(cs:List Value),R_2 yL_2 m' [cs]->∀(M:Mem),mL.le M->m'.le M->atA a_1 λb_6 o=>lM (Mem.upd
 M b_6 (o+yL+1) [yL_2]) λmL=>Zae p1 n_2/\(∃(vs:List Value),vs.length=1/\M.reads b_6 (o+yL+1) vs)/\m.free b_6/\true=true/\b≠b_6/\(mL.free b_4->Mem.k mL b_4=none->rtM m
 (mL.add b_4 cs) R (tuple (Array.mk [yL_1,int i64 0]))))):CX Tryz.prog 13 #[.agg #[.int .i64 aA,.slice aQ aM aT,.slice aK aH aS],.int .i64 p1,.int .i64 p2] m [] R:=
 Zad (E:=ZnW) Zas mix Tryz.func13 (by kernel_rfl) (Eq.mp (by kernel_rfl) h)
end Go.Proofs.YtpjepnkiiojgfaaGreat
namespace Go.Proofs.YtpjepnkiiojgfaaGreat
open Go Go.Eng Go.Rx Go.Proofs Go.RowKit Go.Shelf
set_option maxRecDepth 100000
def zRu:Value:=.agg #[.int .u8 0,.bool false,.bool false,.int .u8 0,.int .u64 0,.int .u64 0,.int .u64 0,.int .u64 0,.int .i64 0,.int .i64 0,.slice none 0 0,.string .empty,.int .i64 0,.slice none 0 0,.string .empty,.int .i64 0]
def Zv6:Ren:=⟨fun|45=>48|n=>n,fun|0=>0|3=>3|4=>4|22=>34|23=>47|n=>n,λn=>n⟩
theorem ZuE:DelLay Tryz.prog Zv6 16 zRu:=
 {mixed:=mix,f45:=⟨Tryz.f48.name,by kernel_rfl,by kernel_rfl⟩
  t0:=by kernel_rfl,a0:=Tryz.isAgg0,z0:=Tryz.sizeOf0,v0:=Tryz.zeroValue0
  t3:=Tryz.underlying3,a3:=Tryz.isAgg3,z3:=Tryz.sizeOf3,v3:=Tryz.zeroValue3
  t4:=Tryz.underlying4,a4:=Tryz.isAgg4,z4:=Tryz.sizeOf4,v4:=Tryz.zeroValue4
  t22:=Tryz.underlying34,a22:=Tryz.isAgg34,z22:=Tryz.sizeOf34,v22:=Tryz.zeroValue34
  z23:=Tryz.sizeOf47,v23:=Tryz.zeroValue47 }
theorem ZuF(m:Nat):∀u∈(Builtin.zeroCells zRu.cells m).toList,u.oneCell'=true:=by
 have jX:∀i,i < 16->(zRu.cells[i]!).oneCell'=true:=by decide
 intro u hu
 simp only[Builtin.zeroCells,Array.toList_map,List.mem_map]at hu
 obtain⟨i,_,rfl⟩:=hu
 exact jX _ (Nat.mod_lt _ (by decide))
theorem ZuG(l:List Ru)(b c i:Nat)(T:TypeId)(cap:Nat)(m:Mem)(hi:i < l.length)(hc:l.length<=c)(hm:l.length<=9223372036854775807):
  CX Tryz.prog 48 #[.slice (some ⟨b,0,none⟩) l.length c,.int .i64 i,.int .i64 (i+1:Nat)] m [⟨b,(l.map Ru.cs).flatten,T,cap,false,false⟩] (λv m' css=>v=.slice (some ⟨b,0,none⟩) (l.length - 1) c/\css=[((l.eraseIdx i).map Ru.cs).flatten++zRu.cells.toList]):=by
 obtain⟨i0,h1,h2⟩:∃i0,Tryz.prog.info? 47=some i0/\i0.size=16:=by
  obtain⟨x,h1,h2,_⟩:=(Zas 47 _ rfl).info
  exact⟨x,h1,h2⟩
 exact Zqe ZuE i0 h1 h2 rfl (Go.Eng.Zfr Tryz.func48 (by kernel_rfl) (by kernel_rfl)) (by decide) (by kernel_rfl) ZuF Ru.len Ru.one l b c i T cap m hi hc hm
end Go.Proofs.YtpjepnkiiojgfaaGreat
namespace Go.Proofs.YtpjepnkiiojgfaaGreat
open Go Go.Eng Go.Rx Go.Proofs Go.RowKit
set_option maxRecDepth 100000
theorem ZkZ(s:Sc)(i k:Int)(m:Mem)(hr:RepC m s):CX Tryz.prog 47 #[s.v,.int .i64 i,.int .i64 k] m [] (Ret (.bool (Zcj s i k))):=by
 apply Zkt
 intro b m1 aF _
 refine⟨Zcj s i k,Zan (ZbI s m1 (hr.mono aF)) λm2 aO=>?_,Zai aF rfl⟩
 refine Zab (λh1=>Zab (λh2=>Zab (λh3=>Zab (λh4=>?_) (λh4=>⟨rfl,?_⟩)) (λh3=>⟨rfl,?_⟩)) (λh2=>⟨rfl,?_⟩)) (λh1=>⟨rfl,?_⟩)
 ·have h2':0<=i:=zA6 h2
  have h3':i < s.states.length:=zA6 h3
  obtain⟨x,hx⟩:=Zav (l:=s.states) (k:=i.toNat) (by omega)
  obtain⟨bs,o,ha,bV⟩:=Zal Sta.len (hr.mono (mLt aF aO)).row hx (by omega)
  refine⟨bs,o,ha,⟨h2',h3'⟩,_,bV 1 _ rfl,Zaa rfl ⟨rfl,?_⟩⟩
  simp only[Zcj,h1,h2,h3,h4,hx,Bool.true_and]
  rfl
 ·simp only[Zcj,h1,h2,h3,h4,Bool.true_and,Bool.false_and]
 ·simp only[Zcj,h1,h2,h3,Bool.true_and,Bool.false_and]
 ·simp only[Zcj,h1,h2,Bool.true_and,Bool.false_and]
 ·simp only[Zcj,h1,Bool.false_and]
def ZwJ(s:Sc)(i k:Nat):Value->Mem->List (List Value)->Prop:=λv m' _=>∃s':Sc,v=.tuple #[s'.v,.int .i64 0]/\s'.er=(Ztc s i k).er/\RepC m' s'
theorem Zqz{s:Sc}{i k:Nat}:∀(v:Value)(m':Mem) (css:List (List Value)),ZwJ s i k v m' css->Shape.fits (.tup [.agg [.int .i64,.slice,.slice],.int .i64]) v=true:=λv _ _ ⟨t,e,_⟩=>by rw[e];rfl
theorem ZqA{s:Sc}{n:Int}{a a1:Option Addr}{p c p1 c1:Nat}(h:Value.agg #[.int .i64 n,.slice a p c,.slice a1 p1 c1]=s.v):n=s.n/\a=s.va/\p=s.vars.length/\c=s.vc/\a1=s.sa/\p1=s.states.length/\c1=s.sc:=by
 simpa[Sc.v,and_assoc]using h
theorem ZuH(s:Sc)(i k:Nat)(m:Mem)(hr:RepC m s)(hl:s.light=true){x:Sta}(hx:s.states[i]?=some x)(hk:k < x.rules.length):CX Tryz.prog 13 #[s.v,.int .i64 i,.int .i64 k] m [] (ZwJ s i k):=by
 have hi:=(zA0 hx).1
 have dq:s.states.length<=100000:=hr.len
 have hO:x.rules.length<=100000:=(hr.all x (zA2 hx)).len
 have fj:Zcj s i k=true:=by
  simp only[Zcj,hl,zA8,hx,Bool.true_and,zA7,decide_eq_true_eq]
  omega
 apply Zht
 intro b m1 aF mj fc vM eA b1
 have hc:=ZkZ s i k m1 (hr.mono aF)
 rw[fj]at hc
 refine Zan hc λm2 aO=>ZdJ rfl ?_
 have cT:=mLt aF aO
 refine Zam (Zo1 s m2 (hr.mono cT) hl) ZkX ?_
 rintro n a p c a1 p1 c1 m3 aV ⟨s',hv,j4,cM,dy⟩ b3
 obtain⟨rfl,rfl,rfl,rfl,rfl,rfl,rfl⟩:=ZqA hv
 obtain⟨x',hx',nV⟩:=ZwC j4 hx
 obtain⟨cD,cL,s4⟩:=ZoG nV
 have hk':k < x'.rules.length:=by omega
 have hi':=(zA0 hx').1
 rcases dy with h0|⟨bS,μ,dy⟩
 ·rw[h0]at hi';simp at hi'
 obtain⟨nI,⟨vW,mK⟩,bH,pw⟩:=dy.all i x' hx'
 rcases mK with h0|⟨bR,mF,rX,vX,lR⟩
 ·rw[h0]at hk';simp at hk'
 have aB:(μ i).reads bR 0 (x'.rules.map Ru.cs).flatten:=by
  rcases nI.row with h|⟨b',o',ha,h⟩
  ·have:=congrArg List.length h
   rw[ZaQ Ru.len]at this;simp at this;omega
  ·rw[mF]at ha;cases ha;exact h
 have kZ:(x'.rules.map Ru.cs).flatten.length=x'.rules.length*16:=ZaQ Ru.len _
 have jv:¬(μ i).free bR:=λhf=>by
  have:=aB 0 _ (zA3 (by omega))
  rw[hf]at this;cases this
 have qZ:bS≠bR:=λe=>jv (e ▸ pw)
 have e9:¬m2.free b:=λhf=>by
  have:=aO _ _ _ (mj 0 _ rfl)
  rw[hf]at this;cases this
 have eY:=mLt bH (Zh5 m2 m3)
 obtain⟨bs0,o0,ma,bP⟩:=Zal Sta.len cM.row hx' (by omega)
 rw[dy.sa]at ma
 simp only[Option.some.injEq,Addr.mk.injEq,and_true]at ma
 obtain⟨rfl,rfl⟩:=ma
 have bM:∀M:Mem,(m3.off λq=>q=bR).le M->M bS (0+i*2+1)=some (.slice x'.ra x'.rules.length x'.rc):=λM hM=>hM _ _ _ (by
  rw[Mem.off_at (Y:=λq=>q=bR) qZ];exact(Zh5 m2 m3) _ _ _ (bP 1 _ rfl))
 have pt:m.le (m3.off λq=>q=bR):=Zl3 (mLt cT aV) λq e=>⟨e ▸ Zby cT rX,e ▸ Zes cT vX⟩
 have hw:IntKind.i64.wrap ((k:Int)+1)=((k+1:Nat):Int):=by rw[Zak (by omega) (by omega)];rfl
 refine⟨bR,(x'.rules.map Ru.cs).flatten,λe=>?_,aB.mono eY,Zby cT rX,⟨λe=>e9 (e ▸ rX),trivial⟩,λT cap=>?_⟩
 ·rw[e]at kZ;simp at kZ;omega
 rw[hw]
 have hd:=ZuG x'.rules bR x'.rc k T cap (m3.off λq=>q=bR) hk' vW (by omega)
 rw[<-mF]at hd
 refine⟨λ_ _ _=>_,bS,0,dy.sa,⟨by omega,by omega⟩,_,bM _ (Mem.le_refl _),_,rfl,hd,(λv _ _ h=>by rw[h.1];rfl),?_⟩
 rintro a4 n4 c4 m4 bU cs4 ⟨tG,jC⟩ M hM gj
 simp only[Value.slice.injEq]at tG
 obtain⟨rfl,rfl,rfl⟩:=tG
 simp only[List.cons.injEq,and_true]at jC
 subst jC
 refine⟨bS,0,dy.sa,⟨by omega,by omega⟩,⟨[.slice x'.ra x'.rules.length x'.rc],rfl,λj v hj=>?_⟩,Zby cT dy.free.1,rfl,λe=>e9 (e ▸ dy.free.1),λtH _=>⟨_,mLt (Mem.le_upd (mLt pt hM) (Zby cT dy.free.1) _ _) (Mem.le_add tH _),Mem.le_refl _,⟨s'.n,s'.va,s'.vc,s'.vars,s'.sa,s'.sc,s'.states.set i (ZkA x' k)⟩,?_,?_,Zsg cM dy hx' mF hk' lR hM tH⟩⟩
 ·cases j with
  | zero=>simp at hj;subst hj;exact bM M hM
  | succ j=>simp at hj
 ·simp only[Sc.v,List.length_set]
 ·have h1:=Zrj j4
  have h2:Ztc s i k=⟨s.n,s.va,s.vc,s.vars,s.sa,s.sc,s.states.set i (ZkA x k)⟩:=by unfold Ztc;rw[hx]
  rw[h2]
  exact Zsd h1.1 h1.2 (by rw[List.map_set,List.map_set,Zh7 j4,Zse nV])
end Go.Proofs.YtpjepnkiiojgfaaGreat
namespace Go.Proofs.YtpjepnkiiojgfaaGreat
open Go Go.Eng Go.Proofs Go.RowKit
open Go.Value (int slice agg bool string tuple func)
open Go.IntKind (u8 u64 i64)
set_option maxRecDepth 100000
def ZiE:Env:=EB
theorem Zeb(p0:Int)(m:Mem)(R:RT)(h:
 ∀(b b:Nat),lE (u8.wrap (Int.tdiv p0 (64:Int))) λyL=>lE (1+Int.toNat yL*1) λyL_1=>lV (Zaw [int u8 2,int u64 0,int u64 0,int u64 0,int u64 0,int i64 0,int i64 0,slice none 0 0] yL_1
 [int u64 (u64.wrap ((1:Int)*(2:Int) ^ min (Int.toNat (Int.tmod p0 (64:Int))) 64))]) λxL=>(64:Int)≠(0:Int)/\(64:Int)≠(0:Int)/\(0:Int)<=Int.tmod p0 (64:Int)/\Zae yL 4/\chk
 (Nat.ble yL_1 (nat_lit 7)) (chk (Nat.beq (xL.length) 8&&Zc2 xL) (rtM m m R (agg (Array.mk xL))))):CX Tryz.prog 83 #[.int .u8 p0] m [] R:=
 Zad (E:=ZiE) Zas mix Tryz.func83 (by kernel_rfl) (Eq.mp (by kernel_rfl) h)
def Zf9:Env:=EB
theorem Zfk  (m:Mem)(R:RT)(h:
 ∀(b b:Nat),∃(R_1:RT),True/\CX Tryz.prog 83 (Array.mk [int u8 120]) m [] R_1/\Zbo (shT) R_1/\∀(n am an ao ap aq ar:Int)(a:Option Addr)(au c:Nat)(m':Mem),lV [int u8 n,int u64 am,int u64 an,int
 u64 ao,int u64 ap,int i64 aq,int i64 ar,slice a au c] λxL=>m.le m'->R_1 (agg (Array.mk xL)) m' []->∀(b:Nat),lM (m'.add b xL) λmL=>lV [int u8 6,int u64 0,int u64 0,int u64 0,int u64 0,int
 i64 0,int i64 0,slice (some (Addr.mk b 0 none)) 1 1] λxL=>m'.free b->∀(b:Nat),lX (slice (some (Addr.mk b 0 none)) 1 1) λyL=>mL.free b->∃(R_2:RT),True/\CX Tryz.prog 83 (Array.mk [int u8
 121]) (mL.add b xL) [] R_2/\Zbo (shT) R_2/\∀(n av aw ax ay az a0:Int)(a:Option Addr)(a1 c:Nat)(m':Mem),lV [int u8 n,int u64 av,int u64 aw,int u64 ax,int u64 ay,int i64 az,int i64 a0,slice a a1
 c] λah=>lV (int u8 5::int u64 0::int u64 0::int u64 0::int u64 0::int i64 1::int i64 (-1:Int)::yL::ah) λa2=>Mem.le (mL.add b xL) m'->R_2 (agg (Array.mk ah)) m' []->∀(b:Nat),lX
 (slice (some (Addr.mk b 0 none)) 2 2) λyL=>lM (m'.add b a2) λmL=>m'.free b->∀(b b:Nat),lM (mL.add b [string (ByteArray.mk (Array.mk [110])),bool true,string bE0,Value.float .f64 0]) λai=>mL.free b->∀(aa:Nat),lX (slice (some (Addr.mk aa 0 none)) 2 2) λa3=>lM (ai.add aa [int u8 9,Value.float .f64 0,string (ByteArray.mk (Array.mk
 [110])),int i64 0,slice none 0 0,int u8 8,Value.float .f64 4607182418800017408,string bE0,int i64 0,slice none 0 0]) λmL=>ai.free aa->∀(ab:Nat),lM
 (mL.add ab [int u8 9,Value.float .f64 0,string (ByteArray.mk (Array.mk [110])),int i64 0,slice none 0 0,int u8 8,Value.float .f64 4611686018427387904,string bE0,int i64 0,slice none 0 0]) λaj=>lV [int u8 3,string bE0,int i64 1,int u8 0,Value.float .f64 0,string bE0,int i64 0,slice none 0 0,int u8 4,
 string bE0,int i64 0,int u8 4,Value.float .f64 0,string bE0,int i64 0,slice (some (Addr.mk ab 0 none)) 2 2] λxL=>mL.free ab->∀(ac:Nat),lM
 (aj.add ac xL) λmL=>lV [int u8 3,string (ByteArray.mk (Array.mk [110])),slice none 0 0,int u8 2,Value.float .f64 0,string bE0,int i64 0,a3,int u8 1,string
 bE0,slice (some (Addr.mk ac 0 none)) 2 2,int u8 0,Value.float .f64 0,string bE0,int i64 0,slice none 0 0] λxL=>aj.free ac->∀(ad:Nat),lM
 (mL.add ad xL) λak=>lV [int u8 1,bool false,bool false,int u8 3,int u64 0,int u64 0,int u64 0,int u64 0,int i64 0,int i64 0,yL,string bE0,int i64 0,slice (some (Addr.mk ad
 0 none)) 2 2,string (ByteArray.mk (Array.mk [98])),int i64 0,int u8 4,bool false,bool false,int u8 0,int u64 0,int u64 0,int u64 0,int u64 0,int i64 0,int i64 0,slice none 0 0,string
 bE0,int i64 5,slice none 0 0,string bE0,int i64 1] λxL=>mL.free ad->∀(ae:Nat),lM (ak.add ae xL) λmL=>ak.free ae->∀(af:Nat),lM
 (mL.add af [int u8 3,bool false,bool false,int u8 0,int u64 0,int u64 0,int u64 0,int u64 0,int i64 0,int i64 0,slice none 0 0,string bE0,int i64 0,slice none 0 0,string
 bE0,int i64 0]) λal=>mL.free af->∀(ag:Nat),al.free ag->rtM m (al.add ag [string (ByteArray.mk (Array.mk [97])),slice (some (Addr.mk ae 0 none)) 2 2,string
 (ByteArray.mk (Array.mk [98])),slice (some (Addr.mk af 0 none)) 1 1]) R (agg (Array.mk [int i64 9,slice (some (Addr.mk b 0 none)) 1 1,slice (some (Addr.mk ag 0 none)) 2 2]))):CX Tryz.prog 41 #[] m [] R:=
 Zad (E:=Zf9) Zas mix Tryz.func41 (by kernel_rfl) (Eq.mp (by kernel_rfl) h)
def ZiF:Env:={ EB with
 joins:=(λi=>bif Nat.beq i 6 then some [(35,.bool)]else none) }
theorem Zg0  (m:Mem)(R:RT)(h:
 ∃(R_1:RT),True/\CX Tryz.prog 41 (Array.mk []) m [] R_1/\Zbo (Shape.agg [Shape.int i64,Shape.slice,Shape.slice]) R_1/\∀(n:Int)(a:Option Addr)(a6 c:Nat)(ah:Option Addr)(ai a7:Nat)(m':Mem),lV
 [int i64 n,slice a a6 c,slice ah ai a7] λxL=>lX (agg (Array.mk xL)) λyL=>m.le m'->R_1 yL m' []->∀(b:Nat),lE [some (Box.mk b xL 32 3 false true)] λxL=>atA ah λb o=>Zae (0:Int) ai/\∃
 (v:Value),m' b (o+0+1)=some v/\chk (ZbK v) (atA (slA v) λb o=>Zae (0:Int) (slN v)/\∃v aj ak al am an ao ap aq ar au av aw ax ay az:Value,lV [v,aj,ak,al,am,an,ao,ap,aq,ar,au,av,aw,ax,ay,az] λab=>
 lV [agg (Array.mk ab)] λac=>m'.reads b (o+0) ab/\∀(b:Nat),lE (some (Box.mk b ab 47 16 false true)::xL) λxL=>chk (v.oneCell'&&(aj.oneCell'&&(ak.oneCell'&&(al.oneCell'
 && (am.oneCell'&&(an.oneCell'&&(ao.oneCell'&&(ap.oneCell'&&(aq.oneCell'&&(ar.oneCell'&&(au.oneCell'&&(av.oneCell'&&(aw.oneCell'&&(ax.oneCell'
 && (ay.oneCell'&&(az.oneCell'&&true)))))))))))))))) (kS Tryz.prog 11 [yL] m' λa n c m'=>∃(R_2:RT),True/\CX Tryz.prog 13 (Array.mk [yL,int i64 0,int i64 0]) m' [] R_2/\Zbo (Shape.tup
 [Shape.agg [Shape.int i64,Shape.slice,Shape.slice],Shape.int i64]) R_2/\∀(a8:Int)(a9:Option Addr)(ba c:Nat)(bb:Option Addr)(bc bd:Nat)(a0:Int)(ad:Mem),lV [int i64 a8,slice a9 ba c,slice bb bc
 bd] λae=>m'.le ad->R_2 (tuple (Array.mk [agg (Array.mk ae),int i64 a0])) ad []->∀(b:Nat),lE (some (Box.mk b ae 32 3 false true)::xL) λxL=>kS Tryz.prog 32 [yL] ad λa1 af c m'=>∃(b:Bool),br
 (!a0 == (0:Int)) (Zac xL/\[bool true]=[bool b]) (br (!(↑n:Int) == (11:Int)) (Zac xL/\[bool true]=[bool b]) (Zac xL/\[bool !(↑af:Int) == (2:Int)]=[bool b]))/\br b (rtM m m' R (bool false)) (∃
 (R_3:RT),True/\CX Tryz.prog 21 (Array.mk [yL]) m' [] R_3/\Zbo (Shape.agg [Shape.int i64,Shape.int i64,Shape.int i64,Shape.int i64,Shape.int i64,Shape.int i64]) R_3/\∀(be bf bg bh bi bj:Int)(aa:Mem),lX
 (agg (Array.mk [int i64 be,int i64 bf,int i64 bg,int i64 bh,int i64 bi,int i64 bj])) λyL=>m'.le aa->R_3 yL aa []->∃(b:Bool),EqIs Tryz.prog 75 yL (agg (Array.mk [int i64 2,int i64 3,int i64 5,int
 i64 2,int i64 2,int i64 2])) b/\br b (atA a1 λb o=>Zae (0:Int) af/\∃(v:Value),aa b (o+0)=some v/\∀(b:Nat),aa.free b->kB Tryz.prog 38 [v,slice (some (Addr.mk b 0 none)) 1 1] (aa.add  b [int i64 1]) λb m'=>br b (atA a1 λb o=>Zae (1:Int) af/\∃(v:Value),m' b (o+1)=some v/\chk (ZbK v) (br ((↑(slN v):Int) == (0:Int)) (kS Tryz.prog 27 ac m' λbk bl c m'=>∀(b:Nat),
 m'.free b->kB Tryz.prog 42 [slice bk bl c,slice (some (Addr.mk b 0 none)) 1 1] (m'.add b [string (ByteArray.mk (Array.mk [110]))]) λb m'=>br b (kS Tryz.prog 28 ac m' λbm bn c m'=>∀(b:
 Nat),m'.free b->kB Tryz.prog 42 [slice bm bn c,slice (some (Addr.mk b 0 none)) 1 1] (m'.add b [string (ByteArray.mk (Array.mk [110]))]) λb m'=>br b (kI Tryz.prog 30 ac m' λbo m'=>br (bo ==
 (1:Int)) (atA a λb o=>Zae (5:Int) n/\∃v a2 a3 a4 a5:Value,m'.reads b (o+25) [v,a2,a3,a4,a5]/\∃(b:Bool),EqIs Tryz.prog 27 (agg
 (Array.mk [v,a2,a3,a4,a5])) (agg (Array.mk [int i64 (-1:Int),int i64 0,int i64 0,int i64 1,int i64 (-1:Int)])) b/\br b (∃(R_4:RT),True/\CX Tryz.prog 21 (Array.mk [agg (Array.mk ae)]) m' [] R_4/\Zbo
 (Shape.agg [Shape.int i64,Shape.int i64,Shape.int i64,Shape.int i64,Shape.int i64,Shape.int i64]) R_4/\∀(n bp bq bs bt bu:Int)(ag:Mem),lX (agg (Array.mk [int i64 n,int i64 bp,int i64 bq,int i64 bs,int
 i64 bt,int i64 bu])) λyL=>m'.le ag->R_4 yL ag []->∃(b:Bool),EqIs Tryz.prog 75 yL (agg (Array.mk [int i64 2,int i64 2,int i64 0,int i64 0,int i64 0,int i64 0])) b/\rtM m ag R (bool b)) (rtM m m' R
 (bool false))) (rtM m m' R (bool false))) (rtM m m' R (bool false))) (rtM m m' R (bool false))) (rtM m m' R (bool false)))) (rtM m m' R (bool false))) (rtM m aa R (bool false)))))):CX Tryz.prog 9 #[] m [] R:=
 Zad (E:=ZiF) Zas mix Tryz.func9 (by kernel_rfl) (Eq.mp (by kernel_rfl) h)
end Go.Proofs.YtpjepnkiiojgfaaGreat
namespace Go.Proofs.YtpjepnkiiojgfaaGreat
open Go Go.Eng Go.Rx Go.Proofs Go.RowKit
set_option maxRecDepth 100000
theorem ZwK(a b c d e f a' b' c' d' e' f':Int):EqIs Tryz.prog 75 (.agg (msV a b c d e f).toArray) (.agg (msV a' b' c' d' e' f').toArray) (decide ([a,b,c,d,e,f]=[a',b',c',d',e',f'])):=by
 refine⟨λw=>?_,λop ox oy w=>ZfS (by kernel_rfl) op ox oy _ _ w⟩
 have u3:=Tryz.underlying3
 have a3:=Tryz.isAgg3
 have z3:=Tryz.sizeOf3
 unfold msV
 rw[Op.equal,Op.maxDepth,show(10000:Nat)=9999+1 from rfl]
 rw[run_equalIn_agg _ _ _ _ _ (by kernel_rfl) (by kernel_rfl)]
 have hf:(Tryz.prog.fieldsOf 75).toList=[⟨ "States",3,0,false, "", "",0⟩,⟨ "Rules",3,1,false, "", "",8⟩,⟨ "Regex",3,2,false, "", "",16⟩,⟨ "Parts",3,3,false, "", "",24⟩,⟨ "Operators",3,4,false, "", "",32⟩,⟨ "Vars",3,5,false, "", "",40⟩]:=by kernel_rfl
 rw[hf]
 go_simp
 by_cases h1:a=a' <;> by_cases h2:b=b' <;> by_cases h3:c=c' <;> by_cases h4:d=d' <;> by_cases h5:e=e' <;> by_cases h6:f=f' <;> simp[h1,h2,h3,h4,h5,h6]
theorem Zxm(a b c d e a' b' c' d' e':Int):EqIs Tryz.prog 27 (.agg #[.int .i64 a,.int .i64 b,.int .i64 c,.int .i64 d,.int .i64 e]) (.agg #[.int .i64 a',.int .i64 b',.int .i64 c',.int .i64 d',.int .i64 e']) (a == a'&&b == b'&&c == c'&&d == d'&&e == e'):=by
 refine⟨λw=>?_,λop ox oy w=>ZfS (by kernel_rfl) op ox oy _ _ w⟩
 have u3:=Tryz.underlying3
 have a3:=Tryz.isAgg3
 have z3:=Tryz.sizeOf3
 rw[Op.equal,Op.maxDepth,show(10000:Nat)=9999+1 from rfl]
 rw[run_equalIn_agg _ _ _ _ _ (by kernel_rfl) (by kernel_rfl)]
 have hf:(Tryz.prog.fieldsOf 27).toList=[⟨ "Var",3,0,false, "", "",0⟩,⟨ "State",3,1,false, "", "",8⟩,⟨ "Rule",3,2,false, "", "",16⟩,⟨ "Action",3,3,false, "", "",24⟩,⟨ "Part",3,4,false, "", "",32⟩]:=by kernel_rfl
 rw[hf]
 go_simp
 by_cases h1:a=a' <;> by_cases h2:b=b' <;> by_cases h3:c=c' <;> by_cases h4:d=d' <;> by_cases h5:e=e' <;> simp[h1,h2,h3,h4,h5]
theorem Zv7(p q:Pl):EqIs Tryz.prog 27 (.agg p.cs.toArray) (.agg q.cs.toArray) (decide (p=q)):=by
 have h:=Zxm p.v p.s p.r p.a p.p q.v q.s q.r q.a q.p
 have e:(p.v == q.v&&p.s == q.s&&p.r == q.r&&p.a == q.a&&p.p == q.p)=decide (p=q):=by
  by_cases jF:p=q
  ·subst jF;simp
  ·rw[decide_eq_false jF,Bool.eq_false_iff]
   intro h
   simp only[zA7,beq_iff_eq]at h
   obtain⟨⟨⟨⟨h1,h2⟩,h3⟩,h4⟩,h5⟩:=h
   apply jF
   cases p;cases q
   simp only at h1 h2 h3 h4 h5
   subst h1 h2 h3 h4 h5;rfl
 rw[e]at h;exact h
theorem ZqB(l r:List Int)(a a':Option Addr)(c c':Nat)(m:Mem)(hl:l.length<=1000000000000000)(h1:rowRd m a (ZcI l))(h2:rowRd m a' (ZcI r)):
  CX Tryz.prog 38 #[.slice a l.length c,.slice a' r.length c'] m [] (Ret (.bool (decide (l=r)))):=by
 apply Zcz
 refine Zab (λh=>Zai (Mem.le_refl _) ?_) (λh=>?_)
 ·have cF:¬(l.length:Int)=r.length:=by simpa using h
  show Value.bool false=Value.bool _
  rw[decide_eq_false (λe=>cF (by rw[e]))]
 have aD:l.length=r.length:=by
  have:(l.length:Int)=r.length:=by simpa using h
  omega
 refine⟨λxs _ _ m' q=>∃i:Nat,i<=l.length/\xs=[.int .i64 i]/\l.take i=r.take i/\q=l.length - i,⟨l.length,0,by omega,rfl,rfl,rfl⟩,?_⟩
 rintro n m1 q aF ⟨i,hi,hx,heq,rfl⟩
 obtain rfl:n=i:=by simpa using hx
 refine Zaz (λaC=>?_) (λbE=>Zai aF ?_)
 ·obtain⟨x,hx⟩:=ZcZ (show i < l.length by omega)
  obtain⟨y,hy⟩:=ZcZ (show i < r.length by omega)
  obtain⟨b1,o1,gA,cL⟩:=Zvs (h1.mono aF) (show(ZcI l)[i]?=some (.int .i64 x) by unfold ZcI;rw[List.getElem?_map,hx];rfl)
  obtain⟨b2,o2,gn,iy⟩:=Zvs (h2.mono aF) (show(ZcI r)[i]?=some (.int .i64 y) by unfold ZcI;rw[List.getElem?_map,hy];rfl)
  refine⟨b1,o1,gA,⟨by omega,aC⟩,_,cL,b2,o2,gn,⟨by omega,by omega⟩,_,iy,Zaa rfl (Zab (λh=>Zai aF ?_) (λh=>?_))⟩
  ·have cF:¬x=y:=by
    intro e
    subst e
    have h:(!(x == x))=true:=h
    simp at h
   show Value.bool false=Value.bool _
   rw[decide_eq_false (λe=>cF (by subst e;rw[hx]at hy;exact Option.some.inj hy))]
  ·have e:x=y:=by
    have h:(!(x == y))=false:=h
    simpa using h
   subst e
   exact⟨l.length - (i+1),by omega,i+1,by omega,by rw[Zak (by omega) (by omega)];rfl,by rw[List.take_add_one,List.take_add_one,hx,hy,heq],rfl⟩
 ·have hi:i=l.length:=by omega
  subst hi
  show Value.bool true=Value.bool _
  rw[List.take_length,aD,List.take_length]at heq
  rw[decide_eq_true heq]
theorem Zjt(l r:List ByteArray)(a a':Option Addr)(c c':Nat)(m:Mem)(hl:l.length<=1000000000000000)(h1:rowRd m a (ZbZ l))(h2:rowRd m a' (ZbZ r)):
  CX Tryz.prog 42 #[.slice a l.length c,.slice a' r.length c'] m [] (Ret (.bool (decide (l=r)))):=by
 apply ZbJ
 refine Zab (λh=>Zai (Mem.le_refl _) ?_) (λh=>?_)
 ·have cF:¬(l.length:Int)=r.length:=by simpa using h
  show Value.bool false=Value.bool _
  rw[decide_eq_false (λe=>cF (by rw[e]))]
 have aD:l.length=r.length:=by
  have:(l.length:Int)=r.length:=by simpa using h
  omega
 refine⟨λxs _ _ m' q=>∃i:Nat,i<=l.length/\xs=[.int .i64 i]/\l.take i=r.take i/\q=l.length - i,⟨l.length,0,by omega,rfl,rfl,rfl⟩,?_⟩
 rintro n m1 q aF ⟨i,hi,hx,heq,rfl⟩
 obtain rfl:n=i:=by simpa using hx
 refine Zaz (λaC=>?_) (λbE=>Zai aF ?_)
 ·obtain⟨x,hx⟩:=ZcZ (show i < l.length by omega)
  obtain⟨y,hy⟩:=ZcZ (show i < r.length by omega)
  obtain⟨b1,o1,gA,cL⟩:=Zvs (h1.mono aF) (show(ZbZ l)[i]?=some (.string x) by unfold ZbZ;rw[List.getElem?_map,hx];rfl)
  obtain⟨b2,o2,gn,iy⟩:=Zvs (h2.mono aF) (show(ZbZ r)[i]?=some (.string y) by unfold ZbZ;rw[List.getElem?_map,hy];rfl)
  refine⟨b1,o1,gA,⟨by omega,aC⟩,_,cL,b2,o2,gn,⟨by omega,by omega⟩,_,iy,Zaa rfl (Zab (λh=>Zai aF ?_) (λh=>?_))⟩
  ·have cF:¬x=y:=by
    intro e
    subst e
    have h:(!(x.toList == x.toList))=true:=h
    simp at h
   show Value.bool false=Value.bool _
   rw[decide_eq_false (λe=>cF (by subst e;rw[hx]at hy;exact Option.some.inj hy))]
  ·have e:x=y:=by
    have h:(!(x.toList == y.toList))=false:=h
    have h:x.toList=y.toList:=by simpa using h
    rw[baL,baL]at h
    have:x.data=y.data:=Array.toList_inj.1 h
    cases x;cases y;exact congrArg _ this
   subst e
   exact⟨l.length - (i+1),by omega,i+1,by omega,by rw[Zak (by omega) (by omega)];rfl,by rw[List.take_add_one,List.take_add_one,hx,hy,heq],rfl⟩
 ·have hi:i=l.length:=by omega
  subst hi
  show Value.bool true=Value.bool _
  rw[List.take_length,aD,List.take_length]at heq
  rw[decide_eq_true heq]
theorem ZqC(m:Mem):CX Tryz.prog 83 #[.int .u8 120] m [] (Ret aeX.v):=by
 apply Zeb
 exact λb b'=>⟨by decide,by decide,by decide,⟨by decide,by decide⟩,Zaa rfl (Zaa rfl (Zai (Mem.le_refl _) rfl))⟩
theorem ZqD(m:Mem):CX Tryz.prog 83 #[.int .u8 121] m [] (Ret aeY.v):=by
 apply Zeb
 exact λb b'=>⟨by decide,by decide,by decide,⟨by decide,by decide⟩,Zaa rfl (Zaa rfl (Zai (Mem.le_refl _) rfl))⟩
theorem Zo6{t:T}:∀(v:Value)(m':Mem) (css:List (List Value)),Ret t.v v m' css->Shape.fits (.agg [.int .u8,.int .u64,.int .u64,.int .u64,.int .u64,.int .i64,.int .i64,.slice]) v=true:=λv _ _ h=>by rw[show v=_ from h];rfl
def ExR:Value->Mem->List (List Value)->Prop:=λv m' _=>∃g r c w l s p a r1 r2 S:Option Addr,v=(aeS g r c w l s p a r1 r2 S).v/\RepC m' (aeS g r c w l s p a r1 r2 S)
theorem ZuI:∀(v:Value)(m':Mem) (css:List (List Value)),ExR v m' css->Shape.fits (.agg [.int .i64,.slice,.slice]) v=true:=λv _ _ ⟨_,_,_,_,_,_,_,_,_,_,_,h,_⟩=>by rw[h];rfl
theorem ZxU{m:Mem}{cs:List Value}{f:Nat->Value}{K:Nat->Value->Mem->Prop}(k:∀b M,(m.free b->m.le M)->rowRd M (some ⟨b,0,none⟩) cs->K b (f b) M):∀b:Nat,lX (f b) (λy=>lM (m.add b cs) (λM=>K b y M)):=λb=>k b _ (λhf=>Mem.le_add hf _) ZaN
theorem Zv8{m:Mem}{cs:List Value}{K:Nat->Mem->Prop}(k:∀b M,(m.free b->m.le M)->rowRd M (some ⟨b,0,none⟩) cs->K b M):∀b:Nat,lM (m.add b cs) (λM=>K b M):=λb=>k b _ (λhf=>Mem.le_add hf _) ZaN
theorem ZuJ{M:Mem}{k:Int}{b x:Nat}(hk:0<=k/\k < 256)(h:rowRd M (some ⟨b,0,none⟩) (aeN.cs++(aeC x).cs)):RepE M (aeO k (some ⟨b,0,none⟩) x):=by
 rcases h with h|⟨b',o',ha,h⟩
 ·cases h
 cases ha
 unfold aeO
 simp only[RepE,RepEAt]
 refine⟨by show(2:Nat)<=1000000000000000;decide,.inr ⟨b,0,rfl,λj v hj=>h j v ?_,?_,λj v hj=>?_,?_,trivial⟩,⟨hk,by decide,by omega⟩⟩
 ·rw[zA5 (zA0 hj).1];exact hj
 ·simp only[aeN,RepE];exact⟨by decide,.inl trivial,⟨by decide,by decide,by decide⟩⟩
 ·rw[Nat.zero_add,Nat.add_comm,<-Nat.zero_add (j+5)]
  exact h (j+5) v (by rw[zA4 (by show 5<=j+5;omega)];exact hj)
 ·simp only[aeC,RepE];exact⟨by decide,.inl trivial,⟨by decide,by decide,by decide⟩⟩
theorem ZuK(M:Mem):RepE M aeE:=by simp only[aeE,RepE];exact⟨by decide,.inl trivial,⟨by decide,by decide,by decide⟩⟩
theorem ZuL(M:Mem):Rep M Zxz:=ZjU (by decide) (.inl rfl) (by constructor <;> decide)
theorem Zv9(M:Mem):Rep M aeX:=ZjU (by decide) (.inl rfl) (by constructor <;> decide)
theorem Zwa(M:Mem):Rep M aeY:=ZjU (by decide) (.inl rfl) (by constructor <;> decide)
theorem Zk0{M:Mem}{b:Nat}{cs:List Value}(h:rowRd M (some ⟨b,0,none⟩) cs):M.reads b 0 cs:=by
 rcases h with h|⟨b',o',ha,h⟩
 ·subst h;exact λj v hj=>by simp at hj
 ·cases ha;exact h
theorem Zwb{M:Mem}{g:Nat}(h:rowRd M (some ⟨g,0,none⟩) aeX.cs):Rep M (aeG (some ⟨g,0,none⟩)):=by
 refine ZjU (by show(1:Nat)<=1000000000000000;decide) (.inr ⟨g,0,rfl,?_⟩) (show OkN 6 0 0 0 0 0 0 by constructor <;> decide)
 show RepAt M g 0 [aeX]
 simp only[RepAt]
 exact⟨Zk0 h,Zv9 M,trivial⟩
theorem Zwc{M:Mem}{g:Option Addr}{r:Nat}(hg:Rep M (aeG g))(h:rowRd M (some ⟨r,0,none⟩) (aeG g).cs):Rep M (aeR g (some ⟨r,0,none⟩)):=by
 refine ZjU (by show(1:Nat)<=1000000000000000;decide) (.inr ⟨r,0,rfl,?_⟩) (show OkN 5 0 0 0 0 1 (-1) by constructor <;> decide)
 show RepAt M r 0 [aeG g]
 simp only[RepAt]
 exact⟨Zk0 h,hg,trivial⟩
theorem Zwd{M:Mem}{g r:Option Addr}{c:Nat}(hr:Rep M (aeR g r))(h:rowRd M (some ⟨c,0,none⟩) ((aeR g r).cs++aeY.cs)):Rep M (aeT g r (some ⟨c,0,none⟩)):=by
 have h:=Zk0 h
 refine ZjU (by show(2:Nat)<=1000000000000000;decide) (.inr ⟨c,0,rfl,?_⟩) (show OkN 3 0 0 0 0 0 0 by constructor <;> decide)
 show RepAt M c 0 [aeR g r,aeY]
 simp only[RepAt]
 refine⟨λj v hj=>h j v ?_,hr,λj v hj=>?_,Zwa M,trivial⟩
 ·rw[zA5 (zA0 hj).1];exact hj
 ·rw[Nat.zero_add,Nat.add_comm,<-Nat.zero_add (j+8)]
  exact h (j+8) v (by rw[zA4 (by show 8<=j+8;omega)];exact hj)
theorem ZuM:I64 5/\I64 1/\I64 0:=by unfold I64;omega
theorem ZnX(m:Mem):CX Tryz.prog 41 #[] m [] ExR:=by
 apply Zfk
 intro b b'
 refine⟨_,trivial,ZqC m,Zo6,?_⟩
 rintro n n1 n2 n3 n4 n5 n6 a n7 c m1 aF hv
 have hv:Value.agg _=Value.agg _:=hv
 simp only[aeX,T.k,T.s0,T.s1,T.s2,T.s3,T.mn,T.mx,T.a,T.subs,T.c,List.length_nil,Value.agg.injEq,Array.mk.injEq,List.cons.injEq,Value.int.injEq,Value.slice.injEq,true_and,and_true]at hv
 obtain⟨rfl,rfl,rfl,rfl,rfl,rfl,rfl,rfl,rfl,rfl⟩:=hv
 refine Zv8 λbg M1 l1 r1=>?_
 intro f1
 have l1:=l1 f1
 intro br f2
 have r2:=ZaN (m:=M1) (b:=br) (cs:=(aeG (some ⟨bg,0,none⟩)).cs)
 have l2:=Mem.le_add f2 (aeG (some ⟨bg,0,none⟩)).cs
 obtain⟨M2,dO⟩:∃M,M=M1.add br (aeG (some ⟨bg,0,none⟩)).cs:=⟨_,rfl⟩
 rw[<-dO]at r2 l2
 refine⟨_,trivial,ZqD _,Zo6,?_⟩
 rintro n n1 n2 n3 n4 n5 n6 a n7 c m3 aV hv
 have hv:Value.agg _=Value.agg _:=hv
 simp only[aeY,T.k,T.s0,T.s1,T.s2,T.s3,T.mn,T.mx,T.a,T.subs,T.c,List.length_nil,Value.agg.injEq,Array.mk.injEq,List.cons.injEq,Value.int.injEq,Value.slice.injEq,true_and,and_true]at hv
 obtain⟨rfl,rfl,rfl,rfl,rfl,rfl,rfl,rfl,rfl,rfl⟩:=hv
 have aV:M2.le m3:=by rw[dO];exact aV
 refine ZxU λbc M4 l4 r4=>?_
 intro f4 b2
 have l4:=l4 f4
 refine Zv8 λbv M5 l5 r5=>?_
 intro f5
 have l5:=l5 f5
 refine ZxU λbl M6 l6 r6=>?_
 intro f6
 have l6:=l6 f6
 refine Zv8 λbs M7 l7 r7=>?_
 intro f7
 have l7:=l7 f7
 refine Zv8 λbp M8 l8 r8=>?_
 intro f8
 have l8:=l8 f8
 refine Zv8 λba M9 l9 r9=>?_
 intro f9
 have l9:=l9 f9
 refine Zv8 λbx M10 l10 r10=>?_
 intro f10
 have l10:=l10 f10
 refine Zv8 λby' M11 l11 r11=>?_
 intro f11 bS f12
 have l11:=l11 f11
 have r12:=ZaN (m:=M11) (b:=bS) (cs:=([(⟨⟨#[97]⟩,some ⟨bx,0,none⟩,2,[ZoN (some ⟨bg,0,none⟩) (some ⟨br,0,none⟩) (some ⟨bc,0,none⟩) (some ⟨bl,0,none⟩) (some ⟨bs,0,none⟩) (some ⟨bp,0,none⟩) (some ⟨ba,0,none⟩),Zth]⟩:Sta),⟨⟨#[98]⟩,some ⟨by',0,none⟩,1,[Zud]⟩].map Sta.cs).flatten)
 have l12:=Mem.le_add f12 ([(⟨⟨#[97]⟩,some ⟨bx,0,none⟩,2,[ZoN (some ⟨bg,0,none⟩) (some ⟨br,0,none⟩) (some ⟨bc,0,none⟩) (some ⟨bl,0,none⟩) (some ⟨bs,0,none⟩) (some ⟨bp,0,none⟩) (some ⟨ba,0,none⟩),Zth]⟩:Sta),⟨⟨#[98]⟩,some ⟨by',0,none⟩,1,[Zud]⟩].map Sta.cs).flatten
 obtain⟨M12,ow⟩:∃M,M=M11.add bS ([(⟨⟨#[97]⟩,some ⟨bx,0,none⟩,2,[ZoN (some ⟨bg,0,none⟩) (some ⟨br,0,none⟩) (some ⟨bc,0,none⟩) (some ⟨bl,0,none⟩) (some ⟨bs,0,none⟩) (some ⟨bp,0,none⟩) (some ⟨ba,0,none⟩),Zth]⟩:Sta),⟨⟨#[98]⟩,some ⟨by',0,none⟩,1,[Zud]⟩].map Sta.cs).flatten:=⟨_,rfl⟩
 rw[<-ow]at r12 l12
 suffices hS:rtM m M12 ExR (aeS (some ⟨bg,0,none⟩) (some ⟨br,0,none⟩) (some ⟨bc,0,none⟩) (some ⟨bv,0,none⟩) (some ⟨bl,0,none⟩) (some ⟨bs,0,none⟩) (some ⟨bp,0,none⟩) (some ⟨ba,0,none⟩) (some ⟨bx,0,none⟩) (some ⟨by',0,none⟩) (some ⟨bS,0,none⟩)).v by
  rw[ow]at hS;exact hS
 have k11:=l12
 have k10:=mLt l11 k11
 have k9:=mLt l10 k10
 have k8:=mLt l9 k9
 have k7:=mLt l8 k8
 have k6:=mLt l7 k7
 have k5:=mLt l6 k6
 have k4:=mLt l5 k5
 have k3:=mLt l4 k4
 have k2:=mLt aV k3
 have k1:=mLt l2 k2
 have k0:=mLt aF (mLt l1 k1)
 have hG:=Zwb (r1.mono k1)
 have hR:=Zwc hG (r2.mono k2)
 have hT:=Zwd hR (r4.mono k4)
 refine ZaA k0 ⟨some ⟨bg,0,none⟩,some ⟨br,0,none⟩,some ⟨bc,0,none⟩,some ⟨bv,0,none⟩,some ⟨bl,0,none⟩,some ⟨bs,0,none⟩,some ⟨bp,0,none⟩,some ⟨ba,0,none⟩,some ⟨bx,0,none⟩,some ⟨by',0,none⟩,some ⟨bS,0,none⟩,rfl,?_⟩
 have vY:RepA M12 (Zxx (some ⟨bl,0,none⟩)):=⟨by show(0:Int)<=3/\(3:Int) < 256;decide,by show(ByteArray.mk #[110]).size<=_;decide,by show 0<=few;decide,.inl rfl,(λp hp=>by cases hp),ZuJ (by decide) (r6.mono k6)⟩
 have vZ:RepA M12 (Zxy (some ⟨bs,0,none⟩) (some ⟨bp,0,none⟩)):=by
  refine⟨by show(0:Int)<=1/\(1:Int) < 256;decide,by show(ByteArray.mk #[]).size<=_;decide,by show 2<=few;decide,r8.mono k8,λp hp=>?_,ZuK _⟩
  have hp:p∈[ZxS,ZxT (some ⟨bs,0,none⟩)]:=hp
  simp only[List.mem_cons,List.not_mem_nil,or_false]at hp
  rcases hp with rfl|rfl
  ·exact⟨by decide,by decide,by show I64 1;unfold I64;omega,ZuK _⟩
  ·exact⟨by show(0:Int)<=4/\(4:Int) < 256;decide,by show(ByteArray.mk #[]).size<=_;decide,by show I64 0;unfold I64;omega,ZuJ (by decide) (r7.mono k7)⟩
 refine⟨by show I64 9;unfold I64;omega,by show 1<=few;decide,r5.mono k5,?_,by show 2<=few;decide,r12,?_,Nat.le_refl _,Nat.le_refl _⟩
 ·intro v hv
  have hv:v∈[(⟨⟨#[110]⟩,true,⟨#[]⟩,0⟩:Va)]:=hv
  rw[List.mem_singleton]at hv;subst hv
  exact⟨by decide,by decide⟩
 ·intro x hx
  have hx:x∈[(⟨⟨#[97]⟩,some ⟨bx,0,none⟩,2,[ZoN _ _ _ _ _ _ _,Zth]⟩:Sta),⟨⟨#[98]⟩,some ⟨by',0,none⟩,1,[Zud]⟩]:=hx
  simp only[List.mem_cons,List.not_mem_nil,or_false]at hx
  rcases hx with rfl|rfl
  ·refine⟨by show(ByteArray.mk #[97]).size<=_;decide,by show 2<=few;decide,r10.mono k10,λr hr=>?_⟩
   simp only[List.mem_cons,List.not_mem_nil,or_false]at hr
   rcases hr with rfl|rfl
   ·refine⟨by show(0:Int)<=1/\(1:Int) < 256;decide,hT,by show(ByteArray.mk #[]).size<=_;decide,by show I64 0;unfold I64;omega,by show 2<=few;decide,r9.mono k9,λp hp=>?_,by show(ByteArray.mk #[98]).size<=_;decide,by show I64 0;unfold I64;omega⟩
    have hp:p∈[Zxx (some ⟨bl,0,none⟩),Zxy (some ⟨bs,0,none⟩) (some ⟨bp,0,none⟩)]:=hp
    simp only[List.mem_cons,List.not_mem_nil,or_false]at hp
    rcases hp with rfl|rfl
    ·exact vY
    ·exact vZ
   ·exact⟨by decide,ZuL _,by decide,ZuM.1,by decide,.inl rfl,(λp hp=>by cases hp),by decide,ZuM.2.1⟩
  ·refine⟨by show(ByteArray.mk #[98]).size<=_;decide,by show 1<=few;decide,r11.mono k11,λr hr=>?_⟩
   simp only[List.mem_cons,List.not_mem_nil,or_false]at hr
   subst hr
   exact⟨by decide,ZuL _,by decide,ZuM.2.2,by decide,.inl rfl,(λp hp=>by cases hp),by decide,ZuM.2.2⟩
theorem Zju{a b c d e f:Int}:∀(v:Value)(m':Mem) (css:List (List Value)),Ret (.agg (msV a b c d e f).toArray) v m' css->Shape.fits (.agg [.int .i64,.int .i64,.int .i64,.int .i64,.int .i64,.int .i64]) v=true:=λv _ _ h=>by rw[show v=_ from h];rfl
set_option maxHeartbeats 1000000 in
theorem ZnY(m:Mem):CX Tryz.prog 9 #[] m [] (Ret (.bool true)):=by
 apply Zg0
 refine⟨_,trivial,ZnX m,ZuI,?_⟩
 rintro n a n1 c a1 n2 c1 m1 aF ⟨g,r,cc,w,l,s,p,a0,r1,r2,S,hv,hr⟩ b1
 obtain⟨sc,jg⟩:∃sc,sc=aeS g r cc w l s p a0 r1 r2 S:=⟨_,rfl⟩
 rw[<-jg]at hv hr
 have hl:sc.light=true:=by rw[jg];exact Zsn g r cc w l s p a0 r1 r2 S
 have ip:sc.places.length=11:=by rw[jg];exact Zqf g r cc w l s p a0 r1 r2 S
 have v6:sc.places[5]?=some ⟨-1,0,0,1,-1⟩:=by rw[jg];exact Zqg g r cc w l s p a0 r1 r2 S
 have bB:Zjl sc=msV 2 3 5 2 2 2:=by rw[jg];exact Zue g r cc w l s p a0 r1 r2 S
 have tf:Zjl (Ztc sc 0 0)=msV 2 2 0 0 0 0:=by rw[jg];exact Zso g r cc w l s p a0 r1 r2 S
 have il:sc.states[0]?=some ⟨⟨#[97]⟩,r1,2,[ZoN g r cc l s p a0,Zth]⟩:=by rw[jg];rfl
 have di:sc.states[1]?=some ⟨⟨#[98]⟩,r2,1,[Zud]⟩:=by rw[jg];rfl
 have iH:sc.states.length=2:=by rw[jg];rfl
 have v7:ZuY sc.states ⟨⟨#[97]⟩,r1,2,[ZoN g r cc l s p a0,Zth]⟩=[1]:=by rw[jg];exact Zug g r cc w l s p a0 r1 r2 S
 have v8:ZuY sc.states ⟨⟨#[98]⟩,r2,1,[Zud]⟩=[]:=by rw[jg];exact Zuh g r cc w l s p a0 r1 r2 S
 obtain⟨rfl,rfl,rfl,rfl,rfl,rfl,rfl⟩:=ZqA hv
 obtain⟨b2,o2,gn,i9⟩:=Zal Sta.len hr.row il (by decide)
 have cD:=hr.all _ (zA2 il)
 have fw:(⟨⟨#[97]⟩,r1,2,[ZoN g r cc l s p a0,Zth]⟩:Sta).rules[0]?=some (ZoN g r cc l s p a0):=rfl
 obtain⟨b3,o3,eE,iZ⟩:=Zal Ru.len cD.row fw (by decide)
 have lR:=cD.all _ (zA2 fw)
 refine⟨b2,o2,gn,⟨by omega,by omega⟩,_,i9 1 _ rfl,Zaa rfl ⟨b3,o3,eE,⟨by show(0:Int)<=0;omega,by show(0:Int) < ((2:Nat):Int);omega⟩,_,_,_,_,_,_,_,_,_,_,_,_,_,_,_,_,iZ,λb4=>Zaa rfl ?_⟩⟩
 refine Zam (Zqy sc m1 hr) ZmL ?_
 rintro pa pn pc m2 aO ⟨pa',pc',rT,oz⟩
 simp only[Value.slice.injEq]at rT
 obtain⟨rfl,rfl,rfl⟩:=rT
 rw[ip]
 refine⟨_,trivial,ZuH sc 0 0 m2 (hr.mono aO) hl il (Nat.zero_lt_two),Zqz,?_⟩
 rintro n3 a3 n4 c3 a4 n5 c4 n6 m3 aV ⟨sd,tI,wb,qM⟩ b5
 have rY:(Value.agg #[.int .i64 n3,.slice a3 n4 c3,.slice a4 n5 c4]=sd.v)/\n6=0:=by
  simp only[Value.tuple.injEq,Array.mk.injEq,List.cons.injEq,Value.int.injEq,true_and,and_true]at tI
  exact tI
 obtain⟨wd,rfl⟩:=rY
 have mG:=mLt aO aV
 refine Zam (ZnS sc m3 (hr.mono mG)) ZsQ ?_
 rintro ta tn tc m4 bU ⟨ta',tc',L',bQ,fQ,lb,oA⟩
 simp only[Value.slice.injEq]at bQ
 obtain⟨rfl,rfl,rfl⟩:=bQ
 rw[hl,if_pos rfl]at fQ
 have we:L'.length=2:=by
  have:=congrArg List.length fQ
  rw[List.length_map,List.length_map,iH]at this;exact this
 obtain⟨y0,mP⟩:=ZcZ (show 0 < L'.length by omega)
 obtain⟨y1,tJ⟩:=ZcZ (show 1 < L'.length by omega)
 have e0:y0.l=[1]:=by
  have:=congrArg (λl=>l[0]?) fQ
  simp only[List.getElem?_map,mP,il,Option.map_some,Option.some.injEq]at this
  rw[this,v7]
 have e1:y1.l=[]:=by
  have:=congrArg (λl=>l[1]?) fQ
  simp only[List.getElem?_map,tJ,di,Option.map_some,Option.some.injEq]at this
  rw[this,v8]
 have gD:=mLt mG bU
 have hz:=Zo4 sc m4 (hr.mono gD)
 rw[bB]at hz
 refine⟨false,ZdJ rfl (ZdJ rfl ⟨rfl,by rw[we];rfl⟩),ZdJ rfl ⟨_,trivial,hz,Zju,?_⟩⟩
 rintro z1 z2 z3 z4 z5 z6 m5 bW fT
 have fT:Value.agg _=Value.agg _:=fT
 simp only[msV,Value.agg.injEq,Array.mk.injEq,List.cons.injEq,Value.int.injEq,true_and,and_true]at fT
 obtain⟨rfl,rfl,rfl,rfl,rfl,rfl⟩:=fT
 have nX:=mLt gD bW
 obtain⟨b6,o6,fI,rZ⟩:=Zal Il.len lb mP (by omega)
 obtain⟨b7,o7,rI,sb⟩:=Zal Il.len lb tJ (by omega)
 refine⟨_,ZwK 2 3 5 2 2 2 2 3 5 2 2 2,ZiK rfl ⟨b6,o6,fI,⟨by omega,by omega⟩,_,(rZ.mono bW) 0 _ rfl,λb8 mr=>?_⟩⟩
 have hE:=ZqB y0.l [1] y0.a (some ⟨b8,0,none⟩) y0.c 1 (m5.add b8 [.int .i64 1]) (by rw[e0];decide) ((oA y0 (zA2 mP)).mono (mLt bW (Mem.le_add mr _))) ZaN
 rw[decide_eq_true e0]at hE
 refine Zan hE λm6 dt=>ZiK rfl ⟨b7,o7,rI,⟨by omega,by omega⟩,_,(sb.mono (mLt bW (mLt (Mem.le_add mr _) dt))) 0 _ rfl,Zaa rfl (ZiK (by show(((y1.l.length:Nat):Int) == 0)=true;rw[e1];rfl) ?_)⟩
 have jX:=mLt nX (mLt (Mem.le_add mr _) dt)
 have tK:=ZsT (ZoN g r cc l s p a0) m6 (lR.mono jX)
 rw[Zsp]at tK
 refine Zam tK Zf6 ?_
 rintro ra rn rc m7 eF ⟨ra',rc',tL,oB⟩
 simp only[Value.slice.injEq]at tL
 obtain⟨rfl,rfl,rfl⟩:=tL
 intro b9 pK
 have tM:=Zjt [⟨#[110]⟩] [⟨#[110]⟩] ra (some ⟨b9,0,none⟩) rc 1 (m7.add b9 [.string ⟨#[110]⟩]) (by decide) (oB.mono (Mem.le_add pK _)) ZaN
 rw[decide_eq_true rfl]at tM
 refine Zan tM λm8 dX=>ZiK rfl ?_
 have pG:=mLt jX (mLt eF (mLt (Mem.le_add pK _) dX))
 have tN:=Zqx (ZoN g r cc l s p a0) m8 (lR.mono pG)
 rw[Zqh]at tN
 refine Zam tN Zf6 ?_
 rintro wa wn wc m9 gX ⟨wa',wc',pJ,oC⟩
 simp only[Value.slice.injEq]at pJ
 obtain⟨rfl,rfl,rfl⟩:=pJ
 intro b10 eZ
 have tO:=Zjt [⟨#[110]⟩] [⟨#[110]⟩] wa (some ⟨b10,0,none⟩) wc 1 (m9.add b10 [.string ⟨#[110]⟩]) (by decide) (oC.mono (Mem.le_add eZ _)) ZaN
 rw[decide_eq_true rfl]at tO
 refine Zan tO λm10 ik=>ZiK rfl ?_
 have oD:=mLt pG (mLt gX (mLt (Mem.le_add eZ _) ik))
 have tP:=ZuD (ZoN g r cc l s p a0) m10 (lR.mono oD)
 rw[Zuf]at tP
 refine ZbW tP λm11 je=>ZiK rfl ?_
 have se:=mLt oD je
 have wg:m2.le m11:=mLt aV (mLt bU (mLt bW (mLt (Mem.le_add mr _) (mLt dt (mLt eF (mLt (Mem.le_add pK _) (mLt dX (mLt gX (mLt (Mem.le_add eZ _) (mLt ik je))))))))))
 obtain⟨b12,o12,sf,oE⟩:=Zal (λp:Pl=>(rfl:p.cs.length=5)) (oz.mono wg) v6 (Nat.zero_lt_succ 4)
 refine⟨b12,o12,sf,⟨by omega,by omega⟩,_,_,_,_,_,oE,_,Zv7 ⟨-1,0,0,1,-1⟩ ⟨-1,0,0,1,-1⟩,ZiK rfl ?_⟩
 have wh:m3.le m11:=mLt bU (mLt bW (mLt (Mem.le_add mr _) (mLt dt (mLt eF (mLt (Mem.le_add pK _) (mLt dX (mLt gX (mLt (Mem.le_add eZ _) (mLt ik je)))))))))
 have tQ:=Zo4 sd m11 (qM.mono wh)
 rw[Zsr wb,tf,<-wd]at tQ
 refine⟨_,trivial,tQ,Zju,?_⟩
 rintro y1 y2 y3 y4 y5 y6 m12 sg pL
 have pL:Value.agg _=Value.agg _:=pL
 simp only[msV,Value.agg.injEq,Array.mk.injEq,List.cons.injEq,Value.int.injEq,true_and,and_true]at pL
 obtain⟨rfl,rfl,rfl,rfl,rfl,rfl⟩:=pL
 exact⟨_,ZwK 2 2 0 0 0 0 2 2 0 0 0 0,Zai (mLt aF (mLt se sg)) rfl⟩
end Go.Proofs.YtpjepnkiiojgfaaGreat
namespace Go.Proofs.YtpjepnkiiojgfaaGreat
open Go Go.Eng Go.Proofs Go.RowKit
open Go.Value (int slice agg bool string tuple func)
open Go.IntKind (u8 u64 i64)
set_option maxRecDepth 100000
def ZnZ:Env:={ EB with
 loops:=(λi=>bif Nat.beq i 7 then⟨[(27,.int .i64)],[4,7],[(61,2)],false⟩ else⟨[],[],[],false⟩)
 joins:=(λi=>bif Nat.beq i 10 then some [(48,.bool)]else none)
 dr:=(λi=>bif Nat.beq i 13 then[⟨0,[7],[],none,[],[]⟩,⟨1,[7],[],none,[0],[]⟩,⟨2,[6],[],none,[],[]⟩,⟨3,[6],[],none,[2],[]⟩,⟨4,[],[],none,[],[]⟩,⟨5,[],[],none,[2,3,4],[]⟩,⟨6,[],[],none,[2,3,4,5],[]⟩,⟨7,[60],[60],none,[2,3,4,5,6],[]⟩,⟨8,[60],[],some 61,[0,1,2,3,4,5,6,7],[7]⟩,⟨9,[7],[],none,[0,1,2,3,4,5,6,7,8],[]⟩,⟨10,[7],[7],none,[0,1,2,3,4,5,6,7,8,9],[]⟩]else[])
 tokOf:=(λi=>bif Nat.beq i 61 then 61 else 0)
 frzNew:=[2]
 thaw:=true
 kF:=true }
theorem Zhu(aA:Int)(aQ:Option Addr)(aM aT:Nat)(aK:Option Addr)(aH aS:Nat)(p1a:Option Addr)(p1n p1c:Nat)(m:Mem)(R:RT)(h:
 lV [int i64 aA,slice aQ aM aT,slice aK aH aS] λxL=>fzM m xL λb m'=>lE [some (Box.mk b xL 32 3 true true)] λan=>m.free b->(∀(b' o:Nat)(u:Value),m' b' o=some u->m b' o =
 some u\/b'=b)->Mem.k m b=none->∀(b:Nat),kB Tryz.prog 19 [agg (Array.mk xL)] m' λax m'=>br (!ax) (rtM m m' R (tuple (Array.mk [agg (Array.mk [int i64 0,slice none 0 0,slice none 0 0]),int i64 250])))
 (∃(R_1:RT),True/\CX Tryz.prog 18 (Array.mk [agg (Array.mk xL)]) m' [] R_1/\Zbo (Shape.agg [Shape.int i64,Shape.slice,Shape.slice]) R_1/\∀(n:Int)(a:Option Addr)(ao c:Nat)(ap:Option Addr) (ai ay:
 Nat) (ad:Mem),lV [int i64 n,slice a ao c,slice ap ai ay] λxL=>m'.le ad->R_1 (agg (Array.mk xL)) ad []->∀(az aq ae:Nat),lE (some (Box.mk az xL 32 3 false true)) λyL=>ad.free ae->Mem.k ad ae
 = none->∃(I:IT),inI I [int i64 0] [[int i64 0,slice none 0 0,slice none 0 0],[int i64 n,slice a ao c,slice none 0 0]] [slice none 0 0] (Mem.updK ad ae [])/\∀(n:Int)(cs aa:List Value)(a:Option Addr)
 (a0 c:Nat) (m':Mem) (ar:Nat),lX (slice a a0 c) λaj=>lE [some (Tok.mk aj 2)] λxL=>lE (some (Box.mk aq aa 32 3 false true)::yL::some (Box.mk b cs 32 3 false true)::an) λa1=>True->I [int i64 n]
 [cs,aa] [aj] m' ar->br (decide (n < (↑p1n:Int))) (atA p1a λa2 o=>Zae n p1n/\∃(v:Value),lE (Za0 i64 v&&decide (i64=i64)) λau=>m' a2 (o+Int.toNat n*1)=some v/\∃(av:Nat),∃(es:List
 (Value×Value)),∃(aw:Value),∃(o:Bool),lV (Array.toList (Value.cells aw)) λak=>Value.map (some ae)=Value.map (some av)/\Mem.k m' av=some es/\ZmU Tryz.prog 3 v/\LookIs Tryz.prog 3 v es (agg
 (Array.mk [])) aw o/\∀(a3:Nat),lE (some (Box.mk a3 ak 116 0 false true)::a1) λal=>chk (Nat.beq (ak.length) 0&&Zc2 ak) (∃(ag:Bool),br o (Zac al/\xL=xL/\[bool true]=[bool ag]) (chk au (br
 (decide (RowKit.intOf v < (0:Int))) (Zac al/\xL=xL/\[bool true]=[bool ag]) (chk au (Zac al/\xL=xL/\[bool (decide (RowKit.intOf v ≥ (↑ai:Int)))]=[bool ag]))))/\br ag (rtM m m' R (tuple (Array.mk
 [agg (Array.mk [int i64 0,slice none 0 0,slice none 0 0]),int i64 250]))) (∃(ah:Nat),∃(es:List (Value×Value)),∃(es':List (Value×Value)),lM (Mem.updK m' ah es') λmL=>Value.map (some ae) =
 Value.map (some ah)/\Mem.k m' ah=some es/\ZmU Tryz.prog 3 v/\ZgE Tryz.prog 3 v (agg (Array.mk [])) es es'/\Mem.k m ah=none/\Eng.ZrL aa 2 λab=>lE (slN ab+1) λac=>chk (Zb5 v) (atA ap λa4
 o=>Zae (RowKit.intOf v) ai/\∃a5 a6:Value,lV [a5,a6] λxL=>mL.reads a4 (o+Int.toNat (RowKit.intOf v)*2) xL/\∀(am:Nat),lM (mL.add am xL) λaf=>mL.free am->chk (ZbK
 ab&&true) ((Tok.mk aj 2=Tok.mk ab 2\/ab=slice none 0 0\/slC ab < ac)/\∃(xs:List Value),∃(ys:List Value),xs.length=slN ab*2/\ys.length=1*2/\rowRd af (slA ab) xs/\rowRd af (some
 (Addr.mk am 0 none)) ys/\(∀(u:Value),u∈ys->u.oneCell'=true)/\ac*40<=140737488355328/\ac<=9223372036854775807/\∀(a':Option Addr)(c':Nat)(m':Mem),af.le m'->rowRd m' a' (List.append xs
 ys)->TokFact af (slA ab) a' ac c'->chk (Nat.ble 3 (aa.length)) (∀(M:Mem),mL.le M->af.le M->m'.le M->Zac (some (Box.mk aq [] 32 3 false true)::yL::some (Box.mk b [] 32 3 false true) ::
 an)/\nxI ar I [int i64 (i64.wrap (n+(1:Int)))] [cs,Zaw aa 2 [slice a' ac c']] [slice a' ac c'] M)))))) (chk (Nat.beq (aa.length) 3&&Zc2 aa) (rtM m m' R (tuple (Array.mk [agg (Array.mk aa),int
 i64 0])))))):CX Tryz.prog 15 #[.agg #[.int .i64 aA,.slice aQ aM aT,.slice aK aH aS],.slice p1a p1n p1c] m [] R:=
 Zad (E:=ZnZ) Zas mix Tryz.func15 (by kernel_rfl) (Eq.mp (by kernel_rfl) h)
end Go.Proofs.YtpjepnkiiojgfaaGreat
namespace Go.Proofs.YtpjepnkiiojgfaaGreat
open Go Go.Eng Go.Rx Go.Proofs Go.RowKit
set_option maxRecDepth 100000
theorem ZsU(a b:Int):EqIs Tryz.prog 3 (.int .i64 a) (.int .i64 b) (decide (a=b)):=Zn6 Tryz.underlying3 (by simp[Instr.sameNow];rfl) (λop ox oy w=>by cases op <;> simp[eqGuard])
def ZwL(s:Sc)(L:List Nat):Value->Mem->List (List Value)->Prop:=λv m' _=>∃k:Sc,v=.tuple #[k.v,.int .i64 0]/\k.n=s.n/\k.vars=s.vars/\k.states.map (λx=>some x.er)=L.map (λi=>(s.states[i]?).map Sta.er)/\RepC m' k
theorem ZqE{s:Sc}{L:List Nat}:∀(v:Value)(m':Mem) (css:List (List Value)),ZwL s L v m' css->Shape.fits (.tup [.agg [.int .i64,.slice,.slice],.int .i64]) v=true:=λv _ _ ⟨t,e,_⟩=>by rw[e];rfl
set_option maxHeartbeats 1000000 in
theorem ZuN(s:Sc)(L:List Nat)(la:Option Addr)(lc:Nat)(m:Mem)(hr:RepC m s)(hl:s.light=true)(aB:rowRd m la (L.map λi:Nat=>Value.int .i64 i))(hL:∀i∈L,i < s.states.length)(hn:L.Nodup)(aD:L.length<=1000):CX Tryz.prog 15 #[s.v,.slice la L.length lc] m [] (ZwL s L):=by
 have dq:s.states.length<=100000:=hr.len
 apply Zhu
 intro b m1 aF _ _ _ _ b1
 have kY:=ZbI s m1 (hr.mono aF)
 rw[hl]at kY
 refine Zan kY λm2 aO=>ZdJ rfl ?_
 have cT:=mLt aF aO
 refine Zam (Zo1 s m2 (hr.mono cT) hl) ZkX ?_
 rintro n a p c a1 p1 c1 m3 aV ⟨s',hv,j4,jh,_⟩ b2 b3 bm wi cI
 obtain⟨rfl,rfl,rfl,rfl,rfl,rfl,rfl⟩:=ZqA hv
 have cM:=jh.mono (Zh5 m2 m3)
 have cK:=mLt cT aV
 have fC:m.k bm=none:=Zes cK cI
 have ji:=Zt6 j4
 obtain⟨qR,ju⟩:=Zrj j4
 refine⟨λxs css tvs mm q=>∃(i:Nat)(K:List Sta)(ka:Option Addr)(kc:Nat),i<=L.length/\K.length=i/\xs=[.int .i64 i]/\css=[[.int .i64 0,.slice none 0 0,.slice none 0 0],[.int .i64 s'.n,.slice s'.va s'.vars.length s'.vc,.slice ka K.length kc]]/\tvs=[.slice ka K.length kc]/\m3.le mm/\mm.k bm=some (Ztd (λz:Nat=>Value.int .i64 z) (λ_:Unit=>Value.agg (Array.mk [])) ((L.take i).map λz=>(z,())))/\K.map (λx=>some x.er)=(L.take i).map (λi=>(s.states[i]?).map Sta.er)/\K.length<=kc/\rowRd mm ka (K.map Sta.cs).flatten/\(∀x∈K,RepS m3 x)/\q=L.length - i,⟨L.length,0,[],none,0,by omega,rfl,rfl,rfl,rfl,Mem.le_updK (Mem.le_refl _) cI _,Mem.updK_same _ _ _,rfl,Nat.le_refl _,.inl rfl,(λx hx=>by cases hx),rfl⟩,?_⟩
 rintro z cs0 cs1 ka kn kc mm q _ ⟨i,K,ka',kc',hi,si,hz,bC,bQ,hM,hk,sj,tR,pM,tS,rfl⟩
 obtain rfl:z=i:=by simpa using hz
 obtain⟨rfl,rfl⟩:cs0=_/\cs1=_:=by simpa using bC
 simp only[List.cons.injEq,Value.slice.injEq,and_true]at bQ
 obtain⟨rfl,rfl,rfl⟩:=bQ
 have e8:IntKind.i64.wrap ((i:Int)+1)=((i+1:Nat):Int):=by rw[Zak (by omega) (by omega)];rfl
 have fL:=mLt cK hM
 refine Zaz (λaC=>?_) (λbE=>Zaa rfl (ZaA fL ?_))
 ·have aC:(i:Int) < (L.length:Nat):=aC
  obtain⟨l,eV⟩:=ZcZ (show i < L.length by omega)
  have sk:=zA2 eV
  have iO:=hL l sk
  obtain⟨b4,o4,gu,jC⟩:=Zvs (aB.mono fL) (show(L.map λi:Nat=>Value.int .i64 i)[i]?=some (.int .i64 l) by rw[List.getElem?_map,eV];rfl)
  have gp:l ∉ ((L.take i).map λz=>(z,())).map (·.1):=by
   rw[List.map_map]
   intro dH
   obtain⟨z,hz,rfl⟩:=List.mem_map.1 dH
   obtain⟨j,hj⟩:=List.getElem?_of_mem hz
   have ic:j < i:=by have:=(zA0 hj).1;rw[List.length_take]at this;omega
   rw[List.getElem?_take_of_lt ic]at hj
   have hj:L[j]?=some z:=hj
   obtain⟨g1,g2⟩:=zA0 hj
   obtain⟨g3,g4⟩:=zA0 eV
   have:=(List.getElem_inj (h₀:=g1) (h₁:=g3) hn).1 (g2.trans g4.symm)
   omega
  have heq:∀a b:Nat,EqIs Tryz.prog 3 (.int .i64 (a:Int)) (.int .i64 (b:Int)) (decide (a=b)):=λa b=>by
   have:=ZsU a b
   rwa [show decide ((a:Int)=(b:Int))=decide (a=b) by congr 1;exact propext (by omega)]at this
  have ga:=Zib (f:=λz:Nat=>Value.int .i64 z) (g:=λ_:Unit=>Value.agg (Array.mk [])) heq l _ gp
  have sm:=Zl7 (f:=λz:Nat=>Value.int .i64 z) (g:=λ_:Unit=>Value.agg (Array.mk [])) heq l () _ gp
  obtain⟨x,hx⟩:∃x,s'.states[l]?=some x:=⟨s'.states[l]'(by omega),zA3 (by omega)⟩
  refine⟨b4,o4,gu,⟨by omega,aC⟩,_,jC,bm,_,_,false,rfl,hk,Zdr Tryz.underlying3 _,⟨none,ga,rfl,rfl⟩,λb5=>Zaa rfl ⟨false,ZdJ rfl (Zaa rfl (ZdJ (decide_eq_false (by show ¬(l:Int) < 0;omega)) (Zaa rfl ⟨rfl,rfl,by show[Value.bool (decide ((l:Int) ≥ (s'.states.length:Nat)))]=_;rw[decide_eq_false (by omega)]⟩))),ZdJ rfl ⟨bm,_,_,rfl,hk,Zdr Tryz.underlying3 _,sm,fC,Zaf rfl (Zaa rfl ?_)⟩⟩⟩
  have oF:m3.le (mm.updK bm (Ztd (λz:Nat=>Value.int .i64 z) (λ_:Unit=>Value.agg (Array.mk [])) (((L.take i).map λz=>(z,()))++[(l,())]))):=Mem.le_updK hM cI _
  obtain⟨b6,o6,fI,cL⟩:=Zal Sta.len (cM.mono oF).row hx (by omega)
  have dS:L.take (i+1)=L.take i++[l]:=by rw[List.take_add_one,eV];rfl
  obtain⟨x0,il,nV⟩:=ZwC j4.symm hx
  refine⟨b6,o6,fI,⟨by show(0:Int)<=l;omega,by show(l:Int) < (s'.states.length:Nat);omega⟩,_,_,cL,λb7 iq=>Zaa rfl (Zb0 Sta.len Sta.one iq x (show rowRd (mm.updK bm _) ka (K.map Sta.cs).flatten from pM) 40 (by omega) (by omega) (.inl rfl) λa8 c8 m8 dX df gl=>Zaa rfl λM eR dO eu=>⟨rfl,L.length - (i+1),by omega,i+1,K++[x],a8,c8,by omega,by simp[si],by rw[e8],by rw[zA1];rfl,by rw[zA1];rfl,mLt oF eR,?_,?_,by rw[zA1];exact gl.1,df.mono eu,λy hy=>?_,rfl⟩)⟩
  ·rw[dS,List.map_append]
   exact eR.k _ _ (Mem.updK_same _ _ _)
  ·rw[dS,List.map_append,List.map_append,sj]
   congr 1
   simp only[List.map_cons,List.map_nil,il,Option.map_some,nV]
  ·rcases List.mem_append.1 hy with hy|hy
   ·exact tS y hy
   ·rw[List.mem_singleton]at hy;subst hy
    exact cM.all _ (zA2 hx)
 ·have bE:¬(i:Int) < (L.length:Nat):=bE
  have:i=L.length:=by omega
  subst this
  rw[List.take_length]at sj
  refine⟨⟨s'.n,s'.va,s'.vc,s'.vars,ka,kc,K⟩,rfl,qR,ju,sj,?_⟩
  have h:=cM.mono hM
  exact⟨h.n,h.vlen,h.vrow,h.vall,by show K.length<=few;unfold few;omega,pM,λx hx=>(tS x hx).mono hM,h.vcap,tR⟩
end Go.Proofs.YtpjepnkiiojgfaaGreat
namespace Go.Proofs.YtpjepnkiiojgfaaGreat
open Go Go.Eng Go.Proofs Go.RowKit
open Go.Value (int slice agg bool string tuple func)
open Go.IntKind (u8 u64 i64)
set_option maxRecDepth 100000
def ZqF:Env:={ EB with
 dr:=(λi=>bif Nat.beq i 4 then[⟨0,[10],[],none,[],[]⟩,⟨1,[10],[],none,[0],[]⟩,⟨2,[],[],none,[],[]⟩,⟨3,[],[],none,[0,1,2],[]⟩,⟨4,[],[],none,[0,1,2,3],[]⟩,⟨5,[],[],none,[0,1,2,3,4],[]⟩,⟨6,[],[],none,[],[]⟩,⟨7,[7],[],none,[],[]⟩]else bif Nat.beq i 7 then[⟨0,[10],[],none,[],[]⟩,⟨1,[10],[],none,[0],[]⟩,⟨2,[],[],none,[],[]⟩,⟨3,[],[],none,[0,1,2],[]⟩,⟨4,[],[],none,[0,1,2,3],[]⟩,⟨5,[],[],none,[0,1,2,3,4],[]⟩,⟨6,[],[],none,[],[]⟩,⟨7,[7],[],none,[],[]⟩,⟨8,[],[],none,[7],[]⟩]else[])
 frzNew:=[4,7]
 thaw:=true
 stAt:=(λi=>bif Nat.beq i 27 then some 999 else bif Nat.beq i 41 then some 999 else none)
 last:=(λi=>bif Nat.beq i 4 then true else bif Nat.beq i 7 then true else false)
 lastK:=(λi=>bif Nat.beq i 4 then 2 else bif Nat.beq i 7 then 2 else 1)
 kF:=true }
theorem Zn0(aA:Int)(aQ:Option Addr)(aM aT:Nat)(aK:Option Addr)(aH aS:Nat)(p1 p2 oG:Int)(oH oI:Bool)(oJ oK oL oM oN oO oP:Int)(jj:Option Addr)(jk jl:Nat)(ld:ByteArray)(lf:Int)(jm:Option Addr)(jo jp:Nat)(lg:ByteArray)(lh:Int)(m:Mem)(R:RT)(h:
 lE (Int.toNat p2*16) λyL=>lV [int i64 aA,slice aQ aM aT,slice aK aH aS] λxL=>lV [int u8 oG,bool oH,bool oI,int u8 oJ,int u64 oK,int u64 oL,int u64 oM,int u64 oN,
 int i64 oO,int i64 oP,slice jj jk jl,string ld,int i64 lf,slice jm jo jp,string lg,int i64 lh] λae=>fzM m xL λb m'=>m.free b->(∀(b' o:Nat)(u:Value),m'
 b' o=some u->m b' o=some u\/b'=b)->Mem.k m b=none->fzM m' ae λaa aj=>m'.free aa->(∀(b' o:Nat)(u:Value),aj b' o=some u->m' b' o=some u\/b'=aa)->Mem.k m' aa=none->∀(a8:Nat),kB
 Tryz.prog 47 [agg (Array.mk xL),int i64 p1,int i64 p2] aj λak m'=>br (!ak) (rtM m m' R (tuple (Array.mk [agg (Array.mk [int i64 0,slice none 0 0,slice none 0 0]),int i64 250]))) (∃(R_1:RT),True/\CX
 Tryz.prog 18 (Array.mk [agg (Array.mk xL)]) m' [] R_1/\Zbo (Shape.agg [Shape.int i64,Shape.slice,Shape.slice]) R_1/\∀(n:Int)(a:Option Addr)(al c:Nat)(af:Option Addr)(ag am:Nat)(ab:Mem),lX (agg
 (Array.mk [int i64 n,slice a al c,slice af ag am])) λah=>m'.le ab->R_1 ah ab []->∀(a9:Nat),atA af λan o=>Zae p1 ag/\∃(v:Value),ab an (o+Int.toNat p1*2+1)=some v/\chk (ZbK v) (atA
 (slA v) λac o=>Zae p2 (slN v)/\(∃(vs:List Value),vs.length=16/\ab.reads ac (o+yL) vs)/\m.free ac/\true=true/\aa≠ac/\b≠ac/\kB Tryz.prog 19 [ah] (Mem.upd ab ac (o+yL) ae) fun
 ao m'=>br (!ao) (rtM m m' R (tuple (Array.mk [agg (Array.mk [int i64 0,slice none 0 0,slice none 0 0]),int i64 5]))) (∃(f:Fx),atA af λap o=>Zae p1 ag/\∃(v:Value),m' ap (o+Int.toNat p1*2+1) =
 some v/\∃(R_2:RT),R_2=f 8 [agg (Array.mk ae)] m'/\CX Tryz.prog 49 (Array.mk [agg (Array.mk ae)]) m' [] R_2/\Zbo (Shape.agg [Shape.int u8,Shape.bool,Shape.bool,Shape.int u8,Shape.int u64,Shape.int u64,
 Shape.int u64,Shape.int u64,Shape.int i64,Shape.int i64,Shape.slice,Shape.str,Shape.int i64,Shape.slice,Shape.str,Shape.int i64]) R_2/\∀(n:Int)(aq ar:Bool)(au av aw ax ay az a0:Int)(a:Option Addr)
 (a1 c:Nat) (s:ByteArray) (a2:Int) (a3:Option Addr) (a4 a5:Nat) (a6:ByteArray) (a7:Int) (ai:Mem),lV [int u8 n,bool aq,bool ar,int u8 au,int u64 av,int u64 aw,int u64 ax,int u64 ay,int i64 az,int
 i64 a0,slice a a1 c,string s,int i64 a2,slice a3 a4 a5,string a6,int i64 a7] λxL=>m'.le ai->R_2 (agg (Array.mk xL)) ai []->∀(M:Mem),m'.le M->ai.le M->chk (ZbK v) (atA (slA v) λad o=>
 Zae p2 (slN v)/\(∃(vs:List Value),vs.length=16/\M.reads ad (o+yL) vs)/\m.free ad/\true=true/\aa≠ad/\b≠ad/\rtM m (Mem.upd M ad (o+yL) xL) R (tuple (Array.mk [ah,int i64 0]))))))):CX Tryz.prog 14 #[.agg #[.int .i64 aA,.slice aQ aM aT,.slice aK aH aS],.int .i64 p1,.int .i64 p2,.agg #[.int .u8 oG,.bool oH,.bool oI,.int .u8 oJ,.int .u64 oK,.int .u64 oL,.int .u64 oM,.int .u64 oN,.int .i64 oO,.int .i64 oP,.slice jj jk jl,.string ld,.int .i64 lf,.slice jm jo jp,.string lg,.int .i64 lh]] m [] R:=
 Zad (E:=ZqF) Zas mix Tryz.func14 (by kernel_rfl) (Eq.mp (by kernel_rfl) h)
end Go.Proofs.YtpjepnkiiojgfaaGreat
end
